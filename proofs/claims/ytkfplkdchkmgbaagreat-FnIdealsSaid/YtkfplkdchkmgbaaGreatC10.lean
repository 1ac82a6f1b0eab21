/- Contracts of functions of the program: impl_DualGens, spec_DrawCanonicalGens, impl_Gaps, impl_FrobeniusOf, impl_CanonicalGens, spec_l16Valid, spec_l3Has, spec_l15Has, spec_l16In, spec_InIdeal, laws_sameInts, spec_l10All. -/
import Derived.Test.YtkfplkdchkmgbaaGreatC0
import Derived.Test.YtkfplkdchkmgbaaGreatC1
import Derived.Test.YtkfplkdchkmgbaaGreatC2
import Derived.Test.YtkfplkdchkmgbaaGreatC3
import Derived.Test.YtkfplkdchkmgbaaGreatC6
import Derived.Test.YtkfplkdchkmgbaaGreatC7
import Derived.Test.YtkfplkdchkmgbaaGreatC8
import Derived.Test.YtkfplkdchkmgbaaGreatC9
namespace Go.Proofs.YtkfplkdchkmgbaaGreat.C
open Go.RowKit Go.Proofs.YtkfplkdchkmgbaaGreatW.PrintWords Go.Proofs.YtkfplkdchkmgbaaGreatW.PrintLast Go.Proofs.YtkfplkdchkmgbaaGreatW.PrintMore
attribute [local go_sem] max2_int min2_int max_two min_two max_three min_three max_four min_four
set_option linter.unusedVariables false
set_option linter.unusedSimpArgs false

/-! ### impl_DualGens: function 11 -/
def impl_DualGens.l0 : Nat → (Int → Option Bool) → List Int → Int → Int → Option Bool
 | 0, _, _, _, _ => none
 | k + 1, p, l, x, i => if i < (l.length : Int) then (if 0 ≤ i then (if i < (l.length : Int) then ((p (wrap64 (x + rd l i))).bind fun t => if t = true then impl_DualGens.l0 k p l x (wrap64 (i + 1)) else some false) else none) else none) else some true
def impl_DualGens.p (k : Nat) (p : Int → Option Bool) (l : List Int) (x : Int) : Option Bool := impl_DualGens.l0 k p l x 0
def impl_DualGens.f (k : Nat) (l0_0 l1 : List Int) : Option (List Int) := (impl_IsSemigroup.f k l0_0).bind fun t => if t = true then (impl_idealList.f k l1).bind fun t2 => if t2 = true then (impl_reach.f k l0_0).bind fun p => (impl_SortList.f l1).bind fun q => if 0 < (q.length : Int) then impl_sifted.f k l0_0 (wrap64 (-(rd q 0))) (wrap64 (400 - rd q 0)) (impl_DualGens.p k p l1) else none else some [] else some []
set_option maxHeartbeats 8000000 in
set_option maxRecDepth 100000 in
theorem impl_DualGens.c1 (k : Nat) (w : World) (g g2 : Nat) (F : Value) (p : Int → Option Bool) (A1 : Option Addr) (c1 : Nat) (l1 : List Int) (hr1 : Kd.C (Kd.int .i64) w A1 l1.length l1) (hbox : w.heap[g]? = some (.cells #[.slice A1 l1.length c1] 24 (0, 0))) (hbox2 : w.heap[g2]? = some (.cells #[F] 59 (0, 0))) (hF : FnR1 Tryz.prog w F p) : FnR1 Tryz.prog w (.func (.func 50) #[] #[.pointer (some ⟨g, 0, none⟩), .pointer (some ⟨g2, 0, none⟩)]) (impl_DualGens.p k p l1) :=
 ⟨50, _, rfl, (fun args w => enters_ Tryz.func50 (by kernel_rfl) rfl args w), fun W hb x b h => by
  obtain ⟨gF, lF, rfl, eF, hF⟩ := hF
  have hcz : W.cell? ⟨g, 0, none⟩ = some (.slice A1 l1.length c1) := (blk_cell (blk_below hbox hb) 0).trans rfl
  have hcz2 : W.cell? ⟨g2, 0, none⟩ = some (.func (.func gF) #[] lF) := (blk_cell (blk_below hbox2 hb) 0).trans rfl
  have HR1 := Aside0.mk (Kd.C_below hr1 hb)
  have HW_ := Aside0.mk hb
  have H' : Aside0 (impl_DualGens.l0 k p l1 x 0 = some b) := ⟨h⟩
  clear hbox hbox2 h hr1 hb
  show Calls Tryz.prog 50 #[.int .i64 x, .pointer (some ⟨g, 0, none⟩), .pointer (some ⟨g2, 0, none⟩)] W _
  go_enter Tryz.func50, Tryz.ntmps50
  go_wp2
  go_loopg [9] k (fun kq v9 w' => ∃ (x9 : Int), v9 = .int .i64 x9 ∧ Aside0 (impl_DualGens.l0 kq p l1 x x9 = some b) ∧ Aside0 (kq ≤ k) ∧ Aside0 (Drawn0 W w'))
  case atStart => exact ⟨(0), rr, H', ⟨Nat.le_refl _⟩, ⟨dw⟩⟩
  case round =>
   clear H'
   obtain ⟨x9, rfl, HA, HK, HD⟩ := hrel
   obtain ⟨nd, rfl⟩ := HD.out
   cases gk with
   | zero => exact absurd HA.out (by simp [impl_DualGens.l0])
   | succ k2 =>
    have H := HA.out
    clear HA
    simp only [impl_DualGens.l0] at H
    replace H := gi H; obtain ⟨c1b, H⟩ | ⟨c1b, H⟩ := H
    ·replace H := gd H; obtain ⟨c2b, H⟩ := H
     replace H := gd H; obtain ⟨c3b, H⟩ := H
     replace H := ga H; obtain ⟨t1, A1_, H⟩ := H
     have HB := Aside0.mk (Below.refl W.heap.size W)
     obtain ⟨⟨ad, ead, hx⟩, pp, qq⟩ := pq (Kd.at_int HR1.out x9)
     cases ead
     replace H := gb H; obtain ⟨rfl, H⟩ | ⟨rfl, H⟩ := H
     ·have H' := Aside0.mk H
      clear H
      go_wp2_with (first | (go_at_fn gF; (with_reducible refine (hF _ (below_step HW_.out bw) (wrap64 (x + rd l1 x9)) true A1_.out).mono ?_); rintro e w' ⟨rfl, ⟨nd, rfl⟩⟩))
      go_roundg k2
      case measure => have := HK.out; omega
      case rel => exact ⟨(wrap64 (x9 + 1)), rr, H', ⟨by have := HK.out; omega⟩, ⟨dw⟩⟩
     ·obtain rfl := Option.some.inj H
      clear H
      go_wp2_with (first | (go_at_fn gF; (with_reducible refine (hF _ (below_step HW_.out bw) (wrap64 (x + rd l1 x9)) false A1_.out).mono ?_); rintro e w' ⟨rfl, ⟨nd, rfl⟩⟩))
      go_ret
      exact ⟨re, dw⟩
    ·obtain rfl := Option.some.inj H
     clear H
     go_wp2
     go_ret
     exact ⟨re, dw⟩⟩
set_option maxHeartbeats 8000000 in
set_option maxRecDepth 100000 in
theorem impl_DualGens.calls (k : Nat) (A0_0 : Option Addr) (c0_0 : Nat) (l0_0 : List Int) (A1 : Option Addr) (c1 : Nat) (l1 : List Int) (r : List Int) (w : World) (hr0_0 : Kd.C (Kd.int .i64) w A0_0 l0_0.length l0_0) (hc0_0 : l0_0.length ≤ c0_0) (hr1 : Kd.C (Kd.int .i64) w A1 l1.length l1) (hc1 : l1.length ≤ c1) (h : impl_DualGens.f k l0_0 l1 = some r) :
  Calls Tryz.prog 11 #[.agg #[.slice A0_0 l0_0.length c0_0], .slice A1 l1.length c1] w fun e w' => ∃ v0_ : Value, e = .returned v0_ ∧ Kd.R (Kd.int .i64) 3 w' w.heap.size (fun _ => True) v0_ r ∧ Below w.heap.size w w' := by
 have hu27 := Tryz.underlying26
 have HR0_0 := Aside0.mk hr0_0
 have HC0_0 := Aside0.mk hc0_0
 have HR1 := Aside0.mk hr1
 have HC1 := Aside0.mk hc1
 clear hr0_0 hc0_0 hr1 hc1
 have HB := Aside0.mk (Below.refl w.heap.size w)
 have H : ((impl_IsSemigroup.f k l0_0).bind fun t => if t = true then (impl_idealList.f k l1).bind fun t2 => if t2 = true then (impl_reach.f k l0_0).bind fun p => (impl_SortList.f l1).bind fun q => if 0 < (q.length : Int) then impl_sifted.f k l0_0 (wrap64 (-(rd q 0))) (wrap64 (400 - rd q 0)) (impl_DualGens.p k p l1) else none else some [] else some []) = some r := h
 clear h
 replace H := ga H; obtain ⟨t0, A0_, H⟩ := H
 replace H := gb H; obtain ⟨rfl, H⟩ | ⟨rfl, H⟩ := H
 ·replace H := ga H; obtain ⟨t1, A1_, H⟩ := H
  replace H := gb H; obtain ⟨rfl, H⟩ | ⟨rfl, H⟩ := H
  ·replace H := ga H; obtain ⟨t2, A2_, H⟩ := H
   replace H := ga H; obtain ⟨t3, A3_, H⟩ := H
   replace H := gd H; obtain ⟨c3, H⟩ := H
   have c00 : decide ((0 : Int) ≤ 0) = true := rfl
   have A4_ := Aside0.mk H
   clear H
   go_enter Tryz.func11, Tryz.ntmps11
   go_wp2_with (first | ((with_reducible refine gate_dst (N := 2) rfl ?_); refine bx 2 #[.slice A0_0 l0_0.length c0_0] 26 ?_; intro gb1 hg w1 hbox hb; have BK1 := Aside0.mk hbox; replace HB := Aside0.mk (below_step bw hb); clear hb hbox hg; have hcz1 := bc BK1 0 (.slice A0_0 l0_0.length c0_0); have hfz1 := blk_frozen BK1.out 0) | ((with_reducible refine gate_dst (N := 3) rfl ?_); refine bx 3 #[.slice A1 l1.length c1] 24 ?_; intro gb2 hg w2 hbox hb; have NB12 := Aside0.mk ((by rw [hg]; exact Nat.ne_of_lt (blk_lt (g := gb1) (o := .cells #[.slice A0_0 l0_0.length c0_0] 26 (0, 0)) (bo BK1.out)) : gb1 ≠ gb2)); clear hcz1 hfz1; replace BK1 := Aside0.mk (blk_below (g := gb1) (o := .cells #[.slice A0_0 l0_0.length c0_0] 26 (0, 0)) (bo BK1.out) hb); have BK2 := Aside0.mk hbox; replace HB := Aside0.mk (below_step bw hb); clear hb hbox hg; have hcz1 := bc BK1 0 (.slice A0_0 l0_0.length c0_0); have hfz1 := blk_frozen BK1.out 0; have hcz2 := bc BK2 0 (.slice A1 l1.length c1); have hfz2 := blk_frozen BK2.out 0) | ((with_reducible refine gate_callee (f := 43) rfl ?_); refine gl (some 8) Tryz.func43 #[.agg #[.slice A0_0 l0_0.length c0_0]] ?_; (with_reducible refine (impl_IsSemigroup.calls k _ _ l0_0 true _ ?side1 ?side2 A0_.out).mono ?_); (case side1 => exact co (Kd.C_below HR0_0.out HB.out)); (case side2 => exact HC0_0.out); rintro e w3 ⟨rfl, hb⟩; refine ⟨_, rfl, ?_⟩; clear hcz1 hfz1 hcz2 hfz2; replace BK1 := Aside0.mk (blk_below (g := gb1) (o := .cells #[.slice A0_0 l0_0.length c0_0] 26 (0, 0)) (bo BK1.out) hb); replace BK2 := Aside0.mk (blk_below (g := gb2) (o := .cells #[.slice A1 l1.length c1] 24 (0, 0)) (bo BK2.out) hb); replace HB := Aside0.mk (below_step bw hb); clear hb; have hcz1 := bc BK1 0 (.slice A0_0 l0_0.length c0_0); have hfz1 := blk_frozen BK1.out 0; have hcz2 := bc BK2 0 (.slice A1 l1.length c1); have hfz2 := blk_frozen BK2.out 0) | (go_at_call 44; (with_reducible refine (impl_idealList.calls k _ _ l1 true _ ?side1 ?side2 A1_.out).mono ?_); (case side1 => exact co (Kd.C_below HR1.out HB.out)); (case side2 => exact HC1.out); rintro e w' ⟨rfl, ⟨nd, rfl⟩⟩) | ((with_reducible refine gate_callee (f := 46) rfl ?_); refine gl (some 16) Tryz.func46 #[.agg #[.slice A0_0 l0_0.length c0_0]] ?_; (with_reducible refine (impl_reach.calls k _ _ l0_0 t2 _ ?side1 ?side2 A2_.out).mono ?_); (case side1 => exact co (Kd.C_below HR0_0.out HB.out)); (case side2 => exact HC0_0.out); rintro e w4 ⟨F_t1, rfl, hF_t1, hb⟩; refine ⟨_, rfl, ?_⟩; clear hcz1 hfz1 hcz2 hfz2; replace BK1 := Aside0.mk (blk_below (g := gb1) (o := .cells #[.slice A0_0 l0_0.length c0_0] 26 (0, 0)) (bo BK1.out) hb); replace BK2 := Aside0.mk (blk_below (g := gb2) (o := .cells #[.slice A1 l1.length c1] 24 (0, 0)) (bo BK2.out) hb); have HW_ := Aside0.mk (below_step bw hb : Below w.heap.size w w4); replace HR0_0 := Aside0.mk (Kd.C_below HR0_0.out HW_.out); replace HR1 := Aside0.mk (Kd.C_below HR1.out HW_.out); clear HB hb; have HB := Aside0.mk (Below.refl w4.heap.size w4); obtain ⟨gF, lF, eF_⟩ : ∃ g lb, F_t1 = .func (.func g) #[] lb := (by obtain ⟨g, lb, h, _⟩ := hF_t1; exact ⟨g, lb, h⟩); subst eF_; have HF_ := Aside0.mk hF_t1; clear hF_t1; obtain ⟨w, rfl⟩ : ∃ x_, x_ = w4 := ⟨_, rfl⟩; have hcz1 := bc BK1 0 (.slice A0_0 l0_0.length c0_0); have hfz1 := blk_frozen BK1.out 0; have hcz2 := bc BK2 0 (.slice A1 l1.length c1); have hfz2 := blk_frozen BK2.out 0) | ((with_reducible refine gate_dst (N := 5) rfl ?_); refine bx 5 #[.nilFunc] 59 ?_; intro gb3 hg w5 hbox hb; have NB13 := Aside0.mk ((by rw [hg]; exact Nat.ne_of_lt (blk_lt (g := gb1) (o := .cells #[.slice A0_0 l0_0.length c0_0] 26 (0, 0)) (bo BK1.out)) : gb1 ≠ gb3)); have NB23 := Aside0.mk ((by rw [hg]; exact Nat.ne_of_lt (blk_lt (g := gb2) (o := .cells #[.slice A1 l1.length c1] 24 (0, 0)) (bo BK2.out)) : gb2 ≠ gb3)); clear hcz1 hfz1 hcz2 hfz2; have GE3 := Aside0.mk (gs hg : w.heap.size ≤ gb3); replace BK1 := Aside0.mk (blk_below (g := gb1) (o := .cells #[.slice A0_0 l0_0.length c0_0] 26 (0, 0)) (bo BK1.out) hb); replace BK2 := Aside0.mk (blk_below (g := gb2) (o := .cells #[.slice A1 l1.length c1] 24 (0, 0)) (bo BK2.out) hb); have BK3 := Aside0.mk hbox; replace HB := Aside0.mk (below_step bw hb); clear hb hbox hg; have hnb1 := NB13.out; have hnc1 := NB13.out.symm; have hnb2 := NB23.out; have hnc2 := NB23.out.symm; have hcz1 := bc BK1 0 (.slice A0_0 l0_0.length c0_0); have hfz1 := blk_frozen BK1.out 0; have hcz2 := bc BK2 0 (.slice A1 l1.length c1); have hfz2 := blk_frozen BK2.out 0; have hcz3 := bc BK3 0 .nilFunc; have hfz3 := blk_frozen BK3.out 0) | ((with_reducible refine gate_callee (f := 48) rfl ?_); refine gl (some 18) Tryz.func48 #[.slice A1 l1.length c1] ?_; (with_reducible refine (impl_SortList.calls _ _ l1 t3 _ ?side1 ?side2 A3_.out).mono ?_); (case side1 => exact Kd.C_below HR1.out bw); (case side2 => exact HC1.out); rintro e w6 ⟨v6, rfl, ho0, hb⟩; refine ⟨_, rfl, ?_⟩; clear hcz1 hfz1 hcz2 hfz2 hcz3 hfz3; replace BK1 := Aside0.mk (blk_below (g := gb1) (o := .cells #[.slice A0_0 l0_0.length c0_0] 26 (0, 0)) (by (with_reducible repeat (first | refine blk_drewN ?_ _ | refine blk_drew ?_ | refine blk_alloc ?_ _)); refine blk_far ?_ NB13.out _; exact bo BK1.out) hb); replace BK2 := Aside0.mk (blk_below (g := gb2) (o := .cells #[.slice A1 l1.length c1] 24 (0, 0)) (by (with_reducible repeat (first | refine blk_drewN ?_ _ | refine blk_drew ?_ | refine blk_alloc ?_ _)); refine blk_far ?_ NB23.out _; exact bo BK2.out) hb); replace BK3 := Aside0.mk (blk_below (g := gb3) (o := .cells #[.func (.func gF) #[] lF] 59 (0, 0)) (by (with_reducible repeat (first | refine blk_drewN ?_ _ | refine blk_drew ?_ | refine blk_alloc ?_ _)); refine blk_put (cs := #[.nilFunc]) ?_ 0 _ rfl; exact bo BK3.out) hb); replace HB := Aside0.mk (below_step bw hb); clear hb; obtain ⟨Aq, cq, eq_⟩ := Kd.R_slice ho0; subst eq_; obtain ⟨⟨ad, ead, hx⟩, pp, qq⟩ := pq (Kd.at_int (Kd.R_reads' ho0).2.2 (0 : Int)); cases ead; replace hx : w6.cell? ad = some (.int .i64 (rd t3 0)) := hx; have qn : (0 < t3.length) = True := eq_true (by have := of_decide_eq_true c3; omega); clear ho0; have hcz1 := bc BK1 0 (.slice A0_0 l0_0.length c0_0); have hfz1 := blk_frozen BK1.out 0) | ((with_reducible refine gate_callee (f := 49) rfl ?_); refine gl (some 27) Tryz.func49 #[.agg #[.slice A0_0 l0_0.length c0_0], .int .i64 (wrap64 (-(rd t3 0))), .int .i64 (wrap64 (400 - rd t3 0)), .func (.func 50) #[] #[.pointer (some ⟨gb2, 0, none⟩), .pointer (some ⟨gb3, 0, none⟩)]] ?_; (with_reducible refine (impl_sifted.calls k _ _ l0_0 (wrap64 (-(rd t3 0))) (wrap64 (400 - rd t3 0)) (impl_DualGens.p k t2 l1) (.func (.func 50) #[] #[.pointer (some ⟨gb2, 0, none⟩), .pointer (some ⟨gb3, 0, none⟩)]) r _ ?side1 ?side2 ?side3 A4_.out).mono ?_); (case side1 => exact Kd.C_below HR0_0.out bw); (case side2 => exact HC0_0.out); (case side3 => exact impl_DualGens.c1 k _ gb2 gb3 (.func (.func gF) #[] lF) t2 A1 c1 l1 (Kd.C_below HR1.out bw) (bo BK2.out) (bo BK3.out) (FnR1.below HF_.out bw)); rintro e w7 ⟨v, rfl, ho0, hb⟩; refine ⟨_, rfl, ?_⟩; have HO := Aside0.mk (Kd.R_lower ho0 (below_size bw)); replace HB := Aside0.mk (below_step bw hb); clear hb ho0))
   go_ret
   exact ⟨_, rfl, Kd.R_lower (ro HO.out) (below_size HW_.out), below_step HW_.out bw⟩
  ·obtain rfl := Option.some.inj H
   clear H
   go_enter Tryz.func11, Tryz.ntmps11
   go_wp2_with (first | ((with_reducible refine gate_dst (N := 2) rfl ?_); refine bx 2 #[.slice A0_0 l0_0.length c0_0] 26 ?_; intro gb1 hg w1 hbox hb; have BK1 := Aside0.mk hbox; replace HB := Aside0.mk (below_step bw hb); clear hb hbox hg; have hcz1 := bc BK1 0 (.slice A0_0 l0_0.length c0_0); have hfz1 := blk_frozen BK1.out 0) | ((with_reducible refine gate_dst (N := 3) rfl ?_); refine bx 3 #[.slice A1 l1.length c1] 24 ?_; intro gb2 hg w2 hbox hb; have NB12 := Aside0.mk ((by rw [hg]; exact Nat.ne_of_lt (blk_lt (g := gb1) (o := .cells #[.slice A0_0 l0_0.length c0_0] 26 (0, 0)) (bo BK1.out)) : gb1 ≠ gb2)); clear hcz1 hfz1; replace BK1 := Aside0.mk (blk_below (g := gb1) (o := .cells #[.slice A0_0 l0_0.length c0_0] 26 (0, 0)) (bo BK1.out) hb); have BK2 := Aside0.mk hbox; replace HB := Aside0.mk (below_step bw hb); clear hb hbox hg; have hcz1 := bc BK1 0 (.slice A0_0 l0_0.length c0_0); have hfz1 := blk_frozen BK1.out 0; have hcz2 := bc BK2 0 (.slice A1 l1.length c1); have hfz2 := blk_frozen BK2.out 0) | ((with_reducible refine gate_callee (f := 43) rfl ?_); refine gl (some 8) Tryz.func43 #[.agg #[.slice A0_0 l0_0.length c0_0]] ?_; (with_reducible refine (impl_IsSemigroup.calls k _ _ l0_0 true _ ?side1 ?side2 A0_.out).mono ?_); (case side1 => exact co (Kd.C_below HR0_0.out HB.out)); (case side2 => exact HC0_0.out); rintro e w3 ⟨rfl, hb⟩; refine ⟨_, rfl, ?_⟩; clear hcz1 hfz1 hcz2 hfz2; replace BK1 := Aside0.mk (blk_below (g := gb1) (o := .cells #[.slice A0_0 l0_0.length c0_0] 26 (0, 0)) (bo BK1.out) hb); replace BK2 := Aside0.mk (blk_below (g := gb2) (o := .cells #[.slice A1 l1.length c1] 24 (0, 0)) (bo BK2.out) hb); replace HB := Aside0.mk (below_step bw hb); clear hb; have hcz1 := bc BK1 0 (.slice A0_0 l0_0.length c0_0); have hfz1 := blk_frozen BK1.out 0; have hcz2 := bc BK2 0 (.slice A1 l1.length c1); have hfz2 := blk_frozen BK2.out 0) | (go_at_call 44; (with_reducible refine (impl_idealList.calls k _ _ l1 false _ ?side1 ?side2 A1_.out).mono ?_); (case side1 => exact co (Kd.C_below HR1.out HB.out)); (case side2 => exact HC1.out); rintro e w' ⟨rfl, ⟨nd, rfl⟩⟩))
   go_ret
   exact ⟨_, rfl, Kd.R_nil .., bw⟩
 ·obtain rfl := Option.some.inj H
  clear H
  go_enter Tryz.func11, Tryz.ntmps11
  go_wp2_with (first | ((with_reducible refine gate_dst (N := 2) rfl ?_); refine bx 2 #[.slice A0_0 l0_0.length c0_0] 26 ?_; intro gb1 hg w1 hbox hb; have BK1 := Aside0.mk hbox; replace HB := Aside0.mk (below_step bw hb); clear hb hbox hg; have hcz1 := bc BK1 0 (.slice A0_0 l0_0.length c0_0); have hfz1 := blk_frozen BK1.out 0) | ((with_reducible refine gate_dst (N := 3) rfl ?_); refine bx 3 #[.slice A1 l1.length c1] 24 ?_; intro gb2 hg w2 hbox hb; have NB12 := Aside0.mk ((by rw [hg]; exact Nat.ne_of_lt (blk_lt (g := gb1) (o := .cells #[.slice A0_0 l0_0.length c0_0] 26 (0, 0)) (bo BK1.out)) : gb1 ≠ gb2)); clear hcz1 hfz1; replace BK1 := Aside0.mk (blk_below (g := gb1) (o := .cells #[.slice A0_0 l0_0.length c0_0] 26 (0, 0)) (bo BK1.out) hb); have BK2 := Aside0.mk hbox; replace HB := Aside0.mk (below_step bw hb); clear hb hbox hg; have hcz1 := bc BK1 0 (.slice A0_0 l0_0.length c0_0); have hfz1 := blk_frozen BK1.out 0; have hcz2 := bc BK2 0 (.slice A1 l1.length c1); have hfz2 := blk_frozen BK2.out 0) | ((with_reducible refine gate_callee (f := 43) rfl ?_); refine gl (some 8) Tryz.func43 #[.agg #[.slice A0_0 l0_0.length c0_0]] ?_; (with_reducible refine (impl_IsSemigroup.calls k _ _ l0_0 false _ ?side1 ?side2 A0_.out).mono ?_); (case side1 => exact co (Kd.C_below HR0_0.out HB.out)); (case side2 => exact HC0_0.out); rintro e w3 ⟨rfl, hb⟩; refine ⟨_, rfl, ?_⟩; clear hcz1 hfz1 hcz2 hfz2; replace BK1 := Aside0.mk (blk_below (g := gb1) (o := .cells #[.slice A0_0 l0_0.length c0_0] 26 (0, 0)) (bo BK1.out) hb); replace BK2 := Aside0.mk (blk_below (g := gb2) (o := .cells #[.slice A1 l1.length c1] 24 (0, 0)) (bo BK2.out) hb); replace HB := Aside0.mk (below_step bw hb); clear hb; have hcz1 := bc BK1 0 (.slice A0_0 l0_0.length c0_0); have hfz1 := blk_frozen BK1.out 0; have hcz2 := bc BK2 0 (.slice A1 l1.length c1); have hfz2 := blk_frozen BK2.out 0))
  go_ret
  exact ⟨_, rfl, Kd.R_nil .., bw⟩


/-! ### spec_DrawCanonicalGens: function 12 -/
def spec_DrawCanonicalGens.f (k : Nat) (l0 : List Int) : Option (List Int) := (spec_l1New.f k l0).bind fun bt656 => ((spec_l3Bent.f k bt656.1 bt656.2.1 bt656.2.2).bind fun bt660 => (some bt660.1))
set_option maxHeartbeats 8000000 in
set_option maxRecDepth 100000 in
theorem spec_DrawCanonicalGens.calls (k : Nat) (A0 : Option Addr) (c0 : Nat) (l0 : List Int) (r : List Int) (w : World) (hr0 : Kd.C (Kd.int .u8) w A0 l0.length l0) (hc0 : l0.length ≤ c0) (h : spec_DrawCanonicalGens.f k l0 = some r) :
  Calls Tryz.prog 12 #[.slice A0 l0.length c0] w fun e w' => ∃ v0_ : Value, e = .returned (.agg #[v0_]) ∧ Kd.Q (Kd.int .i64) 3 w' w.heap.size (fun _ => True) v0_ r ∧ Below w.heap.size w w' := by
 have hu26 := Tryz.underlying26
 have HR0 := am hr0
 have HC0 := am hc0
 clear hr0 hc0
 have HB := am (Below.refl w.heap.size w)
 have H : ((spec_l1New.f k l0).bind fun bt656 => ((spec_l3Bent.f k bt656.1 bt656.2.1 bt656.2.2).bind fun bt660 => (some bt660.1))) = some r := h
 clear h
 replace H := ga H; obtain ⟨⟨t656, t657, t658⟩, A2, H⟩ := H
 replace H : ((spec_l3Bent.f k t656 t657 t658).bind fun bt660 => (some bt660.1)) = some r := H
 replace H := ga H; obtain ⟨⟨t660, t663, t664⟩, A3, H⟩ := H
 replace H : (some t660) = some r := H
 obtain rfl := Option.some.inj H
 go_enter Tryz.func12, Tryz.ntmps12
 go_wp2_with (first | ((with_reducible refine gate_dst (N := 2) rfl ?_); refine bx 2 #[.slice none 0 0] 26 ?_; intro gb655 hg w4 hbox hb; have BK655 := am (hbox); have GW655 := am (gs hg : w.heap.size ≤ gb655); have GE655 := GW655; replace HB := am (below_step bw hb); clear hb hbox hg) | ((with_reducible refine gate_callee (f := 38) rfl ?_); refine goesL_ (some 4) rfl rfl Tryz.func38 (by kernel_rfl) rfl #[.slice A0 l0.length c0] rfl (by (try simp only [List.map_toArray, List.map_cons, List.map_nil]); first | done | rfl | (simp only [List.length_drop, List.length_take]; rfl)) ?_; (with_reducible refine (spec_l1New.calls k _ _ l0 t656 t657 t658 w _ ?side1 ?side2 ?side3 A2.out).mono ?_); (case side1 => exact bw); (case side2 => exact HR0.out); (case side3 => exact HC0.out); rintro e w5 ⟨g659, rfl, hi, hb, hb2⟩; refine ⟨_, rfl, ?_⟩; replace HB := am (hb); have HI659 := am (hi); have NB659_655 := am (IsS74.ne_blk hi (blk_below (g := gb655) (o := .cells #[.slice none 0 0] 26 (0, 0)) (bo BK655.out) hb2) (by decide)); have NB655_659 := ns NB659_655; replace BK655 := kb BK655 hb2; clear hb hb2 hi) | ((with_reducible refine gate_callee (f := 39) rfl ?_); refine goesL_ (some 5) rfl rfl Tryz.func39 (by kernel_rfl) rfl #[.pointer (some ⟨g659, 0, none⟩)] rfl (by (try simp only [List.map_toArray, List.map_cons, List.map_nil]); first | done | rfl | (simp only [List.length_drop, List.length_take]; rfl)) ?_; (with_reducible refine (spec_l3Bent.calls k g659 t656 t657 t658 t660 t663 t664 w _ ?side1 ?side2 A3.out).mono ?_); (case side1 => exact iw HI659.out); (case side2 => exact bv); rintro e w6 ⟨v661, rfl, ho0, hi, hb, hk⟩; refine ⟨_, rfl, ?_⟩; replace BK655 := kk hk BK655 NB655_659; have HO662 := am (Kd.Q_lower ho0 (below_size bv)); replace HB := am (hb); replace HI659 := am (hi); clear hb hk hi ho0; obtain ⟨Ao7, co7, eo7, _⟩ := Kd.Q_slice HO662.out; subst eo7; have hnb8 := NB655_659.out; have hnc8 := NB659_655.out; have hcz9_0 := bc BK655 0 (.slice none 0 0); have hfz9_0 := blk_frozen BK655.out 0))
 refine bodyPost_ret (results_cell_row rfl _ _ gb655 26 #[.slice Ao7 t660.length co7] (0, 0) _ rfl (by (with_reducible repeat (first | refine blk_drewN ?_ _ | refine blk_drew ?_ | refine blk_alloc ?_ _)); refine blk_put (cs := #[.slice none 0 0]) ?_ 0 _ rfl; (with_reducible repeat (first | refine blk_drewN ?_ _ | refine blk_drew ?_ | refine blk_alloc ?_ _)); exact BK655.out) Tryz.underlying26 rfl (by kernel_rfl)) rfl ?_
 exact ⟨_, re, by (with_reducible repeat (first | apply Kd.Q_alloc | apply Kd.Q_drewN | apply Kd.Q_drew)); exact Kd.Q_mono (Kd.Q_far (p := ⟨gb655, 0, none⟩) (Kd.Q_types HO662.out BK655.out (by decide)) (fun _ hk => hk.2) (.slice Ao7 t660.length co7)) (fun _ hk => trivial), bv⟩


/-! ### impl_Gaps: function 75 -/
def impl_Gaps.l0 : Nat → List Int → List Bool → Int → Int → Option (List Int)
 | 0, _, _, _, _ => none
 | k + 1, x3, x11, x12, x13 => if x13 < x12 then (if 0 ≤ x13 then (if x13 < (x11.length : Int) then (if rdOf false x11 x13 = true then (impl_Gaps.l0 k x3 x11 x12 (wrap64 (x13 + 1))) else (if x3.length < 17592186044416 then (impl_Gaps.l0 k (x3 ++ [x13]) x11 x12 (wrap64 (x13 + 1))) else (none))) else (none)) else (none)) else (some x3)
def impl_Gaps.f (k : Nat) (l0_0 : List Int) : Option (List Int) := (impl_IsSemigroup.f k l0_0).bind fun t666 => (if t666 = true then ((impl_table.f k l0_0 200).bind fun t670 => (impl_Gaps.l0 k (([] : List Int)) t670 (t670.length : Int) 0)) else (some ([] : List Int)))
set_option maxHeartbeats 8000000 in
set_option maxRecDepth 100000 in
theorem impl_Gaps.calls (k : Nat) (A0_0 : Option Addr) (c0_0 : Nat) (l0_0 : List Int) (r : List Int) (w : World) (hr0_0 : Kd.C (Kd.int .i64) w A0_0 l0_0.length l0_0) (hc0_0 : l0_0.length ≤ c0_0) (h : impl_Gaps.f k l0_0 = some r) :
  Calls Tryz.prog 75 #[.agg #[.slice A0_0 l0_0.length c0_0]] w fun e w' => ∃ v0_ : Value, e = .returned (v0_) ∧ Kd.R (Kd.int .i64) 3 w' w.heap.size (fun _ => True) v0_ r ∧ Below w.heap.size w w' := by
 have hu26 := Tryz.underlying26
 have HR0_0 := am hr0_0
 have HC0_0 := am hc0_0
 clear hr0_0 hc0_0
 have HB := am (Below.refl w.heap.size w)
 have H : ((impl_IsSemigroup.f k l0_0).bind fun t666 => (if t666 = true then ((impl_table.f k l0_0 200).bind fun t670 => (impl_Gaps.l0 k (([] : List Int)) t670 (t670.length : Int) 0)) else (some ([] : List Int)))) = some r := h
 clear h
 replace H := ga H; obtain ⟨t666, A2, H⟩ := H
 replace H := gb H; obtain ⟨rfl, H⟩ | ⟨rfl, H⟩ := H
 ·obtain ⟨y667, hy667⟩ : ∃ y_ : List Int, y_ = (([] : List Int)) := ⟨_, rfl⟩
  replace H : ((impl_table.f k l0_0 200).bind fun t670 => (impl_Gaps.l0 k y667 t670 (t670.length : Int) 0)) = some r := by first | (rw [hy667]; with_reducible first | exact H | exact bs H) | (with_reducible first | exact bs H | exact H) | (rw [hy667]; exact H) | exact H
  have Ny667 := am hy667
  clear hy667
  replace H := ga H; obtain ⟨t670, A4, H⟩ := H
  have H' := am H
  clear H
  go_enter Tryz.func75, Tryz.ntmps75
  go_wp2_with (first | ((with_reducible refine gate_dst (N := 1) rfl ?_); refine bx 1 #[.slice A0_0 l0_0.length c0_0] 26 ?_; intro gb665 hg w5 hbox hb; have BK665 := am (hbox); have GW665 := am (gs hg : w.heap.size ≤ gb665); have GE665 := GW665; replace HB := am (below_step bw hb); clear hb hbox hg; have hcz6_0 := bc BK665 0 (.slice A0_0 l0_0.length c0_0); have hfz6_0 := blk_frozen BK665.out 0) | ((with_reducible refine gate_callee (f := 43) rfl ?_); refine goesL_ (some 7) rfl rfl Tryz.func43 (by kernel_rfl) rfl #[.agg #[.slice A0_0 l0_0.length c0_0]] rfl (by (try simp only [List.map_toArray, List.map_cons, List.map_nil]); first | done | rfl | (simp only [List.length_drop, List.length_take]; rfl)) ?_; (with_reducible refine (impl_IsSemigroup.calls k _ _ l0_0 true _ ?side1 ?side2 A2.out).mono ?_); (case side1 => exact co (Kd.C_below HR0_0.out HB.out)); (case side2 => exact HC0_0.out); rintro e w7 ⟨rfl, hb⟩; refine ⟨_, rfl, ?_⟩; replace BK665 := kb BK665 hb; replace HB := am (below_step bw hb); clear hb) | ((with_reducible refine gate_dst (N := 9) rfl ?_); refine Kd.R_lit (Kd.int .i64) _ 3 ?hg (N := 9) ?hd (xs := ([] : List Int)) (inner := []) (ok := fun _ => True) (okp := fun _ => True) ?hr ?hp (fun _ hk => hk) trivial (Below.refl _ _) (Nat.le_refl _) (by simp) ?_; (case hd => rfl); (case hg => rfl); (case hr => first | (go_simp; done) | (go_simp; rfl)); (case hp => exact (Reps.none _ _)); intro v668 w8 ho9 hb hg_ hnew_; clear hg_ hnew_; (first | rw [← Ny667.out] at ho9 | (simp only [Int.reduceToNat] at ho9; rw [← Ny667.out] at ho9)); have HO669 := am (Kd.R_lower ho9 (below_size bw)); replace BK665 := kb BK665 hb; replace HB := am (below_step bw hb); clear hb ho9; have hcz10_0 := bc BK665 0 (.slice A0_0 l0_0.length c0_0); have hfz10_0 := blk_frozen BK665.out 0) | ((with_reducible refine gate_callee (f := 98) rfl ?_); refine goesL_ (some 11) rfl rfl Tryz.func98 (by kernel_rfl) rfl #[.agg #[.slice A0_0 l0_0.length c0_0], .int .i64 200] rfl (by (try simp only [List.map_toArray, List.map_cons, List.map_nil]); first | done | rfl | (simp only [List.length_drop, List.length_take]; rfl)) ?_; (with_reducible refine (impl_table.calls k _ _ l0_0 200 t670 _ ?side1 ?side2 A4.out).mono ?_); (case side1 => exact co (Kd.C_below HR0_0.out HB.out)); (case side2 => exact HC0_0.out); rintro e w11 ⟨v671, rfl, ho0, hb⟩; refine ⟨_, rfl, ?_⟩; replace HO669 := rK HO669 hb; have HO672 := am (Kd.R_lower ho0 (below_size bw)); replace BK665 := kb BK665 hb; replace HB := am (below_step bw hb); clear hb ho0; obtain ⟨Ao12, co12, eo12⟩ := Kd.R_slice HO672.out; subst eo12))
  go_loopg [3, 13] k (fun kq v3 v13 w' => ∃ (x3_1 : List Int) (x13_1 : Int), v13 = .int .i64 x13_1 ∧ Aside0 (impl_Gaps.l0 kq x3_1 t670 (t670.length : Int) x13_1 = some r) ∧ Aside0 (kq ≤ k) ∧ Aside0 (Kd.R (Kd.int .i64) 3 w' w.heap.size (fun _ => True) v3 x3_1) ∧ Aside0 (Kd.R Kd.bool 4 w' w.heap.size (fun _ => True) (.slice Ao12 t670.length co12) t670) ∧ Aside0 (w'.heap[gb665]? = some (.cells #[(.slice A0_0 l0_0.length c0_0)] 26 (0, 0))) ∧ Aside0 (Below w.heap.size w w'))
  case atStart => exact ⟨(y667), (0), rr, H', ⟨Nat.le_refl _⟩, ⟨ro HO669.out⟩, ⟨ro HO672.out⟩, ⟨bo BK665.out⟩, ⟨bw⟩⟩
  case round =>
   clear H'
   try clear hcz10_0; try clear hcz6_0; try clear hfz10_0; try clear hfz6_0
   obtain ⟨x3_1, x13_1, rfl, HA, HK1, HO_3, HO_11, BK665, HB⟩ := hrel
   cases gk with
   | zero => exact absurd HA.out (by simp [impl_Gaps.l0])
   | succ k1 =>
    have H := HA.out
    clear HA
    simp only [impl_Gaps.l0] at H
    replace H := gi H; obtain ⟨c13b0, H⟩ | ⟨c13b0, H⟩ := H
    ·replace H := gd H; obtain ⟨c14b0, H⟩ := H
     replace H := gd H; obtain ⟨c15b0, H⟩ := H
     obtain ⟨bq16, hbq16⟩ : ∃ b_ : Bool, b_ = (rdOf false t670 x13_1) := ⟨_, rfl⟩
     replace H : (if bq16 = true then (impl_Gaps.l0 k1 x3_1 t670 (t670.length : Int) (wrap64 (x13_1 + 1))) else (if x3_1.length < 17592186044416 then (impl_Gaps.l0 k1 (x3_1 ++ [x13_1]) t670 (t670.length : Int) (wrap64 (x13_1 + 1))) else (none))) = some r := by rw [← hbq16] at H; exact H
     have Nbq16 := am hbq16
     clear hbq16
     replace H := gb H; obtain ⟨rfl, H⟩ | ⟨rfl, H⟩ := H
     ·have H' := am H
      clear H
      obtain ⟨⟨ad673, e673, hx673_0⟩, p673, q673⟩ := pq (Kd.at_bool (Kd.R_reads' HO_11.out).2.2 x13_1)
      (try rw [← Nbq16.out] at hx673_0)
      cases e673
      go_wp2
      go_roundg k1
      case measure => have := HK1.out; omega
      case rel => exact ⟨(x3_1), (wrap64 (x13_1 + 1)), rr, H', ⟨by have := HK1.out; omega⟩, ⟨ro HO_3.out⟩, ⟨ro HO_11.out⟩, ⟨bo BK665.out⟩, ⟨bw⟩⟩
     by_cases c18 : x3_1.length < 17592186044416
     rotate_left
     ·rw [if_neg c18] at H
      exact absurd H (by simp)
     rw [if_pos c18] at H
     have LMc18 := am c18
     clear c18
     obtain ⟨y674, hy674⟩ : ∃ y_ : List Int, y_ = (x3_1 ++ [x13_1]) := ⟨_, rfl⟩
     replace H : (impl_Gaps.l0 k1 y674 t670 (t670.length : Int) (wrap64 (x13_1 + 1))) = some r := by first | (rw [hy674]; with_reducible first | exact H | exact bs H) | (with_reducible first | exact bs H | exact H) | (rw [hy674]; exact H) | exact H
     have Ny674 := am hy674
     clear hy674
     have H' := am H
     clear H
     obtain ⟨⟨ad673, e673, hx673_0⟩, p673, q673⟩ := pq (Kd.at_bool (Kd.R_reads' HO_11.out).2.2 x13_1)
     (try rw [← Nbq16.out] at hx673_0)
     cases e673
     go_wp2_with (first | ((with_reducible refine gate_builtin (b := .append) (xs := #[.tmp 20, .tmp 22]) rfl ?_); at_builtin; refine Kd.R_append (Kd.int .i64) (w0 := w) w.heap.size rfl (.tmp 20) (.tmp 22) 24 3 (.int .i64 0) 8 rfl Tryz.underlying24 info3 rfl (by decide) (by omega) u3 x3_1 x13_1 [.int .i64 x13_1] (fun _ => True) (fun _ => False) rfl rfl ?aP (fun _ hk => hk.elim) ?aF ?aO ?aB ?aS ?aL ?_; (case aP => exact rfl); (case aB => exact bw); (case aF => exact (fun _ _ => trivial)); (case aO => exact (ro HO_3.out)); (case aS => exact (below_size bw)); (case aL => have := LMc18.out; omega); intro v675 w19 ho hb hg hat; rw [← Ny674.out] at ho; replace HO_11 := am (Kd.R_over' (ro HO_11.out) (Kd.R_typed (ro HO_3.out)) (by decide) hg); replace BK665 := am (blk_grown (g := gb665) (o := .cells #[.slice A0_0 l0_0.length c0_0] 26 (0, 0)) (bo BK665.out) hg (Kd.R_ne HO_3.out BK665.out (by decide))); replace HB := am (hb); have HO676 := am (ho); clear HO_3 ho hb hg hat))
     go_roundg k1
     case measure => have := HK1.out; omega
     case rel => exact ⟨(y674), (wrap64 (x13_1 + 1)), rr, H', ⟨by have := HK1.out; omega⟩, ⟨ro HO676.out⟩, ⟨ro HO_11.out⟩, ⟨bo BK665.out⟩, ⟨bw⟩⟩
    obtain rfl := Option.some.inj H
    go_wp2
    go_ret
    exact ⟨_, re, ro HO_3.out, bw⟩
 obtain rfl := Option.some.inj H
 go_enter Tryz.func75, Tryz.ntmps75
 go_wp2_with (first | ((with_reducible refine gate_dst (N := 1) rfl ?_); refine bx 1 #[.slice A0_0 l0_0.length c0_0] 26 ?_; intro gb665 hg w20 hbox hb; have BK665 := am (hbox); have GW665 := am (gs hg : w.heap.size ≤ gb665); have GE665 := GW665; replace HB := am (below_step bw hb); clear hb hbox hg; have hcz21_0 := bc BK665 0 (.slice A0_0 l0_0.length c0_0); have hfz21_0 := blk_frozen BK665.out 0) | ((with_reducible refine gate_callee (f := 43) rfl ?_); refine goesL_ (some 7) rfl rfl Tryz.func43 (by kernel_rfl) rfl #[.agg #[.slice A0_0 l0_0.length c0_0]] rfl (by (try simp only [List.map_toArray, List.map_cons, List.map_nil]); first | done | rfl | (simp only [List.length_drop, List.length_take]; rfl)) ?_; (with_reducible refine (impl_IsSemigroup.calls k _ _ l0_0 false _ ?side1 ?side2 A2.out).mono ?_); (case side1 => exact co (Kd.C_below HR0_0.out HB.out)); (case side2 => exact HC0_0.out); rintro e w22 ⟨rfl, hb⟩; refine ⟨_, rfl, ?_⟩; replace BK665 := kb BK665 hb; replace HB := am (below_step bw hb); clear hb))
 go_ret
 exact ⟨_, re, by first | exact Kd.R_nil _ _ _ _ _ | exact Kd.N_nil _ _ _ _ _ | exact Kd.V_nil _ _ _ _ _ | exact Kd.Q_nil _ _ _ _ _ | exact Kd.S_nil _ _ _ _ _, bw⟩


/-! ### impl_FrobeniusOf: function 51 -/
def impl_FrobeniusOf.f (k : Nat) (l0_0 : List Int) : Option (Int) := (impl_Gaps.f k l0_0).bind fun t678 => (if (t678.length : Int) = 0 then (some (-1)) else (if 0 ≤ (wrap64 ((t678.length : Int) - 1)) then (if (wrap64 ((t678.length : Int) - 1)) < (t678.length : Int) then (some (rd t678 (wrap64 ((t678.length : Int) - 1)))) else (none)) else (none)))
set_option maxHeartbeats 8000000 in
set_option maxRecDepth 100000 in
theorem impl_FrobeniusOf.calls (k : Nat) (A0_0 : Option Addr) (c0_0 : Nat) (l0_0 : List Int) (r : Int) (w : World) (hr0_0 : Kd.C (Kd.int .i64) w A0_0 l0_0.length l0_0) (hc0_0 : l0_0.length ≤ c0_0) (h : impl_FrobeniusOf.f k l0_0 = some r) :
  Calls Tryz.prog 51 #[.agg #[.slice A0_0 l0_0.length c0_0]] w fun e w' => e = .returned (.int .i64 r) ∧ Below w.heap.size w w' := by
 have hu26 := Tryz.underlying26
 have HR0_0 := am hr0_0
 have HC0_0 := am hc0_0
 clear hr0_0 hc0_0
 have HB := am (Below.refl w.heap.size w)
 have H : ((impl_Gaps.f k l0_0).bind fun t678 => (if (t678.length : Int) = 0 then (some (-1)) else (if 0 ≤ (wrap64 ((t678.length : Int) - 1)) then (if (wrap64 ((t678.length : Int) - 1)) < (t678.length : Int) then (some (rd t678 (wrap64 ((t678.length : Int) - 1)))) else (none)) else (none)))) = some r := h
 clear h
 replace H := ga H; obtain ⟨t678, A2, H⟩ := H
 by_cases c3 : (t678.length : Int) = 0
 ·rw [if_pos c3] at H
  have c3b0 : ((t678.length : Int) == 0) = true := beq_iff_eq.mpr c3
  have c3b1 : ((t678.length : Int) != 0) = false := bne_eq_false_iff_eq.mpr c3
  clear c3
  obtain rfl := Option.some.inj H
  go_enter Tryz.func51, Tryz.ntmps51
  go_wp2_with (first | ((with_reducible refine gate_dst (N := 1) rfl ?_); refine bx 1 #[.slice A0_0 l0_0.length c0_0] 26 ?_; intro gb677 hg w4 hbox hb; have BK677 := am (hbox); have GW677 := am (gs hg : w.heap.size ≤ gb677); have GE677 := GW677; replace HB := am (below_step bw hb); clear hb hbox hg; have hcz5_0 := bc BK677 0 (.slice A0_0 l0_0.length c0_0); have hfz5_0 := blk_frozen BK677.out 0) | ((with_reducible refine gate_callee (f := 75) rfl ?_); refine goesL_ (some 5) rfl rfl Tryz.func75 (by kernel_rfl) rfl #[.agg #[.slice A0_0 l0_0.length c0_0]] rfl (by (try simp only [List.map_toArray, List.map_cons, List.map_nil]); first | done | rfl | (simp only [List.length_drop, List.length_take]; rfl)) ?_; (with_reducible refine (impl_Gaps.calls k _ _ l0_0 t678 _ ?side1 ?side2 A2.out).mono ?_); (case side1 => exact co (Kd.C_below HR0_0.out HB.out)); (case side2 => exact HC0_0.out); rintro e w6 ⟨v679, rfl, ho0, hb⟩; refine ⟨_, rfl, ?_⟩; have HO680 := am (Kd.R_lower ho0 (below_size bw)); replace BK677 := kb BK677 hb; replace HB := am (below_step bw hb); clear hb ho0; obtain ⟨Ao7, co7, eo7⟩ := Kd.R_slice HO680.out; subst eo7))
  go_ret
  exact ⟨re, bw⟩
 rw [if_neg c3] at H
 have c3b0 : ((t678.length : Int) == 0) = false := beq_eq_false_iff_ne.mpr c3
 have c3b1 : ((t678.length : Int) != 0) = true := bne_iff_ne.mpr c3
 have c3b2 : ¬ (t678 = []) := fun h_ => c3 (by rw [h_]; rfl)
 obtain ⟨ji8, hji8⟩ : ∃ j_ : Int, (wrap64 ((t678.length : Int) - 1)) = j_ := ⟨_, rfl⟩
 replace H : (if 0 ≤ (ji8) then (if (ji8) < (t678.length : Int) then (some (rd t678 (ji8))) else (none)) else (none)) = some r := by first | (rw [hji8] at H; exact H) | (simp only [hji8] at H ⊢; exact H)
 (try rw [hji8] at A2)
 have hji8w : (IntKind.i64.wrap ((t678.length : Int) - 1)) = ji8 := (i64_w _).trans hji8
 replace H := gd H; obtain ⟨c9b0, H⟩ := H
 replace H := gd H; obtain ⟨c10b0, H⟩ := H
 obtain rfl := Option.some.inj H
 go_enter Tryz.func51, Tryz.ntmps51
 go_wp2_with (first | ((with_reducible refine gate_dst (N := 1) rfl ?_); refine bx 1 #[.slice A0_0 l0_0.length c0_0] 26 ?_; intro gb677 hg w11 hbox hb; have BK677 := am (hbox); have GW677 := am (gs hg : w.heap.size ≤ gb677); have GE677 := GW677; replace HB := am (below_step bw hb); clear hb hbox hg; have hcz12_0 := bc BK677 0 (.slice A0_0 l0_0.length c0_0); have hfz12_0 := blk_frozen BK677.out 0) | ((with_reducible refine gate_callee (f := 75) rfl ?_); refine goesL_ (some 5) rfl rfl Tryz.func75 (by kernel_rfl) rfl #[.agg #[.slice A0_0 l0_0.length c0_0]] rfl (by (try simp only [List.map_toArray, List.map_cons, List.map_nil]); first | done | rfl | (simp only [List.length_drop, List.length_take]; rfl)) ?_; (with_reducible refine (impl_Gaps.calls k _ _ l0_0 t678 _ ?side1 ?side2 A2.out).mono ?_); (case side1 => exact co (Kd.C_below HR0_0.out HB.out)); (case side2 => exact HC0_0.out); rintro e w13 ⟨v679, rfl, ho0, hb⟩; refine ⟨_, rfl, ?_⟩; have HO680 := am (Kd.R_lower ho0 (below_size bw)); replace BK677 := kb BK677 hb; replace HB := am (below_step bw hb); clear hb ho0; obtain ⟨Ao14, co14, eo14⟩ := Kd.R_slice HO680.out; subst eo14; have p681 : 0 ≤ ((ji8) : Int) := of_decide_eq_true (by first | (with_reducible assumption) | assumption); have q681 : (ji8) < (t678.length : Int) := of_decide_eq_true (by first | (with_reducible assumption) | assumption); obtain ⟨ad681, e681, hx681_0⟩ := Kd.at_int (Kd.R_reads' HO680.out).2.2 (ji8) p681 q681; cases e681; replace p681 := eq_true p681; replace q681 := eq_true q681))
 go_ret
 exact ⟨by first | rfl | (simp [errW_none, errW_some] <;> rfl) | (simp only [← hji8]; first | rfl | (simp [errW_none, errW_some] <;> rfl)) | (simp [*, errW_none, errW_some] <;> rfl), bw⟩


/-! ### impl_CanonicalGens: function 13 -/
def impl_CanonicalGens.p (p : Int → Option Bool) (f x : Int) : Option Bool := (p (wrap64 (f - x))).bind fun b => some (!b)
def impl_CanonicalGens.f (k : Nat) (l0_0 : List Int) : Option (List Int) := (impl_IsSemigroup.f k l0_0).bind fun t => if t = true then (impl_reach.f k l0_0).bind fun p => (impl_FrobeniusOf.f k l0_0).bind fun f => impl_sifted.f k l0_0 (wrap64 (f - 200)) (wrap64 (f + 200)) (impl_CanonicalGens.p p f) else some []
set_option maxHeartbeats 8000000 in
theorem impl_CanonicalGens.c1 (w : World) (g g2 : Nat) (F : Value) (p : Int → Option Bool) (f : Int) (hbox : w.heap[g]? = some (.cells #[F] 59 (0, 0))) (hbox2 : w.heap[g2]? = some (.cells #[.int .i64 f] 3 (0, 0))) (hF : FnR1 Tryz.prog w F p) : FnR1 Tryz.prog w (.func (.func 52) #[] #[.pointer (some ⟨g, 0, none⟩), .pointer (some ⟨g2, 0, none⟩)]) (impl_CanonicalGens.p p f) :=
 ⟨52, _, rfl, (fun args w => enters_ Tryz.func52 (by kernel_rfl) rfl args w), fun W hb x b h => by
  obtain ⟨gF, lF, rfl, eF, hF⟩ := hF
  have hcz : W.cell? ⟨g, 0, none⟩ = some (.func (.func gF) #[] lF) := (blk_cell (blk_below hbox hb) 0).trans rfl
  have hcz2 : W.cell? ⟨g2, 0, none⟩ = some (.int .i64 f) := (blk_cell (blk_below hbox2 hb) 0).trans rfl
  have HB := Aside0.mk hb
  have h : (p (wrap64 (f - x))).bind (fun b => some (!b)) = some b := h
  replace h := ga h; obtain ⟨b2, A1, h⟩ := h
  obtain rfl := Option.some.inj h
  clear hbox hbox2 hb h
  show Calls Tryz.prog 52 #[.int .i64 x, .pointer (some ⟨g, 0, none⟩), .pointer (some ⟨g2, 0, none⟩)] W _
  go_enter Tryz.func52, Tryz.ntmps52
  go_wp2_with (first | (go_at_fn gF; (with_reducible refine (hF _ bw (wrap64 (f - x)) b2 A1.out).mono ?_); rintro e w' ⟨rfl, ⟨nd, rfl⟩⟩))
  go_ret
  exact ⟨re, dw⟩⟩
set_option maxHeartbeats 8000000 in
set_option maxRecDepth 100000 in
theorem impl_CanonicalGens.calls (k : Nat) (A0_0 : Option Addr) (c0_0 : Nat) (l0_0 : List Int) (r : List Int) (w : World) (hr0_0 : Kd.C (Kd.int .i64) w A0_0 l0_0.length l0_0) (hc0_0 : l0_0.length ≤ c0_0) (h : impl_CanonicalGens.f k l0_0 = some r) :
  Calls Tryz.prog 13 #[.agg #[.slice A0_0 l0_0.length c0_0]] w fun e w' => ∃ v0_ : Value, e = .returned v0_ ∧ Kd.R (Kd.int .i64) 3 w' w.heap.size (fun _ => True) v0_ r ∧ Below w.heap.size w w' := by
 have hu27 := Tryz.underlying26
 have HR0_0 := Aside0.mk hr0_0
 have HC0_0 := Aside0.mk hc0_0
 clear hr0_0 hc0_0
 have HB := Aside0.mk (Below.refl w.heap.size w)
 have H : ((impl_IsSemigroup.f k l0_0).bind fun t => if t = true then (impl_reach.f k l0_0).bind fun p => (impl_FrobeniusOf.f k l0_0).bind fun f => impl_sifted.f k l0_0 (wrap64 (f - 200)) (wrap64 (f + 200)) (impl_CanonicalGens.p p f) else some []) = some r := h
 clear h
 replace H := ga H; obtain ⟨t0, A0_, H⟩ := H
 replace H := gb H; obtain ⟨rfl, H⟩ | ⟨rfl, H⟩ := H
 ·replace H := ga H; obtain ⟨t1, A1_, H⟩ := H
  replace H := ga H; obtain ⟨t2, A2_, H⟩ := H
  have A3_ := Aside0.mk H
  clear H
  go_enter Tryz.func13, Tryz.ntmps13
  go_wp2_with (first | ((with_reducible refine gate_dst (N := 1) rfl ?_); refine bx 1 #[.slice A0_0 l0_0.length c0_0] 26 ?_; intro gb1 hg w1 hbox hb; have BK1 := Aside0.mk hbox; replace HB := Aside0.mk (below_step bw hb); clear hb hbox hg; have hcz1 := bc BK1 0 (.slice A0_0 l0_0.length c0_0); have hfz1 := blk_frozen BK1.out 0) | ((with_reducible refine gate_callee (f := 43) rfl ?_); refine gl (some 6) Tryz.func43 #[.agg #[.slice A0_0 l0_0.length c0_0]] ?_; (with_reducible refine (impl_IsSemigroup.calls k _ _ l0_0 true _ ?side1 ?side2 A0_.out).mono ?_); (case side1 => exact co (Kd.C_below HR0_0.out HB.out)); (case side2 => exact HC0_0.out); rintro e w2 ⟨rfl, hb⟩; refine ⟨_, rfl, ?_⟩; clear hcz1 hfz1; replace BK1 := Aside0.mk (blk_below (g := gb1) (o := .cells #[.slice A0_0 l0_0.length c0_0] 26 (0, 0)) (bo BK1.out) hb); replace HB := Aside0.mk (below_step bw hb); clear hb; have hcz1 := bc BK1 0 (.slice A0_0 l0_0.length c0_0); have hfz1 := blk_frozen BK1.out 0) | ((with_reducible refine gate_callee (f := 46) rfl ?_); refine gl (some 9) Tryz.func46 #[.agg #[.slice A0_0 l0_0.length c0_0]] ?_; (with_reducible refine (impl_reach.calls k _ _ l0_0 t1 _ ?side1 ?side2 A1_.out).mono ?_); (case side1 => exact co (Kd.C_below HR0_0.out HB.out)); (case side2 => exact HC0_0.out); rintro e w2 ⟨F_t1, rfl, hF_t1, hb⟩; refine ⟨_, rfl, ?_⟩; clear hcz1 hfz1; replace BK1 := Aside0.mk (blk_below (g := gb1) (o := .cells #[.slice A0_0 l0_0.length c0_0] 26 (0, 0)) (bo BK1.out) hb); have HW_ := Aside0.mk (below_step bw hb : Below w.heap.size w w2); replace HR0_0 := Aside0.mk (Kd.C_below HR0_0.out HW_.out); clear HB hb; have HB := Aside0.mk (Below.refl w2.heap.size w2); obtain ⟨gF, lF, eF_⟩ : ∃ g lb, F_t1 = .func (.func g) #[] lb := (by obtain ⟨g, lb, h, _⟩ := hF_t1; exact ⟨g, lb, h⟩); subst eF_; have HF_ := Aside0.mk hF_t1; clear hF_t1; obtain ⟨w, rfl⟩ : ∃ x_, x_ = w2 := ⟨_, rfl⟩; have hcz1 := bc BK1 0 (.slice A0_0 l0_0.length c0_0); have hfz1 := blk_frozen BK1.out 0) | ((with_reducible refine gate_dst (N := 3) rfl ?_); refine bx 3 #[.nilFunc] 59 ?_; intro gb3 hg w3 hbox hb; have GE3 := Aside0.mk (gs hg : w.heap.size ≤ gb3); have NB13 := Aside0.mk ((by rw [hg]; exact Nat.ne_of_lt (blk_lt (g := gb1) (o := .cells #[.slice A0_0 l0_0.length c0_0] 26 (0, 0)) (bo BK1.out)) : gb1 ≠ gb3)); clear hcz1 hfz1; replace BK1 := Aside0.mk (blk_below (g := gb1) (o := .cells #[.slice A0_0 l0_0.length c0_0] 26 (0, 0)) (bo BK1.out) hb); have BK3 := Aside0.mk hbox; replace HB := Aside0.mk (below_step bw hb); clear hb hbox hg; have hnb1 := NB13.out; have hnc1 := NB13.out.symm; have hcz1 := bc BK1 0 (.slice A0_0 l0_0.length c0_0); have hfz1 := blk_frozen BK1.out 0; have hcz3 := bc BK3 0 .nilFunc; have hfz3 := blk_frozen BK3.out 0) | ((with_reducible refine gate_callee (f := 51) rfl ?_); refine gl (some 11) Tryz.func51 #[.agg #[.slice A0_0 l0_0.length c0_0]] ?_; (with_reducible refine (impl_FrobeniusOf.calls k _ _ l0_0 t2 _ ?side1 ?side2 A2_.out).mono ?_); (case side1 => exact Kd.C_below HR0_0.out bw); (case side2 => exact HC0_0.out); rintro e w5 ⟨rfl, hb⟩; refine ⟨_, rfl, ?_⟩; clear hcz1 hfz1 hcz3 hfz3; replace BK1 := Aside0.mk (blk_below (g := gb1) (o := .cells #[.slice A0_0 l0_0.length c0_0] 26 (0, 0)) (by (with_reducible repeat (first | refine blk_drewN ?_ _ | refine blk_drew ?_ | refine blk_alloc ?_ _)); refine blk_far ?_ NB13.out _; exact bo BK1.out) hb); replace BK3 := Aside0.mk (blk_below (g := gb3) (o := .cells #[.func (.func gF) #[] lF] 59 (0, 0)) (by (with_reducible repeat (first | refine blk_drewN ?_ _ | refine blk_drew ?_ | refine blk_alloc ?_ _)); refine blk_put (cs := #[.nilFunc]) ?_ 0 _ rfl; exact bo BK3.out) hb); replace HB := Aside0.mk (below_step bw hb); clear hb) | ((with_reducible refine gate_dst (N := 4) rfl ?_); refine bx 4 #[.int .i64 0] 3 ?_; intro gb4 hg w6 hbox hb; have GE4 := Aside0.mk (gs hg : w.heap.size ≤ gb4); have NB14 := Aside0.mk ((by rw [hg]; exact Nat.ne_of_lt (blk_lt (g := gb1) (o := .cells #[.slice A0_0 l0_0.length c0_0] 26 (0, 0)) (bo BK1.out)) : gb1 ≠ gb4)); have NB34 := Aside0.mk ((by rw [hg]; exact Nat.ne_of_lt (blk_lt (g := gb3) (o := .cells #[.func (.func gF) #[] lF] 59 (0, 0)) (bo BK3.out)) : gb3 ≠ gb4)); replace BK1 := Aside0.mk (blk_below (g := gb1) (o := .cells #[.slice A0_0 l0_0.length c0_0] 26 (0, 0)) (bo BK1.out) hb); replace BK3 := Aside0.mk (blk_below (g := gb3) (o := .cells #[.func (.func gF) #[] lF] 59 (0, 0)) (bo BK3.out) hb); have BK4 := Aside0.mk hbox; replace HB := Aside0.mk (below_step bw hb); clear hb hbox hg; have hnb4 := NB14.out; have hnc4 := NB14.out.symm; have hcz1 := bc BK1 0 (.slice A0_0 l0_0.length c0_0); have hfz1 := blk_frozen BK1.out 0; have hcz4 := bc BK4 0 (.int .i64 0); have hfz4 := blk_frozen BK4.out 0) | ((with_reducible refine gate_callee (f := 49) rfl ?_); refine gl (some 18) Tryz.func49 #[.agg #[.slice A0_0 l0_0.length c0_0], .int .i64 (wrap64 (t2 - 200)), .int .i64 (wrap64 (t2 + 200)), .func (.func 52) #[] #[.pointer (some ⟨gb3, 0, none⟩), .pointer (some ⟨gb4, 0, none⟩)]] ?_; (with_reducible refine (impl_sifted.calls k _ _ l0_0 (wrap64 (t2 - 200)) (wrap64 (t2 + 200)) (impl_CanonicalGens.p t1 t2) (.func (.func 52) #[] #[.pointer (some ⟨gb3, 0, none⟩), .pointer (some ⟨gb4, 0, none⟩)]) r _ ?side1 ?side2 ?side3 A3_.out).mono ?_); (case side1 => exact Kd.C_below HR0_0.out bw); (case side2 => exact HC0_0.out); (case side3 => exact impl_CanonicalGens.c1 _ gb3 gb4 (.func (.func gF) #[] lF) t1 t2 (by (with_reducible repeat (first | refine blk_drewN ?_ _ | refine blk_drew ?_ | refine blk_alloc ?_ _)); refine blk_far ?_ NB34.out _; exact bo BK3.out) (by (with_reducible repeat (first | refine blk_drewN ?_ _ | refine blk_drew ?_ | refine blk_alloc ?_ _)); refine blk_put (cs := #[.int .i64 0]) ?_ 0 _ rfl; exact bo BK4.out) (FnR1.below HF_.out bw)); rintro e w7 ⟨v, rfl, ho0, hb⟩; refine ⟨_, rfl, ?_⟩; have HO := Aside0.mk (Kd.R_lower ho0 (below_size bw)); replace HB := Aside0.mk (below_step bw hb); clear hb ho0))
  go_ret
  exact ⟨_, rfl, Kd.R_lower (ro HO.out) (below_size HW_.out), below_step HW_.out bw⟩
 ·obtain rfl := Option.some.inj H
  clear H
  go_enter Tryz.func13, Tryz.ntmps13
  go_wp2_with (first | ((with_reducible refine gate_dst (N := 1) rfl ?_); refine bx 1 #[.slice A0_0 l0_0.length c0_0] 26 ?_; intro gb1 hg w1 hbox hb; have BK1 := Aside0.mk hbox; replace HB := Aside0.mk (below_step bw hb); clear hb hbox hg; have hcz1 := bc BK1 0 (.slice A0_0 l0_0.length c0_0); have hfz1 := blk_frozen BK1.out 0) | ((with_reducible refine gate_callee (f := 43) rfl ?_); refine gl (some 6) Tryz.func43 #[.agg #[.slice A0_0 l0_0.length c0_0]] ?_; (with_reducible refine (impl_IsSemigroup.calls k _ _ l0_0 false _ ?side1 ?side2 A0_.out).mono ?_); (case side1 => exact co (Kd.C_below HR0_0.out HB.out)); (case side2 => exact HC0_0.out); rintro e w2 ⟨rfl, hb⟩; refine ⟨_, rfl, ?_⟩; clear hcz1 hfz1; replace BK1 := Aside0.mk (blk_below (g := gb1) (o := .cells #[.slice A0_0 l0_0.length c0_0] 26 (0, 0)) (bo BK1.out) hb); replace HB := Aside0.mk (below_step bw hb); clear hb))
  go_ret
  exact ⟨_, rfl, Kd.R_nil .., bw⟩


/-! ### spec_l16Valid: function 53 -/
def spec_l16Valid.l0 : Nat → List Int → Int → Option (Bool)
 | 0, _, _ => none
 | k + 1, x0, x3 => if x3 < (x0.length : Int) then (if 0 ≤ x3 then ((spec_l1In.f (rd x0 x3) (-200) 200).bind fun t683 => (if t683 = true then (spec_l16Valid.l0 k x0 (wrap64 (x3 + 1))) else (some false))) else (none)) else ((spec_l1In.f (x0.length : Int) 1 20).bind fun t684 => (some t684))
def spec_l16Valid.f (k : Nat) (l0 : List Int) : Option (Bool) := spec_l16Valid.l0 k l0 0
set_option maxHeartbeats 8000000 in
set_option maxRecDepth 100000 in
theorem spec_l16Valid.calls (k : Nat) (A0 : Option Addr) (c0 : Nat) (l0 : List Int) (r : Bool) (w : World) (hr0 : Kd.C (Kd.int .i64) w A0 l0.length l0) (hc0 : l0.length ≤ c0) (h : spec_l16Valid.f k l0 = some r) :
  Calls Tryz.prog 53 #[.slice A0 l0.length c0] w fun e w' => e = .returned (.bool r) ∧ Drawn0 w w' := by
 have HR0 := am hr0
 have HC0 := am hc0
 clear hr0 hc0
 have H : (spec_l16Valid.l0 k l0 0) = some r := h
 clear h
 have H' := am H
 clear H
 go_enter Tryz.func53, Tryz.ntmps53
 go_wp2
 go_loopg [3] k (fun kq v3 w' => ∃ (x3_1 : Int), v3 = .int .i64 x3_1 ∧ Aside0 (spec_l16Valid.l0 kq l0 x3_1 = some r) ∧ Aside0 (kq ≤ k) ∧ Drawn0 w w')
 case atStart => exact ⟨(0), rr, H', ⟨Nat.le_refl _⟩, dw⟩
 case round =>
  clear H'
  obtain ⟨x3_1, rfl, HA, HK1, ⟨m1, rfl⟩⟩ := hrel
  cases gk with
  | zero => exact absurd HA.out (by simp [spec_l16Valid.l0])
  | succ k1 =>
   have H := HA.out
   clear HA
   simp only [spec_l16Valid.l0] at H
   replace H := gi H; obtain ⟨c2b0, H⟩ | ⟨c2b0, H⟩ := H
   ·replace H := gd H; obtain ⟨c3b0, H⟩ := H
    replace H := ga H; obtain ⟨t683, A4, H⟩ := H
    replace H := gb H; obtain ⟨rfl, H⟩ | ⟨rfl, H⟩ := H
    ·have H' := am H
     clear H
     obtain ⟨⟨ad682, e682, hx682_0⟩, p682, q682⟩ := pq (Kd.at_int HR0.out x3_1)
     cases e682
     go_wp2_with (first | ((with_reducible refine gate_callee (f := 86) rfl ?_); refine goesL_ (some 14) rfl rfl Tryz.func86 (by kernel_rfl) rfl #[.int .i64 (rd l0 x3_1), .int .i64 (-200), .int .i64 200] rfl (by (try simp only [List.map_toArray, List.map_cons, List.map_nil]); first | done | rfl | (simp only [List.length_drop, List.length_take]; rfl)) ?_; (with_reducible refine (spec_l1In.calls (rd l0 x3_1) (-200) 200 true _ A4.out).mono ?_); rintro e w' ⟨rfl, ⟨nd, rfl⟩⟩; refine ⟨_, rfl, ?_⟩))
     go_roundg k1
     case measure => have := HK1.out; omega
     case rel => exact ⟨(wrap64 (x3_1 + 1)), rr, H', ⟨by have := HK1.out; omega⟩, dw⟩
    obtain rfl := Option.some.inj H
    obtain ⟨⟨ad682, e682, hx682_0⟩, p682, q682⟩ := pq (Kd.at_int HR0.out x3_1)
    cases e682
    go_wp2_with (first | ((with_reducible refine gate_callee (f := 86) rfl ?_); refine goesL_ (some 14) rfl rfl Tryz.func86 (by kernel_rfl) rfl #[.int .i64 (rd l0 x3_1), .int .i64 (-200), .int .i64 200] rfl (by (try simp only [List.map_toArray, List.map_cons, List.map_nil]); first | done | rfl | (simp only [List.length_drop, List.length_take]; rfl)) ?_; (with_reducible refine (spec_l1In.calls (rd l0 x3_1) (-200) 200 false _ A4.out).mono ?_); rintro e w' ⟨rfl, ⟨nd, rfl⟩⟩; refine ⟨_, rfl, ?_⟩))
    go_ret
    exact ⟨rr, dw⟩
   replace H := ga H; obtain ⟨t684, A6, H⟩ := H
   obtain rfl := Option.some.inj H
   go_wp2_with (first | ((with_reducible refine gate_callee (f := 86) rfl ?_); refine goesL_ (some 18) rfl rfl Tryz.func86 (by kernel_rfl) rfl #[.int .i64 (l0.length : Int), .int .i64 1, .int .i64 20] rfl (by (try simp only [List.map_toArray, List.map_cons, List.map_nil]); first | done | rfl | (simp only [List.length_drop, List.length_take]; rfl)) ?_; (with_reducible refine (spec_l1In.calls (l0.length : Int) 1 20 t684 _ A6.out).mono ?_); rintro e w' ⟨rfl, ⟨nd, rfl⟩⟩; refine ⟨_, rfl, ?_⟩))
   go_ret
   exact ⟨rr, dw⟩


/-! ### spec_l3Has: function 70 -/
def spec_l3Has.f (k : Nat) (l0_0 : List Int) (a1 : Int) : Option (Bool) := if a1 < 0 then (some (decide (a1 > 0))) else (if a1 ≥ 200 then (some (decide (a1 > 0))) else ((spec_l3Table.f k l0_0 a1).bind fun t686 => (if 0 ≤ a1 then (if a1 < (t686.length : Int) then (some (rdOf false t686 a1)) else (none)) else (none))))
set_option maxHeartbeats 8000000 in
set_option maxRecDepth 100000 in
theorem spec_l3Has.calls (k : Nat) (A0_0 : Option Addr) (c0_0 : Nat) (l0_0 : List Int) (a1 : Int) (r : Bool) (w : World) (hr0_0 : Kd.C (Kd.int .i64) w A0_0 l0_0.length l0_0) (hc0_0 : l0_0.length ≤ c0_0) (h : spec_l3Has.f k l0_0 a1 = some r) :
  Calls Tryz.prog 70 #[.agg #[.slice A0_0 l0_0.length c0_0], .int .i64 a1] w fun e w' => e = .returned (.bool r) ∧ Below w.heap.size w w' := by
 have hu26 := Tryz.underlying26
 have HR0_0 := am hr0_0
 have HC0_0 := am hc0_0
 clear hr0_0 hc0_0
 have HB := am (Below.refl w.heap.size w)
 have H : (if a1 < 0 then (some (decide (a1 > 0))) else (if a1 ≥ 200 then (some (decide (a1 > 0))) else ((spec_l3Table.f k l0_0 a1).bind fun t686 => (if 0 ≤ a1 then (if a1 < (t686.length : Int) then (some (rdOf false t686 a1)) else (none)) else (none))))) = some r := h
 clear h
 replace H := gi H; obtain ⟨c3b0, H⟩ | ⟨c3b0, H⟩ := H
 ·obtain rfl := Option.some.inj H
  go_enter Tryz.func70, Tryz.ntmps70
  go_wp2_with (first | ((with_reducible refine gate_dst (N := 2) rfl ?_); refine bx 2 #[.slice A0_0 l0_0.length c0_0] 26 ?_; intro gb685 hg w4 hbox hb; have BK685 := am (hbox); have GW685 := am (gs hg : w.heap.size ≤ gb685); have GE685 := GW685; replace HB := am (below_step bw hb); clear hb hbox hg))
  go_ret
  exact ⟨re, bw⟩
 replace H := gj H; obtain ⟨c5, H⟩ | ⟨c5, H⟩ := H
 ·have c5b0 : decide (200 ≤ a1) = true := decide_eq_true c5
  clear c5
  obtain rfl := Option.some.inj H
  go_enter Tryz.func70, Tryz.ntmps70
  go_wp2_with (first | ((with_reducible refine gate_dst (N := 2) rfl ?_); refine bx 2 #[.slice A0_0 l0_0.length c0_0] 26 ?_; intro gb685 hg w6 hbox hb; have BK685 := am (hbox); have GW685 := am (gs hg : w.heap.size ≤ gb685); have GE685 := GW685; replace HB := am (below_step bw hb); clear hb hbox hg))
  go_ret
  exact ⟨re, bw⟩
 have c5b0 : decide (200 ≤ a1) = false := decide_eq_false c5
 clear c5
 replace H := ga H; obtain ⟨t686, A7, H⟩ := H
 replace H := gd H; obtain ⟨c8b0, H⟩ := H
 replace H := gd H; obtain ⟨c9b0, H⟩ := H
 obtain rfl := Option.some.inj H
 go_enter Tryz.func70, Tryz.ntmps70
 go_wp2_with (first | ((with_reducible refine gate_dst (N := 2) rfl ?_); refine bx 2 #[.slice A0_0 l0_0.length c0_0] 26 ?_; intro gb685 hg w10 hbox hb; have BK685 := am (hbox); have GW685 := am (gs hg : w.heap.size ≤ gb685); have GE685 := GW685; replace HB := am (below_step bw hb); clear hb hbox hg; have hcz11_0 := bc BK685 0 (.slice A0_0 l0_0.length c0_0); have hfz11_0 := blk_frozen BK685.out 0) | ((with_reducible refine gate_callee (f := 108) rfl ?_); refine goesL_ (some 16) rfl rfl Tryz.func108 (by kernel_rfl) rfl #[.slice A0_0 l0_0.length c0_0, .int .i64 a1] rfl (by (try simp only [List.map_toArray, List.map_cons, List.map_nil]); first | done | rfl | (simp only [List.length_drop, List.length_take]; rfl)) ?_; (with_reducible refine (spec_l3Table.calls k _ _ l0_0 a1 t686 _ ?side1 ?side2 A7.out).mono ?_); (case side1 => exact co (Kd.C_below HR0_0.out HB.out)); (case side2 => exact HC0_0.out); rintro e w12 ⟨v687, rfl, ho0, hb⟩; refine ⟨_, rfl, ?_⟩; have HO688 := am (Kd.R_lower ho0 (below_size bw)); replace BK685 := kb BK685 hb; replace HB := am (below_step bw hb); clear hb ho0; obtain ⟨Ao13, co13, eo13⟩ := Kd.R_slice HO688.out; subst eo13; have p689 : 0 ≤ (a1 : Int) := of_decide_eq_true (by first | (with_reducible assumption) | assumption); have q689 : a1 < (t686.length : Int) := of_decide_eq_true (by first | (with_reducible assumption) | assumption); obtain ⟨ad689, e689, hx689_0⟩ := Kd.at_bool (Kd.R_reads' HO688.out).2.2 a1 p689 q689; cases e689; replace p689 := eq_true p689; replace q689 := eq_true q689))
 go_ret
 exact ⟨re, bw⟩


/-! ### spec_l15Has: function 104 -/
def spec_l15Has.f (k : Nat) (l0_0 : List Int) (a1 : Int) : Option (Bool) := if a1 = 0 then (some true) else ((spec_l3Has.f k l0_0 a1).bind fun t691 => (some t691))
set_option maxHeartbeats 8000000 in
set_option maxRecDepth 100000 in
theorem spec_l15Has.calls (k : Nat) (A0_0 : Option Addr) (c0_0 : Nat) (l0_0 : List Int) (a1 : Int) (r : Bool) (w : World) (hr0_0 : Kd.C (Kd.int .i64) w A0_0 l0_0.length l0_0) (hc0_0 : l0_0.length ≤ c0_0) (h : spec_l15Has.f k l0_0 a1 = some r) :
  Calls Tryz.prog 104 #[.agg #[.slice A0_0 l0_0.length c0_0], .int .i64 a1] w fun e w' => e = .returned (.bool r) ∧ Below w.heap.size w w' := by
 have hu26 := Tryz.underlying26
 have HR0_0 := am hr0_0
 have HC0_0 := am hc0_0
 clear hr0_0 hc0_0
 have HB := am (Below.refl w.heap.size w)
 have H : (if a1 = 0 then (some true) else ((spec_l3Has.f k l0_0 a1).bind fun t691 => (some t691))) = some r := h
 clear h
 by_cases c3 : a1 = 0
 ·rw [if_pos c3] at H
  have c3b0 : (a1 == 0) = true := beq_iff_eq.mpr c3
  have c3b1 : (a1 != 0) = false := bne_eq_false_iff_eq.mpr c3
  clear c3
  obtain rfl := Option.some.inj H
  go_enter Tryz.func104, Tryz.ntmps104
  go_wp2_with (first | ((with_reducible refine gate_dst (N := 2) rfl ?_); refine bx 2 #[.slice A0_0 l0_0.length c0_0] 26 ?_; intro gb690 hg w4 hbox hb; have BK690 := am (hbox); have GW690 := am (gs hg : w.heap.size ≤ gb690); have GE690 := GW690; replace HB := am (below_step bw hb); clear hb hbox hg))
  go_ret
  exact ⟨re, bw⟩
 rw [if_neg c3] at H
 have c3b0 : (a1 == 0) = false := beq_eq_false_iff_ne.mpr c3
 have c3b1 : (a1 != 0) = true := bne_iff_ne.mpr c3
 replace H := ga H; obtain ⟨t691, A5, H⟩ := H
 obtain rfl := Option.some.inj H
 go_enter Tryz.func104, Tryz.ntmps104
 go_wp2_with (first | ((with_reducible refine gate_dst (N := 2) rfl ?_); refine bx 2 #[.slice A0_0 l0_0.length c0_0] 26 ?_; intro gb690 hg w6 hbox hb; have BK690 := am (hbox); have GW690 := am (gs hg : w.heap.size ≤ gb690); have GE690 := GW690; replace HB := am (below_step bw hb); clear hb hbox hg; have hcz7_0 := bc BK690 0 (.slice A0_0 l0_0.length c0_0); have hfz7_0 := blk_frozen BK690.out 0) | (go_at_call 70; (with_reducible refine (spec_l3Has.calls k _ _ l0_0 a1 t691 _ ?side1 ?side2 A5.out).mono ?_); (case side1 => exact co (Kd.C_below HR0_0.out HB.out)); (case side2 => exact HC0_0.out); rintro e w8 ⟨rfl, hb⟩; replace BK690 := kb BK690 hb; replace HB := am (below_step bw hb); clear hb))
 go_ret
 exact ⟨re, bw⟩


/-! ### spec_l16In: function 55 -/
def spec_l16In.l0 : Nat → List Int → Int → Int → List Int → Option (Bool)
 | 0, _, _, _, _ => none
 | k + 1, x1, x2, x7, x693000 => if x7 < (x1.length : Int) then (if 0 ≤ x7 then ((spec_l15Has.f k x693000 (wrap64 (x2 - (rd x1 x7)))).bind fun t694 => (if t694 = true then (some true) else (spec_l16In.l0 k x1 x2 (wrap64 (x7 + 1)) x693000))) else (none)) else (some false)
def spec_l16In.f (k : Nat) (l0_0 : List Int) (l1 : List Int) (a2 : Int) : Option (Bool) := spec_l16In.l0 k l1 a2 0 l0_0
def spec_l16In.T4 : Bool × List (List Nat × List Nat) := (true, [([], []), ([], []), ([], []), ([], []), ([2, 3], [2, 3]), ([4], [4]), ([1, 5], [1, 5]), ([0, 6], [0, 6])])
def spec_l16In.B4 : List Nat := [0, 0, 0, 0, 12, 28, 62, 127]
theorem spec_l16In.tab4 : rtab .any (opsOf Tryz.f55 4) = spec_l16In.T4 := by kernel_rfl
theorem spec_l16In.bits4 : waitsOk spec_l16In.T4.2 spec_l16In.B4 = true := by kernel_rfl
set_option maxHeartbeats 8000000 in
set_option maxRecDepth 100000 in
theorem spec_l16In.calls (k : Nat) (A0_0 : Option Addr) (c0_0 : Nat) (l0_0 : List Int) (A1 : Option Addr) (c1 : Nat) (l1 : List Int) (a2 : Int) (r : Bool) (w : World) (hr0_0 : Kd.C (Kd.int .i64) w A0_0 l0_0.length l0_0) (hc0_0 : l0_0.length ≤ c0_0) (hr1 : Kd.C (Kd.int .i64) w A1 l1.length l1) (hc1 : l1.length ≤ c1) (h : spec_l16In.f k l0_0 l1 a2 = some r) :
  Calls Tryz.prog 55 #[.agg #[.slice A0_0 l0_0.length c0_0], .slice A1 l1.length c1, .int .i64 a2] w fun e w' => e = .returned (.bool r) ∧ Below w.heap.size w w' := by
 have hu26 := Tryz.underlying26
 have HR0_0 := am hr0_0
 have HC0_0 := am hc0_0
 clear hr0_0 hc0_0
 have HR1 := am hr1
 have HC1 := am hc1
 clear hr1 hc1
 have HB := am (Below.refl w.heap.size w)
 have H : (spec_l16In.l0 k l1 a2 0 l0_0) = some r := h
 clear h
 have H' := am H
 clear H
 go_enter Tryz.func55, Tryz.ntmps55
 go_wp2_with (first | ((with_reducible refine gate_dst (N := 3) rfl ?_); refine bx 3 #[.slice A0_0 l0_0.length c0_0] 26 ?_; intro gb692 hg w4 hbox hb; have BK692 := am (hbox); have GW692 := am (gs hg : w.heap.size ≤ gb692); have GE692 := GW692; replace HB := am (below_step bw hb); clear hb hbox hg))
 go_loopg [7] k (fun kq v7 w' => ∃ (x7_1 : Int), v7 = .int .i64 x7_1 ∧ Aside0 (spec_l16In.l0 kq l1 a2 x7_1 l0_0 = some r) ∧ Aside0 (kq ≤ k) ∧ Aside0 (w'.heap[gb692]? = some (.cells #[(.slice A0_0 l0_0.length c0_0)] 26 (0, 0))) ∧ Aside0 (Below w.heap.size w w'))
 case atStart => exact ⟨(0), rr, H', ⟨Nat.le_refl _⟩, ⟨bo BK692.out⟩, ⟨bw⟩⟩
 case round =>
  clear H'
  try clear c1
  obtain ⟨x7_1, rfl, HA, HK1, BK692, HB⟩ := hrel
  cases gk with
  | zero => exact absurd HA.out (by simp [spec_l16In.l0])
  | succ k1 =>
   have H := HA.out
   clear HA
   simp only [spec_l16In.l0] at H
   replace H := gi H; obtain ⟨c5b0, H⟩ | ⟨c5b0, H⟩ := H
   ·replace H := gd H; obtain ⟨c6b0, H⟩ := H
    replace H := ga H; obtain ⟨t694, A7, H⟩ := H
    replace H := gb H; obtain ⟨rfl, H⟩ | ⟨rfl, H⟩ := H
    ·obtain rfl := Option.some.inj H
     try go_wp2
     replace BK692 := bd BK692
     replace HB := am (below_drew1 HB.out)
     obtain ⟨⟨ad693, e693, hx693_0⟩, p693, q693⟩ := pq (Kd.at_int HR1.out x7_1)
     have hw693_0 := hx693_0
     cases e693
     replace hx693_0 := hw HB hx693_0
     refine start_ (n := 8) (S := fun w' => w'.cell? ⟨gb692, 0, none⟩ = some (.slice A0_0 l0_0.length c0_0) ∧ w'.cell? (ad693.add (x7_1).toNat) = some (.int .i64 (rd l1 x7_1))) (ds := []) (yz 8 0) (by kernel_rfl) rfl rfl ⟨bc BK692 0 _, ((HB.out.cell (World.block_lt_of_cell? w _ hw693_0)).trans hw693_0)⟩ (fun hHeld => ?_); refine with_tabW spec_l16In.tab4 spec_l16In.bits4 (fun HT_ HW_ => ?_)
     generalize wr.drew = w9 at BK692 HB hx693_0 hHeld ⊢
     refine pa 1 (some 15) (yz 8 2) HT_ ?_
     refine pa 2 (some 16) (yz 8 6) HT_ ?_
     refine pa 3 (some 17) (yz 8 14) HT_ ?_
     refine pa 4 (some 18) (yz 8 30) HT_ ?_
     refine tk 0 (some 14) (yz 8 31) HT_ HW_ hHeld ?_
     refine tk 5 (some 19) (yz 8 63) HT_ HW_ hHeld ?_
     refine pa 6 (some 20) (yz 8 127) HT_ ?_
     refine oa 7 (some 21) (yz 8 255) HT_ (fun K hK => ?_)
     refine goes_ Tryz.func104 (by kernel_rfl) rfl #[.agg #[.slice A0_0 l0_0.length c0_0], .int .i64 (wrap64 (a2 - (rd l1 x7_1)))] (by rfl) rfl rfl (by (try simp only [List.map_toArray, List.map_cons, List.map_nil]); first | done | rfl | (simp only [List.length_drop, List.length_take]; rfl)) ?_
     with_reducible refine (spec_l15Has.calls k1 _ _ l0_0 (wrap64 (a2 - (rd l1 x7_1))) true _ ?side1 ?side2 A7.out).mono ?_
     (case side1 => exact co (Kd.C_below HR0_0.out HB.out))
     (case side2 => exact HC0_0.out)
     rintro e w10 ⟨rfl, hb⟩
     refine ⟨_, rfl, ?_⟩
     replace BK692 := kb BK692 hb
     replace HB := am (below_step bw hb)
     clear hb
     refine hK.out _ _ ⟨bc BK692 0 _, ((HB.out.cell (World.block_lt_of_cell? w _ hw693_0)).trans hw693_0)⟩ (fun hHeld => ?_)
     clear hK K
     refine nm (some 21) ?_
     refine done_ (done_of HT_.out (by kernel_rfl)) ?_
     try go_wp2
     go_ret
     exact ⟨re, bw⟩
    have H' := am H
    clear H
    try go_wp2
    replace BK692 := bd BK692
    replace HB := am (below_drew1 HB.out)
    obtain ⟨⟨ad693, e693, hx693_0⟩, p693, q693⟩ := pq (Kd.at_int HR1.out x7_1)
    have hw693_0 := hx693_0
    cases e693
    replace hx693_0 := hw HB hx693_0
    refine start_ (n := 8) (S := fun w' => w'.cell? ⟨gb692, 0, none⟩ = some (.slice A0_0 l0_0.length c0_0) ∧ w'.cell? (ad693.add (x7_1).toNat) = some (.int .i64 (rd l1 x7_1))) (ds := []) (yz 8 0) (by kernel_rfl) rfl rfl ⟨bc BK692 0 _, ((HB.out.cell (World.block_lt_of_cell? w _ hw693_0)).trans hw693_0)⟩ (fun hHeld => ?_); refine with_tabW spec_l16In.tab4 spec_l16In.bits4 (fun HT_ HW_ => ?_)
    generalize wr.drew = w11 at BK692 HB hx693_0 hHeld ⊢
    refine pa 1 (some 15) (yz 8 2) HT_ ?_
    refine pa 2 (some 16) (yz 8 6) HT_ ?_
    refine pa 3 (some 17) (yz 8 14) HT_ ?_
    refine pa 4 (some 18) (yz 8 30) HT_ ?_
    refine tk 0 (some 14) (yz 8 31) HT_ HW_ hHeld ?_
    refine tk 5 (some 19) (yz 8 63) HT_ HW_ hHeld ?_
    refine pa 6 (some 20) (yz 8 127) HT_ ?_
    refine oa 7 (some 21) (yz 8 255) HT_ (fun K hK => ?_)
    refine goes_ Tryz.func104 (by kernel_rfl) rfl #[.agg #[.slice A0_0 l0_0.length c0_0], .int .i64 (wrap64 (a2 - (rd l1 x7_1)))] (by rfl) rfl rfl (by (try simp only [List.map_toArray, List.map_cons, List.map_nil]); first | done | rfl | (simp only [List.length_drop, List.length_take]; rfl)) ?_
    with_reducible refine (spec_l15Has.calls k1 _ _ l0_0 (wrap64 (a2 - (rd l1 x7_1))) false _ ?side1 ?side2 A7.out).mono ?_
    (case side1 => exact co (Kd.C_below HR0_0.out HB.out))
    (case side2 => exact HC0_0.out)
    rintro e w12 ⟨rfl, hb⟩
    refine ⟨_, rfl, ?_⟩
    replace BK692 := kb BK692 hb
    replace HB := am (below_step bw hb)
    clear hb
    refine hK.out _ _ ⟨bc BK692 0 _, ((HB.out.cell (World.block_lt_of_cell? w _ hw693_0)).trans hw693_0)⟩ (fun hHeld => ?_)
    clear hK K
    refine nm (some 21) ?_
    refine done_ (done_of HT_.out (by kernel_rfl)) ?_
    try go_wp2
    go_roundg k1
    case measure => have := HK1.out; omega
    case rel => exact ⟨(wrap64 (x7_1 + 1)), rr, H', ⟨by have := HK1.out; omega⟩, ⟨bo BK692.out⟩, ⟨bw⟩⟩
   obtain rfl := Option.some.inj H
   go_wp2
   go_ret
   exact ⟨re, bw⟩


/-! ### spec_InIdeal: function 14 -/
def spec_InIdeal.f (k : Nat) (l0_0 : List Int) (l1 : List Int) (a2 : Int) : Option (Bool) := (spec_IsSemigroup.f k l0_0).bind fun t696 => (if t696 = true then ((spec_l16Valid.f k l1).bind fun t697 => (if t697 = true then ((spec_l2Small.f a2).bind fun t698 => (if t698 = true then ((spec_l16In.f k l0_0 l1 a2).bind fun t699 => (some t699)) else (some false))) else (some false))) else (some false))
set_option maxHeartbeats 8000000 in
set_option maxRecDepth 100000 in
theorem spec_InIdeal.calls (k : Nat) (A0_0 : Option Addr) (c0_0 : Nat) (l0_0 : List Int) (A1 : Option Addr) (c1 : Nat) (l1 : List Int) (a2 : Int) (r : Bool) (w : World) (hr0_0 : Kd.C (Kd.int .i64) w A0_0 l0_0.length l0_0) (hc0_0 : l0_0.length ≤ c0_0) (hr1 : Kd.C (Kd.int .i64) w A1 l1.length l1) (hc1 : l1.length ≤ c1) (h : spec_InIdeal.f k l0_0 l1 a2 = some r) :
  Calls Tryz.prog 14 #[.agg #[.slice A0_0 l0_0.length c0_0], .slice A1 l1.length c1, .int .i64 a2] w fun e w' => e = .returned (.bool r) ∧ Below w.heap.size w w' := by
 have hu26 := Tryz.underlying26
 have HR0_0 := am hr0_0
 have HC0_0 := am hc0_0
 clear hr0_0 hc0_0
 have HR1 := am hr1
 have HC1 := am hc1
 clear hr1 hc1
 have HB := am (Below.refl w.heap.size w)
 have H : ((spec_IsSemigroup.f k l0_0).bind fun t696 => (if t696 = true then ((spec_l16Valid.f k l1).bind fun t697 => (if t697 = true then ((spec_l2Small.f a2).bind fun t698 => (if t698 = true then ((spec_l16In.f k l0_0 l1 a2).bind fun t699 => (some t699)) else (some false))) else (some false))) else (some false))) = some r := h
 clear h
 replace H := ga H; obtain ⟨t696, A4, H⟩ := H
 replace H := gb H; obtain ⟨rfl, H⟩ | ⟨rfl, H⟩ := H
 ·replace H := ga H; obtain ⟨t697, A6, H⟩ := H
  replace H := gb H; obtain ⟨rfl, H⟩ | ⟨rfl, H⟩ := H
  ·replace H := ga H; obtain ⟨t698, A8, H⟩ := H
   replace H := gb H; obtain ⟨rfl, H⟩ | ⟨rfl, H⟩ := H
   ·replace H := ga H; obtain ⟨t699, A10, H⟩ := H
    obtain rfl := Option.some.inj H
    go_enter Tryz.func14, Tryz.ntmps14
    go_wp2_with (first | ((with_reducible refine gate_dst (N := 3) rfl ?_); refine bx 3 #[.slice A0_0 l0_0.length c0_0] 26 ?_; intro gb695 hg w11 hbox hb; have BK695 := am (hbox); have GW695 := am (gs hg : w.heap.size ≤ gb695); have GE695 := GW695; replace HB := am (below_step bw hb); clear hb hbox hg; have hcz12_0 := bc BK695 0 (.slice A0_0 l0_0.length c0_0); have hfz12_0 := blk_frozen BK695.out 0) | ((with_reducible refine gate_callee (f := 21) rfl ?_); refine goesL_ (some 8) rfl rfl Tryz.func21 (by kernel_rfl) rfl #[.agg #[.slice A0_0 l0_0.length c0_0]] rfl (by (try simp only [List.map_toArray, List.map_cons, List.map_nil]); first | done | rfl | (simp only [List.length_drop, List.length_take]; rfl)) ?_; (with_reducible refine (spec_IsSemigroup.calls k _ _ l0_0 true _ ?side1 ?side2 A4.out).mono ?_); (case side1 => exact co (Kd.C_below HR0_0.out HB.out)); (case side2 => exact HC0_0.out); rintro e w13 ⟨rfl, hb⟩; refine ⟨_, rfl, ?_⟩; replace BK695 := kb BK695 hb; replace HB := am (below_step bw hb); clear hb) | (go_at_call 53; (with_reducible refine (spec_l16Valid.calls k _ _ l1 true _ ?side1 ?side2 A6.out).mono ?_); (case side1 => exact co (Kd.C_below HR1.out HB.out)); (case side2 => exact HC1.out); rintro e w' ⟨rfl, ⟨nd, rfl⟩⟩) | (go_at_call 54; (with_reducible refine (spec_l2Small.calls a2 true _ A8.out).mono ?_); rintro e w' ⟨rfl, ⟨nd, rfl⟩⟩; have hcz14_0 := bc BK695 0 (.slice A0_0 l0_0.length c0_0); have hfz14_0 := blk_frozen BK695.out 0) | (go_at_call 55; (with_reducible refine (spec_l16In.calls k _ _ l0_0 _ _ l1 a2 t699 _ ?side1 ?side2 ?side3 ?side4 A10.out).mono ?_); (case side1 => exact co (Kd.C_below HR0_0.out bw)); (case side2 => exact HC0_0.out); (case side3 => exact co (Kd.C_below HR1.out bw)); (case side4 => exact HC1.out); rintro e w15 ⟨rfl, hb⟩; replace BK695 := kb BK695 hb; replace HB := am (below_step bw hb); clear hb))
    go_ret
    exact ⟨re, bw⟩
   obtain rfl := Option.some.inj H
   go_enter Tryz.func14, Tryz.ntmps14
   go_wp2_with (first | ((with_reducible refine gate_dst (N := 3) rfl ?_); refine bx 3 #[.slice A0_0 l0_0.length c0_0] 26 ?_; intro gb695 hg w16 hbox hb; have BK695 := am (hbox); have GW695 := am (gs hg : w.heap.size ≤ gb695); have GE695 := GW695; replace HB := am (below_step bw hb); clear hb hbox hg; have hcz17_0 := bc BK695 0 (.slice A0_0 l0_0.length c0_0); have hfz17_0 := blk_frozen BK695.out 0) | ((with_reducible refine gate_callee (f := 21) rfl ?_); refine goesL_ (some 8) rfl rfl Tryz.func21 (by kernel_rfl) rfl #[.agg #[.slice A0_0 l0_0.length c0_0]] rfl (by (try simp only [List.map_toArray, List.map_cons, List.map_nil]); first | done | rfl | (simp only [List.length_drop, List.length_take]; rfl)) ?_; (with_reducible refine (spec_IsSemigroup.calls k _ _ l0_0 true _ ?side1 ?side2 A4.out).mono ?_); (case side1 => exact co (Kd.C_below HR0_0.out HB.out)); (case side2 => exact HC0_0.out); rintro e w18 ⟨rfl, hb⟩; refine ⟨_, rfl, ?_⟩; replace BK695 := kb BK695 hb; replace HB := am (below_step bw hb); clear hb) | (go_at_call 53; (with_reducible refine (spec_l16Valid.calls k _ _ l1 true _ ?side1 ?side2 A6.out).mono ?_); (case side1 => exact co (Kd.C_below HR1.out HB.out)); (case side2 => exact HC1.out); rintro e w' ⟨rfl, ⟨nd, rfl⟩⟩) | (go_at_call 54; (with_reducible refine (spec_l2Small.calls a2 false _ A8.out).mono ?_); rintro e w' ⟨rfl, ⟨nd, rfl⟩⟩))
   go_ret
   exact ⟨re, bw⟩
  obtain rfl := Option.some.inj H
  go_enter Tryz.func14, Tryz.ntmps14
  go_wp2_with (first | ((with_reducible refine gate_dst (N := 3) rfl ?_); refine bx 3 #[.slice A0_0 l0_0.length c0_0] 26 ?_; intro gb695 hg w19 hbox hb; have BK695 := am (hbox); have GW695 := am (gs hg : w.heap.size ≤ gb695); have GE695 := GW695; replace HB := am (below_step bw hb); clear hb hbox hg; have hcz20_0 := bc BK695 0 (.slice A0_0 l0_0.length c0_0); have hfz20_0 := blk_frozen BK695.out 0) | ((with_reducible refine gate_callee (f := 21) rfl ?_); refine goesL_ (some 8) rfl rfl Tryz.func21 (by kernel_rfl) rfl #[.agg #[.slice A0_0 l0_0.length c0_0]] rfl (by (try simp only [List.map_toArray, List.map_cons, List.map_nil]); first | done | rfl | (simp only [List.length_drop, List.length_take]; rfl)) ?_; (with_reducible refine (spec_IsSemigroup.calls k _ _ l0_0 true _ ?side1 ?side2 A4.out).mono ?_); (case side1 => exact co (Kd.C_below HR0_0.out HB.out)); (case side2 => exact HC0_0.out); rintro e w21 ⟨rfl, hb⟩; refine ⟨_, rfl, ?_⟩; replace BK695 := kb BK695 hb; replace HB := am (below_step bw hb); clear hb) | (go_at_call 53; (with_reducible refine (spec_l16Valid.calls k _ _ l1 false _ ?side1 ?side2 A6.out).mono ?_); (case side1 => exact co (Kd.C_below HR1.out HB.out)); (case side2 => exact HC1.out); rintro e w' ⟨rfl, ⟨nd, rfl⟩⟩))
  go_ret
  exact ⟨re, bw⟩
 obtain rfl := Option.some.inj H
 go_enter Tryz.func14, Tryz.ntmps14
 go_wp2_with (first | ((with_reducible refine gate_dst (N := 3) rfl ?_); refine bx 3 #[.slice A0_0 l0_0.length c0_0] 26 ?_; intro gb695 hg w22 hbox hb; have BK695 := am (hbox); have GW695 := am (gs hg : w.heap.size ≤ gb695); have GE695 := GW695; replace HB := am (below_step bw hb); clear hb hbox hg; have hcz23_0 := bc BK695 0 (.slice A0_0 l0_0.length c0_0); have hfz23_0 := blk_frozen BK695.out 0) | ((with_reducible refine gate_callee (f := 21) rfl ?_); refine goesL_ (some 8) rfl rfl Tryz.func21 (by kernel_rfl) rfl #[.agg #[.slice A0_0 l0_0.length c0_0]] rfl (by (try simp only [List.map_toArray, List.map_cons, List.map_nil]); first | done | rfl | (simp only [List.length_drop, List.length_take]; rfl)) ?_; (with_reducible refine (spec_IsSemigroup.calls k _ _ l0_0 false _ ?side1 ?side2 A4.out).mono ?_); (case side1 => exact co (Kd.C_below HR0_0.out HB.out)); (case side2 => exact HC0_0.out); rintro e w24 ⟨rfl, hb⟩; refine ⟨_, rfl, ?_⟩; replace BK695 := kb BK695 hb; replace HB := am (below_step bw hb); clear hb))
 go_ret
 exact ⟨re, bw⟩


/-! ### laws_sameInts: function 15 -/
def laws_sameInts.l0 : Nat → List Int → List Int → Int → Option (Bool)
 | 0, _, _, _ => none
 | k + 1, x0, x1, x5 => if x5 < (x0.length : Int) then (if 0 ≤ x5 then (if x5 < (x1.length : Int) then (if (rd x0 x5) = (rd x1 x5) then (laws_sameInts.l0 k x0 x1 (wrap64 (x5 + 1))) else (some false)) else (none)) else (none)) else (some true)
def laws_sameInts.f (k : Nat) (l0 : List Int) (l1 : List Int) : Option (Bool) := if (l0.length : Int) = (l1.length : Int) then (laws_sameInts.l0 k l0 l1 0) else (some false)
set_option maxHeartbeats 8000000 in
set_option maxRecDepth 100000 in
theorem laws_sameInts.calls (k : Nat) (A0 : Option Addr) (c0 : Nat) (l0 : List Int) (A1 : Option Addr) (c1 : Nat) (l1 : List Int) (r : Bool) (w : World) (hr0 : Kd.C (Kd.int .i64) w A0 l0.length l0) (hc0 : l0.length ≤ c0) (hr1 : Kd.C (Kd.int .i64) w A1 l1.length l1) (hc1 : l1.length ≤ c1) (h : laws_sameInts.f k l0 l1 = some r) :
  Calls Tryz.prog 15 #[.slice A0 l0.length c0, .slice A1 l1.length c1] w fun e w' => e = .returned (.bool r) ∧ Drawn0 w w' := by
 have HR0 := am hr0
 have HC0 := am hc0
 clear hr0 hc0
 have HR1 := am hr1
 have HC1 := am hc1
 clear hr1 hc1
 have H : (if (l0.length : Int) = (l1.length : Int) then (laws_sameInts.l0 k l0 l1 0) else (some false)) = some r := h
 clear h
 by_cases c3 : (l0.length : Int) = (l1.length : Int)
 ·rw [if_pos c3] at H
  have c3b0 : ((l0.length : Int) == (l1.length : Int)) = true := beq_iff_eq.mpr c3
  have c3b1 : ((l0.length : Int) != (l1.length : Int)) = false := bne_eq_false_iff_eq.mpr c3
  have c3b2 : (l0.length == l1.length) = true := by first | simpa using c3 | (simp at c3 ⊢; omega)
  clear c3
  have H' := am H
  clear H
  go_enter Tryz.func15, Tryz.ntmps15
  go_wp2
  repeat (go_quiet (fail); try go_wp2)
  go_loopg [5] k (fun kq v5 w' => ∃ (x5_1 : Int), v5 = .int .i64 x5_1 ∧ Aside0 (laws_sameInts.l0 kq l0 l1 x5_1 = some r) ∧ Aside0 (kq ≤ k) ∧ Drawn0 w w')
  case atStart => exact ⟨(0), rr, H', ⟨Nat.le_refl _⟩, dw⟩
  case round =>
   clear H'
   try clear c1; try clear c3; try clear c3b0; try clear c3b1; try clear c3b2
   obtain ⟨x5_1, rfl, HA, HK1, ⟨m1, rfl⟩⟩ := hrel
   cases gk with
   | zero => exact absurd HA.out (by simp [laws_sameInts.l0])
   | succ k1 =>
    have H := HA.out
    clear HA
    simp only [laws_sameInts.l0] at H
    replace H := gi H; obtain ⟨c4b0, H⟩ | ⟨c4b0, H⟩ := H
    ·replace H := gd H; obtain ⟨c5b0, H⟩ := H
     replace H := gd H; obtain ⟨c6b0, H⟩ := H
     by_cases c7 : (rd l0 x5_1) = (rd l1 x5_1)
     ·rw [if_pos c7] at H
      have c7b0 : ((rd l0 x5_1) == (rd l1 x5_1)) = true := beq_iff_eq.mpr c7
      have c7b1 : ((rd l0 x5_1) != (rd l1 x5_1)) = false := bne_eq_false_iff_eq.mpr c7
      clear c7
      have H' := am H
      clear H
      obtain ⟨⟨ad700, e700, hx700_0⟩, p700, q700⟩ := pq (Kd.at_int HR0.out x5_1)
      cases e700
      obtain ⟨⟨ad701, e701, hx701_0⟩, p701, q701⟩ := pq (Kd.at_int HR1.out x5_1)
      cases e701
      go_wp2
      repeat (go_quiet (fail); try go_wp2)
      go_roundg k1
      case measure => have := HK1.out; omega
      case rel => exact ⟨(wrap64 (x5_1 + 1)), rr, H', ⟨by have := HK1.out; omega⟩, dw⟩
     rw [if_neg c7] at H
     have c7b0 : ((rd l0 x5_1) == (rd l1 x5_1)) = false := beq_eq_false_iff_ne.mpr c7
     have c7b1 : ((rd l0 x5_1) != (rd l1 x5_1)) = true := bne_iff_ne.mpr c7
     obtain rfl := Option.some.inj H
     obtain ⟨⟨ad700, e700, hx700_0⟩, p700, q700⟩ := pq (Kd.at_int HR0.out x5_1)
     cases e700
     obtain ⟨⟨ad701, e701, hx701_0⟩, p701, q701⟩ := pq (Kd.at_int HR1.out x5_1)
     cases e701
     go_wp2
     repeat (go_quiet (fail); try go_wp2)
     go_ret
     exact ⟨rr, dw⟩
    obtain rfl := Option.some.inj H
    go_wp2
    repeat (go_quiet (fail); try go_wp2)
    go_ret
    exact ⟨rr, dw⟩
 rw [if_neg c3] at H
 have c3b0 : ((l0.length : Int) == (l1.length : Int)) = false := beq_eq_false_iff_ne.mpr c3
 have c3b1 : ((l0.length : Int) != (l1.length : Int)) = true := bne_iff_ne.mpr c3
 have c3b2 : (l0.length == l1.length) = false := by first | simpa using c3 | (simp at c3 ⊢; omega)
 obtain rfl := Option.some.inj H
 go_enter Tryz.func15, Tryz.ntmps15
 go_wp2
 repeat (go_quiet (fail); try go_wp2)
 go_ret
 exact ⟨rr, dw⟩


/-! ### spec_l10All: function 129 -/
def spec_l10All.l0 : Nat → List Int → Int → Option (Bool)
 | 0, _, _ => none
 | k + 1, x0, x3 => if x3 < (x0.length : Int) then (if 0 ≤ x3 then ((spec_l2Small.f (rd x0 x3)).bind fun t703 => (if t703 = true then (spec_l10All.l0 k x0 (wrap64 (x3 + 1))) else (some false))) else (none)) else (some true)
def spec_l10All.f (k : Nat) (l0 : List Int) : Option (Bool) := spec_l10All.l0 k l0 0
set_option maxHeartbeats 8000000 in
set_option maxRecDepth 100000 in
theorem spec_l10All.calls (k : Nat) (A0 : Option Addr) (c0 : Nat) (l0 : List Int) (r : Bool) (w : World) (hr0 : Kd.C (Kd.int .i64) w A0 l0.length l0) (hc0 : l0.length ≤ c0) (h : spec_l10All.f k l0 = some r) :
  Calls Tryz.prog 129 #[.slice A0 l0.length c0] w fun e w' => e = .returned (.bool r) ∧ Drawn0 w w' := by
 have HR0 := am hr0
 have HC0 := am hc0
 clear hr0 hc0
 have H : (spec_l10All.l0 k l0 0) = some r := h
 clear h
 have H' := am H
 clear H
 go_enter Tryz.func129, Tryz.ntmps129
 go_wp2
 go_loopg [3] k (fun kq v3 w' => ∃ (x3_1 : Int), v3 = .int .i64 x3_1 ∧ Aside0 (spec_l10All.l0 kq l0 x3_1 = some r) ∧ Aside0 (kq ≤ k) ∧ Drawn0 w w')
 case atStart => exact ⟨(0), rr, H', ⟨Nat.le_refl _⟩, dw⟩
 case round =>
  clear H'
  obtain ⟨x3_1, rfl, HA, HK1, ⟨m1, rfl⟩⟩ := hrel
  cases gk with
  | zero => exact absurd HA.out (by simp [spec_l10All.l0])
  | succ k1 =>
   have H := HA.out
   clear HA
   simp only [spec_l10All.l0] at H
   replace H := gi H; obtain ⟨c2b0, H⟩ | ⟨c2b0, H⟩ := H
   ·replace H := gd H; obtain ⟨c3b0, H⟩ := H
    replace H := ga H; obtain ⟨t703, A4, H⟩ := H
    replace H := gb H; obtain ⟨rfl, H⟩ | ⟨rfl, H⟩ := H
    ·have H' := am H
     clear H
     obtain ⟨⟨ad702, e702, hx702_0⟩, p702, q702⟩ := pq (Kd.at_int HR0.out x3_1)
     cases e702
     go_wp2_with (first | ((with_reducible refine gate_callee (f := 54) rfl ?_); refine goesL_ (some 14) rfl rfl Tryz.func54 (by kernel_rfl) rfl #[.int .i64 (rd l0 x3_1)] rfl (by (try simp only [List.map_toArray, List.map_cons, List.map_nil]); first | done | rfl | (simp only [List.length_drop, List.length_take]; rfl)) ?_; (with_reducible refine (spec_l2Small.calls (rd l0 x3_1) true _ A4.out).mono ?_); rintro e w' ⟨rfl, ⟨nd, rfl⟩⟩; refine ⟨_, rfl, ?_⟩))
     go_roundg k1
     case measure => have := HK1.out; omega
     case rel => exact ⟨(wrap64 (x3_1 + 1)), rr, H', ⟨by have := HK1.out; omega⟩, dw⟩
    obtain rfl := Option.some.inj H
    obtain ⟨⟨ad702, e702, hx702_0⟩, p702, q702⟩ := pq (Kd.at_int HR0.out x3_1)
    cases e702
    go_wp2_with (first | ((with_reducible refine gate_callee (f := 54) rfl ?_); refine goesL_ (some 14) rfl rfl Tryz.func54 (by kernel_rfl) rfl #[.int .i64 (rd l0 x3_1)] rfl (by (try simp only [List.map_toArray, List.map_cons, List.map_nil]); first | done | rfl | (simp only [List.length_drop, List.length_take]; rfl)) ?_; (with_reducible refine (spec_l2Small.calls (rd l0 x3_1) false _ A4.out).mono ?_); rintro e w' ⟨rfl, ⟨nd, rfl⟩⟩; refine ⟨_, rfl, ?_⟩))
    go_ret
    exact ⟨rr, dw⟩
   obtain rfl := Option.some.inj H
   go_wp2
   go_ret
   exact ⟨rr, dw⟩

end Go.Proofs.YtkfplkdchkmgbaaGreat.C
