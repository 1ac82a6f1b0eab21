/- Contracts of functions of the program: spec_MaximalOf, impl_MaximalOf. -/
import Derived.Test.YtiejmnnnjmmifaaC0
import Derived.Test.YtiejmnnnjmmifaaC3
import Derived.Test.YtiejmnnnjmmifaaC6
namespace Go.Proofs.Ytiejmnnnjmmifaa.C
open Go.RowKit Go.Proofs.YtiejmnnnjmmifaaW.PrintWords Go.Proofs.YtiejmnnnjmmifaaW.PrintLast Go.Proofs.YtiejmnnnjmmifaaW.PrintMore
attribute [local go_sem] max2_int min2_int max_two min_two max_three min_three max_four min_four
set_option linter.unusedVariables false
set_option linter.unusedSimpArgs false

/-! ### spec_MaximalOf: function 16 -/
def spec_MaximalOf.f (k : Nat) (l0_0 : List Int) (l1 : List Int) : Option (List Int) := (spec_l10Top.f k l0_0 l1 false).bind fun t235 => (some t235)
set_option maxHeartbeats 8000000 in
set_option maxRecDepth 100000 in
theorem spec_MaximalOf.calls (k : Nat) (A0_0 : Option Addr) (c0_0 : Nat) (l0_0 : List Int) (A1 : Option Addr) (c1 : Nat) (l1 : List Int) (r : List Int) (w : World) (hr0_0 : Kd.C (Kd.int .i64) w A0_0 l0_0.length l0_0) (hc0_0 : l0_0.length ≤ c0_0) (hr1 : Kd.C (Kd.int .i64) w A1 l1.length l1) (hc1 : l1.length ≤ c1) (h : spec_MaximalOf.f k l0_0 l1 = some r) :
  Calls Try.prog 16 #[.agg #[.slice A0_0 l0_0.length c0_0], .slice A1 l1.length c1] w fun e w' => ∃ v0_ : Value, e = .returned (v0_) ∧ Kd.R (Kd.int .i64) 3 w' w.heap.size (fun _ => True) v0_ r ∧ Below w.heap.size w w' := by
 have hu27 := Try.underlying27
 have HR0_0 := Aside0.mk hr0_0
 have HC0_0 := Aside0.mk hc0_0
 clear hr0_0 hc0_0
 have HR1 := Aside0.mk hr1
 have HC1 := Aside0.mk hc1
 clear hr1 hc1
 have HB := Aside0.mk (Below.refl w.heap.size w)
 have H : ((spec_l10Top.f k l0_0 l1 false).bind fun t235 => (some t235)) = some r := h
 clear h
 replace H := ga H; obtain ⟨t235, A3, H⟩ := H
 obtain rfl := Option.some.inj H
 go_enter Try.func16, Try.ntmps16
 go_wp2_with (first | ((with_reducible refine gate_dst (N := 2) rfl ?_); refine bx 2 #[.slice A0_0 l0_0.length c0_0] 27 ?_; intro gb234 hg w4 hbox hb; have BK234 := Aside0.mk (hbox); have GW234 := Aside0.mk (gs hg : w.heap.size ≤ gb234); have GE234 := Aside0.mk (gs hg : w.heap.size ≤ gb234); replace HB := Aside0.mk (below_step bw hb); clear hb hbox hg; have hcz5_0 := bc BK234 0 (.slice A0_0 l0_0.length c0_0); have hfz5_0 := blk_frozen BK234.out 0) | ((with_reducible refine gate_callee (f := 49) rfl ?_); refine gl (some 7) Try.func49 #[.agg #[.slice A0_0 l0_0.length c0_0], .slice A1 l1.length c1, .bool false] ?_; (with_reducible refine (spec_l10Top.calls k _ _ l0_0 _ _ l1 false t235 _ ?side1 ?side2 ?side3 ?side4 A3.out).mono ?_); (case side1 => exact co (Kd.C_below HR0_0.out HB.out)); (case side2 => exact HC0_0.out); (case side3 => exact co (Kd.C_below HR1.out HB.out)); (case side4 => exact HC1.out); rintro e w6 ⟨v236, rfl, ho0, hb⟩; refine ⟨_, rfl, ?_⟩; have HO237 := Aside0.mk (Kd.R_lower ho0 (below_size bw)); replace BK234 := Aside0.mk (blk_below (g := gb234) (o := .cells #[.slice A0_0 l0_0.length c0_0] 27 (0, 0)) (bo BK234.out) hb); replace HB := Aside0.mk (below_step bw hb); clear hb ho0))
 go_ret
 exact ⟨_, re, ro HO237.out, bw⟩


/-! ### impl_MaximalOf: function 19 -/
def impl_MaximalOf.p (p : Int → Option Bool) (x y : Int) : Option Bool := p (wrap64 (y - x))
def impl_MaximalOf.f (k : Nat) (l0_0 l1 : List Int) : Option (List Int) := (impl_reach.f k l0_0).bind fun p => impl_extreme.f k l0_0 l1 (impl_MaximalOf.p p)
set_option maxHeartbeats 8000000 in
theorem impl_MaximalOf.c1 (w : World) (g : Nat) (F : Value) (p : Int → Option Bool) (hbox : w.heap[g]? = some (.cells #[F] 47 (0, 0))) (hF : FnR1 Try.prog w F p) : FnR2 Try.prog w (.func (.func 52) #[] #[.pointer (some ⟨g, 0, none⟩)]) (impl_MaximalOf.p p) :=
 ⟨52, _, rfl, (fun args w => enters_ Try.func52 (by kernel_rfl) rfl args w), fun W hb x y b h => by
  obtain ⟨gF, lF, rfl, eF, hF⟩ := hF
  have hcz : W.cell? ⟨g, 0, none⟩ = some (.func (.func gF) #[] lF) := (blk_cell (blk_below hbox hb) 0).trans rfl
  have HB := Aside0.mk hb
  have h : p (wrap64 (y - x)) = some b := h
  clear hbox hb
  show Calls Try.prog 52 #[.int .i64 x, .int .i64 y, .pointer (some ⟨g, 0, none⟩)] W _
  go_enter Try.func52, Try.ntmps52
  go_wp2_with (first | (go_at_fn gF; (with_reducible refine (hF _ bw (wrap64 (y - x)) b h).mono ?_); rintro e w' ⟨rfl, ⟨nd, rfl⟩⟩))
  go_ret
  exact ⟨re, dw⟩⟩
set_option maxHeartbeats 8000000 in
set_option maxRecDepth 100000 in
theorem impl_MaximalOf.calls (k : Nat) (A0_0 : Option Addr) (c0_0 : Nat) (l0_0 : List Int) (A1 : Option Addr) (c1 : Nat) (l1 : List Int) (r : List Int) (w : World) (hr0_0 : Kd.C (Kd.int .i64) w A0_0 l0_0.length l0_0) (hc0_0 : l0_0.length ≤ c0_0) (hr1 : Kd.C (Kd.int .i64) w A1 l1.length l1) (hc1 : l1.length ≤ c1) (h : impl_MaximalOf.f k l0_0 l1 = some r) :
  Calls Try.prog 19 #[.agg #[.slice A0_0 l0_0.length c0_0], .slice A1 l1.length c1] w fun e w' => ∃ v0_ : Value, e = .returned v0_ ∧ Kd.R (Kd.int .i64) 3 w' w.heap.size (fun _ => True) v0_ r ∧ Below w.heap.size w w' := by
 have hu27 := Try.underlying27
 have HR0_0 := Aside0.mk hr0_0
 have HC0_0 := Aside0.mk hc0_0
 have HR1 := Aside0.mk hr1
 have HC1 := Aside0.mk hc1
 clear hr0_0 hc0_0 hr1 hc1
 have HB := Aside0.mk (Below.refl w.heap.size w)
 have H : ((impl_reach.f k l0_0).bind fun p => impl_extreme.f k l0_0 l1 (impl_MaximalOf.p p)) = some r := h
 clear h
 replace H := ga H; obtain ⟨t1, A1_, H⟩ := H
 have A2_ := Aside0.mk H
 clear H
 go_enter Try.func19, Try.ntmps19
 go_wp2_with (first | ((with_reducible refine gate_dst (N := 2) rfl ?_); refine bx 2 #[.slice A0_0 l0_0.length c0_0] 27 ?_; intro gb1 hg w1 hbox hb; have BK1 := Aside0.mk hbox; replace HB := Aside0.mk (below_step bw hb); clear hb hbox hg; have hcz1 := bc BK1 0 (.slice A0_0 l0_0.length c0_0); have hfz1 := blk_frozen BK1.out 0) | ((with_reducible refine gate_callee (f := 50) rfl ?_); refine gl (some 7) Try.func50 #[.agg #[.slice A0_0 l0_0.length c0_0]] ?_; (with_reducible refine (impl_reach.calls k _ _ l0_0 t1 _ ?side1 ?side2 A1_.out).mono ?_); (case side1 => exact co (Kd.C_below HR0_0.out HB.out)); (case side2 => exact HC0_0.out); rintro e w2 ⟨F_t1, rfl, hF_t1, hb⟩; refine ⟨_, rfl, ?_⟩; clear hcz1 hfz1; replace BK1 := Aside0.mk (blk_below (g := gb1) (o := .cells #[.slice A0_0 l0_0.length c0_0] 27 (0, 0)) (bo BK1.out) hb); have HW_ := Aside0.mk (below_step bw hb : Below w.heap.size w w2); replace HR0_0 := Aside0.mk (Kd.C_below HR0_0.out HW_.out); replace HR1 := Aside0.mk (Kd.C_below HR1.out HW_.out); clear HB hb; have HB := Aside0.mk (Below.refl w2.heap.size w2); obtain ⟨gF, lF, eF_⟩ : ∃ g lb, F_t1 = .func (.func g) #[] lb := (by obtain ⟨g, lb, h, _⟩ := hF_t1; exact ⟨g, lb, h⟩); subst eF_; have HF_ := Aside0.mk hF_t1; clear hF_t1; obtain ⟨w, rfl⟩ : ∃ x_, x_ = w2 := ⟨_, rfl⟩; have hcz1 := bc BK1 0 (.slice A0_0 l0_0.length c0_0); have hfz1 := blk_frozen BK1.out 0) | ((with_reducible refine gate_dst (N := 5) rfl ?_); refine bx 5 #[.nilFunc] 47 ?_; intro gb2 hg w3 hbox hb; have GE2 := Aside0.mk (gs hg : w.heap.size ≤ gb2); have NB12 := Aside0.mk ((by rw [hg]; exact Nat.ne_of_lt (blk_lt (g := gb1) (o := .cells #[.slice A0_0 l0_0.length c0_0] 27 (0, 0)) (bo BK1.out)) : gb1 ≠ gb2)); clear hcz1 hfz1; replace BK1 := Aside0.mk (blk_below (g := gb1) (o := .cells #[.slice A0_0 l0_0.length c0_0] 27 (0, 0)) (bo BK1.out) hb); have BK2 := Aside0.mk hbox; replace HB := Aside0.mk (below_step bw hb); clear hb hbox hg; have hnb1 := NB12.out; have hnc1 := NB12.out.symm; have hcz1 := bc BK1 0 (.slice A0_0 l0_0.length c0_0); have hfz1 := blk_frozen BK1.out 0; have hcz2 := bc BK2 0 .nilFunc; have hfz2 := blk_frozen BK2.out 0) | ((with_reducible refine gate_callee (f := 51) rfl ?_); refine gl (some 11) Try.func51 #[.agg #[.slice A0_0 l0_0.length c0_0], .slice A1 l1.length c1, .func (.func 52) #[] #[.pointer (some ⟨gb2, 0, none⟩)]] ?_; (with_reducible refine (impl_extreme.calls k _ _ l0_0 _ _ l1 (impl_MaximalOf.p t1) (.func (.func 52) #[] #[.pointer (some ⟨gb2, 0, none⟩)]) r _ ?side1 ?side2 ?side3 ?side4 ?side5 A2_.out).mono ?_); (case side1 => exact Kd.C_below HR0_0.out bw); (case side2 => exact HC0_0.out); (case side3 => exact Kd.C_below HR1.out bw); (case side4 => exact HC1.out); (case side5 => exact impl_MaximalOf.c1 _ gb2 (.func (.func gF) #[] lF) t1 (by (with_reducible repeat (first | refine blk_drewN ?_ _ | refine blk_drew ?_ | refine blk_alloc ?_ _)); exact blk_put (cs := #[.nilFunc]) (bo BK2.out) 0 _ rfl) (FnR1.below HF_.out bw)); rintro e w4 ⟨v, rfl, ho0, hb⟩; refine ⟨_, rfl, ?_⟩; have HO := Aside0.mk (Kd.R_lower ho0 (below_size bw)); replace HB := Aside0.mk (below_step bw hb); clear hb ho0))
 go_ret
 exact ⟨_, rfl, Kd.R_lower (ro HO.out) (below_size HW_.out), below_step HW_.out bw⟩

end Go.Proofs.Ytiejmnnnjmmifaa.C
