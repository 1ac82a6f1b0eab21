/- Contracts of functions of the program: impl_MinimalIn, impl_idealList, impl_IdealGens, spec_Gaps, spec_l10All, spec_l10Top, spec_MinimalIn, spec_l16Valid, spec_IdealGens. -/
import Derived.Test.YtkfplkdchkmgbaaC0
import Derived.Test.YtkfplkdchkmgbaaC1
import Derived.Test.YtkfplkdchkmgbaaC2
import Derived.Test.YtkfplkdchkmgbaaC3
import Derived.Test.YtkfplkdchkmgbaaC6
import Derived.Test.YtkfplkdchkmgbaaC17
namespace Go.Proofs.Ytkfplkdchkmgbaa.C
open Go.RowKit Go.Proofs.YtkfplkdchkmgbaaW.PrintWords Go.Proofs.YtkfplkdchkmgbaaW.PrintLast Go.Proofs.YtkfplkdchkmgbaaW.PrintMore
attribute [local go_sem] max2_int min2_int max_two min_two max_three min_three max_four min_four
set_option linter.unusedVariables false
set_option linter.unusedSimpArgs false

/-! ### impl_MinimalIn: function 122 -/
def impl_MinimalIn.p (p : Int → Option Bool) (x y : Int) : Option Bool := p (wrap64 (x - y))
def impl_MinimalIn.f (k : Nat) (l0_0 l1 : List Int) : Option (List Int) := (impl_reach.f k l0_0).bind fun p => impl_extreme.f k l0_0 l1 (impl_MinimalIn.p p)
set_option maxHeartbeats 8000000 in
theorem impl_MinimalIn.c1 (w : World) (g : Nat) (F : Value) (p : Int → Option Bool) (hbox : w.heap[g]? = some (.cells #[F] 106 (0, 0))) (hF : FnR1 Try.prog w F p) : FnR2 Try.prog w (.func (.func 210) #[] #[.pointer (some ⟨g, 0, none⟩)]) (impl_MinimalIn.p p) :=
 ⟨210, _, rfl, (fun args w => enters_ Try.func210 (by kernel_rfl) rfl args w), fun W hb x y b h => by
  obtain ⟨gF, lF, rfl, eF, hF⟩ := hF
  have hcz : W.cell? ⟨g, 0, none⟩ = some (.func (.func gF) #[] lF) := (blk_cell (blk_below hbox hb) 0).trans rfl
  have HB := Aside0.mk hb
  have h : p (wrap64 (x - y)) = some b := h
  clear hbox hb
  show Calls Try.prog 210 #[.int .i64 x, .int .i64 y, .pointer (some ⟨g, 0, none⟩)] W _
  go_enter Try.func210, Try.ntmps210
  go_wp2_with (first | (go_at_fn gF; (with_reducible refine (hF _ bw (wrap64 (x - y)) b h).mono ?_); rintro e w' ⟨rfl, ⟨nd, rfl⟩⟩))
  go_ret
  exact ⟨re, dw⟩⟩
set_option maxHeartbeats 8000000 in
set_option maxRecDepth 100000 in
theorem impl_MinimalIn.calls (k : Nat) (A0_0 : Option Addr) (c0_0 : Nat) (l0_0 : List Int) (A1 : Option Addr) (c1 : Nat) (l1 : List Int) (r : List Int) (w : World) (hr0_0 : Kd.C (Kd.int .i64) w A0_0 l0_0.length l0_0) (hc0_0 : l0_0.length ≤ c0_0) (hr1 : Kd.C (Kd.int .i64) w A1 l1.length l1) (hc1 : l1.length ≤ c1) (h : impl_MinimalIn.f k l0_0 l1 = some r) :
  Calls Try.prog 122 #[.agg #[.slice A0_0 l0_0.length c0_0], .slice A1 l1.length c1] w fun e w' => ∃ v0_ : Value, e = .returned v0_ ∧ Kd.R (Kd.int .i64) 3 w' w.heap.size (fun _ => True) v0_ r ∧ Below w.heap.size w w' := by
 have hu27 := Try.underlying26
 have HR0_0 := Aside0.mk hr0_0
 have HC0_0 := Aside0.mk hc0_0
 have HR1 := Aside0.mk hr1
 have HC1 := Aside0.mk hc1
 clear hr0_0 hc0_0 hr1 hc1
 have HB := Aside0.mk (Below.refl w.heap.size w)
 have H : ((impl_reach.f k l0_0).bind fun p => impl_extreme.f k l0_0 l1 (impl_MinimalIn.p p)) = some r := h
 clear h
 replace H := ga H; obtain ⟨t1, A1_, H⟩ := H
 have A2_ := Aside0.mk H
 clear H
 go_enter Try.func122, Try.ntmps122
 go_wp2_with (first | ((with_reducible refine gate_dst (N := 2) rfl ?_); refine bx 2 #[.slice A0_0 l0_0.length c0_0] 26 ?_; intro gb1 hg w1 hbox hb; have BK1 := Aside0.mk hbox; replace HB := Aside0.mk (below_step bw hb); clear hb hbox hg; have hcz1 := bc BK1 0 (.slice A0_0 l0_0.length c0_0); have hfz1 := blk_frozen BK1.out 0) | ((with_reducible refine gate_callee (f := 152) rfl ?_); refine gl (some 7) Try.func152 #[.agg #[.slice A0_0 l0_0.length c0_0]] ?_; (with_reducible refine (impl_reach.calls k _ _ l0_0 t1 _ ?side1 ?side2 A1_.out).mono ?_); (case side1 => exact co (Kd.C_below HR0_0.out HB.out)); (case side2 => exact HC0_0.out); rintro e w2 ⟨F_t1, rfl, hF_t1, hb⟩; refine ⟨_, rfl, ?_⟩; clear hcz1 hfz1; replace BK1 := Aside0.mk (blk_below (g := gb1) (o := .cells #[.slice A0_0 l0_0.length c0_0] 26 (0, 0)) (bo BK1.out) hb); have HW_ := Aside0.mk (below_step bw hb : Below w.heap.size w w2); replace HR0_0 := Aside0.mk (Kd.C_below HR0_0.out HW_.out); replace HR1 := Aside0.mk (Kd.C_below HR1.out HW_.out); clear HB hb; have HB := Aside0.mk (Below.refl w2.heap.size w2); obtain ⟨gF, lF, eF_⟩ : ∃ g lb, F_t1 = .func (.func g) #[] lb := (by obtain ⟨g, lb, h, _⟩ := hF_t1; exact ⟨g, lb, h⟩); subst eF_; have HF_ := Aside0.mk hF_t1; clear hF_t1; obtain ⟨w, rfl⟩ : ∃ x_, x_ = w2 := ⟨_, rfl⟩; have hcz1 := bc BK1 0 (.slice A0_0 l0_0.length c0_0); have hfz1 := blk_frozen BK1.out 0) | ((with_reducible refine gate_dst (N := 5) rfl ?_); refine bx 5 #[.nilFunc] 106 ?_; intro gb2 hg w3 hbox hb; have GE2 := Aside0.mk (gs hg : w.heap.size ≤ gb2); have NB12 := Aside0.mk ((by rw [hg]; exact Nat.ne_of_lt (blk_lt (g := gb1) (o := .cells #[.slice A0_0 l0_0.length c0_0] 26 (0, 0)) (bo BK1.out)) : gb1 ≠ gb2)); clear hcz1 hfz1; replace BK1 := Aside0.mk (blk_below (g := gb1) (o := .cells #[.slice A0_0 l0_0.length c0_0] 26 (0, 0)) (bo BK1.out) hb); have BK2 := Aside0.mk hbox; replace HB := Aside0.mk (below_step bw hb); clear hb hbox hg; have hnb1 := NB12.out; have hnc1 := NB12.out.symm; have hcz1 := bc BK1 0 (.slice A0_0 l0_0.length c0_0); have hfz1 := blk_frozen BK1.out 0; have hcz2 := bc BK2 0 .nilFunc; have hfz2 := blk_frozen BK2.out 0) | ((with_reducible refine gate_callee (f := 208) rfl ?_); refine gl (some 11) Try.func208 #[.agg #[.slice A0_0 l0_0.length c0_0], .slice A1 l1.length c1, .func (.func 210) #[] #[.pointer (some ⟨gb2, 0, none⟩)]] ?_; (with_reducible refine (impl_extreme.calls k _ _ l0_0 _ _ l1 (impl_MinimalIn.p t1) (.func (.func 210) #[] #[.pointer (some ⟨gb2, 0, none⟩)]) r _ ?side1 ?side2 ?side3 ?side4 ?side5 A2_.out).mono ?_); (case side1 => exact Kd.C_below HR0_0.out bw); (case side2 => exact HC0_0.out); (case side3 => exact Kd.C_below HR1.out bw); (case side4 => exact HC1.out); (case side5 => exact impl_MinimalIn.c1 _ gb2 (.func (.func gF) #[] lF) t1 (by (with_reducible repeat (first | refine blk_drewN ?_ _ | refine blk_drew ?_ | refine blk_alloc ?_ _)); exact blk_put (cs := #[.nilFunc]) (bo BK2.out) 0 _ rfl) (FnR1.below HF_.out bw)); rintro e w4 ⟨v, rfl, ho0, hb⟩; refine ⟨_, rfl, ?_⟩; have HO := Aside0.mk (Kd.R_lower ho0 (below_size bw)); replace HB := Aside0.mk (below_step bw hb); clear hb ho0))
 go_ret
 exact ⟨_, rfl, Kd.R_lower (ro HO.out) (below_size HW_.out), below_step HW_.out bw⟩


/-! ### impl_idealList: function 199 -/
def impl_idealList.f (k : Nat) (l0 : List Int) : Option (Bool) := (impl_within.f (l0.length : Int) 1 20).bind fun t975 => (if t975 = true then ((impl_allWithin.f k l0 (-200) 200).bind fun t976 => (some t976)) else (some false))
set_option maxHeartbeats 8000000 in
set_option maxRecDepth 100000 in
theorem impl_idealList.calls (k : Nat) (A0 : Option Addr) (c0 : Nat) (l0 : List Int) (r : Bool) (w : World) (hr0 : Kd.C (Kd.int .i64) w A0 l0.length l0) (hc0 : l0.length ≤ c0) (h : impl_idealList.f k l0 = some r) :
  Calls Try.prog 199 #[.slice A0 l0.length c0] w fun e w' => e = .returned (.bool r) ∧ Drawn0 w w' := by
 have HR0 := am hr0
 have HC0 := am hc0
 clear hr0 hc0
 have H : ((impl_within.f (l0.length : Int) 1 20).bind fun t975 => (if t975 = true then ((impl_allWithin.f k l0 (-200) 200).bind fun t976 => (some t976)) else (some false))) = some r := h
 clear h
 replace H := ga H; obtain ⟨t975, A2, H⟩ := H
 replace H := gb H; obtain ⟨rfl, H⟩ | ⟨rfl, H⟩ := H
 ·replace H := ga H; obtain ⟨t976, A4, H⟩ := H
  obtain rfl := Option.some.inj H
  go_enter Try.func199, Try.ntmps199
  go_wp2_with (first | ((with_reducible refine gate_callee (f := 139) rfl ?_); refine gl (some 5) Try.func139 #[.int .i64 (l0.length : Int), .int .i64 1, .int .i64 20] ?_; (with_reducible refine (impl_within.calls (l0.length : Int) 1 20 true _ A2.out).mono ?_); rintro e w' ⟨rfl, ⟨nd, rfl⟩⟩; refine ⟨_, rfl, ?_⟩) | (go_at_call 135; (with_reducible refine (impl_allWithin.calls k _ _ l0 (-200) 200 t976 _ ?side1 ?side2 A4.out).mono ?_); (case side1 => exact co HR0.out); (case side2 => exact HC0.out); rintro e w' ⟨rfl, ⟨nd, rfl⟩⟩))
  go_ret
  exact ⟨rr, dw⟩
 obtain rfl := Option.some.inj H
 go_enter Try.func199, Try.ntmps199
 go_wp2_with (first | ((with_reducible refine gate_callee (f := 139) rfl ?_); refine gl (some 5) Try.func139 #[.int .i64 (l0.length : Int), .int .i64 1, .int .i64 20] ?_; (with_reducible refine (impl_within.calls (l0.length : Int) 1 20 false _ A2.out).mono ?_); rintro e w' ⟨rfl, ⟨nd, rfl⟩⟩; refine ⟨_, rfl, ?_⟩))
 go_ret
 exact ⟨rr, dw⟩


/-! ### impl_IdealGens: function 91 -/
def impl_IdealGens.f (k : Nat) (l0_0 : List Int) (l1 : List Int) : Option (List Int) := (impl_IsSemigroup.f k l0_0).bind fun t978 => (if t978 = true then ((impl_idealList.f k l1).bind fun t979 => (if t979 = true then ((impl_MinimalIn.f k l0_0 l1).bind fun t980 => (some t980)) else (some ([] : List Int)))) else (some ([] : List Int)))
set_option maxHeartbeats 8000000 in
set_option maxRecDepth 100000 in
theorem impl_IdealGens.calls (k : Nat) (A0_0 : Option Addr) (c0_0 : Nat) (l0_0 : List Int) (A1 : Option Addr) (c1 : Nat) (l1 : List Int) (r : List Int) (w : World) (hr0_0 : Kd.C (Kd.int .i64) w A0_0 l0_0.length l0_0) (hc0_0 : l0_0.length ≤ c0_0) (hr1 : Kd.C (Kd.int .i64) w A1 l1.length l1) (hc1 : l1.length ≤ c1) (h : impl_IdealGens.f k l0_0 l1 = some r) :
  Calls Try.prog 91 #[.agg #[.slice A0_0 l0_0.length c0_0], .slice A1 l1.length c1] w fun e w' => ∃ v0_ : Value, e = .returned (v0_) ∧ Kd.R (Kd.int .i64) 3 w' w.heap.size (fun _ => True) v0_ r ∧ Below w.heap.size w w' := by
 have hu26 := Try.underlying26
 have HR0_0 := am hr0_0
 have HC0_0 := am hc0_0
 clear hr0_0 hc0_0
 have HR1 := am hr1
 have HC1 := am hc1
 clear hr1 hc1
 have HB := am (Below.refl w.heap.size w)
 have H : ((impl_IsSemigroup.f k l0_0).bind fun t978 => (if t978 = true then ((impl_idealList.f k l1).bind fun t979 => (if t979 = true then ((impl_MinimalIn.f k l0_0 l1).bind fun t980 => (some t980)) else (some ([] : List Int)))) else (some ([] : List Int)))) = some r := h
 clear h
 replace H := ga H; obtain ⟨t978, A3, H⟩ := H
 replace H := gb H; obtain ⟨rfl, H⟩ | ⟨rfl, H⟩ := H
 ·replace H := ga H; obtain ⟨t979, A5, H⟩ := H
  replace H := gb H; obtain ⟨rfl, H⟩ | ⟨rfl, H⟩ := H
  ·replace H := ga H; obtain ⟨t980, A7, H⟩ := H
   obtain rfl := Option.some.inj H
   go_enter Try.func91, Try.ntmps91
   go_wp2_with (first | ((with_reducible refine gate_dst (N := 2) rfl ?_); refine bx 2 #[.slice A0_0 l0_0.length c0_0] 26 ?_; intro gb977 hg w8 hbox hb; have BK977 := am (hbox); have GW977 := am (gs hg : w.heap.size ≤ gb977); have GE977 := GW977; replace HB := am (below_step bw hb); clear hb hbox hg; have hcz9_0 := bc BK977 0 (.slice A0_0 l0_0.length c0_0); have hfz9_0 := blk_frozen BK977.out 0) | ((with_reducible refine gate_callee (f := 151) rfl ?_); refine gl (some 6) Try.func151 #[.agg #[.slice A0_0 l0_0.length c0_0]] ?_; (with_reducible refine (impl_IsSemigroup.calls k _ _ l0_0 true _ ?side1 ?side2 A3.out).mono ?_); (case side1 => exact co (Kd.C_below HR0_0.out HB.out)); (case side2 => exact HC0_0.out); rintro e w10 ⟨rfl, hb⟩; refine ⟨_, rfl, ?_⟩; replace BK977 := kb BK977 hb; replace HB := am (below_step bw hb); clear hb) | (go_at_call 199; (with_reducible refine (impl_idealList.calls k _ _ l1 true _ ?side1 ?side2 A5.out).mono ?_); (case side1 => exact co (Kd.C_below HR1.out HB.out)); (case side2 => exact HC1.out); rintro e w' ⟨rfl, ⟨nd, rfl⟩⟩; have hcz11_0 := bc BK977 0 (.slice A0_0 l0_0.length c0_0); have hfz11_0 := blk_frozen BK977.out 0) | ((with_reducible refine gate_callee (f := 122) rfl ?_); refine gl (some 15) Try.func122 #[.agg #[.slice A0_0 l0_0.length c0_0], .slice A1 l1.length c1] ?_; (with_reducible refine (impl_MinimalIn.calls k _ _ l0_0 _ _ l1 t980 _ ?side1 ?side2 ?side3 ?side4 A7.out).mono ?_); (case side1 => exact co (Kd.C_below HR0_0.out bw)); (case side2 => exact HC0_0.out); (case side3 => exact co (Kd.C_below HR1.out bw)); (case side4 => exact HC1.out); rintro e w12 ⟨v981, rfl, ho0, hb⟩; refine ⟨_, rfl, ?_⟩; have HO982 := am (Kd.R_lower ho0 (below_size bw)); replace BK977 := kb BK977 hb; replace HB := am (below_step bw hb); clear hb ho0))
   go_ret
   exact ⟨_, re, ro HO982.out, bw⟩
  obtain rfl := Option.some.inj H
  go_enter Try.func91, Try.ntmps91
  go_wp2_with (first | ((with_reducible refine gate_dst (N := 2) rfl ?_); refine bx 2 #[.slice A0_0 l0_0.length c0_0] 26 ?_; intro gb977 hg w13 hbox hb; have BK977 := am (hbox); have GW977 := am (gs hg : w.heap.size ≤ gb977); have GE977 := GW977; replace HB := am (below_step bw hb); clear hb hbox hg; have hcz14_0 := bc BK977 0 (.slice A0_0 l0_0.length c0_0); have hfz14_0 := blk_frozen BK977.out 0) | ((with_reducible refine gate_callee (f := 151) rfl ?_); refine gl (some 6) Try.func151 #[.agg #[.slice A0_0 l0_0.length c0_0]] ?_; (with_reducible refine (impl_IsSemigroup.calls k _ _ l0_0 true _ ?side1 ?side2 A3.out).mono ?_); (case side1 => exact co (Kd.C_below HR0_0.out HB.out)); (case side2 => exact HC0_0.out); rintro e w15 ⟨rfl, hb⟩; refine ⟨_, rfl, ?_⟩; replace BK977 := kb BK977 hb; replace HB := am (below_step bw hb); clear hb) | (go_at_call 199; (with_reducible refine (impl_idealList.calls k _ _ l1 false _ ?side1 ?side2 A5.out).mono ?_); (case side1 => exact co (Kd.C_below HR1.out HB.out)); (case side2 => exact HC1.out); rintro e w' ⟨rfl, ⟨nd, rfl⟩⟩))
  go_ret
  exact ⟨_, re, by first | exact Kd.R_nil _ _ _ _ _ | exact Kd.N_nil _ _ _ _ _ | exact Kd.V_nil _ _ _ _ _ | exact Kd.Q_nil _ _ _ _ _ | exact Kd.S_nil _ _ _ _ _, bw⟩
 obtain rfl := Option.some.inj H
 go_enter Try.func91, Try.ntmps91
 go_wp2_with (first | ((with_reducible refine gate_dst (N := 2) rfl ?_); refine bx 2 #[.slice A0_0 l0_0.length c0_0] 26 ?_; intro gb977 hg w16 hbox hb; have BK977 := am (hbox); have GW977 := am (gs hg : w.heap.size ≤ gb977); have GE977 := GW977; replace HB := am (below_step bw hb); clear hb hbox hg; have hcz17_0 := bc BK977 0 (.slice A0_0 l0_0.length c0_0); have hfz17_0 := blk_frozen BK977.out 0) | ((with_reducible refine gate_callee (f := 151) rfl ?_); refine gl (some 6) Try.func151 #[.agg #[.slice A0_0 l0_0.length c0_0]] ?_; (with_reducible refine (impl_IsSemigroup.calls k _ _ l0_0 false _ ?side1 ?side2 A3.out).mono ?_); (case side1 => exact co (Kd.C_below HR0_0.out HB.out)); (case side2 => exact HC0_0.out); rintro e w18 ⟨rfl, hb⟩; refine ⟨_, rfl, ?_⟩; replace BK977 := kb BK977 hb; replace HB := am (below_step bw hb); clear hb))
 go_ret
 exact ⟨_, re, by first | exact Kd.R_nil _ _ _ _ _ | exact Kd.N_nil _ _ _ _ _ | exact Kd.V_nil _ _ _ _ _ | exact Kd.Q_nil _ _ _ _ _ | exact Kd.S_nil _ _ _ _ _, bw⟩


/-! ### spec_Gaps: function 94 -/
def spec_Gaps.f (k : Nat) (l0_0 : List Int) : Option (List Int) := (spec_IsSemigroup.f k l0_0).bind fun t984 => (if t984 = true then ((spec_l4Gaps.f k l0_0).bind fun t985 => (some t985)) else (some (([] : List Int))))
set_option maxHeartbeats 8000000 in
set_option maxRecDepth 100000 in
theorem spec_Gaps.calls (k : Nat) (A0_0 : Option Addr) (c0_0 : Nat) (l0_0 : List Int) (r : List Int) (w : World) (hr0_0 : Kd.C (Kd.int .i64) w A0_0 l0_0.length l0_0) (hc0_0 : l0_0.length ≤ c0_0) (h : spec_Gaps.f k l0_0 = some r) :
  Calls Try.prog 94 #[.agg #[.slice A0_0 l0_0.length c0_0]] w fun e w' => ∃ v0_ : Value, e = .returned (v0_) ∧ Kd.R (Kd.int .i64) 3 w' w.heap.size (fun _ => True) v0_ r ∧ Below w.heap.size w w' := by
 have hu26 := Try.underlying26
 have HR0_0 := am hr0_0
 have HC0_0 := am hc0_0
 clear hr0_0 hc0_0
 have HB := am (Below.refl w.heap.size w)
 have H : ((spec_IsSemigroup.f k l0_0).bind fun t984 => (if t984 = true then ((spec_l4Gaps.f k l0_0).bind fun t985 => (some t985)) else (some (([] : List Int))))) = some r := h
 clear h
 replace H := ga H; obtain ⟨t984, A2, H⟩ := H
 replace H := gb H; obtain ⟨rfl, H⟩ | ⟨rfl, H⟩ := H
 ·replace H := ga H; obtain ⟨t985, A4, H⟩ := H
  obtain rfl := Option.some.inj H
  go_enter Try.func94, Try.ntmps94
  go_wp2_with (first | ((with_reducible refine gate_dst (N := 1) rfl ?_); refine bx 1 #[.slice A0_0 l0_0.length c0_0] 26 ?_; intro gb983 hg w5 hbox hb; have BK983 := am (hbox); have GW983 := am (gs hg : w.heap.size ≤ gb983); have GE983 := GW983; replace HB := am (below_step bw hb); clear hb hbox hg; have hcz6_0 := bc BK983 0 (.slice A0_0 l0_0.length c0_0); have hfz6_0 := blk_frozen BK983.out 0) | ((with_reducible refine gate_callee (f := 23) rfl ?_); refine gl (some 4) Try.func23 #[.agg #[.slice A0_0 l0_0.length c0_0]] ?_; (with_reducible refine (spec_IsSemigroup.calls k _ _ l0_0 true _ ?side1 ?side2 A2.out).mono ?_); (case side1 => exact co (Kd.C_below HR0_0.out HB.out)); (case side2 => exact HC0_0.out); rintro e w7 ⟨rfl, hb⟩; refine ⟨_, rfl, ?_⟩; replace BK983 := kb BK983 hb; replace HB := am (below_step bw hb); clear hb; have hcz8_0 := bc BK983 0 (.slice A0_0 l0_0.length c0_0); have hfz8_0 := blk_frozen BK983.out 0) | ((with_reducible refine gate_callee (f := 149) rfl ?_); refine gl (some 8) Try.func149 #[.agg #[.slice A0_0 l0_0.length c0_0]] ?_; (with_reducible refine (spec_l4Gaps.calls k _ _ l0_0 t985 _ ?side1 ?side2 A4.out).mono ?_); (case side1 => exact co (Kd.C_below HR0_0.out HB.out)); (case side2 => exact HC0_0.out); rintro e w9 ⟨v986, rfl, ho0, hb⟩; refine ⟨_, rfl, ?_⟩; have HO987 := am (Kd.R_lower ho0 (below_size bw)); replace BK983 := kb BK983 hb; replace HB := am (below_step bw hb); clear hb ho0))
  go_ret
  exact ⟨_, re, ro HO987.out, bw⟩
 obtain ⟨y988, hy988⟩ : ∃ y_ : List Int, y_ = (([] : List Int)) := ⟨_, rfl⟩
 replace H : (some y988) = some r := by first | (rw [hy988]; with_reducible first | exact H | exact bs H) | (with_reducible first | exact bs H | exact H) | (rw [hy988]; exact H) | exact H
 have Ny988 := am hy988
 clear hy988
 obtain rfl := Option.some.inj H
 go_enter Try.func94, Try.ntmps94
 go_wp2_with (first | ((with_reducible refine gate_dst (N := 1) rfl ?_); refine bx 1 #[.slice A0_0 l0_0.length c0_0] 26 ?_; intro gb983 hg w10 hbox hb; have BK983 := am (hbox); have GW983 := am (gs hg : w.heap.size ≤ gb983); have GE983 := GW983; replace HB := am (below_step bw hb); clear hb hbox hg; have hcz11_0 := bc BK983 0 (.slice A0_0 l0_0.length c0_0); have hfz11_0 := blk_frozen BK983.out 0) | ((with_reducible refine gate_callee (f := 23) rfl ?_); refine gl (some 4) Try.func23 #[.agg #[.slice A0_0 l0_0.length c0_0]] ?_; (with_reducible refine (spec_IsSemigroup.calls k _ _ l0_0 false _ ?side1 ?side2 A2.out).mono ?_); (case side1 => exact co (Kd.C_below HR0_0.out HB.out)); (case side2 => exact HC0_0.out); rintro e w12 ⟨rfl, hb⟩; refine ⟨_, rfl, ?_⟩; replace BK983 := kb BK983 hb; replace HB := am (below_step bw hb); clear hb) | ((with_reducible refine gate_dst (N := 6) rfl ?_); refine Kd.R_lit (Kd.int .i64) _ 3 ?hg (N := 6) ?hd (xs := ([] : List Int)) (inner := []) (ok := fun _ => True) (okp := fun _ => True) ?hr ?hp (fun _ hk => hk) trivial (Below.refl _ _) (Nat.le_refl _) (by simp) ?_; (case hd => rfl); (case hg => rfl); (case hr => first | (go_simp; done) | (go_simp; rfl)); (case hp => exact (Reps.none _ _)); intro v989 w13 ho14 hb hg_ hnew_; clear hg_ hnew_; (first | rw [← Ny988.out] at ho14 | (simp only [Int.reduceToNat] at ho14; rw [← Ny988.out] at ho14)); have HO990 := am (Kd.R_lower ho14 (below_size bw)); replace BK983 := kb BK983 hb; replace HB := am (below_step bw hb); clear hb ho14))
 go_ret
 exact ⟨_, re, ro HO990.out, bw⟩


/-! ### spec_l10All: function 232 -/
def spec_l10All.l0 : Nat → List Int → Int → Option (Bool)
 | 0, _, _ => none
 | k + 1, x0, x3 => if x3 < (x0.length : Int) then (if 0 ≤ x3 then ((spec_l2Small.f (rd x0 x3)).bind fun t992 => (if t992 = true then (spec_l10All.l0 k x0 (wrap64 (x3 + 1))) else (some false))) else (none)) else (some true)
def spec_l10All.f (k : Nat) (l0 : List Int) : Option (Bool) := spec_l10All.l0 k l0 0
set_option maxHeartbeats 8000000 in
set_option maxRecDepth 100000 in
theorem spec_l10All.calls (k : Nat) (A0 : Option Addr) (c0 : Nat) (l0 : List Int) (r : Bool) (w : World) (hr0 : Kd.C (Kd.int .i64) w A0 l0.length l0) (hc0 : l0.length ≤ c0) (h : spec_l10All.f k l0 = some r) :
  Calls Try.prog 232 #[.slice A0 l0.length c0] w fun e w' => e = .returned (.bool r) ∧ Drawn0 w w' := by
 have HR0 := am hr0
 have HC0 := am hc0
 clear hr0 hc0
 have H : (spec_l10All.l0 k l0 0) = some r := h
 clear h
 have H' := am H
 clear H
 go_enter Try.func232, Try.ntmps232
 go_wp2
 go_loopg [3] k (fun kq v3 w' => ∃ (x3_1 : Int), v3 = .int .i64 x3_1 ∧ Aside0 (spec_l10All.l0 kq l0 x3_1 = some r) ∧ Aside0 (kq ≤ k) ∧ Drawn0 w w')
 case atStart => exact ⟨(0), rr, H', ⟨Nat.le_refl _⟩, dw⟩
 case round =>
  clear H'
  obtain ⟨x3_1, rfl, HA, HK1, ⟨m1, rfl⟩⟩ := hrel
  cases gk with
  | zero => exact absurd HA.out (by simp [spec_l10All.l0])
  | succ k1 =>
   have H := HA.out
   clear HA
   simp only [spec_l10All.l0] at H
   replace H := gi H; obtain ⟨c2b0, H⟩ | ⟨c2b0, H⟩ := H
   ·replace H := gd H; obtain ⟨c3b0, H⟩ := H
    replace H := ga H; obtain ⟨t992, A4, H⟩ := H
    replace H := gb H; obtain ⟨rfl, H⟩ | ⟨rfl, H⟩ := H
    ·have H' := am H
     clear H
     obtain ⟨⟨ad991, e991, hx991_0⟩, p991, q991⟩ := pq (Kd.at_int HR0.out x3_1)
     cases e991
     go_wp2_with (first | ((with_reducible refine gate_callee (f := 205) rfl ?_); refine gl (some 14) Try.func205 #[.int .i64 (rd l0 x3_1)] ?_; (with_reducible refine (spec_l2Small.calls (rd l0 x3_1) true _ A4.out).mono ?_); rintro e w' ⟨rfl, ⟨nd, rfl⟩⟩; refine ⟨_, rfl, ?_⟩))
     go_roundg k1
     case measure => have := HK1.out; omega
     case rel => exact ⟨(wrap64 (x3_1 + 1)), rr, H', ⟨by have := HK1.out; omega⟩, dw⟩
    obtain rfl := Option.some.inj H
    obtain ⟨⟨ad991, e991, hx991_0⟩, p991, q991⟩ := pq (Kd.at_int HR0.out x3_1)
    cases e991
    go_wp2_with (first | ((with_reducible refine gate_callee (f := 205) rfl ?_); refine gl (some 14) Try.func205 #[.int .i64 (rd l0 x3_1)] ?_; (with_reducible refine (spec_l2Small.calls (rd l0 x3_1) false _ A4.out).mono ?_); rintro e w' ⟨rfl, ⟨nd, rfl⟩⟩; refine ⟨_, rfl, ?_⟩))
    go_ret
    exact ⟨rr, dw⟩
   obtain rfl := Option.some.inj H
   go_wp2
   go_ret
   exact ⟨rr, dw⟩


/-! ### spec_l10Top: function 212 -/
mutual
def spec_l10Top.j0 : Nat → List Int → Bool → List Int → Bool → List Int → Option (List Int)
 | 0, _, _, _, _, _ => none
 | k + 1, x1, x2, x7, x21, x994000 => if x21 = true then (some x7) else (spec_l10Top.l0 k x1 x2 x7 0 x994000)
def spec_l10Top.l0 : Nat → List Int → Bool → List Int → Int → List Int → Option (List Int)
 | 0, _, _, _, _, _ => none
 | k + 1, x1, x2, x7, x8, x994000 => if x8 < (x1.length : Int) then (spec_l10Top.l1 k x1 x2 x7 x8 true 0 x994000) else ((spec_SortList.f k x7).bind fun t999 => (some t999))
def spec_l10Top.l1 : Nat → List Int → Bool → List Int → Int → Bool → Int → List Int → Option (List Int)
 | 0, _, _, _, _, _, _, _ => none
 | k + 1, x1, x2, x7, x8, x9, x10, x994000 => if x10 < (x1.length : Int) then (if 0 ≤ x8 then (if x8 < (x1.length : Int) then (if 0 ≤ x10 then (if x9 = true then (if (rd x1 x8) = (rd x1 x10) then (spec_l10Top.l1 k x1 x2 x7 x8 true (wrap64 (x10 + 1)) x994000) else (if x2 = true then ((spec_l3Has.f k x994000 (wrap64 ((rd x1 x8) - (rd x1 x10)))).bind fun t1004 => (spec_l10Top.l1 k x1 x2 x7 x8 (!t1004) (wrap64 (x10 + 1)) x994000)) else ((spec_l3Has.f k x994000 (wrap64 ((rd x1 x10) - (rd x1 x8)))).bind fun t1005 => (if t1005 = true then (spec_l10Top.l1 k x1 x2 x7 x8 false (wrap64 (x10 + 1)) x994000) else (spec_l10Top.l1 k x1 x2 x7 x8 true (wrap64 (x10 + 1)) x994000))))) else (spec_l10Top.l1 k x1 x2 x7 x8 false (wrap64 (x10 + 1)) x994000)) else (none)) else (none)) else (none)) else (if x9 = true then (if 0 ≤ x8 then (if x8 < (x1.length : Int) then (if x7.length < 17592186044416 then (spec_l10Top.l0 k x1 x2 (x7 ++ [rd x1 x8]) (wrap64 (x8 + 1)) x994000) else (none)) else (none)) else (none)) else (spec_l10Top.l0 k x1 x2 x7 (wrap64 (x8 + 1)) x994000))
end
def spec_l10Top.f (k : Nat) (l0_0 : List Int) (l1 : List Int) (a2 : Bool) : Option (List Int) := (some (([] : List Int) : List Int)).bind fun y994 => ((spec_IsSemigroup.f k l0_0).bind fun t997 => (if t997 = true then ((spec_l10All.f k l1).bind fun t998 => (spec_l10Top.j0 k l1 a2 y994 (!t998) l0_0)) else (spec_l10Top.j0 k l1 a2 y994 true l0_0)))
set_option maxHeartbeats 8000000 in
set_option maxRecDepth 100000 in
theorem spec_l10Top.calls (k : Nat) (A0_0 : Option Addr) (c0_0 : Nat) (l0_0 : List Int) (A1 : Option Addr) (c1 : Nat) (l1 : List Int) (a2 : Bool) (r : List Int) (w : World) (hr0_0 : Kd.C (Kd.int .i64) w A0_0 l0_0.length l0_0) (hc0_0 : l0_0.length ≤ c0_0) (hr1 : Kd.C (Kd.int .i64) w A1 l1.length l1) (hc1 : l1.length ≤ c1) (h : spec_l10Top.f k l0_0 l1 a2 = some r) :
  Calls Try.prog 212 #[.agg #[.slice A0_0 l0_0.length c0_0], .slice A1 l1.length c1, .bool a2] w fun e w' => ∃ v0_ : Value, e = .returned (v0_) ∧ Kd.R (Kd.int .i64) 3 w' w.heap.size (fun _ => True) v0_ r ∧ Below w.heap.size w w' := by
 have hu26 := Try.underlying26
 have HR0_0 := am hr0_0
 have HC0_0 := am hc0_0
 clear hr0_0 hc0_0
 have HR1 := am hr1
 have HC1 := am hc1
 clear hr1 hc1
 have HB := am (Below.refl w.heap.size w)
 have H : ((some (([] : List Int) : List Int)).bind fun y994 => ((spec_IsSemigroup.f k l0_0).bind fun t997 => (if t997 = true then ((spec_l10All.f k l1).bind fun t998 => (spec_l10Top.j0 k l1 a2 y994 (!t998) l0_0)) else (spec_l10Top.j0 k l1 a2 y994 true l0_0)))) = some r := h
 clear h
 obtain ⟨y994, hy994⟩ : ∃ y_ : List Int, y_ = (([] : List Int)) := ⟨_, rfl⟩
 replace H : ((spec_IsSemigroup.f k l0_0).bind fun t997 => (if t997 = true then ((spec_l10All.f k l1).bind fun t998 => (spec_l10Top.j0 k l1 a2 y994 (!t998) l0_0)) else (spec_l10Top.j0 k l1 a2 y994 true l0_0))) = some r := by first | (rw [hy994]; with_reducible first | exact H | exact bs H) | (with_reducible first | exact bs H | exact H) | (rw [hy994]; exact H) | exact H
 have Ny994 := am hy994
 clear hy994
 have HC4 := am H
 clear H
 go_enter Try.func212, Try.ntmps212
 go_upto_region 2 with (first | ((with_reducible refine gate_dst (N := 3) rfl ?_); refine bx 3 #[.slice A0_0 l0_0.length c0_0] 26 ?_; intro gb993 hg w5 hbox hb; have BK993 := am (hbox); have GW993 := am (gs hg : w.heap.size ≤ gb993); have GE993 := GW993; replace HB := am (below_step bw hb); clear hb hbox hg) | ((with_reducible refine gate_dst (N := 13) rfl ?_); refine Kd.R_lit (Kd.int .i64) _ 3 ?hg (N := 13) ?hd (xs := ([] : List Int)) (inner := []) (ok := fun _ => True) (okp := fun _ => True) ?hr ?hp (fun _ hk => hk) trivial (Below.refl _ _) (Nat.le_refl _) (by simp) ?_; (case hd => rfl); (case hg => rfl); (case hr => first | (go_simp; done) | (go_simp; rfl)); (case hp => exact (Reps.none _ _)); intro v995 w6 ho7 hb hg_ hnew_; clear hg_ hnew_; (first | rw [← Ny994.out] at ho7 | (simp only [Int.reduceToNat] at ho7; rw [← Ny994.out] at ho7)); have HO996 := am (Kd.R_lower ho7 (below_size bw)); replace BK993 := kb BK993 hb; replace HB := am (below_step bw hb); clear hb ho7))
 (try simp only [Act.put, List.setIfInBounds_toArray, List.set_cons_zero, List.set_cons_succ])
 go_cut [21] (fun v21 wc => ∃ (kq : Nat) (x21_3 : Bool), v21 = .bool x21_3 ∧ Aside0 (spec_l10Top.j0 kq l1 a2 y994 x21_3 l0_0 = some r) ∧ Aside0 (kq ≤ k) ∧ Aside0 (Kd.R (Kd.int .i64) 3 wc w.heap.size (fun _ => True) v995 y994) ∧ Aside0 (wc.heap[gb993]? = some (.cells #[(.slice A0_0 l0_0.length c0_0)] 26 (0, 0))) ∧ Aside0 (Below w.heap.size w wc))
 case first =>
  have H := HC4.out
  clear HC4
  replace H := ga H; obtain ⟨t997, A8, H⟩ := H
  replace H := gb H; obtain ⟨rfl, H⟩ | ⟨rfl, H⟩ := H
  ·replace H := ga H; obtain ⟨t998, A10, H⟩ := H
   have H' := am H
   clear H
   have hcz11_0 := bc BK993 0 (.slice A0_0 l0_0.length c0_0)
   have hfz11_0 := blk_frozen BK993.out 0
   go_wp2_with (first | ((with_reducible refine gate_callee (f := 23) rfl ?_); refine gl (some 15) Try.func23 #[.agg #[.slice A0_0 l0_0.length c0_0]] ?_; (with_reducible refine (spec_IsSemigroup.calls k _ _ l0_0 true _ ?side1 ?side2 A8.out).mono ?_); (case side1 => exact co (Kd.C_below HR0_0.out HB.out)); (case side2 => exact HC0_0.out); rintro e w12 ⟨rfl, hb⟩; refine ⟨_, rfl, ?_⟩; replace HO996 := rK HO996 hb; replace BK993 := kb BK993 hb; replace HB := am (below_step bw hb); clear hb) | (go_at_call 232; (with_reducible refine (spec_l10All.calls k _ _ l1 t998 _ ?side1 ?side2 A10.out).mono ?_); (case side1 => exact co (Kd.C_below HR1.out HB.out)); (case side2 => exact HC1.out); rintro e w' ⟨rfl, ⟨nd, rfl⟩⟩))
   go_meet
   case rel => exact ⟨_, (!t998), rr, H', ⟨om⟩, ⟨ro HO996.out⟩, ⟨bo BK993.out⟩, ⟨bw⟩⟩
  have H' := am H
  clear H
  have hcz13_0 := bc BK993 0 (.slice A0_0 l0_0.length c0_0)
  have hfz13_0 := blk_frozen BK993.out 0
  go_wp2_with (first | ((with_reducible refine gate_callee (f := 23) rfl ?_); refine gl (some 15) Try.func23 #[.agg #[.slice A0_0 l0_0.length c0_0]] ?_; (with_reducible refine (spec_IsSemigroup.calls k _ _ l0_0 false _ ?side1 ?side2 A8.out).mono ?_); (case side1 => exact co (Kd.C_below HR0_0.out HB.out)); (case side2 => exact HC0_0.out); rintro e w14 ⟨rfl, hb⟩; refine ⟨_, rfl, ?_⟩; replace HO996 := rK HO996 hb; replace BK993 := kb BK993 hb; replace HB := am (below_step bw hb); clear hb))
  go_meet
  case rel => exact ⟨_, (true), rr, H', ⟨om⟩, ⟨ro HO996.out⟩, ⟨bo BK993.out⟩, ⟨bw⟩⟩
 case rest =>
  clear HC4
  try clear c1; try clear hcz11_0; try clear hcz13_0; try clear hfz11_0; try clear hfz13_0
  obtain ⟨kq, x21_3, rfl, HA, HJ3, HO_7, BK993, HB⟩ := hcut
  cases kq with
  | zero => exact absurd HA.out (by simp [spec_l10Top.j0])
  | succ kj3 =>
   have H := HA.out
   clear HA
   simp only [spec_l10Top.j0] at H
   replace H := gb H; obtain ⟨rfl, H⟩ | ⟨rfl, H⟩ := H
   ·obtain rfl := Option.some.inj H
    go_wp2
    go_ret
    exact ⟨_, re, ro HO_7.out, bw⟩
   have H' := am H
   clear H
   go_wp2
   go_loopg [7, 8] kj3 (fun kq v7 v8 w' => ∃ (x7_2 : List Int) (x8_2 : Int), v8 = .int .i64 x8_2 ∧ Aside0 (spec_l10Top.l0 kq l1 a2 x7_2 x8_2 l0_0 = some r) ∧ Aside0 (kq ≤ kj3) ∧ Aside0 (Kd.R (Kd.int .i64) 3 w' w.heap.size (fun _ => True) v7 x7_2) ∧ Aside0 (w'.heap[gb993]? = some (.cells #[(.slice A0_0 l0_0.length c0_0)] 26 (0, 0))) ∧ Aside0 (Below w.heap.size w w'))
   case atStart => exact ⟨(y994), (0), rr, H', ⟨Nat.le_refl _⟩, ⟨ro HO_7.out⟩, ⟨bo BK993.out⟩, ⟨bw⟩⟩
   case round =>
    clear H'
    try clear c1; try clear hcz11_0; try clear hcz13_0; try clear hfz11_0; try clear hfz13_0
    obtain ⟨x7_2, x8_2, rfl, HA, HK2, HO_7, BK993, HB⟩ := hrel
    cases gk with
    | zero => exact absurd HA.out (by simp [spec_l10Top.l0])
    | succ k2 =>
     have H := HA.out
     clear HA
     simp only [spec_l10Top.l0] at H
     replace H := gi H; obtain ⟨c16b0, H⟩ | ⟨c16b0, H⟩ := H
     ·have H' := am H
      clear H
      go_wp2
      go_loopg [9, 10] k2 (fun kq v9 v10 w' => ∃ (x9_3 : Bool) (x10_3 : Int), v9 = .bool x9_3 ∧ v10 = .int .i64 x10_3 ∧ Aside0 (spec_l10Top.l1 kq l1 a2 x7_2 x8_2 x9_3 x10_3 l0_0 = some r) ∧ Aside0 (kq ≤ k2) ∧ Aside0 (Kd.R (Kd.int .i64) 3 w' w.heap.size (fun _ => True) u7 x7_2) ∧ Aside0 (w'.heap[gb993]? = some (.cells #[(.slice A0_0 l0_0.length c0_0)] 26 (0, 0))) ∧ Aside0 (Below w.heap.size w w'))
      case atStart => exact ⟨(true), (0), rr, rr, H', ⟨Nat.le_refl _⟩, ⟨ro HO_7.out⟩, ⟨bo BK993.out⟩, ⟨bw⟩⟩
      case round =>
       clear H'
       try clear c1; try clear c16b0; try clear hcz11_0; try clear hcz13_0; try clear hfz11_0; try clear hfz13_0
       obtain ⟨x9_3, x10_3, rfl, rfl, HA, HK3, HO_7, BK993, HB⟩ := hrel
       cases gk with
       | zero => exact absurd HA.out (by simp [spec_l10Top.l1])
       | succ k3 =>
        have H := HA.out
        clear HA
        simp only [spec_l10Top.l1] at H
        replace H := gi H; obtain ⟨c17b0, H⟩ | ⟨c17b0, H⟩ := H
        ·replace H := gd H; obtain ⟨c18b0, H⟩ := H
         replace H := gd H; obtain ⟨c19b0, H⟩ := H
         replace H := gd H; obtain ⟨c20b0, H⟩ := H
         replace H := gb H; obtain ⟨rfl, H⟩ | ⟨rfl, H⟩ := H
         ·by_cases c22 : (rd l1 x8_2) = (rd l1 x10_3)
          ·rw [if_pos c22] at H
           have c22b0 : ((rd l1 x8_2) == (rd l1 x10_3)) = true := beq_iff_eq.mpr c22
           have c22b1 : ((rd l1 x8_2) != (rd l1 x10_3)) = false := bne_eq_false_iff_eq.mpr c22
           clear c22
           have H' := am H
           clear H
           obtain ⟨⟨ad1002, e1002, hx1002_0⟩, p1002, q1002⟩ := pq (Kd.at_int HR1.out x8_2)
           cases e1002
           replace hx1002_0 := hw HB hx1002_0
           obtain ⟨⟨ad1003, e1003, hx1003_0⟩, p1003, q1003⟩ := pq (Kd.at_int HR1.out x10_3)
           obtain rfl : ad1002 = ad1003 := (by injection e1003)
           replace hx1003_0 := hw HB hx1003_0
           go_wp2
           go_roundg k3
           case measure => have := HJ3.out; have := HK2.out; have := HK3.out; omega
           case rel => exact ⟨(true), (wrap64 (x10_3 + 1)), rr, rr, H', ⟨by have := HJ3.out; have := HK2.out; have := HK3.out; omega⟩, ⟨ro HO_7.out⟩, ⟨bo BK993.out⟩, ⟨bw⟩⟩
          rw [if_neg c22] at H
          have c22b0 : ((rd l1 x8_2) == (rd l1 x10_3)) = false := beq_eq_false_iff_ne.mpr c22
          have c22b1 : ((rd l1 x8_2) != (rd l1 x10_3)) = true := bne_iff_ne.mpr c22
          replace H := gb H; obtain ⟨rfl, H⟩ | ⟨rfl, H⟩ := H
          ·replace H := ga H; obtain ⟨t1004, A24, H⟩ := H
           have H' := am H
           clear H
           obtain ⟨⟨ad1002, e1002, hx1002_0⟩, p1002, q1002⟩ := pq (Kd.at_int HR1.out x8_2)
           cases e1002
           replace hx1002_0 := hw HB hx1002_0
           obtain ⟨⟨ad1003, e1003, hx1003_0⟩, p1003, q1003⟩ := pq (Kd.at_int HR1.out x10_3)
           obtain rfl : ad1002 = ad1003 := (by injection e1003)
           replace hx1003_0 := hw HB hx1003_0
           have hcz25_0 := bc BK993 0 (.slice A0_0 l0_0.length c0_0)
           have hfz25_0 := blk_frozen BK993.out 0
           go_wp2_with (first | (go_at_call 154; (with_reducible refine (spec_l3Has.calls k3 _ _ l0_0 (wrap64 ((rd l1 x8_2) - (rd l1 x10_3))) t1004 _ ?side1 ?side2 A24.out).mono ?_); (case side1 => exact co (Kd.C_below HR0_0.out HB.out)); (case side2 => exact HC0_0.out); rintro e w26 ⟨rfl, hb⟩; replace HO_7 := rK HO_7 hb; replace BK993 := kb BK993 hb; replace HB := am (below_step bw hb); clear hb))
           go_roundg k3
           case measure => have := HJ3.out; have := HK2.out; have := HK3.out; omega
           case rel => exact ⟨(!t1004), (wrap64 (x10_3 + 1)), rr, rr, H', ⟨by have := HJ3.out; have := HK2.out; have := HK3.out; omega⟩, ⟨ro HO_7.out⟩, ⟨bo BK993.out⟩, ⟨bw⟩⟩
          replace H := ga H; obtain ⟨t1005, A27, H⟩ := H
          replace H := gb H; obtain ⟨rfl, H⟩ | ⟨rfl, H⟩ := H
          ·have H' := am H
           clear H
           obtain ⟨⟨ad1002, e1002, hx1002_0⟩, p1002, q1002⟩ := pq (Kd.at_int HR1.out x8_2)
           cases e1002
           replace hx1002_0 := hw HB hx1002_0
           obtain ⟨⟨ad1003, e1003, hx1003_0⟩, p1003, q1003⟩ := pq (Kd.at_int HR1.out x10_3)
           obtain rfl : ad1002 = ad1003 := (by injection e1003)
           replace hx1003_0 := hw HB hx1003_0
           have hcz29_0 := bc BK993 0 (.slice A0_0 l0_0.length c0_0)
           have hfz29_0 := blk_frozen BK993.out 0
           go_wp2_with (first | (go_at_call 154; (with_reducible refine (spec_l3Has.calls k3 _ _ l0_0 (wrap64 ((rd l1 x10_3) - (rd l1 x8_2))) true _ ?side1 ?side2 A27.out).mono ?_); (case side1 => exact co (Kd.C_below HR0_0.out HB.out)); (case side2 => exact HC0_0.out); rintro e w30 ⟨rfl, hb⟩; replace HO_7 := rK HO_7 hb; replace BK993 := kb BK993 hb; replace HB := am (below_step bw hb); clear hb))
           go_roundg k3
           case measure => have := HJ3.out; have := HK2.out; have := HK3.out; omega
           case rel => exact ⟨(false), (wrap64 (x10_3 + 1)), rr, rr, H', ⟨by have := HJ3.out; have := HK2.out; have := HK3.out; omega⟩, ⟨ro HO_7.out⟩, ⟨bo BK993.out⟩, ⟨bw⟩⟩
          have H' := am H
          clear H
          obtain ⟨⟨ad1002, e1002, hx1002_0⟩, p1002, q1002⟩ := pq (Kd.at_int HR1.out x8_2)
          cases e1002
          replace hx1002_0 := hw HB hx1002_0
          obtain ⟨⟨ad1003, e1003, hx1003_0⟩, p1003, q1003⟩ := pq (Kd.at_int HR1.out x10_3)
          obtain rfl : ad1002 = ad1003 := (by injection e1003)
          replace hx1003_0 := hw HB hx1003_0
          have hcz31_0 := bc BK993 0 (.slice A0_0 l0_0.length c0_0)
          have hfz31_0 := blk_frozen BK993.out 0
          go_wp2_with (first | (go_at_call 154; (with_reducible refine (spec_l3Has.calls k3 _ _ l0_0 (wrap64 ((rd l1 x10_3) - (rd l1 x8_2))) false _ ?side1 ?side2 A27.out).mono ?_); (case side1 => exact co (Kd.C_below HR0_0.out HB.out)); (case side2 => exact HC0_0.out); rintro e w32 ⟨rfl, hb⟩; replace HO_7 := rK HO_7 hb; replace BK993 := kb BK993 hb; replace HB := am (below_step bw hb); clear hb))
          go_roundg k3
          case measure => have := HJ3.out; have := HK2.out; have := HK3.out; omega
          case rel => exact ⟨(true), (wrap64 (x10_3 + 1)), rr, rr, H', ⟨by have := HJ3.out; have := HK2.out; have := HK3.out; omega⟩, ⟨ro HO_7.out⟩, ⟨bo BK993.out⟩, ⟨bw⟩⟩
         have H' := am H
         clear H
         obtain ⟨⟨ad1002, e1002, hx1002_0⟩, p1002, q1002⟩ := pq (Kd.at_int HR1.out x8_2)
         cases e1002
         replace hx1002_0 := hw HB hx1002_0
         obtain ⟨⟨ad1003, e1003, hx1003_0⟩, p1003, q1003⟩ := pq (Kd.at_int HR1.out x10_3)
         obtain rfl : ad1002 = ad1003 := (by injection e1003)
         replace hx1003_0 := hw HB hx1003_0
         go_wp2
         go_roundg k3
         case measure => have := HJ3.out; have := HK2.out; have := HK3.out; omega
         case rel => exact ⟨(false), (wrap64 (x10_3 + 1)), rr, rr, H', ⟨by have := HJ3.out; have := HK2.out; have := HK3.out; omega⟩, ⟨ro HO_7.out⟩, ⟨bo BK993.out⟩, ⟨bw⟩⟩
        replace H := gb H; obtain ⟨rfl, H⟩ | ⟨rfl, H⟩ := H
        ·replace H := gd H; obtain ⟨c34b0, H⟩ := H
         replace H := gd H; obtain ⟨c35b0, H⟩ := H
         by_cases c36 : x7_2.length < 17592186044416
         rotate_left
         ·rw [if_neg c36] at H
          exact absurd H (by simp)
         rw [if_pos c36] at H
         have LMc36 := am c36
         clear c36
         obtain ⟨y1007, hy1007⟩ : ∃ y_ : List Int, y_ = (x7_2 ++ [rd l1 x8_2]) := ⟨_, rfl⟩
         replace H : (spec_l10Top.l0 k3 l1 a2 y1007 (wrap64 (x8_2 + 1)) l0_0) = some r := by first | (rw [hy1007]; with_reducible first | exact H | exact bs H) | (with_reducible first | exact bs H | exact H) | (rw [hy1007]; exact H) | exact H
         have Ny1007 := am hy1007
         clear hy1007
         have H' := am H
         clear H
         obtain ⟨⟨ad1006, e1006, hx1006_0⟩, p1006, q1006⟩ := pq (Kd.at_int HR1.out x8_2)
         cases e1006
         replace hx1006_0 := hw HB hx1006_0
         go_wp2_with (first | ((with_reducible refine gate_builtin (b := .append) (xs := #[.tmp 73, .tmp 78]) rfl ?_); at_builtin; refine Kd.R_append (Kd.int .i64) (w0 := w) w.heap.size rfl (.tmp 73) (.tmp 78) 24 3 (.int .i64 0) 8 rfl Try.underlying24 info3 rfl (by decide) (by omega) u7 x7_2 (rd l1 x8_2) [.int .i64 (rd l1 x8_2)] (fun _ => True) (fun _ => False) rfl rfl ?aP (fun _ hk => hk.elim) ?aF ?aO ?aB ?aS ?aL ?_; (case aP => exact rfl); (case aB => exact bw); (case aF => exact (fun _ _ => trivial)); (case aO => exact (ro HO_7.out)); (case aS => exact (below_size bw)); (case aL => have := LMc36.out; omega); intro v1008 w37 ho hb hg hat; rw [← Ny1007.out] at ho; replace BK993 := am (blk_grown (g := gb993) (o := .cells #[.slice A0_0 l0_0.length c0_0] 26 (0, 0)) (bo BK993.out) hg (Kd.R_ne HO_7.out BK993.out (by decide))); replace HB := am (hb); have HO1009 := am (ho); clear HO_7 ho hb hg hat))
         go_roundg k3
         case measure => have := HJ3.out; have := HK2.out; have := HK3.out; omega
         case rel => exact ⟨(y1007), (wrap64 (x8_2 + 1)), rr, H', ⟨by have := HJ3.out; have := HK2.out; have := HK3.out; omega⟩, ⟨ro HO1009.out⟩, ⟨bo BK993.out⟩, ⟨bw⟩⟩
        have H' := am H
        clear H
        go_wp2
        go_roundg k3
        case measure => have := HJ3.out; have := HK2.out; have := HK3.out; omega
        case rel => exact ⟨(x7_2), (wrap64 (x8_2 + 1)), rr, H', ⟨by have := HJ3.out; have := HK2.out; have := HK3.out; omega⟩, ⟨ro HO_7.out⟩, ⟨bo BK993.out⟩, ⟨bw⟩⟩
     replace H := ga H; obtain ⟨t999, A38, H⟩ := H
     obtain rfl := Option.some.inj H
     obtain ⟨Ao39, co39, eo39⟩ := Kd.R_slice HO_7.out
     subst eo39
     go_wp2_with (first | ((with_reducible refine gate_callee (f := 93) rfl ?_); refine gl (some 81) Try.func93 #[.slice Ao39 x7_2.length co39] ?_; (with_reducible refine (spec_SortList.calls k2 _ _ x7_2 t999 _ ?side1 ?side2 A38.out).mono ?_); (case side1 => exact co (Kd.R_reads' HO_7.out).2.2); (case side2 => exact (Kd.R_reads' HO_7.out).2.1); rintro e w40 ⟨v1000, rfl, ho0, hb⟩; refine ⟨_, rfl, ?_⟩; have HO1001 := am (Kd.R_lower (Kd.R_new' ho0 (Kd.R_lt (ro HO_7.out))) (below_size bw)); replace HO_7 := am (Kd.R_elder' (ro HO_7.out) (Kd.R_base ho0) hb); replace BK993 := kb BK993 hb; replace HB := am (below_step bw hb); clear hb ho0))
     go_ret
     exact ⟨_, re, by (with_reducible repeat (first | apply Kd.R_alloc | apply Kd.R_drewN | apply Kd.R_drew)); exact Kd.R_mono HO1001.out (fun _ hk => trivial), bw⟩


/-! ### spec_MinimalIn: function 126 -/
def spec_MinimalIn.f (k : Nat) (l0_0 : List Int) (l1 : List Int) : Option (List Int) := (spec_l10Top.f k l0_0 l1 true).bind fun t1011 => (some t1011)
set_option maxHeartbeats 8000000 in
set_option maxRecDepth 100000 in
theorem spec_MinimalIn.calls (k : Nat) (A0_0 : Option Addr) (c0_0 : Nat) (l0_0 : List Int) (A1 : Option Addr) (c1 : Nat) (l1 : List Int) (r : List Int) (w : World) (hr0_0 : Kd.C (Kd.int .i64) w A0_0 l0_0.length l0_0) (hc0_0 : l0_0.length ≤ c0_0) (hr1 : Kd.C (Kd.int .i64) w A1 l1.length l1) (hc1 : l1.length ≤ c1) (h : spec_MinimalIn.f k l0_0 l1 = some r) :
  Calls Try.prog 126 #[.agg #[.slice A0_0 l0_0.length c0_0], .slice A1 l1.length c1] w fun e w' => ∃ v0_ : Value, e = .returned (v0_) ∧ Kd.R (Kd.int .i64) 3 w' w.heap.size (fun _ => True) v0_ r ∧ Below w.heap.size w w' := by
 have hu26 := Try.underlying26
 have HR0_0 := am hr0_0
 have HC0_0 := am hc0_0
 clear hr0_0 hc0_0
 have HR1 := am hr1
 have HC1 := am hc1
 clear hr1 hc1
 have HB := am (Below.refl w.heap.size w)
 have H : ((spec_l10Top.f k l0_0 l1 true).bind fun t1011 => (some t1011)) = some r := h
 clear h
 replace H := ga H; obtain ⟨t1011, A3, H⟩ := H
 obtain rfl := Option.some.inj H
 go_enter Try.func126, Try.ntmps126
 go_wp2_with (first | ((with_reducible refine gate_dst (N := 2) rfl ?_); refine bx 2 #[.slice A0_0 l0_0.length c0_0] 26 ?_; intro gb1010 hg w4 hbox hb; have BK1010 := am (hbox); have GW1010 := am (gs hg : w.heap.size ≤ gb1010); have GE1010 := GW1010; replace HB := am (below_step bw hb); clear hb hbox hg; have hcz5_0 := bc BK1010 0 (.slice A0_0 l0_0.length c0_0); have hfz5_0 := blk_frozen BK1010.out 0) | ((with_reducible refine gate_callee (f := 212) rfl ?_); refine gl (some 7) Try.func212 #[.agg #[.slice A0_0 l0_0.length c0_0], .slice A1 l1.length c1, .bool true] ?_; (with_reducible refine (spec_l10Top.calls k _ _ l0_0 _ _ l1 true t1011 _ ?side1 ?side2 ?side3 ?side4 A3.out).mono ?_); (case side1 => exact co (Kd.C_below HR0_0.out HB.out)); (case side2 => exact HC0_0.out); (case side3 => exact co (Kd.C_below HR1.out HB.out)); (case side4 => exact HC1.out); rintro e w6 ⟨v1012, rfl, ho0, hb⟩; refine ⟨_, rfl, ?_⟩; have HO1013 := am (Kd.R_lower ho0 (below_size bw)); replace BK1010 := kb BK1010 hb; replace HB := am (below_step bw hb); clear hb ho0))
 go_ret
 exact ⟨_, re, ro HO1013.out, bw⟩


/-! ### spec_l16Valid: function 202 -/
def spec_l16Valid.l0 : Nat → List Int → Int → Option (Bool)
 | 0, _, _ => none
 | k + 1, x0, x3 => if x3 < (x0.length : Int) then (if 0 ≤ x3 then ((spec_l1In.f (rd x0 x3) (-200) 200).bind fun t1015 => (if t1015 = true then (spec_l16Valid.l0 k x0 (wrap64 (x3 + 1))) else (some false))) else (none)) else ((spec_l1In.f (x0.length : Int) 1 20).bind fun t1016 => (some t1016))
def spec_l16Valid.f (k : Nat) (l0 : List Int) : Option (Bool) := spec_l16Valid.l0 k l0 0
set_option maxHeartbeats 8000000 in
set_option maxRecDepth 100000 in
theorem spec_l16Valid.calls (k : Nat) (A0 : Option Addr) (c0 : Nat) (l0 : List Int) (r : Bool) (w : World) (hr0 : Kd.C (Kd.int .i64) w A0 l0.length l0) (hc0 : l0.length ≤ c0) (h : spec_l16Valid.f k l0 = some r) :
  Calls Try.prog 202 #[.slice A0 l0.length c0] w fun e w' => e = .returned (.bool r) ∧ Drawn0 w w' := by
 have HR0 := am hr0
 have HC0 := am hc0
 clear hr0 hc0
 have H : (spec_l16Valid.l0 k l0 0) = some r := h
 clear h
 have H' := am H
 clear H
 go_enter Try.func202, Try.ntmps202
 go_wp2
 go_loopg [3] k (fun kq v3 w' => ∃ (x3_1 : Int), v3 = .int .i64 x3_1 ∧ Aside0 (spec_l16Valid.l0 kq l0 x3_1 = some r) ∧ Aside0 (kq ≤ k) ∧ Drawn0 w w')
 case atStart => exact ⟨(0), rr, H', ⟨Nat.le_refl _⟩, dw⟩
 case round =>
  clear H'
  obtain ⟨x3_1, rfl, HA, HK1, ⟨m1, rfl⟩⟩ := hrel
  cases gk with
  | zero => exact absurd HA.out (by simp [spec_l16Valid.l0])
  | succ k1 =>
   have H := HA.out
   clear HA
   simp only [spec_l16Valid.l0] at H
   replace H := gi H; obtain ⟨c2b0, H⟩ | ⟨c2b0, H⟩ := H
   ·replace H := gd H; obtain ⟨c3b0, H⟩ := H
    replace H := ga H; obtain ⟨t1015, A4, H⟩ := H
    replace H := gb H; obtain ⟨rfl, H⟩ | ⟨rfl, H⟩ := H
    ·have H' := am H
     clear H
     obtain ⟨⟨ad1014, e1014, hx1014_0⟩, p1014, q1014⟩ := pq (Kd.at_int HR0.out x3_1)
     cases e1014
     go_wp2_with (first | ((with_reducible refine gate_callee (f := 140) rfl ?_); refine gl (some 14) Try.func140 #[.int .i64 (rd l0 x3_1), .int .i64 (-200), .int .i64 200] ?_; (with_reducible refine (spec_l1In.calls (rd l0 x3_1) (-200) 200 true _ A4.out).mono ?_); rintro e w' ⟨rfl, ⟨nd, rfl⟩⟩; refine ⟨_, rfl, ?_⟩))
     go_roundg k1
     case measure => have := HK1.out; omega
     case rel => exact ⟨(wrap64 (x3_1 + 1)), rr, H', ⟨by have := HK1.out; omega⟩, dw⟩
    obtain rfl := Option.some.inj H
    obtain ⟨⟨ad1014, e1014, hx1014_0⟩, p1014, q1014⟩ := pq (Kd.at_int HR0.out x3_1)
    cases e1014
    go_wp2_with (first | ((with_reducible refine gate_callee (f := 140) rfl ?_); refine gl (some 14) Try.func140 #[.int .i64 (rd l0 x3_1), .int .i64 (-200), .int .i64 200] ?_; (with_reducible refine (spec_l1In.calls (rd l0 x3_1) (-200) 200 false _ A4.out).mono ?_); rintro e w' ⟨rfl, ⟨nd, rfl⟩⟩; refine ⟨_, rfl, ?_⟩))
    go_ret
    exact ⟨rr, dw⟩
   replace H := ga H; obtain ⟨t1016, A6, H⟩ := H
   obtain rfl := Option.some.inj H
   go_wp2_with (first | ((with_reducible refine gate_callee (f := 140) rfl ?_); refine gl (some 18) Try.func140 #[.int .i64 (l0.length : Int), .int .i64 1, .int .i64 20] ?_; (with_reducible refine (spec_l1In.calls (l0.length : Int) 1 20 t1016 _ A6.out).mono ?_); rintro e w' ⟨rfl, ⟨nd, rfl⟩⟩; refine ⟨_, rfl, ?_⟩))
   go_ret
   exact ⟨rr, dw⟩


/-! ### spec_IdealGens: function 95 -/
def spec_IdealGens.f (k : Nat) (l0_0 : List Int) (l1 : List Int) : Option (List Int) := (spec_l16Valid.f k l1).bind fun t1018 => (if t1018 = true then ((spec_MinimalIn.f k l0_0 l1).bind fun t1019 => (some t1019)) else (some (([] : List Int))))
set_option maxHeartbeats 8000000 in
set_option maxRecDepth 100000 in
theorem spec_IdealGens.calls (k : Nat) (A0_0 : Option Addr) (c0_0 : Nat) (l0_0 : List Int) (A1 : Option Addr) (c1 : Nat) (l1 : List Int) (r : List Int) (w : World) (hr0_0 : Kd.C (Kd.int .i64) w A0_0 l0_0.length l0_0) (hc0_0 : l0_0.length ≤ c0_0) (hr1 : Kd.C (Kd.int .i64) w A1 l1.length l1) (hc1 : l1.length ≤ c1) (h : spec_IdealGens.f k l0_0 l1 = some r) :
  Calls Try.prog 95 #[.agg #[.slice A0_0 l0_0.length c0_0], .slice A1 l1.length c1] w fun e w' => ∃ v0_ : Value, e = .returned (v0_) ∧ Kd.R (Kd.int .i64) 3 w' w.heap.size (fun _ => True) v0_ r ∧ Below w.heap.size w w' := by
 have hu26 := Try.underlying26
 have HR0_0 := am hr0_0
 have HC0_0 := am hc0_0
 clear hr0_0 hc0_0
 have HR1 := am hr1
 have HC1 := am hc1
 clear hr1 hc1
 have HB := am (Below.refl w.heap.size w)
 have H : ((spec_l16Valid.f k l1).bind fun t1018 => (if t1018 = true then ((spec_MinimalIn.f k l0_0 l1).bind fun t1019 => (some t1019)) else (some (([] : List Int))))) = some r := h
 clear h
 replace H := ga H; obtain ⟨t1018, A3, H⟩ := H
 replace H := gb H; obtain ⟨rfl, H⟩ | ⟨rfl, H⟩ := H
 ·replace H := ga H; obtain ⟨t1019, A5, H⟩ := H
  obtain rfl := Option.some.inj H
  go_enter Try.func95, Try.ntmps95
  go_wp2_with (first | ((with_reducible refine gate_dst (N := 2) rfl ?_); refine bx 2 #[.slice A0_0 l0_0.length c0_0] 26 ?_; intro gb1017 hg w6 hbox hb; have BK1017 := am (hbox); have GW1017 := am (gs hg : w.heap.size ≤ gb1017); have GE1017 := GW1017; replace HB := am (below_step bw hb); clear hb hbox hg) | ((with_reducible refine gate_callee (f := 202) rfl ?_); refine gl (some 6) Try.func202 #[.slice A1 l1.length c1] ?_; (with_reducible refine (spec_l16Valid.calls k _ _ l1 true _ ?side1 ?side2 A3.out).mono ?_); (case side1 => exact co (Kd.C_below HR1.out HB.out)); (case side2 => exact HC1.out); rintro e w' ⟨rfl, ⟨nd, rfl⟩⟩; refine ⟨_, rfl, ?_⟩; have hcz7_0 := bc BK1017 0 (.slice A0_0 l0_0.length c0_0); have hfz7_0 := blk_frozen BK1017.out 0) | ((with_reducible refine gate_callee (f := 126) rfl ?_); refine gl (some 11) Try.func126 #[.agg #[.slice A0_0 l0_0.length c0_0], .slice A1 l1.length c1] ?_; (with_reducible refine (spec_MinimalIn.calls k _ _ l0_0 _ _ l1 t1019 _ ?side1 ?side2 ?side3 ?side4 A5.out).mono ?_); (case side1 => exact co (Kd.C_below HR0_0.out bw)); (case side2 => exact HC0_0.out); (case side3 => exact co (Kd.C_below HR1.out bw)); (case side4 => exact HC1.out); rintro e w8 ⟨v1020, rfl, ho0, hb⟩; refine ⟨_, rfl, ?_⟩; have HO1021 := am (Kd.R_lower ho0 (below_size bw)); replace BK1017 := kb BK1017 hb; replace HB := am (below_step bw hb); clear hb ho0))
  go_ret
  exact ⟨_, re, ro HO1021.out, bw⟩
 obtain ⟨y1022, hy1022⟩ : ∃ y_ : List Int, y_ = (([] : List Int)) := ⟨_, rfl⟩
 replace H : (some y1022) = some r := by first | (rw [hy1022]; with_reducible first | exact H | exact bs H) | (with_reducible first | exact bs H | exact H) | (rw [hy1022]; exact H) | exact H
 have Ny1022 := am hy1022
 clear hy1022
 obtain rfl := Option.some.inj H
 go_enter Try.func95, Try.ntmps95
 go_wp2_with (first | ((with_reducible refine gate_dst (N := 2) rfl ?_); refine bx 2 #[.slice A0_0 l0_0.length c0_0] 26 ?_; intro gb1017 hg w9 hbox hb; have BK1017 := am (hbox); have GW1017 := am (gs hg : w.heap.size ≤ gb1017); have GE1017 := GW1017; replace HB := am (below_step bw hb); clear hb hbox hg) | ((with_reducible refine gate_callee (f := 202) rfl ?_); refine gl (some 6) Try.func202 #[.slice A1 l1.length c1] ?_; (with_reducible refine (spec_l16Valid.calls k _ _ l1 false _ ?side1 ?side2 A3.out).mono ?_); (case side1 => exact co (Kd.C_below HR1.out HB.out)); (case side2 => exact HC1.out); rintro e w' ⟨rfl, ⟨nd, rfl⟩⟩; refine ⟨_, rfl, ?_⟩) | ((with_reducible refine gate_dst (N := 8) rfl ?_); refine Kd.R_lit (Kd.int .i64) _ 3 ?hg (N := 8) ?hd (xs := ([] : List Int)) (inner := []) (ok := fun _ => True) (okp := fun _ => True) ?hr ?hp (fun _ hk => hk) trivial (Below.refl _ _) (Nat.le_refl _) (by simp) ?_; (case hd => rfl); (case hg => rfl); (case hr => first | (go_simp; done) | (go_simp; rfl)); (case hp => exact (Reps.none _ _)); intro v1023 w10 ho11 hb hg_ hnew_; clear hg_ hnew_; (first | rw [← Ny1022.out] at ho11 | (simp only [Int.reduceToNat] at ho11; rw [← Ny1022.out] at ho11)); have HO1024 := am (Kd.R_lower ho11 (below_size bw)); replace BK1017 := kb BK1017 hb; replace HB := am (below_step bw hb); clear hb ho11))
 go_ret
 exact ⟨_, re, ro HO1024.out, bw⟩

end Go.Proofs.Ytkfplkdchkmgbaa.C
