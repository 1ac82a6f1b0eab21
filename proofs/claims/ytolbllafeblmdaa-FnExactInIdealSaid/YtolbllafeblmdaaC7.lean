/- Contracts of functions of the program: spec_l16Valid, spec_l16In, spec_InIdeal, impl_idealList, impl_InIdeal, laws_FnExactInIdeal. -/
import Derived.Test.YtolbllafeblmdaaC0
import Derived.Test.YtolbllafeblmdaaC1
import Derived.Test.YtolbllafeblmdaaC3
import Derived.Test.YtolbllafeblmdaaC4
import Derived.Test.YtolbllafeblmdaaC5
import Derived.Test.YtolbllafeblmdaaC6
namespace Go.Proofs.Ytolbllafeblmdaa.C
open Go.RowKit Go.Proofs.YtolbllafeblmdaaW.PrintWords Go.Proofs.YtolbllafeblmdaaW.PrintLast Go.Proofs.YtolbllafeblmdaaW.PrintMore
attribute [local go_sem] max2_int min2_int max_two min_two max_three min_three max_four min_four
set_option linter.unusedVariables false
set_option linter.unusedSimpArgs false

/-! ### spec_l16Valid: function 61 -/
def spec_l16Valid.l0 : Nat → List Int → Int → Option (Bool)
 | 0, _, _ => none
 | k + 1, x0, x3 => if x3 < (x0.length : Int) then (if 0 ≤ x3 then ((spec_l1In.f (rd x0 x3) (-200) 200).bind fun t227 => (if t227 = true then (spec_l16Valid.l0 k x0 (wrap64 (x3 + 1))) else (some false))) else (none)) else ((spec_l1In.f (x0.length : Int) 1 20).bind fun t228 => (some t228))
def spec_l16Valid.f (k : Nat) (l0 : List Int) : Option (Bool) := spec_l16Valid.l0 k l0 0
set_option maxHeartbeats 8000000 in
set_option maxRecDepth 100000 in
theorem spec_l16Valid.calls (k : Nat) (A0 : Option Addr) (c0 : Nat) (l0 : List Int) (r : Bool) (w : World) (hr0 : Kd.C (Kd.int .i64) w A0 l0.length l0) (hc0 : l0.length ≤ c0) (h : spec_l16Valid.f k l0 = some r) :
  Calls Try.prog 61 #[.slice A0 l0.length c0] w fun e w' => e = .returned (.bool r) ∧ Drawn0 w w' := by
 have HR0 := Aside0.mk hr0
 have HC0 := Aside0.mk hc0
 clear hr0 hc0
 have H : (spec_l16Valid.l0 k l0 0) = some r := h
 clear h
 have H' := Aside0.mk H
 clear H
 go_enter Try.func61, Try.ntmps61
 go_wp2
 go_loopg [3] k (fun kq v3 w' => ∃ (x3_1 : Int), v3 = .int .i64 x3_1 ∧ Aside0 (spec_l16Valid.l0 kq l0 x3_1 = some r) ∧ Aside0 (kq ≤ k) ∧ Drawn0 w w')
 case atStart => exact ⟨(0), rr, H', ⟨Nat.le_refl _⟩, dw⟩
 case round =>
  clear H'
  obtain ⟨x3_1, rfl, HA, HK1, ⟨m1, rfl⟩⟩ := hrel
  cases gk with
  | zero => exact absurd HA.out (by simp [spec_l16Valid.l0])
  | succ k1 =>
   have H := HA.out
   clear HA
   simp only [spec_l16Valid.l0] at H
   replace H := gi H; obtain ⟨c2b0, H⟩ | ⟨c2b0, H⟩ := H
   ·replace H := gd H; obtain ⟨c3b0, H⟩ := H
    replace H := ga H; obtain ⟨t227, A4, H⟩ := H
    replace H := gb H; obtain ⟨rfl, H⟩ | ⟨rfl, H⟩ := H
    ·have H' := Aside0.mk H
     clear H
     obtain ⟨⟨ad226, e226, hx226_0⟩, p226, q226⟩ := pq (Kd.at_int HR0.out x3_1)
     cases e226
     go_wp2_with (first | ((with_reducible refine gate_callee (f := 59) rfl ?_); refine gl (some 14) Try.func59 #[.int .i64 (rd l0 x3_1), .int .i64 (-200), .int .i64 200] ?_; (with_reducible refine (spec_l1In.calls (rd l0 x3_1) (-200) 200 true _ A4.out).mono ?_); rintro e w' ⟨rfl, ⟨nd, rfl⟩⟩; refine ⟨_, rfl, ?_⟩))
     go_roundg k1
     case measure => have := HK1.out; omega
     case rel => exact ⟨(wrap64 (x3_1 + 1)), rr, H', ⟨by have := HK1.out; omega⟩, dw⟩
    ·obtain rfl := Option.some.inj H
     obtain ⟨⟨ad226, e226, hx226_0⟩, p226, q226⟩ := pq (Kd.at_int HR0.out x3_1)
     cases e226
     go_wp2_with (first | ((with_reducible refine gate_callee (f := 59) rfl ?_); refine gl (some 14) Try.func59 #[.int .i64 (rd l0 x3_1), .int .i64 (-200), .int .i64 200] ?_; (with_reducible refine (spec_l1In.calls (rd l0 x3_1) (-200) 200 false _ A4.out).mono ?_); rintro e w' ⟨rfl, ⟨nd, rfl⟩⟩; refine ⟨_, rfl, ?_⟩))
     go_ret
     exact ⟨rr, dw⟩
   ·replace H := ga H; obtain ⟨t228, A6, H⟩ := H
    obtain rfl := Option.some.inj H
    go_wp2_with (first | ((with_reducible refine gate_callee (f := 59) rfl ?_); refine gl (some 18) Try.func59 #[.int .i64 (l0.length : Int), .int .i64 1, .int .i64 20] ?_; (with_reducible refine (spec_l1In.calls (l0.length : Int) 1 20 t228 _ A6.out).mono ?_); rintro e w' ⟨rfl, ⟨nd, rfl⟩⟩; refine ⟨_, rfl, ?_⟩))
    go_ret
    exact ⟨rr, dw⟩


/-! ### spec_l16In: function 62 -/
def spec_l16In.l0 : Nat → List Int → Int → Int → List Int → Option (Bool)
 | 0, _, _, _, _ => none
 | k + 1, x1, x2, x7, x237000 => if x7 < (x1.length : Int) then (if 0 ≤ x7 then ((spec_l15Has.f k x237000 (wrap64 (x2 - (rd x1 x7)))).bind fun t238 => (if t238 = true then (some true) else (spec_l16In.l0 k x1 x2 (wrap64 (x7 + 1)) x237000))) else (none)) else (some false)
def spec_l16In.f (k : Nat) (l0_0 : List Int) (l1 : List Int) (a2 : Int) : Option (Bool) := spec_l16In.l0 k l1 a2 0 l0_0
def spec_l16In.T4 : Bool × List (List Nat × List Nat) := (true, [([], []), ([], []), ([], []), ([], []), ([2, 3], [2, 3]), ([4], [4]), ([1, 5], [1, 5]), ([0, 6], [0, 6])])
def spec_l16In.B4 : List Nat := [0, 0, 0, 0, 12, 28, 62, 127]
theorem spec_l16In.tab4 : rtab .any (opsOf Try.f62 4) = spec_l16In.T4 := by kernel_rfl
theorem spec_l16In.bits4 : waitsOk spec_l16In.T4.2 spec_l16In.B4 = true := by kernel_rfl
set_option maxHeartbeats 8000000 in
set_option maxRecDepth 100000 in
theorem spec_l16In.calls (k : Nat) (A0_0 : Option Addr) (c0_0 : Nat) (l0_0 : List Int) (A1 : Option Addr) (c1 : Nat) (l1 : List Int) (a2 : Int) (r : Bool) (w : World) (hr0_0 : Kd.C (Kd.int .i64) w A0_0 l0_0.length l0_0) (hc0_0 : l0_0.length ≤ c0_0) (hr1 : Kd.C (Kd.int .i64) w A1 l1.length l1) (hc1 : l1.length ≤ c1) (h : spec_l16In.f k l0_0 l1 a2 = some r) :
  Calls Try.prog 62 #[.agg #[.slice A0_0 l0_0.length c0_0], .slice A1 l1.length c1, .int .i64 a2] w fun e w' => e = .returned (.bool r) ∧ Below w.heap.size w w' := by
 have hu27 := Try.underlying27
 have HR0_0 := Aside0.mk hr0_0
 have HC0_0 := Aside0.mk hc0_0
 clear hr0_0 hc0_0
 have HR1 := Aside0.mk hr1
 have HC1 := Aside0.mk hc1
 clear hr1 hc1
 have HB := Aside0.mk (Below.refl w.heap.size w)
 have H : (spec_l16In.l0 k l1 a2 0 l0_0) = some r := h
 clear h
 have H' := Aside0.mk H
 clear H
 go_enter Try.func62, Try.ntmps62
 go_wp2_with (first | ((with_reducible refine gate_dst (N := 3) rfl ?_); refine bx 3 #[.slice A0_0 l0_0.length c0_0] 27 ?_; intro gb236 hg w4 hbox hb; have BK236 := Aside0.mk (hbox); have GW236 := Aside0.mk (gs hg : w.heap.size ≤ gb236); have GE236 := Aside0.mk (gs hg : w.heap.size ≤ gb236); replace HB := Aside0.mk (below_step bw hb); clear hb hbox hg))
 go_loopg [7] k (fun kq v7 w' => ∃ (x7_1 : Int), v7 = .int .i64 x7_1 ∧ Aside0 (spec_l16In.l0 kq l1 a2 x7_1 l0_0 = some r) ∧ Aside0 (kq ≤ k) ∧ Aside0 (w'.heap[gb236]? = some (.cells #[(.slice A0_0 l0_0.length c0_0)] 27 (0, 0))) ∧ Aside0 (Below w.heap.size w w'))
 case atStart => exact ⟨(0), rr, H', ⟨Nat.le_refl _⟩, ⟨bo BK236.out⟩, ⟨bw⟩⟩
 case round =>
  clear H'
  try clear c1
  obtain ⟨x7_1, rfl, HA, HK1, BK236, HB⟩ := hrel
  cases gk with
  | zero => exact absurd HA.out (by simp [spec_l16In.l0])
  | succ k1 =>
   have H := HA.out
   clear HA
   simp only [spec_l16In.l0] at H
   replace H := gi H; obtain ⟨c5b0, H⟩ | ⟨c5b0, H⟩ := H
   ·replace H := gd H; obtain ⟨c6b0, H⟩ := H
    replace H := ga H; obtain ⟨t238, A7, H⟩ := H
    replace H := gb H; obtain ⟨rfl, H⟩ | ⟨rfl, H⟩ := H
    ·obtain rfl := Option.some.inj H
     try go_wp2
     replace BK236 := Aside0.mk (blk_drew BK236.out)
     replace HB := Aside0.mk (below_drew1 HB.out)
     obtain ⟨⟨ad237, e237, hx237_0⟩, p237, q237⟩ := pq (Kd.at_int HR1.out x7_1)
     have hw237_0 := hx237_0
     cases e237
     replace hx237_0 := (HB.out.cell (World.block_lt_of_cell? w _ hx237_0)).trans hx237_0
     refine start_ (n := 8) (S := fun w' => w'.cell? ⟨gb236, 0, none⟩ = some (.slice A0_0 l0_0.length c0_0) ∧ w'.cell? (ad237.add (x7_1).toNat) = some (.int .i64 (rd l1 x7_1))) (ds := []) #[Z,Z,Z,Z,Z,Z,Z,Z] (by kernel_rfl) rfl rfl ⟨(blk_cell BK236.out 0).trans rfl, ((HB.out.cell (World.block_lt_of_cell? w _ hw237_0)).trans hw237_0)⟩ (fun hHeld => ?_); refine with_tabW spec_l16In.tab4 spec_l16In.bits4 (fun HT_ HW_ => ?_)
     generalize wr.drew = w9 at BK236 HB hx237_0 hHeld ⊢
     refine pa 1 (some 15) #[Z,Y,Z,Z,Z,Z,Z,Z] HT_ ?_
     refine pa 2 (some 16) #[Z,Y,Y,Z,Z,Z,Z,Z] HT_ ?_
     refine pa 3 (some 17) #[Z,Y,Y,Y,Z,Z,Z,Z] HT_ ?_
     refine pa 4 (some 18) #[Z,Y,Y,Y,Y,Z,Z,Z] HT_ ?_
     refine take_ (i := 0) (N := some 14) (v := ?_) (a' := ?_) #[Y,Y,Y,Y,Y,Z,Z,Z] rfl rfl (take_ofW HT_.out HW_.out (by kernel_rfl)) (fun _ _ _ h => h) (Or.inl ⟨by rfl, ?_⟩) hHeld ?_ ?_
     rotate_left
     ·rintro w' ⟨s0, s1⟩
      go_simp
      with_reducible rfl
     rotate_left
     ·simp only [Act.put, qa, qb, qc, i64_w, i32_w]
      rfl
     refine take_ (i := 5) (N := some 19) (v := ?_) (a' := ?_) #[Y,Y,Y,Y,Y,Y,Z,Z] rfl rfl (take_ofW HT_.out HW_.out (by kernel_rfl)) (fun _ _ _ h => h) (Or.inl ⟨by rfl, ?_⟩) hHeld ?_ ?_
     rotate_left
     ·rintro w' ⟨s0, s1⟩
      go_simp
      with_reducible rfl
     rotate_left
     ·simp only [Act.put, qa, qb, qc, i64_w, i32_w]
      rfl
     refine pa 6 (some 20) #[Y,Y,Y,Y,Y,Y,Y,Z] HT_ ?_
     refine oa 7 (some 21) #[Y,Y,Y,Y,Y,Y,Y,Y] HT_ (fun K hK => ?_)
     refine gm Try.func72 #[.agg #[.slice A0_0 l0_0.length c0_0], .int .i64 (wrap64 (a2 - (rd l1 x7_1)))] ?_
     with_reducible refine (spec_l15Has.calls k1 _ _ l0_0 (wrap64 (a2 - (rd l1 x7_1))) true _ ?side1 ?side2 A7.out).mono ?_
     (case side1 => exact co (Kd.C_below HR0_0.out HB.out))
     (case side2 => exact HC0_0.out)
     rintro e w10 ⟨rfl, hb⟩
     refine ⟨_, rfl, ?_⟩
     replace BK236 := Aside0.mk (blk_below (g := gb236) (o := .cells #[.slice A0_0 l0_0.length c0_0] 27 (0, 0)) (bo BK236.out) hb)
     replace HB := Aside0.mk (below_step bw hb)
     clear hb
     refine hK.out _ _ ⟨(blk_cell BK236.out 0).trans rfl, ((HB.out.cell (World.block_lt_of_cell? w _ hw237_0)).trans hw237_0)⟩ (fun hHeld => ?_)
     clear hK K
     refine norm_ (a' := ?_) ?_ ?_
     rotate_left
     ·show Act.put _ (some 21) _ = _
      simp only [Act.put, qa, qb, qc, i64_w, i32_w]
      rfl
     refine done_ (done_of HT_.out (by kernel_rfl)) ?_
     try go_wp2
     go_ret
     exact ⟨re, bw⟩
    ·have H' := Aside0.mk H
     clear H
     try go_wp2
     replace BK236 := Aside0.mk (blk_drew BK236.out)
     replace HB := Aside0.mk (below_drew1 HB.out)
     obtain ⟨⟨ad237, e237, hx237_0⟩, p237, q237⟩ := pq (Kd.at_int HR1.out x7_1)
     have hw237_0 := hx237_0
     cases e237
     replace hx237_0 := (HB.out.cell (World.block_lt_of_cell? w _ hx237_0)).trans hx237_0
     refine start_ (n := 8) (S := fun w' => w'.cell? ⟨gb236, 0, none⟩ = some (.slice A0_0 l0_0.length c0_0) ∧ w'.cell? (ad237.add (x7_1).toNat) = some (.int .i64 (rd l1 x7_1))) (ds := []) #[Z,Z,Z,Z,Z,Z,Z,Z] (by kernel_rfl) rfl rfl ⟨(blk_cell BK236.out 0).trans rfl, ((HB.out.cell (World.block_lt_of_cell? w _ hw237_0)).trans hw237_0)⟩ (fun hHeld => ?_); refine with_tabW spec_l16In.tab4 spec_l16In.bits4 (fun HT_ HW_ => ?_)
     generalize wr.drew = w11 at BK236 HB hx237_0 hHeld ⊢
     refine pa 1 (some 15) #[Z,Y,Z,Z,Z,Z,Z,Z] HT_ ?_
     refine pa 2 (some 16) #[Z,Y,Y,Z,Z,Z,Z,Z] HT_ ?_
     refine pa 3 (some 17) #[Z,Y,Y,Y,Z,Z,Z,Z] HT_ ?_
     refine pa 4 (some 18) #[Z,Y,Y,Y,Y,Z,Z,Z] HT_ ?_
     refine take_ (i := 0) (N := some 14) (v := ?_) (a' := ?_) #[Y,Y,Y,Y,Y,Z,Z,Z] rfl rfl (take_ofW HT_.out HW_.out (by kernel_rfl)) (fun _ _ _ h => h) (Or.inl ⟨by rfl, ?_⟩) hHeld ?_ ?_
     rotate_left
     ·rintro w' ⟨s0, s1⟩
      go_simp
      with_reducible rfl
     rotate_left
     ·simp only [Act.put, qa, qb, qc, i64_w, i32_w]
      rfl
     refine take_ (i := 5) (N := some 19) (v := ?_) (a' := ?_) #[Y,Y,Y,Y,Y,Y,Z,Z] rfl rfl (take_ofW HT_.out HW_.out (by kernel_rfl)) (fun _ _ _ h => h) (Or.inl ⟨by rfl, ?_⟩) hHeld ?_ ?_
     rotate_left
     ·rintro w' ⟨s0, s1⟩
      go_simp
      with_reducible rfl
     rotate_left
     ·simp only [Act.put, qa, qb, qc, i64_w, i32_w]
      rfl
     refine pa 6 (some 20) #[Y,Y,Y,Y,Y,Y,Y,Z] HT_ ?_
     refine oa 7 (some 21) #[Y,Y,Y,Y,Y,Y,Y,Y] HT_ (fun K hK => ?_)
     refine gm Try.func72 #[.agg #[.slice A0_0 l0_0.length c0_0], .int .i64 (wrap64 (a2 - (rd l1 x7_1)))] ?_
     with_reducible refine (spec_l15Has.calls k1 _ _ l0_0 (wrap64 (a2 - (rd l1 x7_1))) false _ ?side1 ?side2 A7.out).mono ?_
     (case side1 => exact co (Kd.C_below HR0_0.out HB.out))
     (case side2 => exact HC0_0.out)
     rintro e w12 ⟨rfl, hb⟩
     refine ⟨_, rfl, ?_⟩
     replace BK236 := Aside0.mk (blk_below (g := gb236) (o := .cells #[.slice A0_0 l0_0.length c0_0] 27 (0, 0)) (bo BK236.out) hb)
     replace HB := Aside0.mk (below_step bw hb)
     clear hb
     refine hK.out _ _ ⟨(blk_cell BK236.out 0).trans rfl, ((HB.out.cell (World.block_lt_of_cell? w _ hw237_0)).trans hw237_0)⟩ (fun hHeld => ?_)
     clear hK K
     refine norm_ (a' := ?_) ?_ ?_
     rotate_left
     ·show Act.put _ (some 21) _ = _
      simp only [Act.put, qa, qb, qc, i64_w, i32_w]
      rfl
     refine done_ (done_of HT_.out (by kernel_rfl)) ?_
     try go_wp2
     go_roundg k1
     case measure => have := HK1.out; omega
     case rel => exact ⟨(wrap64 (x7_1 + 1)), rr, H', ⟨by have := HK1.out; omega⟩, ⟨bo BK236.out⟩, ⟨bw⟩⟩
   ·obtain rfl := Option.some.inj H
    go_wp2
    go_ret
    exact ⟨re, bw⟩


/-! ### spec_InIdeal: function 32 -/
def spec_InIdeal.f (k : Nat) (l0_0 : List Int) (l1 : List Int) (a2 : Int) : Option (Bool) := (spec_IsSemigroup.f k l0_0).bind fun t240 => (if t240 = true then ((spec_l16Valid.f k l1).bind fun t241 => (if t241 = true then ((spec_l2Small.f a2).bind fun t242 => (if t242 = true then ((spec_l16In.f k l0_0 l1 a2).bind fun t243 => (some t243)) else (some false))) else (some false))) else (some false))
set_option maxHeartbeats 8000000 in
set_option maxRecDepth 100000 in
theorem spec_InIdeal.calls (k : Nat) (A0_0 : Option Addr) (c0_0 : Nat) (l0_0 : List Int) (A1 : Option Addr) (c1 : Nat) (l1 : List Int) (a2 : Int) (r : Bool) (w : World) (hr0_0 : Kd.C (Kd.int .i64) w A0_0 l0_0.length l0_0) (hc0_0 : l0_0.length ≤ c0_0) (hr1 : Kd.C (Kd.int .i64) w A1 l1.length l1) (hc1 : l1.length ≤ c1) (h : spec_InIdeal.f k l0_0 l1 a2 = some r) :
  Calls Try.prog 32 #[.agg #[.slice A0_0 l0_0.length c0_0], .slice A1 l1.length c1, .int .i64 a2] w fun e w' => e = .returned (.bool r) ∧ Below w.heap.size w w' := by
 have hu27 := Try.underlying27
 have HR0_0 := Aside0.mk hr0_0
 have HC0_0 := Aside0.mk hc0_0
 clear hr0_0 hc0_0
 have HR1 := Aside0.mk hr1
 have HC1 := Aside0.mk hc1
 clear hr1 hc1
 have HB := Aside0.mk (Below.refl w.heap.size w)
 have H : ((spec_IsSemigroup.f k l0_0).bind fun t240 => (if t240 = true then ((spec_l16Valid.f k l1).bind fun t241 => (if t241 = true then ((spec_l2Small.f a2).bind fun t242 => (if t242 = true then ((spec_l16In.f k l0_0 l1 a2).bind fun t243 => (some t243)) else (some false))) else (some false))) else (some false))) = some r := h
 clear h
 replace H := ga H; obtain ⟨t240, A4, H⟩ := H
 replace H := gb H; obtain ⟨rfl, H⟩ | ⟨rfl, H⟩ := H
 ·replace H := ga H; obtain ⟨t241, A6, H⟩ := H
  replace H := gb H; obtain ⟨rfl, H⟩ | ⟨rfl, H⟩ := H
  ·replace H := ga H; obtain ⟨t242, A8, H⟩ := H
   replace H := gb H; obtain ⟨rfl, H⟩ | ⟨rfl, H⟩ := H
   ·replace H := ga H; obtain ⟨t243, A10, H⟩ := H
    obtain rfl := Option.some.inj H
    go_enter Try.func32, Try.ntmps32
    go_wp2_with (first | ((with_reducible refine gate_dst (N := 3) rfl ?_); refine bx 3 #[.slice A0_0 l0_0.length c0_0] 27 ?_; intro gb239 hg w11 hbox hb; have BK239 := Aside0.mk (hbox); have GW239 := Aside0.mk (gs hg : w.heap.size ≤ gb239); have GE239 := Aside0.mk (gs hg : w.heap.size ≤ gb239); replace HB := Aside0.mk (below_step bw hb); clear hb hbox hg; have hcz12_0 := bc BK239 0 (.slice A0_0 l0_0.length c0_0); have hfz12_0 := blk_frozen BK239.out 0) | ((with_reducible refine gate_callee (f := 51) rfl ?_); refine gl (some 8) Try.func51 #[.agg #[.slice A0_0 l0_0.length c0_0]] ?_; (with_reducible refine (spec_IsSemigroup.calls k _ _ l0_0 true _ ?side1 ?side2 A4.out).mono ?_); (case side1 => exact co (Kd.C_below HR0_0.out HB.out)); (case side2 => exact HC0_0.out); rintro e w13 ⟨rfl, hb⟩; refine ⟨_, rfl, ?_⟩; replace BK239 := Aside0.mk (blk_below (g := gb239) (o := .cells #[.slice A0_0 l0_0.length c0_0] 27 (0, 0)) (bo BK239.out) hb); replace HB := Aside0.mk (below_step bw hb); clear hb) | (go_at_call 61; (with_reducible refine (spec_l16Valid.calls k _ _ l1 true _ ?side1 ?side2 A6.out).mono ?_); (case side1 => exact co (Kd.C_below HR1.out HB.out)); (case side2 => exact HC1.out); rintro e w' ⟨rfl, ⟨nd, rfl⟩⟩) | (go_at_call 52; (with_reducible refine (spec_l2Small.calls a2 true _ A8.out).mono ?_); rintro e w' ⟨rfl, ⟨nd, rfl⟩⟩; have hcz14_0 := bc BK239 0 (.slice A0_0 l0_0.length c0_0); have hfz14_0 := blk_frozen BK239.out 0) | (go_at_call 62; (with_reducible refine (spec_l16In.calls k _ _ l0_0 _ _ l1 a2 t243 _ ?side1 ?side2 ?side3 ?side4 A10.out).mono ?_); (case side1 => exact co (Kd.C_below HR0_0.out bw)); (case side2 => exact HC0_0.out); (case side3 => exact co (Kd.C_below HR1.out bw)); (case side4 => exact HC1.out); rintro e w15 ⟨rfl, hb⟩; replace BK239 := Aside0.mk (blk_below (g := gb239) (o := .cells #[.slice A0_0 l0_0.length c0_0] 27 (0, 0)) (bo BK239.out) hb); replace HB := Aside0.mk (below_step bw hb); clear hb))
    go_ret
    exact ⟨re, bw⟩
   ·obtain rfl := Option.some.inj H
    go_enter Try.func32, Try.ntmps32
    go_wp2_with (first | ((with_reducible refine gate_dst (N := 3) rfl ?_); refine bx 3 #[.slice A0_0 l0_0.length c0_0] 27 ?_; intro gb239 hg w16 hbox hb; have BK239 := Aside0.mk (hbox); have GW239 := Aside0.mk (gs hg : w.heap.size ≤ gb239); have GE239 := Aside0.mk (gs hg : w.heap.size ≤ gb239); replace HB := Aside0.mk (below_step bw hb); clear hb hbox hg; have hcz17_0 := bc BK239 0 (.slice A0_0 l0_0.length c0_0); have hfz17_0 := blk_frozen BK239.out 0) | ((with_reducible refine gate_callee (f := 51) rfl ?_); refine gl (some 8) Try.func51 #[.agg #[.slice A0_0 l0_0.length c0_0]] ?_; (with_reducible refine (spec_IsSemigroup.calls k _ _ l0_0 true _ ?side1 ?side2 A4.out).mono ?_); (case side1 => exact co (Kd.C_below HR0_0.out HB.out)); (case side2 => exact HC0_0.out); rintro e w18 ⟨rfl, hb⟩; refine ⟨_, rfl, ?_⟩; replace BK239 := Aside0.mk (blk_below (g := gb239) (o := .cells #[.slice A0_0 l0_0.length c0_0] 27 (0, 0)) (bo BK239.out) hb); replace HB := Aside0.mk (below_step bw hb); clear hb) | (go_at_call 61; (with_reducible refine (spec_l16Valid.calls k _ _ l1 true _ ?side1 ?side2 A6.out).mono ?_); (case side1 => exact co (Kd.C_below HR1.out HB.out)); (case side2 => exact HC1.out); rintro e w' ⟨rfl, ⟨nd, rfl⟩⟩) | (go_at_call 52; (with_reducible refine (spec_l2Small.calls a2 false _ A8.out).mono ?_); rintro e w' ⟨rfl, ⟨nd, rfl⟩⟩))
    go_ret
    exact ⟨re, bw⟩
  ·obtain rfl := Option.some.inj H
   go_enter Try.func32, Try.ntmps32
   go_wp2_with (first | ((with_reducible refine gate_dst (N := 3) rfl ?_); refine bx 3 #[.slice A0_0 l0_0.length c0_0] 27 ?_; intro gb239 hg w19 hbox hb; have BK239 := Aside0.mk (hbox); have GW239 := Aside0.mk (gs hg : w.heap.size ≤ gb239); have GE239 := Aside0.mk (gs hg : w.heap.size ≤ gb239); replace HB := Aside0.mk (below_step bw hb); clear hb hbox hg; have hcz20_0 := bc BK239 0 (.slice A0_0 l0_0.length c0_0); have hfz20_0 := blk_frozen BK239.out 0) | ((with_reducible refine gate_callee (f := 51) rfl ?_); refine gl (some 8) Try.func51 #[.agg #[.slice A0_0 l0_0.length c0_0]] ?_; (with_reducible refine (spec_IsSemigroup.calls k _ _ l0_0 true _ ?side1 ?side2 A4.out).mono ?_); (case side1 => exact co (Kd.C_below HR0_0.out HB.out)); (case side2 => exact HC0_0.out); rintro e w21 ⟨rfl, hb⟩; refine ⟨_, rfl, ?_⟩; replace BK239 := Aside0.mk (blk_below (g := gb239) (o := .cells #[.slice A0_0 l0_0.length c0_0] 27 (0, 0)) (bo BK239.out) hb); replace HB := Aside0.mk (below_step bw hb); clear hb) | (go_at_call 61; (with_reducible refine (spec_l16Valid.calls k _ _ l1 false _ ?side1 ?side2 A6.out).mono ?_); (case side1 => exact co (Kd.C_below HR1.out HB.out)); (case side2 => exact HC1.out); rintro e w' ⟨rfl, ⟨nd, rfl⟩⟩))
   go_ret
   exact ⟨re, bw⟩
 ·obtain rfl := Option.some.inj H
  go_enter Try.func32, Try.ntmps32
  go_wp2_with (first | ((with_reducible refine gate_dst (N := 3) rfl ?_); refine bx 3 #[.slice A0_0 l0_0.length c0_0] 27 ?_; intro gb239 hg w22 hbox hb; have BK239 := Aside0.mk (hbox); have GW239 := Aside0.mk (gs hg : w.heap.size ≤ gb239); have GE239 := Aside0.mk (gs hg : w.heap.size ≤ gb239); replace HB := Aside0.mk (below_step bw hb); clear hb hbox hg; have hcz23_0 := bc BK239 0 (.slice A0_0 l0_0.length c0_0); have hfz23_0 := blk_frozen BK239.out 0) | ((with_reducible refine gate_callee (f := 51) rfl ?_); refine gl (some 8) Try.func51 #[.agg #[.slice A0_0 l0_0.length c0_0]] ?_; (with_reducible refine (spec_IsSemigroup.calls k _ _ l0_0 false _ ?side1 ?side2 A4.out).mono ?_); (case side1 => exact co (Kd.C_below HR0_0.out HB.out)); (case side2 => exact HC0_0.out); rintro e w24 ⟨rfl, hb⟩; refine ⟨_, rfl, ?_⟩; replace BK239 := Aside0.mk (blk_below (g := gb239) (o := .cells #[.slice A0_0 l0_0.length c0_0] 27 (0, 0)) (bo BK239.out) hb); replace HB := Aside0.mk (below_step bw hb); clear hb))
  go_ret
  exact ⟨re, bw⟩


/-! ### impl_idealList: function 63 -/
def impl_idealList.f (k : Nat) (l0 : List Int) : Option (Bool) := (impl_within.f (l0.length : Int) 1 20).bind fun t289 => (if t289 = true then ((impl_allWithin.f k l0 (-200) 200).bind fun t290 => (some t290)) else (some false))
set_option maxHeartbeats 8000000 in
set_option maxRecDepth 100000 in
theorem impl_idealList.calls (k : Nat) (A0 : Option Addr) (c0 : Nat) (l0 : List Int) (r : Bool) (w : World) (hr0 : Kd.C (Kd.int .i64) w A0 l0.length l0) (hc0 : l0.length ≤ c0) (h : impl_idealList.f k l0 = some r) :
  Calls Try.prog 63 #[.slice A0 l0.length c0] w fun e w' => e = .returned (.bool r) ∧ Drawn0 w w' := by
 have HR0 := Aside0.mk hr0
 have HC0 := Aside0.mk hc0
 clear hr0 hc0
 have H : ((impl_within.f (l0.length : Int) 1 20).bind fun t289 => (if t289 = true then ((impl_allWithin.f k l0 (-200) 200).bind fun t290 => (some t290)) else (some false))) = some r := h
 clear h
 replace H := ga H; obtain ⟨t289, A2, H⟩ := H
 replace H := gb H; obtain ⟨rfl, H⟩ | ⟨rfl, H⟩ := H
 ·replace H := ga H; obtain ⟨t290, A4, H⟩ := H
  obtain rfl := Option.some.inj H
  go_enter Try.func63, Try.ntmps63
  go_wp2_with (first | ((with_reducible refine gate_callee (f := 60) rfl ?_); refine gl (some 5) Try.func60 #[.int .i64 (l0.length : Int), .int .i64 1, .int .i64 20] ?_; (with_reducible refine (impl_within.calls (l0.length : Int) 1 20 true _ A2.out).mono ?_); rintro e w' ⟨rfl, ⟨nd, rfl⟩⟩; refine ⟨_, rfl, ?_⟩) | (go_at_call 54; (with_reducible refine (impl_allWithin.calls k _ _ l0 (-200) 200 t290 _ ?side1 ?side2 A4.out).mono ?_); (case side1 => exact co HR0.out); (case side2 => exact HC0.out); rintro e w' ⟨rfl, ⟨nd, rfl⟩⟩))
  go_ret
  exact ⟨rr, dw⟩
 ·obtain rfl := Option.some.inj H
  go_enter Try.func63, Try.ntmps63
  go_wp2_with (first | ((with_reducible refine gate_callee (f := 60) rfl ?_); refine gl (some 5) Try.func60 #[.int .i64 (l0.length : Int), .int .i64 1, .int .i64 20] ?_; (with_reducible refine (impl_within.calls (l0.length : Int) 1 20 false _ A2.out).mono ?_); rintro e w' ⟨rfl, ⟨nd, rfl⟩⟩; refine ⟨_, rfl, ?_⟩))
  go_ret
  exact ⟨rr, dw⟩


/-! ### impl_InIdeal: function 33 -/
mutual
def impl_InIdeal.j0 : Nat → List Int → Int → Bool → List Int → Option (Bool)
 | 0, _, _, _, _ => none
 | k + 1, x1, x2, x22, x303000 => if x22 = true then (some false) else ((impl_reach.f k x303000).bind fun t306 => (impl_InIdeal.l0 k x2 t306 x1 (x1.length : Int) 0))
def impl_InIdeal.l0 : Nat → Int → (Int → Option Bool) → List Int → Int → Int → Option (Bool)
 | 0, _, _, _, _, _ => none
 | k + 1, x2, x7, x25, x26, x27 => if x27 < x26 then (if 0 ≤ x27 then (if x27 < (x25.length : Int) then ((apF1.f x7 (wrap64 (x2 - (rd x25 x27)))).bind fun t308 => (if t308 = true then (some true) else (impl_InIdeal.l0 k x2 x7 x25 x26 (wrap64 (x27 + 1))))) else (none)) else (none)) else (some false)
end
def impl_InIdeal.f (k : Nat) (l0_0 : List Int) (l1 : List Int) (a2 : Int) : Option (Bool) := (impl_IsSemigroup.f k l0_0).bind fun t303 => (if t303 = true then ((impl_idealList.f k l1).bind fun t304 => (if t304 = true then ((impl_within.f a2 (-1000000) 1000000).bind fun t305 => (impl_InIdeal.j0 k l1 a2 (!t305) l0_0)) else (impl_InIdeal.j0 k l1 a2 true l0_0))) else (impl_InIdeal.j0 k l1 a2 true l0_0))
set_option maxHeartbeats 8000000 in
set_option maxRecDepth 100000 in
theorem impl_InIdeal.calls (k : Nat) (A0_0 : Option Addr) (c0_0 : Nat) (l0_0 : List Int) (A1 : Option Addr) (c1 : Nat) (l1 : List Int) (a2 : Int) (r : Bool) (w : World) (hr0_0 : Kd.C (Kd.int .i64) w A0_0 l0_0.length l0_0) (hc0_0 : l0_0.length ≤ c0_0) (hr1 : Kd.C (Kd.int .i64) w A1 l1.length l1) (hc1 : l1.length ≤ c1) (h : impl_InIdeal.f k l0_0 l1 a2 = some r) :
  Calls Try.prog 33 #[.agg #[.slice A0_0 l0_0.length c0_0], .slice A1 l1.length c1, .int .i64 a2] w fun e w' => e = .returned (.bool r) ∧ Below w.heap.size w w' := by
 have hu27 := Try.underlying27
 have HR0_0 := Aside0.mk hr0_0
 have HC0_0 := Aside0.mk hc0_0
 clear hr0_0 hc0_0
 have HR1 := Aside0.mk hr1
 have HC1 := Aside0.mk hc1
 clear hr1 hc1
 have HB := Aside0.mk (Below.refl w.heap.size w)
 have H : ((impl_IsSemigroup.f k l0_0).bind fun t303 => (if t303 = true then ((impl_idealList.f k l1).bind fun t304 => (if t304 = true then ((impl_within.f a2 (-1000000) 1000000).bind fun t305 => (impl_InIdeal.j0 k l1 a2 (!t305) l0_0)) else (impl_InIdeal.j0 k l1 a2 true l0_0))) else (impl_InIdeal.j0 k l1 a2 true l0_0))) = some r := h
 clear h
 have HC4 := Aside0.mk H
 clear H
 go_enter Try.func33, Try.ntmps33
 go_upto_region 1 with (first | ((with_reducible refine gate_dst (N := 3) rfl ?_); refine bx 3 #[.slice A0_0 l0_0.length c0_0] 27 ?_; intro gb302 hg w5 hbox hb; have BK302 := Aside0.mk (hbox); have GW302 := Aside0.mk (gs hg : w.heap.size ≤ gb302); have GE302 := Aside0.mk (gs hg : w.heap.size ≤ gb302); replace HB := Aside0.mk (below_step bw hb); clear hb hbox hg))
 (try simp only [Act.put, List.setIfInBounds_toArray, List.set_cons_zero, List.set_cons_succ])
 go_cut [22] (fun v22 wc => ∃ (kq : Nat) (x22_3 : Bool), v22 = .bool x22_3 ∧ Aside0 (impl_InIdeal.j0 kq l1 a2 x22_3 l0_0 = some r) ∧ Aside0 (kq ≤ k) ∧ Aside0 (wc.heap[gb302]? = some (.cells #[(.slice A0_0 l0_0.length c0_0)] 27 (0, 0))) ∧ Aside0 (Below w.heap.size w wc))
 case first =>
  have H := HC4.out
  clear HC4
  replace H := ga H; obtain ⟨t303, A6, H⟩ := H
  replace H := gb H; obtain ⟨rfl, H⟩ | ⟨rfl, H⟩ := H
  ·replace H := ga H; obtain ⟨t304, A8, H⟩ := H
   replace H := gb H; obtain ⟨rfl, H⟩ | ⟨rfl, H⟩ := H
   ·replace H := ga H; obtain ⟨t305, A10, H⟩ := H
    have H' := Aside0.mk H
    clear H
    have hcz11_0 := bc BK302 0 (.slice A0_0 l0_0.length c0_0)
    have hfz11_0 := blk_frozen BK302.out 0
    go_wp2_with (first | ((with_reducible refine gate_callee (f := 57) rfl ?_); refine gl (some 11) Try.func57 #[.agg #[.slice A0_0 l0_0.length c0_0]] ?_; (with_reducible refine (impl_IsSemigroup.calls k _ _ l0_0 true _ ?side1 ?side2 A6.out).mono ?_); (case side1 => exact co (Kd.C_below HR0_0.out HB.out)); (case side2 => exact HC0_0.out); rintro e w12 ⟨rfl, hb⟩; refine ⟨_, rfl, ?_⟩; replace BK302 := Aside0.mk (blk_below (g := gb302) (o := .cells #[.slice A0_0 l0_0.length c0_0] 27 (0, 0)) (bo BK302.out) hb); replace HB := Aside0.mk (below_step bw hb); clear hb) | (go_at_call 63; (with_reducible refine (impl_idealList.calls k _ _ l1 true _ ?side1 ?side2 A8.out).mono ?_); (case side1 => exact co (Kd.C_below HR1.out HB.out)); (case side2 => exact HC1.out); rintro e w' ⟨rfl, ⟨nd, rfl⟩⟩) | (go_at_call 60; (with_reducible refine (impl_within.calls a2 (-1000000) 1000000 t305 _ A10.out).mono ?_); rintro e w' ⟨rfl, ⟨nd, rfl⟩⟩))
    go_meet
    case rel => exact ⟨_, (!t305), rr, H', ⟨om⟩, ⟨bo BK302.out⟩, ⟨bw⟩⟩
   ·have H' := Aside0.mk H
    clear H
    have hcz13_0 := bc BK302 0 (.slice A0_0 l0_0.length c0_0)
    have hfz13_0 := blk_frozen BK302.out 0
    go_wp2_with (first | ((with_reducible refine gate_callee (f := 57) rfl ?_); refine gl (some 11) Try.func57 #[.agg #[.slice A0_0 l0_0.length c0_0]] ?_; (with_reducible refine (impl_IsSemigroup.calls k _ _ l0_0 true _ ?side1 ?side2 A6.out).mono ?_); (case side1 => exact co (Kd.C_below HR0_0.out HB.out)); (case side2 => exact HC0_0.out); rintro e w14 ⟨rfl, hb⟩; refine ⟨_, rfl, ?_⟩; replace BK302 := Aside0.mk (blk_below (g := gb302) (o := .cells #[.slice A0_0 l0_0.length c0_0] 27 (0, 0)) (bo BK302.out) hb); replace HB := Aside0.mk (below_step bw hb); clear hb) | (go_at_call 63; (with_reducible refine (impl_idealList.calls k _ _ l1 false _ ?side1 ?side2 A8.out).mono ?_); (case side1 => exact co (Kd.C_below HR1.out HB.out)); (case side2 => exact HC1.out); rintro e w' ⟨rfl, ⟨nd, rfl⟩⟩))
    go_meet
    case rel => exact ⟨_, (true), rr, H', ⟨om⟩, ⟨bo BK302.out⟩, ⟨bw⟩⟩
  ·have H' := Aside0.mk H
   clear H
   have hcz15_0 := bc BK302 0 (.slice A0_0 l0_0.length c0_0)
   have hfz15_0 := blk_frozen BK302.out 0
   go_wp2_with (first | ((with_reducible refine gate_callee (f := 57) rfl ?_); refine gl (some 11) Try.func57 #[.agg #[.slice A0_0 l0_0.length c0_0]] ?_; (with_reducible refine (impl_IsSemigroup.calls k _ _ l0_0 false _ ?side1 ?side2 A6.out).mono ?_); (case side1 => exact co (Kd.C_below HR0_0.out HB.out)); (case side2 => exact HC0_0.out); rintro e w16 ⟨rfl, hb⟩; refine ⟨_, rfl, ?_⟩; replace BK302 := Aside0.mk (blk_below (g := gb302) (o := .cells #[.slice A0_0 l0_0.length c0_0] 27 (0, 0)) (bo BK302.out) hb); replace HB := Aside0.mk (below_step bw hb); clear hb))
   go_meet
   case rel => exact ⟨_, (true), rr, H', ⟨om⟩, ⟨bo BK302.out⟩, ⟨bw⟩⟩
 case rest =>
  clear HC4
  try clear c1; try clear hcz11_0; try clear hcz13_0; try clear hcz15_0; try clear hfz11_0; try clear hfz13_0; try clear hfz15_0
  obtain ⟨kq, x22_3, rfl, HA, HJ3, BK302, HB⟩ := hcut
  cases kq with
  | zero => exact absurd HA.out (by simp [impl_InIdeal.j0])
  | succ kj3 =>
   have H := HA.out
   clear HA
   simp only [impl_InIdeal.j0] at H
   replace H := gb H; obtain ⟨rfl, H⟩ | ⟨rfl, H⟩ := H
   ·obtain rfl := Option.some.inj H
    go_wp2
    go_ret
    exact ⟨re, bw⟩
   ·replace H := ga H; obtain ⟨t306, A18, H⟩ := H
    have H' := Aside0.mk H
    clear H
    have hcz19_0 := bc BK302 0 (.slice A0_0 l0_0.length c0_0)
    have hfz19_0 := blk_frozen BK302.out 0
    go_wp2_with (first | ((with_reducible refine gate_callee (f := 64) rfl ?_); refine gl (some 24) Try.func64 #[.agg #[.slice A0_0 l0_0.length c0_0]] ?_; (with_reducible refine (impl_reach.calls kj3 _ _ l0_0 t306 _ ?side1 ?side2 A18.out).mono ?_); (case side1 => exact co (Kd.C_below HR0_0.out HB.out)); (case side2 => exact HC0_0.out); rintro e w20 ⟨F_t306, rfl, hF_t306, hb⟩; refine ⟨_, rfl, ?_⟩; replace BK302 := Aside0.mk (blk_below (g := gb302) (o := .cells #[.slice A0_0 l0_0.length c0_0] 27 (0, 0)) (bo BK302.out) hb); have HW_ := Aside0.mk (below_step bw hb : Below w.heap.size w w20); replace HR0_0 := Aside0.mk (Kd.C_below HR0_0.out HW_.out); replace HR1 := Aside0.mk (Kd.C_below HR1.out HW_.out); clear HB hb; have HB := Aside0.mk (Below.refl w20.heap.size w20); obtain ⟨gF_t306, lF_t306, rfl, eF_t306, hF_t306⟩ := hF_t306; obtain ⟨w, rfl⟩ : ∃ x_, x_ = w20 := ⟨_, rfl⟩))
    go_loopg [27] kj3 (fun kq v27 w' => ∃ (x27_2 : Int), v27 = .int .i64 x27_2 ∧ Aside0 (impl_InIdeal.l0 kq a2 t306 l1 (l1.length : Int) x27_2 = some r) ∧ Aside0 (kq ≤ kj3) ∧ Aside0 (w'.heap[gb302]? = some (.cells #[(.slice A0_0 l0_0.length c0_0)] 27 (0, 0))) ∧ Aside0 (Below w.heap.size w w'))
    case atStart => exact ⟨(0), rr, H', ⟨Nat.le_refl _⟩, ⟨bo BK302.out⟩, ⟨bw⟩⟩
    case round =>
     clear H'
     try clear c1; try clear hcz11_0; try clear hcz13_0; try clear hcz15_0; try clear hcz19_0; try clear hfz11_0; try clear hfz13_0; try clear hfz15_0; try clear hfz19_0
     obtain ⟨x27_2, rfl, HA, HK2, BK302, HB⟩ := hrel
     cases gk with
     | zero => exact absurd HA.out (by simp [impl_InIdeal.l0])
     | succ k2 =>
      have H := HA.out
      clear HA
      simp only [impl_InIdeal.l0] at H
      replace H := gi H; obtain ⟨c21b0, H⟩ | ⟨c21b0, H⟩ := H
      ·replace H := gd H; obtain ⟨c22b0, H⟩ := H
       replace H := gd H; obtain ⟨c23b0, H⟩ := H
       replace H := ga H; obtain ⟨t308, A24, H⟩ := H
       replace H := gb H; obtain ⟨rfl, H⟩ | ⟨rfl, H⟩ := H
       ·obtain rfl := Option.some.inj H
        obtain ⟨⟨ad307, e307, hx307_0⟩, p307, q307⟩ := pq (Kd.at_int HR1.out x27_2)
        cases e307
        replace hx307_0 := (HB.out.cell (World.block_lt_of_cell? w _ hx307_0)).trans hx307_0
        go_wp2_with (first | (go_at_fn gF_t306; (with_reducible refine (hF_t306 _ bw (wrap64 (a2 - (rd l1 x27_2))) true A24.out).mono ?_); rintro e w' ⟨rfl, ⟨nd, rfl⟩⟩))
        go_ret
        replace HB := Aside0.mk (below_step HW_.out HB.out)
        exact ⟨re, bw⟩
       ·have H' := Aside0.mk H
        clear H
        obtain ⟨⟨ad307, e307, hx307_0⟩, p307, q307⟩ := pq (Kd.at_int HR1.out x27_2)
        cases e307
        replace hx307_0 := (HB.out.cell (World.block_lt_of_cell? w _ hx307_0)).trans hx307_0
        go_wp2_with (first | (go_at_fn gF_t306; (with_reducible refine (hF_t306 _ bw (wrap64 (a2 - (rd l1 x27_2))) false A24.out).mono ?_); rintro e w' ⟨rfl, ⟨nd, rfl⟩⟩))
        go_roundg k2
        case measure => have := HJ3.out; have := HK2.out; omega
        case rel => exact ⟨(wrap64 (x27_2 + 1)), rr, H', ⟨by have := HJ3.out; have := HK2.out; omega⟩, ⟨bo BK302.out⟩, ⟨bw⟩⟩
      ·obtain rfl := Option.some.inj H
       go_wp2
       go_ret
       replace HB := Aside0.mk (below_step HW_.out HB.out)
       exact ⟨re, bw⟩


/-! ### laws_FnExactInIdeal: function 9 -/
def laws_FnExactInIdeal.f (k : Nat) (l0_0 : List Int) (l1 : List Int) (a2 : Int) : Option (Bool) := if (l1.length : Int) > 1048576 then (some true) else ((laws_szSemigroup.f l0_0 1048576).bind fun t310 => (if t310 < 0 then (some true) else ((laws_toSemigroup.f k l0_0).bind fun t311 => ((laws_toIntS.f k l1).bind fun t314 => ((spec_InIdeal.f k t311 t314 a2).bind fun t317 => ((laws_toSemigroup.f k l0_0).bind fun t318 => ((laws_toIntS.f k l1).bind fun t322 => ((impl_InIdeal.f k t318 t322 a2).bind fun t325 => (if (t325 != t317) = true then (some false) else ((laws_toSemigroup.f k l0_0).bind fun t326 => ((laws_eqSemigroup.f k t318 t326).bind fun t329 => (if t329 = true then ((laws_toIntS.f k l1).bind fun t330 => ((laws_eqIntS.f k t322 t330).bind fun t333 => (if t333 = true then (some true) else (some false)))) else (some false)))))))))))))
set_option maxHeartbeats 8000000 in
set_option maxRecDepth 100000 in
theorem laws_FnExactInIdeal.calls (k : Nat) (A0_0 : Option Addr) (c0_0 : Nat) (l0_0 : List Int) (A1 : Option Addr) (c1 : Nat) (l1 : List Int) (a2 : Int) (w : World) (hr0_0 : Kd.C (Kd.int .i64) w A0_0 l0_0.length l0_0) (hc0_0 : l0_0.length ≤ c0_0) (hr1 : Kd.C (Kd.int .i64) w A1 l1.length l1) (hc1 : l1.length ≤ c1) (h : laws_FnExactInIdeal.f k l0_0 l1 a2 = some true) :
  Calls Try.prog 9 #[.agg #[.slice A0_0 l0_0.length c0_0], .slice A1 l1.length c1, .int .i64 a2] w fun e w' => e = .returned (.bool true) ∧ Below w.heap.size w w' := by
 have hu24 := Try.underlying24
 have hu27 := Try.underlying27
 have HR0_0 := Aside0.mk hr0_0
 have HC0_0 := Aside0.mk hc0_0
 clear hr0_0 hc0_0
 have HR1 := Aside0.mk hr1
 have HC1 := Aside0.mk hc1
 clear hr1 hc1
 have HB := Aside0.mk (Below.refl w.heap.size w)
 have H : (if (l1.length : Int) > 1048576 then (some true) else ((laws_szSemigroup.f l0_0 1048576).bind fun t310 => (if t310 < 0 then (some true) else ((laws_toSemigroup.f k l0_0).bind fun t311 => ((laws_toIntS.f k l1).bind fun t314 => ((spec_InIdeal.f k t311 t314 a2).bind fun t317 => ((laws_toSemigroup.f k l0_0).bind fun t318 => ((laws_toIntS.f k l1).bind fun t322 => ((impl_InIdeal.f k t318 t322 a2).bind fun t325 => (if (t325 != t317) = true then (some false) else ((laws_toSemigroup.f k l0_0).bind fun t326 => ((laws_eqSemigroup.f k t318 t326).bind fun t329 => (if t329 = true then ((laws_toIntS.f k l1).bind fun t330 => ((laws_eqIntS.f k t322 t330).bind fun t333 => (if t333 = true then (some true) else (some false)))) else (some false)))))))))))))) = some true := h
 clear h
 replace H := gj H; obtain ⟨c4, H⟩ | ⟨c4, H⟩ := H
 ·have c4b0 : decide (1048576 < (l1.length : Int)) = true := decide_eq_true c4
  have c4b1 : decide (1048576 < l1.length) = true := decide_eq_true (by omega)
  clear c4
  skip
  go_enter Try.func9, Try.ntmps9
  go_wp2_with (first | ((with_reducible refine gate_dst (N := 3) rfl ?_); refine bx 3 #[.slice A0_0 l0_0.length c0_0] 24 ?_; intro gb309 hg w5 hbox hb; have BK309 := Aside0.mk (hbox); have GW309 := Aside0.mk (gs hg : w.heap.size ≤ gb309); have GE309 := Aside0.mk (gs hg : w.heap.size ≤ gb309); replace HB := Aside0.mk (below_step bw hb); clear hb hbox hg))
  go_ret
  exact ⟨re, bw⟩
 ·have c4b0 : decide (1048576 < (l1.length : Int)) = false := decide_eq_false c4
  have c4b1 : decide (1048576 < l1.length) = false := decide_eq_false (by omega)
  clear c4
  replace H := ga H; obtain ⟨t310, A6, H⟩ := H
  replace H := gi H; obtain ⟨c7b0, H⟩ | ⟨c7b0, H⟩ := H
  ·skip
   go_enter Try.func9, Try.ntmps9
   go_wp2_with (first | ((with_reducible refine gate_dst (N := 3) rfl ?_); refine bx 3 #[.slice A0_0 l0_0.length c0_0] 24 ?_; intro gb309 hg w8 hbox hb; have BK309 := Aside0.mk (hbox); have GW309 := Aside0.mk (gs hg : w.heap.size ≤ gb309); have GE309 := Aside0.mk (gs hg : w.heap.size ≤ gb309); replace HB := Aside0.mk (below_step bw hb); clear hb hbox hg; have hcz9_0 := bc BK309 0 (.slice A0_0 l0_0.length c0_0); have hfz9_0 := blk_frozen BK309.out 0) | ((with_reducible refine gate_callee (f := 15) rfl ?_); refine gl (some 17) Try.func15 #[.agg #[.slice A0_0 l0_0.length c0_0], .int .i64 1048576] ?_; (with_reducible refine (laws_szSemigroup.calls _ _ l0_0 1048576 t310 _ ?side1 ?side2 A6.out).mono ?_); (case side1 => exact co (Kd.C_below HR0_0.out HB.out)); (case side2 => exact HC0_0.out); rintro e w10 ⟨rfl, hb⟩; refine ⟨_, rfl, ?_⟩; replace BK309 := Aside0.mk (blk_below (g := gb309) (o := .cells #[.slice A0_0 l0_0.length c0_0] 24 (0, 0)) (bo BK309.out) hb); replace HB := Aside0.mk (below_step bw hb); clear hb))
   go_ret
   exact ⟨re, bw⟩
  ·replace H := ga H; obtain ⟨t311, A11, H⟩ := H
   replace H := ga H; obtain ⟨t314, A12, H⟩ := H
   replace H := ga H; obtain ⟨t317, A13, H⟩ := H
   replace H := ga H; obtain ⟨t318, A14, H⟩ := H
   replace H := ga H; obtain ⟨t322, A15, H⟩ := H
   replace H := ga H; obtain ⟨t325, A16, H⟩ := H
   by_cases c17 : (t325 != t317) = true
   ·rw [if_pos c17] at H
    have c17b0 : (t325 != t317) = true := c17
    (try (have c17b1 : decide (t325 = t317) = false := by simpa using c17))
    (try (have c17b2 : (t325 == t317) = false := by simpa using c17))
    (try (have c17b3 : ¬ (t325 = t317) := by simpa using c17))
    clear c17
    exact absurd (Option.some.inj H) (by decide)
   ·rw [if_neg c17] at H
    have c17b0 : (t325 != t317) = false := by simpa using c17
    (try (have c17b1 : decide (t325 = t317) = true := by simpa using c17))
    (try (have c17b2 : (t325 == t317) = true := by simpa using c17))
    clear c17
    replace H := ga H; obtain ⟨t326, A37, H⟩ := H
    replace H := ga H; obtain ⟨t329, A38, H⟩ := H
    replace H := gb H; obtain ⟨rfl, H⟩ | ⟨rfl, H⟩ := H
    ·replace H := ga H; obtain ⟨t330, A40, H⟩ := H
     replace H := ga H; obtain ⟨t333, A41, H⟩ := H
     by_cases c42 : t333 = true
     ·subst c42
      have H1 : (some true) = some true := rfl
      clear H
      have H := H1
      clear H1
      skip
      go_enter Try.func9, Try.ntmps9
      try go_wp2_with (first | ((with_reducible refine gate_dst (N := 3) rfl ?_); refine bx 3 #[.slice A0_0 l0_0.length c0_0] 24 ?_; intro gb309 hg w43 hbox hb; have BK309 := Aside0.mk (hbox); have GW309 := Aside0.mk (gs hg : w.heap.size ≤ gb309); have GE309 := Aside0.mk (gs hg : w.heap.size ≤ gb309); replace HB := Aside0.mk (below_step bw hb); clear hb hbox hg; have hcz44_0 := bc BK309 0 (.slice A0_0 l0_0.length c0_0); have hfz44_0 := blk_frozen BK309.out 0) | ((with_reducible refine gate_callee (f := 15) rfl ?_); refine gl (some 17) Try.func15 #[.agg #[.slice A0_0 l0_0.length c0_0], .int .i64 1048576] ?_; (with_reducible refine (laws_szSemigroup.calls _ _ l0_0 1048576 t310 _ ?side1 ?side2 A6.out).mono ?_); (case side1 => exact co (Kd.C_below HR0_0.out HB.out)); (case side2 => exact HC0_0.out); rintro e w45 ⟨rfl, hb⟩; refine ⟨_, rfl, ?_⟩; replace BK309 := Aside0.mk (blk_below (g := gb309) (o := .cells #[.slice A0_0 l0_0.length c0_0] 24 (0, 0)) (bo BK309.out) hb); replace HB := Aside0.mk (below_step bw hb); clear hb; have hcz46_0 := bc BK309 0 (.slice A0_0 l0_0.length c0_0); have hfz46_0 := blk_frozen BK309.out 0) | ((with_reducible refine gate_callee (f := 17) rfl ?_); refine gl (some 21) Try.func17 #[.agg #[.slice A0_0 l0_0.length c0_0]] ?_; (with_reducible refine (laws_toSemigroup.calls k _ _ l0_0 t311 _ ?side1 ?side2 A11.out).mono ?_); (case side1 => exact co (Kd.C_below HR0_0.out HB.out)); (case side2 => exact HC0_0.out); rintro e w47 ⟨v312, rfl, ho0, hb⟩; refine ⟨_, rfl, ?_⟩; have HO313 := Aside0.mk (Kd.R_lower ho0 (below_size bw)); replace BK309 := Aside0.mk (blk_below (g := gb309) (o := .cells #[.slice A0_0 l0_0.length c0_0] 24 (0, 0)) (bo BK309.out) hb); replace HB := Aside0.mk (below_step bw hb); clear hb ho0) | ((with_reducible refine gate_callee (f := 23) rfl ?_); refine gl (some 23) Try.func23 #[.slice A1 l1.length c1] ?_; (with_reducible refine (laws_toIntS.calls k _ _ l1 t314 _ ?side1 ?side2 A12.out).mono ?_); (case side1 => exact co (Kd.C_below HR1.out HB.out)); (case side2 => exact HC1.out); rintro e w48 ⟨v315, rfl, ho0, hb⟩; refine ⟨_, rfl, ?_⟩; have HO316 := Aside0.mk (Kd.R_lower (Kd.R_new' ho0 (Kd.R_lt (ro HO313.out))) (below_size bw)); replace HO313 := Aside0.mk (Kd.R_elder' (ro HO313.out) (Kd.R_base ho0) hb); replace BK309 := Aside0.mk (blk_below (g := gb309) (o := .cells #[.slice A0_0 l0_0.length c0_0] 24 (0, 0)) (bo BK309.out) hb); replace HB := Aside0.mk (below_step bw hb); clear hb ho0; obtain ⟨Ao49, co49, eo49⟩ := Kd.R_slice HO313.out; subst eo49; obtain ⟨Ao50, co50, eo50⟩ := Kd.R_slice HO316.out; subst eo50) | ((with_reducible refine gate_callee (f := 32) rfl ?_); refine gl (some 25) Try.func32 #[.agg #[.slice Ao49 t311.length co49], .slice Ao50 t314.length co50, .int .i64 a2] ?_; (with_reducible refine (spec_InIdeal.calls k _ _ t311 _ _ t314 a2 t317 _ ?side1 ?side2 ?side3 ?side4 A13.out).mono ?_); (case side1 => exact co (Kd.R_reads' HO313.out).2.2); (case side2 => exact (Kd.R_reads' HO313.out).2.1); (case side3 => exact co (Kd.R_reads' HO316.out).2.2); (case side4 => exact (Kd.R_reads' HO316.out).2.1); rintro e w51 ⟨rfl, hb⟩; refine ⟨_, rfl, ?_⟩; replace HO313 := Aside0.mk (Kd.R_below (ro HO313.out) hb); replace HO316 := Aside0.mk (Kd.R_below (ro HO316.out) hb); replace BK309 := Aside0.mk (blk_below (g := gb309) (o := .cells #[.slice A0_0 l0_0.length c0_0] 24 (0, 0)) (bo BK309.out) hb); replace HB := Aside0.mk (below_step bw hb); clear hb; have hcz52_0 := bc BK309 0 (.slice A0_0 l0_0.length c0_0); have hfz52_0 := blk_frozen BK309.out 0) | ((with_reducible refine gate_callee (f := 17) rfl ?_); refine gl (some 27) Try.func17 #[.agg #[.slice A0_0 l0_0.length c0_0]] ?_; (with_reducible refine (laws_toSemigroup.calls k _ _ l0_0 t318 _ ?side1 ?side2 A14.out).mono ?_); (case side1 => exact co (Kd.C_below HR0_0.out HB.out)); (case side2 => exact HC0_0.out); rintro e w53 ⟨v319, rfl, ho0, hb⟩; refine ⟨_, rfl, ?_⟩; have HO320 := Aside0.mk (Kd.R_lower (Kd.R_new' (Kd.R_new' ho0 (Kd.R_lt (ro HO313.out))) (Kd.R_lt (ro HO316.out))) (below_size bw)); replace HO313 := Aside0.mk (Kd.R_elder' (ro HO313.out) (Kd.R_base ho0) hb); replace HO316 := Aside0.mk (Kd.R_elder' (ro HO316.out) (Kd.R_base ho0) hb); replace BK309 := Aside0.mk (blk_below (g := gb309) (o := .cells #[.slice A0_0 l0_0.length c0_0] 24 (0, 0)) (bo BK309.out) hb); replace HB := Aside0.mk (below_step bw hb); clear hb ho0) | ((with_reducible refine gate_dst (N := 9) rfl ?_); refine bx 9 #[.slice none 0 0] 27 ?_; intro gb321 hg w54 hbox hb; replace HO313 := Aside0.mk (Kd.R_below (ro HO313.out) hb); replace HO316 := Aside0.mk (Kd.R_below (ro HO316.out) hb); replace HO320 := Aside0.mk (Kd.R_below (ro HO320.out) hb); have BK321 := Aside0.mk (hbox); have GW321 := Aside0.mk (gs hg : w.heap.size ≤ gb321); have GE321 := Aside0.mk (gs hg : w.heap.size ≤ gb321); replace HB := Aside0.mk (below_step bw hb); have NB309_321 := Aside0.mk ((by rw [hg]; exact Nat.ne_of_lt (blk_lt (g := gb309) (o := .cells #[.slice A0_0 l0_0.length c0_0] 24 (0, 0)) (bo BK309.out)) : gb309 ≠ gb321)); have NB321_309 := Aside0.mk ((by rw [hg]; exact Nat.ne_of_gt (blk_lt (g := gb309) (o := .cells #[.slice A0_0 l0_0.length c0_0] 24 (0, 0)) (bo BK309.out)) : gb321 ≠ gb309)); replace BK309 := Aside0.mk (blk_below (g := gb309) (o := .cells #[.slice A0_0 l0_0.length c0_0] 24 (0, 0)) (bo BK309.out) hb); clear hb hbox hg; obtain ⟨Ao55, co55, eo55⟩ := Kd.R_slice HO320.out; subst eo55; have hnb56 := NB321_309.out; have hnc56 := NB309_321.out; have hcz57_0 := bc BK321 0 (.slice none 0 0); have hfz57_0 := blk_frozen BK321.out 0) | ((with_reducible refine gate_callee (f := 23) rfl ?_); refine gl (some 29) Try.func23 #[.slice A1 l1.length c1] ?_; (with_reducible refine (laws_toIntS.calls k _ _ l1 t322 _ ?side1 ?side2 A15.out).mono ?_); (case side1 => exact Kd.C_below HR1.out bw); (case side2 => exact HC1.out); rintro e w58 ⟨v323, rfl, ho0, hb⟩; refine ⟨_, rfl, ?_⟩; have HO324 := Aside0.mk (Kd.R_lower (Kd.R_new' (Kd.R_new' (Kd.R_new' ho0 (Kd.R_lt (by (with_reducible repeat (first | apply Kd.R_alloc | apply Kd.R_drewN | apply Kd.R_drew)); exact (Kd.R_mono (Kd.R_far (p := ⟨gb321, 0, none⟩) (Kd.R_types HO313.out BK321.out (by decide)) (fun _ hk => hk.2) (.slice Ao55 t318.length co55)) (fun _ h_ => h_.1))))) (Kd.R_lt (by (with_reducible repeat (first | apply Kd.R_alloc | apply Kd.R_drewN | apply Kd.R_drew)); exact (Kd.R_mono (Kd.R_far (p := ⟨gb321, 0, none⟩) (Kd.R_types HO316.out BK321.out (by decide)) (fun _ hk => hk.2) (.slice Ao55 t318.length co55)) (fun _ h_ => h_.1))))) (Kd.R_lt (by (with_reducible repeat (first | apply Kd.R_alloc | apply Kd.R_drewN | apply Kd.R_drew)); exact (Kd.R_mono (Kd.R_far (p := ⟨gb321, 0, none⟩) (Kd.R_types HO320.out BK321.out (by decide)) (fun _ hk => hk.2) (.slice Ao55 t318.length co55)) (fun _ h_ => h_.1))))) (below_size bw)); replace HO313 := Aside0.mk (Kd.R_elder' (by (with_reducible repeat (first | apply Kd.R_alloc | apply Kd.R_drewN | apply Kd.R_drew)); exact (Kd.R_mono (Kd.R_far (p := ⟨gb321, 0, none⟩) (Kd.R_types HO313.out BK321.out (by decide)) (fun _ hk => hk.2) (.slice Ao55 t318.length co55)) (fun _ h_ => h_.1))) (Kd.R_base ho0) hb); replace HO316 := Aside0.mk (Kd.R_elder' (by (with_reducible repeat (first | apply Kd.R_alloc | apply Kd.R_drewN | apply Kd.R_drew)); exact (Kd.R_mono (Kd.R_far (p := ⟨gb321, 0, none⟩) (Kd.R_types HO316.out BK321.out (by decide)) (fun _ hk => hk.2) (.slice Ao55 t318.length co55)) (fun _ h_ => h_.1))) (Kd.R_base ho0) hb); replace HO320 := Aside0.mk (Kd.R_elder' (by (with_reducible repeat (first | apply Kd.R_alloc | apply Kd.R_drewN | apply Kd.R_drew)); exact (Kd.R_mono (Kd.R_far (p := ⟨gb321, 0, none⟩) (Kd.R_types HO320.out BK321.out (by decide)) (fun _ hk => hk.2) (.slice Ao55 t318.length co55)) (fun _ h_ => h_.1))) (Kd.R_base ho0) hb); replace BK309 := Aside0.mk (blk_below (g := gb309) (o := .cells #[.slice A0_0 l0_0.length c0_0] 24 (0, 0)) (by (with_reducible repeat (first | refine blk_drewN ?_ _ | refine blk_drew ?_ | refine blk_alloc ?_ _)); refine blk_far ?_ NB309_321.out _; (with_reducible repeat (first | refine blk_drewN ?_ _ | refine blk_drew ?_ | refine blk_alloc ?_ _)); exact BK309.out) hb); replace BK321 := Aside0.mk (blk_below (g := gb321) (o := .cells #[.slice Ao55 t318.length co55] 27 (0, 0)) (by (with_reducible repeat (first | refine blk_drewN ?_ _ | refine blk_drew ?_ | refine blk_alloc ?_ _)); refine blk_put (cs := #[.slice none 0 0]) ?_ 0 _ rfl; (with_reducible repeat (first | refine blk_drewN ?_ _ | refine blk_drew ?_ | refine blk_alloc ?_ _)); exact BK321.out) hb); replace HB := Aside0.mk (below_step bw hb); clear hb ho0; have hcz59_0 := bc BK321 0 (.slice Ao55 t318.length co55); have hfz59_0 := blk_frozen BK321.out 0; obtain ⟨Ao60, co60, eo60⟩ := Kd.R_slice HO324.out; subst eo60) | ((with_reducible refine gate_callee (f := 33) rfl ?_); refine gl (some 33) Try.func33 #[.agg #[.slice Ao55 t318.length co55], .slice Ao60 t322.length co60, .int .i64 a2] ?_; (with_reducible refine (impl_InIdeal.calls k _ _ t318 _ _ t322 a2 t325 _ ?side1 ?side2 ?side3 ?side4 A16.out).mono ?_); (case side1 => exact co (Kd.R_reads' HO320.out).2.2); (case side2 => exact (Kd.R_reads' HO320.out).2.1); (case side3 => exact co (Kd.R_reads' HO324.out).2.2); (case side4 => exact (Kd.R_reads' HO324.out).2.1); rintro e w61 ⟨rfl, hb⟩; refine ⟨_, rfl, ?_⟩; replace HO313 := Aside0.mk (Kd.R_below (ro HO313.out) hb); replace HO316 := Aside0.mk (Kd.R_below (ro HO316.out) hb); replace HO320 := Aside0.mk (Kd.R_below (ro HO320.out) hb); replace HO324 := Aside0.mk (Kd.R_below (ro HO324.out) hb); replace BK309 := Aside0.mk (blk_below (g := gb309) (o := .cells #[.slice A0_0 l0_0.length c0_0] 24 (0, 0)) (bo BK309.out) hb); replace BK321 := Aside0.mk (blk_below (g := gb321) (o := .cells #[.slice Ao55 t318.length co55] 27 (0, 0)) (bo BK321.out) hb); replace HB := Aside0.mk (below_step bw hb); clear hb))
      replace HO313 := Aside0.mk (Kd.R_drew HO313.out)
      replace HO316 := Aside0.mk (Kd.R_drew HO316.out)
      replace HO320 := Aside0.mk (Kd.R_drew HO320.out)
      replace HO324 := Aside0.mk (Kd.R_drew HO324.out)
      replace BK309 := Aside0.mk (blk_drew BK309.out)
      replace BK321 := Aside0.mk (blk_drew BK321.out)
      replace HB := Aside0.mk (below_drew1 HB.out)
      refine start_ (n := 5) (S := fun w' => w'.cell? ⟨gb321, 0, none⟩ = some (.slice Ao55 t318.length co55) ∧ w'.cell? ⟨gb309, 0, none⟩ = some (.slice A0_0 l0_0.length c0_0)) (ds := []) #[Z,Z,Z,Z,Z] (by kernel_rfl) rfl rfl ⟨(blk_cell BK321.out 0).trans rfl, (blk_cell BK309.out 0).trans rfl⟩ (fun hHeld => ?_)
      generalize w61.drew = w62 at HO313 HO316 HO320 HO324 BK309 BK321 HB hHeld ⊢
      refine take_ (i := 0) (N := some 37) (v := ?_) (a' := ?_) #[Y,Z,Z,Z,Z] rfl rfl (by kernel_rfl) (fun _ _ _ h => h) (Or.inl ⟨by rfl, ?_⟩) hHeld ?_ ?_
      rotate_left
      ·rintro w' ⟨s0, s1⟩
       go_simp
       with_reducible rfl
      rotate_left
      ·simp only [Act.put, qa, qb, qc, i64_w, i32_w]
       rfl
      refine take_ (i := 1) (N := some 38) (v := ?_) (a' := ?_) #[Y,Y,Z,Z,Z] rfl rfl (by kernel_rfl) (fun _ _ _ h => h) (Or.inl ⟨by rfl, ?_⟩) hHeld ?_ ?_
      rotate_left
      ·rintro w' ⟨s0, s1⟩
       go_simp
       with_reducible rfl
      rotate_left
      ·simp only [Act.put, qa, qb, qc, i64_w, i32_w]
       rfl
      refine one_ (i := 2) (N := some 39) #[Y,Y,Y,Z,Z] rfl rfl (by kernel_rfl) (by decide) (fun K hK => ?_)
      refine gm Try.func17 #[.agg #[.slice A0_0 l0_0.length c0_0]] ?_
      with_reducible refine (laws_toSemigroup.calls k _ _ l0_0 t326 _ ?side1 ?side2 A37.out).mono ?_
      (case side1 => exact co (Kd.C_below HR0_0.out HB.out))
      (case side2 => exact HC0_0.out)
      rintro e w63 ⟨v327, rfl, ho0, hb⟩
      refine ⟨_, rfl, ?_⟩
      have HO328 := Aside0.mk (Kd.R_lower (Kd.R_new' (Kd.R_new' (Kd.R_new' (Kd.R_new' ho0 (Kd.R_lt (ro HO313.out))) (Kd.R_lt (ro HO316.out))) (Kd.R_lt (ro HO320.out))) (Kd.R_lt (ro HO324.out))) (below_size bw))
      replace HO313 := Aside0.mk (Kd.R_elder' (ro HO313.out) (Kd.R_base ho0) hb)
      replace HO316 := Aside0.mk (Kd.R_elder' (ro HO316.out) (Kd.R_base ho0) hb)
      replace HO320 := Aside0.mk (Kd.R_elder' (ro HO320.out) (Kd.R_base ho0) hb)
      replace HO324 := Aside0.mk (Kd.R_elder' (ro HO324.out) (Kd.R_base ho0) hb)
      replace BK309 := Aside0.mk (blk_below (g := gb309) (o := .cells #[.slice A0_0 l0_0.length c0_0] 24 (0, 0)) (bo BK309.out) hb)
      replace BK321 := Aside0.mk (blk_below (g := gb321) (o := .cells #[.slice Ao55 t318.length co55] 27 (0, 0)) (bo BK321.out) hb)
      replace HB := Aside0.mk (below_step bw hb)
      clear hb ho0
      obtain ⟨Ao64, co64, eo64⟩ := Kd.R_slice HO328.out
      (first | subst eo64 | (injection eo64 with f1_ f2_ f3_; have f4_ := f1_.symm; have f5_ := f3_.symm; clear f1_ f2_ f3_; subst f4_; subst f5_))
      refine hK.out _ _ ⟨(blk_cell BK321.out 0).trans rfl, (blk_cell BK309.out 0).trans rfl⟩ (fun hHeld => ?_)
      clear hK K
      refine norm_ (a' := ?_) ?_ ?_
      rotate_left
      ·show Act.put _ (some 39) _ = _
       simp only [Act.put, qa, qb, qc, i64_w, i32_w]
       rfl
      refine one_ (i := 3) (N := some 40) #[Y,Y,Y,Y,Z] rfl rfl (by kernel_rfl) (by decide) (fun K hK => ?_)
      refine gm Try.func19 #[.agg #[.slice Ao55 t318.length co55], .agg #[.slice Ao64 t326.length co64]] ?_
      with_reducible refine (laws_eqSemigroup.calls k _ _ t318 _ _ t326 true _ ?side1 ?side2 ?side3 ?side4 A38.out).mono ?_
      (case side1 => exact co (Kd.R_reads' HO320.out).2.2)
      (case side2 => exact (Kd.R_reads' HO320.out).2.1)
      (case side3 => exact co (Kd.R_reads' HO328.out).2.2)
      (case side4 => exact (Kd.R_reads' HO328.out).2.1)
      rintro e w65 ⟨rfl, hb⟩
      refine ⟨_, rfl, ?_⟩
      replace HO313 := Aside0.mk (Kd.R_below (ro HO313.out) hb)
      replace HO316 := Aside0.mk (Kd.R_below (ro HO316.out) hb)
      replace HO320 := Aside0.mk (Kd.R_below (ro HO320.out) hb)
      replace HO324 := Aside0.mk (Kd.R_below (ro HO324.out) hb)
      replace HO328 := Aside0.mk (Kd.R_below (ro HO328.out) hb)
      replace BK309 := Aside0.mk (blk_below (g := gb309) (o := .cells #[.slice A0_0 l0_0.length c0_0] 24 (0, 0)) (bo BK309.out) hb)
      replace BK321 := Aside0.mk (blk_below (g := gb321) (o := .cells #[.slice Ao55 t318.length co55] 27 (0, 0)) (bo BK321.out) hb)
      replace HB := Aside0.mk (below_step bw hb)
      clear hb
      refine hK.out _ _ ⟨(blk_cell BK321.out 0).trans rfl, (blk_cell BK309.out 0).trans rfl⟩ (fun hHeld => ?_)
      clear hK K
      refine norm_ (a' := ?_) ?_ ?_
      rotate_left
      ·show Act.put _ (some 40) _ = _
       simp only [Act.put, qa, qb, qc, i64_w, i32_w]
       rfl
      refine pure_ (i := 4) (N := some 41) (v := ?_) (a' := ?_) #[Y,Y,Y,Y,Y] rfl rfl (by kernel_rfl) (fun _ _ _ h => h) (Or.inl ⟨by rfl, ?_⟩) ?_ ?_
      rotate_left
      ·intro w'
       go_simp
       with_reducible rfl
      rotate_left
      ·simp only [Act.put, qa, qb, qc, i64_w, i32_w]
       rfl
      refine done_ (by kernel_rfl) ?_
      try go_wp2_with (first | ((with_reducible refine gate_callee (f := 23) rfl ?_); refine gl (some 44) Try.func23 #[.slice A1 l1.length c1] ?_; (with_reducible refine (laws_toIntS.calls k _ _ l1 t330 _ ?side1 ?side2 A40.out).mono ?_); (case side1 => exact co (Kd.C_below HR1.out HB.out)); (case side2 => exact HC1.out); rintro e w66 ⟨v331, rfl, ho0, hb⟩; refine ⟨_, rfl, ?_⟩; have HO332 := Aside0.mk (Kd.R_lower (Kd.R_new' (Kd.R_new' (Kd.R_new' (Kd.R_new' (Kd.R_new' ho0 (Kd.R_lt (ro HO313.out))) (Kd.R_lt (ro HO316.out))) (Kd.R_lt (ro HO320.out))) (Kd.R_lt (ro HO324.out))) (Kd.R_lt (ro HO328.out))) (below_size bw)); replace HO313 := Aside0.mk (Kd.R_elder' (ro HO313.out) (Kd.R_base ho0) hb); replace HO316 := Aside0.mk (Kd.R_elder' (ro HO316.out) (Kd.R_base ho0) hb); replace HO320 := Aside0.mk (Kd.R_elder' (ro HO320.out) (Kd.R_base ho0) hb); replace HO324 := Aside0.mk (Kd.R_elder' (ro HO324.out) (Kd.R_base ho0) hb); replace HO328 := Aside0.mk (Kd.R_elder' (ro HO328.out) (Kd.R_base ho0) hb); replace BK309 := Aside0.mk (blk_below (g := gb309) (o := .cells #[.slice A0_0 l0_0.length c0_0] 24 (0, 0)) (bo BK309.out) hb); replace BK321 := Aside0.mk (blk_below (g := gb321) (o := .cells #[.slice Ao55 t318.length co55] 27 (0, 0)) (bo BK321.out) hb); replace HB := Aside0.mk (below_step bw hb); clear hb ho0; obtain ⟨Ao67, co67, eo67⟩ := Kd.R_slice HO332.out; subst eo67) | ((with_reducible refine gate_callee (f := 25) rfl ?_); refine gl (some 45) Try.func25 #[.slice Ao60 t322.length co60, .slice Ao67 t330.length co67] ?_; (with_reducible refine (laws_eqIntS.calls k _ _ t322 _ _ t330 true _ ?side1 ?side2 ?side3 ?side4 A41.out).mono ?_); (case side1 => exact co (Kd.R_reads' HO324.out).2.2); (case side2 => exact (Kd.R_reads' HO324.out).2.1); (case side3 => exact co (Kd.R_reads' HO332.out).2.2); (case side4 => exact (Kd.R_reads' HO332.out).2.1); rintro e w' ⟨rfl, ⟨nd, rfl⟩⟩; refine ⟨_, rfl, ?_⟩))
      go_ret
      exact ⟨re, bw⟩
     ·replace c42 := Bool.eq_false_iff.mpr c42
      subst c42
      have H1 : (some false) = some true := by rw [if_neg (show ¬ (false = true) by decide)] at H; exact H
      clear H
      have H := H1
      clear H1
      exact absurd (Option.some.inj H) (by decide)
    ·exact absurd (Option.some.inj H) (by decide)
end Go.Proofs.Ytolbllafeblmdaa.C
