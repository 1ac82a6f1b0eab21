/- Contracts of functions of the program: spec_l1Bit, spec_l15Euler, spec_EulerAt, impl_EulerAt, laws_FnExactEulerAt. -/
import Derived.Test.YtolbllafeblmdaaC0
import Derived.Test.YtolbllafeblmdaaC1
import Derived.Test.YtolbllafeblmdaaC3
import Derived.Test.YtolbllafeblmdaaC4
import Derived.Test.YtolbllafeblmdaaC5
import Derived.Test.YtolbllafeblmdaaC6
namespace Go.Proofs.Ytolbllafeblmdaa.C
open Go.RowKit Go.Proofs.YtolbllafeblmdaaW.PrintWords Go.Proofs.YtolbllafeblmdaaW.PrintLast Go.Proofs.YtolbllafeblmdaaW.PrintMore
attribute [local go_sem] max2_int min2_int max_two min_two max_three min_three max_four min_four
set_option linter.unusedVariables false
set_option linter.unusedSimpArgs false

/-! ### spec_l1Bit: function 71 -/
def spec_l1Bit.f (a0 : Bool) : Option (Int) := if a0 = true then (some 1) else (some 0)
set_option maxHeartbeats 8000000 in
set_option maxRecDepth 100000 in
theorem spec_l1Bit.calls (a0 : Bool) (r : Int) (w : World) (h : spec_l1Bit.f a0 = some r) :
  Calls Try.prog 71 #[.bool a0] w fun e w' => e = .returned (.int .i64 r) ∧ Drawn0 w w' := by
 have H : (if a0 = true then (some 1) else (some 0)) = some r := h
 clear h
 replace H := gb H; obtain ⟨rfl, H⟩ | ⟨rfl, H⟩ := H
 ·obtain rfl := Option.some.inj H
  go_enter Try.func71, Try.ntmps71
  go_wp2
  go_ret
  exact ⟨rr, dw⟩
 ·obtain rfl := Option.some.inj H
  go_enter Try.func71, Try.ntmps71
  go_wp2
  go_ret
  exact ⟨rr, dw⟩


/-! ### spec_l15Euler: function 65 -/
def spec_l15Euler.f : Nat → List Int → Int → Int → Option (Int)
 | 0, _, _, _ => none
 | k + 1, l0_0, a1, a2 => if a2 < 0 then (some 0) else (if a1 = (l0_0.length : Int) then ((spec_l15Has.f k l0_0 a2).bind fun t335 => ((spec_l1Bit.f t335).bind fun t336 => (some t336))) else ((spec_l15Euler.f k l0_0 (wrap64 (a1 + 1)) a2).bind fun t337 => (if 0 ≤ a1 then (if a1 < (l0_0.length : Int) then ((spec_l15Euler.f k l0_0 (wrap64 (a1 + 1)) (wrap64 (a2 - (rd l0_0 a1)))).bind fun t339 => (some (wrap64 (t337 - t339)))) else (none)) else (none))))
def spec_l15Euler.T5 : Bool × List (List Nat × List Nat) := (true, [([], []), ([], []), ([1], [1]), ([], []), ([0, 2, 3], [0, 2, 3]), ([], []), ([], []), ([6], [6]), ([], []), ([], []), ([9], [9]), ([], []), ([10, 11], [10, 11]), ([12], [12]), ([8, 13], [8, 13]), ([5, 7, 14, 4], [5, 7, 14]), ([4, 15], [4, 15]), ([16, 15, 0, 1, 2, 3, 4, 5, 6, 7, 8, 9, 10, 11, 12, 13, 14, 15, 16], [16])])
def spec_l15Euler.B5 : List Nat := [0, 0, 2, 0, 15, 0, 0, 64, 0, 0, 512, 0, 3584, 7680, 16128, 32767, 65535, 131071]
theorem spec_l15Euler.tab5 : rtab .any (opsOf Try.f65 5) = spec_l15Euler.T5 := by kernel_rfl
theorem spec_l15Euler.bits5 : waitsOk spec_l15Euler.T5.2 spec_l15Euler.B5 = true := by kernel_rfl
set_option maxHeartbeats 8000000 in
set_option maxRecDepth 100000 in
theorem spec_l15Euler.calls (k : Nat) : ∀ (A0_0 : Option Addr) (c0_0 : Nat) (l0_0 : List Int) (a1 : Int) (a2 : Int) (r : Int) (w : World) (hr0_0 : Kd.C (Kd.int .i64) w A0_0 l0_0.length l0_0) (hc0_0 : l0_0.length ≤ c0_0) (h : spec_l15Euler.f k l0_0 a1 a2 = some r),
  Calls Try.prog 65 #[.agg #[.slice A0_0 l0_0.length c0_0], .int .i64 a1, .int .i64 a2] w fun e w' => e = .returned (.int .i64 r) ∧ Below w.heap.size w w' := by
 induction k using Nat.strongRecOn with
 | _ k ih =>
 intro A0_0 c0_0 l0_0 a1 a2 r w hr0_0 hc0_0 h
 cases k with
 | zero => exact absurd h (by simp [spec_l15Euler.f])
 | succ k =>
 simp only [spec_l15Euler.f] at h
 have hu27 := Try.underlying27
 have HR0_0 := Aside0.mk hr0_0
 have HC0_0 := Aside0.mk hc0_0
 clear hr0_0 hc0_0
 have HB := Aside0.mk (Below.refl w.heap.size w)
 have H : (if a2 < 0 then (some 0) else (if a1 = (l0_0.length : Int) then ((spec_l15Has.f k l0_0 a2).bind fun t335 => ((spec_l1Bit.f t335).bind fun t336 => (some t336))) else ((spec_l15Euler.f k l0_0 (wrap64 (a1 + 1)) a2).bind fun t337 => (if 0 ≤ a1 then (if a1 < (l0_0.length : Int) then ((spec_l15Euler.f k l0_0 (wrap64 (a1 + 1)) (wrap64 (a2 - (rd l0_0 a1)))).bind fun t339 => (some (wrap64 (t337 - t339)))) else (none)) else (none))))) = some r := h
 clear h
 replace H := gi H; obtain ⟨c4b0, H⟩ | ⟨c4b0, H⟩ := H
 ·obtain rfl := Option.some.inj H
  go_enter Try.func65, Try.ntmps65
  go_wp2_with (first | ((with_reducible refine gate_dst (N := 3) rfl ?_); refine bx 3 #[.slice A0_0 l0_0.length c0_0] 27 ?_; intro gb334 hg w5 hbox hb; have BK334 := Aside0.mk (hbox); have GW334 := Aside0.mk (gs hg : w.heap.size ≤ gb334); have GE334 := Aside0.mk (gs hg : w.heap.size ≤ gb334); replace HB := Aside0.mk (below_step bw hb); clear hb hbox hg))
  go_ret
  exact ⟨re, bw⟩
 ·by_cases c6 : a1 = (l0_0.length : Int)
  ·rw [if_pos c6] at H
   have c6b0 : (a1 == (l0_0.length : Int)) = true := beq_iff_eq.mpr c6
   have c6b1 : (a1 != (l0_0.length : Int)) = false := bne_eq_false_iff_eq.mpr c6
   clear c6
   replace H := ga H; obtain ⟨t335, A7, H⟩ := H
   replace H := ga H; obtain ⟨t336, A8, H⟩ := H
   obtain rfl := Option.some.inj H
   go_enter Try.func65, Try.ntmps65
   go_wp2_with (first | ((with_reducible refine gate_dst (N := 3) rfl ?_); refine bx 3 #[.slice A0_0 l0_0.length c0_0] 27 ?_; intro gb334 hg w9 hbox hb; have BK334 := Aside0.mk (hbox); have GW334 := Aside0.mk (gs hg : w.heap.size ≤ gb334); have GE334 := Aside0.mk (gs hg : w.heap.size ≤ gb334); replace HB := Aside0.mk (below_step bw hb); clear hb hbox hg; have hcz10_0 := bc BK334 0 (.slice A0_0 l0_0.length c0_0); have hfz10_0 := blk_frozen BK334.out 0) | ((with_reducible refine gate_callee (f := 72) rfl ?_); refine gl (some 16) Try.func72 #[.agg #[.slice A0_0 l0_0.length c0_0], .int .i64 a2] ?_; (with_reducible refine (spec_l15Has.calls k _ _ l0_0 a2 t335 _ ?side1 ?side2 A7.out).mono ?_); (case side1 => exact co (Kd.C_below HR0_0.out HB.out)); (case side2 => exact HC0_0.out); rintro e w11 ⟨rfl, hb⟩; refine ⟨_, rfl, ?_⟩; replace BK334 := Aside0.mk (blk_below (g := gb334) (o := .cells #[.slice A0_0 l0_0.length c0_0] 27 (0, 0)) (bo BK334.out) hb); replace HB := Aside0.mk (below_step bw hb); clear hb) | ((with_reducible refine gate_callee (f := 71) rfl ?_); refine gl (some 17) Try.func71 #[.bool t335] ?_; (with_reducible refine (spec_l1Bit.calls t335 t336 _ A8.out).mono ?_); rintro e w' ⟨rfl, ⟨nd, rfl⟩⟩; refine ⟨_, rfl, ?_⟩))
   go_ret
   exact ⟨re, bw⟩
  ·rw [if_neg c6] at H
   have c6b0 : (a1 == (l0_0.length : Int)) = false := beq_eq_false_iff_ne.mpr c6
   have c6b1 : (a1 != (l0_0.length : Int)) = true := bne_iff_ne.mpr c6
   replace H := ga H; obtain ⟨t337, A12, H⟩ := H
   replace H := gd H; obtain ⟨c13b0, H⟩ := H
   replace H := gd H; obtain ⟨c14b0, H⟩ := H
   replace H := ga H; obtain ⟨t339, A15, H⟩ := H
   obtain rfl := Option.some.inj H
   go_enter Try.func65, Try.ntmps65
   try go_wp2_with (first | ((with_reducible refine gate_dst (N := 3) rfl ?_); refine bx 3 #[.slice A0_0 l0_0.length c0_0] 27 ?_; intro gb334 hg w16 hbox hb; have BK334 := Aside0.mk (hbox); have GW334 := Aside0.mk (gs hg : w.heap.size ≤ gb334); have GE334 := Aside0.mk (gs hg : w.heap.size ≤ gb334); replace HB := Aside0.mk (below_step bw hb); clear hb hbox hg; have hcz17_0 := bc BK334 0 (.slice A0_0 l0_0.length c0_0); have hfz17_0 := blk_frozen BK334.out 0))
   replace BK334 := Aside0.mk (blk_drew BK334.out)
   replace HB := Aside0.mk (below_drew1 HB.out)
   obtain ⟨⟨ad338, e338, hx338_0⟩, p338, q338⟩ := pq (Kd.at_int HR0_0.out a1)
   have hw338_0 := hx338_0
   cases e338
   replace hx338_0 := (HB.out.cell (World.block_lt_of_cell? w _ hx338_0)).trans hx338_0
   refine start_ (n := 18) (S := fun w' => w'.cell? ⟨gb334, 0, none⟩ = some (.slice (some ad338) l0_0.length c0_0) ∧ w'.cell? (ad338.add (a1).toNat) = some (.int .i64 (rd l0_0 a1))) (ds := []) #[Z,Z,Z,Z,Z,Z,Z,Z,Z,Z,Z,Z,Z,Z,Z,Z,Z,Z] (by kernel_rfl) rfl rfl ⟨(blk_cell BK334.out 0).trans rfl, ((HB.out.cell (World.block_lt_of_cell? w _ hw338_0)).trans hw338_0)⟩ (fun hHeld => ?_); refine with_tabW spec_l15Euler.tab5 spec_l15Euler.bits5 (fun HT_ HW_ => ?_)
   generalize w16.drew = w18 at BK334 HB hx338_0 hHeld ⊢
   refine pa 1 (some 19) #[Z,Y,Z,Z,Z,Z,Z,Z,Z,Z,Z,Z,Z,Z,Z,Z,Z,Z] HT_ ?_
   refine pa 2 (some 20) #[Z,Y,Y,Z,Z,Z,Z,Z,Z,Z,Z,Z,Z,Z,Z,Z,Z,Z] HT_ ?_
   refine pa 3 (some 21) #[Z,Y,Y,Y,Z,Z,Z,Z,Z,Z,Z,Z,Z,Z,Z,Z,Z,Z] HT_ ?_
   refine pa 6 (some 24) #[Z,Y,Y,Y,Z,Z,Y,Z,Z,Z,Z,Z,Z,Z,Z,Z,Z,Z] HT_ ?_
   refine pa 7 (some 25) #[Z,Y,Y,Y,Z,Z,Y,Y,Z,Z,Z,Z,Z,Z,Z,Z,Z,Z] HT_ ?_
   refine pa 8 (some 26) #[Z,Y,Y,Y,Z,Z,Y,Y,Y,Z,Z,Z,Z,Z,Z,Z,Z,Z] HT_ ?_
   refine pa 9 (some 27) #[Z,Y,Y,Y,Z,Z,Y,Y,Y,Y,Z,Z,Z,Z,Z,Z,Z,Z] HT_ ?_
   refine pa 11 (some 29) #[Z,Y,Y,Y,Z,Z,Y,Y,Y,Y,Z,Y,Z,Z,Z,Z,Z,Z] HT_ ?_
   refine take_ (i := 0) (N := some 18) (v := ?_) (a' := ?_) #[Y,Y,Y,Y,Z,Z,Y,Y,Y,Y,Z,Y,Z,Z,Z,Z,Z,Z] rfl rfl (take_ofW HT_.out HW_.out (by kernel_rfl)) (fun _ _ _ h => h) (Or.inl ⟨by rfl, ?_⟩) hHeld ?_ ?_
   rotate_left
   ·rintro w' ⟨s0, s1⟩
    go_simp
    with_reducible rfl
   rotate_left
   ·simp only [Act.put, qa, qb, qc, i64_w, i32_w]
    rfl
   refine take_ (i := 5) (N := some 23) (v := ?_) (a' := ?_) #[Y,Y,Y,Y,Z,Y,Y,Y,Y,Y,Z,Y,Z,Z,Z,Z,Z,Z] rfl rfl (take_ofW HT_.out HW_.out (by kernel_rfl)) (fun _ _ _ h => h) (Or.inl ⟨by rfl, ?_⟩) hHeld ?_ ?_
   rotate_left
   ·rintro w' ⟨s0, s1⟩
    go_simp
    with_reducible rfl
   rotate_left
   ·simp only [Act.put, qa, qb, qc, i64_w, i32_w]
    rfl
   refine take_ (i := 10) (N := some 28) (v := ?_) (a' := ?_) #[Y,Y,Y,Y,Z,Y,Y,Y,Y,Y,Y,Y,Z,Z,Z,Z,Z,Z] rfl rfl (take_ofW HT_.out HW_.out (by kernel_rfl)) (fun _ _ _ h => h) (Or.inl ⟨by rfl, ?_⟩) hHeld ?_ ?_
   rotate_left
   ·rintro w' ⟨s0, s1⟩
    go_simp
    with_reducible rfl
   rotate_left
   ·simp only [Act.put, qa, qb, qc, i64_w, i32_w]
    rfl
   refine pa 12 (some 30) #[Y,Y,Y,Y,Z,Y,Y,Y,Y,Y,Y,Y,Y,Z,Z,Z,Z,Z] HT_ ?_
   refine take_ (i := 13) (N := some 31) (v := ?_) (a' := ?_) #[Y,Y,Y,Y,Z,Y,Y,Y,Y,Y,Y,Y,Y,Y,Z,Z,Z,Z] rfl rfl (take_ofW HT_.out HW_.out (by kernel_rfl)) (fun _ _ _ h => h) (Or.inl ⟨by rfl, ?_⟩) hHeld ?_ ?_
   rotate_left
   ·rintro w' ⟨s0, s1⟩
    go_simp
    with_reducible rfl
   rotate_left
   ·simp only [Act.put, qa, qb, qc, i64_w, i32_w]
    rfl
   refine pa 14 (some 32) #[Y,Y,Y,Y,Z,Y,Y,Y,Y,Y,Y,Y,Y,Y,Y,Z,Z,Z] HT_ ?_
   refine oa 4 (some 22) #[Y,Y,Y,Y,Y,Y,Y,Y,Y,Y,Y,Y,Y,Y,Y,Z,Z,Z] HT_ (fun K hK => ?_)
   refine gm Try.func65 #[.agg #[.slice (some ad338) l0_0.length c0_0], .int .i64 (wrap64 (a1 + 1)), .int .i64 a2] ?_
   with_reducible refine (ih k (by omega) _ _ l0_0 (wrap64 (a1 + 1)) a2 t337 _ ?side1 ?side2 A12.out).mono ?_
   (case side1 => exact co (Kd.C_below HR0_0.out HB.out))
   (case side2 => exact HC0_0.out)
   rintro e w19 ⟨rfl, hb⟩
   refine ⟨_, rfl, ?_⟩
   replace BK334 := Aside0.mk (blk_below (g := gb334) (o := .cells #[.slice (some ad338) l0_0.length c0_0] 27 (0, 0)) (bo BK334.out) hb)
   replace HB := Aside0.mk (below_step bw hb)
   clear hb
   refine hK.out _ _ ⟨(blk_cell BK334.out 0).trans rfl, ((HB.out.cell (World.block_lt_of_cell? w _ hw338_0)).trans hw338_0)⟩ (fun hHeld => ?_)
   clear hK K
   refine norm_ (a' := ?_) ?_ ?_
   rotate_left
   ·show Act.put _ (some 22) _ = _
    simp only [Act.put, qa, qb, qc, i64_w, i32_w]
    rfl
   refine oa 15 (some 33) #[Y,Y,Y,Y,Y,Y,Y,Y,Y,Y,Y,Y,Y,Y,Y,Y,Z,Z] HT_ (fun K hK => ?_)
   refine gm Try.func65 #[.agg #[.slice (some ad338) l0_0.length c0_0], .int .i64 (wrap64 (a1 + 1)), .int .i64 (wrap64 (a2 - (rd l0_0 a1)))] ?_
   with_reducible refine (ih k (by omega) _ _ l0_0 (wrap64 (a1 + 1)) (wrap64 (a2 - (rd l0_0 a1))) t339 _ ?side1 ?side2 A15.out).mono ?_
   (case side1 => exact co (Kd.C_below HR0_0.out HB.out))
   (case side2 => exact HC0_0.out)
   rintro e w20 ⟨rfl, hb⟩
   refine ⟨_, rfl, ?_⟩
   replace BK334 := Aside0.mk (blk_below (g := gb334) (o := .cells #[.slice (some ad338) l0_0.length c0_0] 27 (0, 0)) (bo BK334.out) hb)
   replace HB := Aside0.mk (below_step bw hb)
   clear hb
   refine hK.out _ _ ⟨(blk_cell BK334.out 0).trans rfl, ((HB.out.cell (World.block_lt_of_cell? w _ hw338_0)).trans hw338_0)⟩ (fun hHeld => ?_)
   clear hK K
   refine norm_ (a' := ?_) ?_ ?_
   rotate_left
   ·show Act.put _ (some 33) _ = _
    simp only [Act.put, qa, qb, qc, i64_w, i32_w]
    rfl
   refine pa 16 (some 34) #[Y,Y,Y,Y,Y,Y,Y,Y,Y,Y,Y,Y,Y,Y,Y,Y,Y,Z] HT_ ?_
   refine pa 17 (some 6) #[Y,Y,Y,Y,Y,Y,Y,Y,Y,Y,Y,Y,Y,Y,Y,Y,Y,Y] HT_ ?_
   refine done_ (done_of HT_.out (by kernel_rfl)) ?_
   try go_wp2
   go_ret
   exact ⟨re, bw⟩


/-! ### spec_EulerAt: function 34 -/
def spec_EulerAt.f (k : Nat) (l0_0 : List Int) (a1 : Int) : Option (Int) := (spec_IsSemigroup.f k l0_0).bind fun t341 => (if t341 = true then ((spec_l1In.f a1 0 1000).bind fun t342 => (if t342 = true then ((spec_l15Euler.f k l0_0 0 a1).bind fun t343 => (some t343)) else (some 0))) else (some 0))
set_option maxHeartbeats 8000000 in
set_option maxRecDepth 100000 in
theorem spec_EulerAt.calls (k : Nat) (A0_0 : Option Addr) (c0_0 : Nat) (l0_0 : List Int) (a1 : Int) (r : Int) (w : World) (hr0_0 : Kd.C (Kd.int .i64) w A0_0 l0_0.length l0_0) (hc0_0 : l0_0.length ≤ c0_0) (h : spec_EulerAt.f k l0_0 a1 = some r) :
  Calls Try.prog 34 #[.agg #[.slice A0_0 l0_0.length c0_0], .int .i64 a1] w fun e w' => e = .returned (.int .i64 r) ∧ Below w.heap.size w w' := by
 have hu27 := Try.underlying27
 have HR0_0 := Aside0.mk hr0_0
 have HC0_0 := Aside0.mk hc0_0
 clear hr0_0 hc0_0
 have HB := Aside0.mk (Below.refl w.heap.size w)
 have H : ((spec_IsSemigroup.f k l0_0).bind fun t341 => (if t341 = true then ((spec_l1In.f a1 0 1000).bind fun t342 => (if t342 = true then ((spec_l15Euler.f k l0_0 0 a1).bind fun t343 => (some t343)) else (some 0))) else (some 0))) = some r := h
 clear h
 replace H := ga H; obtain ⟨t341, A3, H⟩ := H
 replace H := gb H; obtain ⟨rfl, H⟩ | ⟨rfl, H⟩ := H
 ·replace H := ga H; obtain ⟨t342, A5, H⟩ := H
  replace H := gb H; obtain ⟨rfl, H⟩ | ⟨rfl, H⟩ := H
  ·replace H := ga H; obtain ⟨t343, A7, H⟩ := H
   obtain rfl := Option.some.inj H
   go_enter Try.func34, Try.ntmps34
   go_wp2_with (first | ((with_reducible refine gate_dst (N := 2) rfl ?_); refine bx 2 #[.slice A0_0 l0_0.length c0_0] 27 ?_; intro gb340 hg w8 hbox hb; have BK340 := Aside0.mk (hbox); have GW340 := Aside0.mk (gs hg : w.heap.size ≤ gb340); have GE340 := Aside0.mk (gs hg : w.heap.size ≤ gb340); replace HB := Aside0.mk (below_step bw hb); clear hb hbox hg; have hcz9_0 := bc BK340 0 (.slice A0_0 l0_0.length c0_0); have hfz9_0 := blk_frozen BK340.out 0) | ((with_reducible refine gate_callee (f := 51) rfl ?_); refine gl (some 6) Try.func51 #[.agg #[.slice A0_0 l0_0.length c0_0]] ?_; (with_reducible refine (spec_IsSemigroup.calls k _ _ l0_0 true _ ?side1 ?side2 A3.out).mono ?_); (case side1 => exact co (Kd.C_below HR0_0.out HB.out)); (case side2 => exact HC0_0.out); rintro e w10 ⟨rfl, hb⟩; refine ⟨_, rfl, ?_⟩; replace BK340 := Aside0.mk (blk_below (g := gb340) (o := .cells #[.slice A0_0 l0_0.length c0_0] 27 (0, 0)) (bo BK340.out) hb); replace HB := Aside0.mk (below_step bw hb); clear hb) | (go_at_call 59; (with_reducible refine (spec_l1In.calls a1 0 1000 true _ A5.out).mono ?_); rintro e w' ⟨rfl, ⟨nd, rfl⟩⟩; have hcz11_0 := bc BK340 0 (.slice A0_0 l0_0.length c0_0); have hfz11_0 := blk_frozen BK340.out 0) | ((with_reducible refine gate_callee (f := 65) rfl ?_); refine gl (some 15) Try.func65 #[.agg #[.slice A0_0 l0_0.length c0_0], .int .i64 0, .int .i64 a1] ?_; (with_reducible refine (spec_l15Euler.calls k _ _ l0_0 0 a1 t343 _ ?side1 ?side2 A7.out).mono ?_); (case side1 => exact co (Kd.C_below HR0_0.out bw)); (case side2 => exact HC0_0.out); rintro e w12 ⟨rfl, hb⟩; refine ⟨_, rfl, ?_⟩; replace BK340 := Aside0.mk (blk_below (g := gb340) (o := .cells #[.slice A0_0 l0_0.length c0_0] 27 (0, 0)) (bo BK340.out) hb); replace HB := Aside0.mk (below_step bw hb); clear hb))
   go_ret
   exact ⟨re, bw⟩
  ·obtain rfl := Option.some.inj H
   go_enter Try.func34, Try.ntmps34
   go_wp2_with (first | ((with_reducible refine gate_dst (N := 2) rfl ?_); refine bx 2 #[.slice A0_0 l0_0.length c0_0] 27 ?_; intro gb340 hg w13 hbox hb; have BK340 := Aside0.mk (hbox); have GW340 := Aside0.mk (gs hg : w.heap.size ≤ gb340); have GE340 := Aside0.mk (gs hg : w.heap.size ≤ gb340); replace HB := Aside0.mk (below_step bw hb); clear hb hbox hg; have hcz14_0 := bc BK340 0 (.slice A0_0 l0_0.length c0_0); have hfz14_0 := blk_frozen BK340.out 0) | ((with_reducible refine gate_callee (f := 51) rfl ?_); refine gl (some 6) Try.func51 #[.agg #[.slice A0_0 l0_0.length c0_0]] ?_; (with_reducible refine (spec_IsSemigroup.calls k _ _ l0_0 true _ ?side1 ?side2 A3.out).mono ?_); (case side1 => exact co (Kd.C_below HR0_0.out HB.out)); (case side2 => exact HC0_0.out); rintro e w15 ⟨rfl, hb⟩; refine ⟨_, rfl, ?_⟩; replace BK340 := Aside0.mk (blk_below (g := gb340) (o := .cells #[.slice A0_0 l0_0.length c0_0] 27 (0, 0)) (bo BK340.out) hb); replace HB := Aside0.mk (below_step bw hb); clear hb) | (go_at_call 59; (with_reducible refine (spec_l1In.calls a1 0 1000 false _ A5.out).mono ?_); rintro e w' ⟨rfl, ⟨nd, rfl⟩⟩))
   go_ret
   exact ⟨re, bw⟩
 ·obtain rfl := Option.some.inj H
  go_enter Try.func34, Try.ntmps34
  go_wp2_with (first | ((with_reducible refine gate_dst (N := 2) rfl ?_); refine bx 2 #[.slice A0_0 l0_0.length c0_0] 27 ?_; intro gb340 hg w16 hbox hb; have BK340 := Aside0.mk (hbox); have GW340 := Aside0.mk (gs hg : w.heap.size ≤ gb340); have GE340 := Aside0.mk (gs hg : w.heap.size ≤ gb340); replace HB := Aside0.mk (below_step bw hb); clear hb hbox hg; have hcz17_0 := bc BK340 0 (.slice A0_0 l0_0.length c0_0); have hfz17_0 := blk_frozen BK340.out 0) | ((with_reducible refine gate_callee (f := 51) rfl ?_); refine gl (some 6) Try.func51 #[.agg #[.slice A0_0 l0_0.length c0_0]] ?_; (with_reducible refine (spec_IsSemigroup.calls k _ _ l0_0 false _ ?side1 ?side2 A3.out).mono ?_); (case side1 => exact co (Kd.C_below HR0_0.out HB.out)); (case side2 => exact HC0_0.out); rintro e w18 ⟨rfl, hb⟩; refine ⟨_, rfl, ?_⟩; replace BK340 := Aside0.mk (blk_below (g := gb340) (o := .cells #[.slice A0_0 l0_0.length c0_0] 27 (0, 0)) (bo BK340.out) hb); replace HB := Aside0.mk (below_step bw hb); clear hb))
  go_ret
  exact ⟨re, bw⟩


/-! ### impl_EulerAt: function 35 -/
mutual
def impl_EulerAt.j0 : Nat → Int → Bool → List Int → Option (Int)
 | 0, _, _, _ => none
 | k + 1, x1, x19, x345000 => if x19 = true then (some 0) else ((impl_reach.f k x345000).bind fun t347 => (impl_EulerAt.l0 k x1 t347 0 (shl .i64 1 (x345000.length : Int)) 0 x345000))
def impl_EulerAt.l0 : Nat → Int → (Int → Option Bool) → Int → Int → Int → List Int → Option (Int)
 | 0, _, _, _, _, _, _ => none
 | k + 1, x1, x5, x6, x25, x26, x345000 => if x26 < x25 then (impl_EulerAt.l1 k x1 x5 x6 x26 x1 1 x25 x26 x345000 (x345000.length : Int) 0 x345000) else (some x6)
def impl_EulerAt.l1 : Nat → Int → (Int → Option Bool) → Int → Int → Int → Int → Int → Int → List Int → Int → Int → List Int → Option (Int)
 | 0, _, _, _, _, _, _, _, _, _, _, _, _ => none
 | k + 1, x1, x5, x6, x7, x8, x9, x25, x26, x31, x32, x33, x345000 => if x33 < x32 then (if 0 ≤ x33 then (if x33 < (x31.length : Int) then (if (Go.bits .and .i64 (shr .i64 x7 x33) 1) = 1 then (impl_EulerAt.l1 k x1 x5 x6 x7 (wrap64 (x8 - (rd x31 x33))) (wrap64 (-x9)) x25 x26 x31 x32 (wrap64 (x33 + 1)) x345000) else (impl_EulerAt.l1 k x1 x5 x6 x7 x8 x9 x25 x26 x31 x32 (wrap64 (x33 + 1)) x345000)) else (none)) else (none)) else ((apF1.f x5 x8).bind fun t349 => (if t349 = true then (impl_EulerAt.l0 k x1 x5 (wrap64 (x6 + x9)) x25 (wrap64 (x26 + 1)) x345000) else (impl_EulerAt.l0 k x1 x5 x6 x25 (wrap64 (x26 + 1)) x345000)))
end
def impl_EulerAt.f (k : Nat) (l0_0 : List Int) (a1 : Int) : Option (Int) := (impl_IsSemigroup.f k l0_0).bind fun t345 => (if t345 = true then ((impl_within.f a1 0 1000).bind fun t346 => (impl_EulerAt.j0 k a1 (!t346) l0_0)) else (impl_EulerAt.j0 k a1 true l0_0))
set_option maxHeartbeats 8000000 in
set_option maxRecDepth 100000 in
theorem impl_EulerAt.calls (k : Nat) (A0_0 : Option Addr) (c0_0 : Nat) (l0_0 : List Int) (a1 : Int) (r : Int) (w : World) (hr0_0 : Kd.C (Kd.int .i64) w A0_0 l0_0.length l0_0) (hc0_0 : l0_0.length ≤ c0_0) (h : impl_EulerAt.f k l0_0 a1 = some r) :
  Calls Try.prog 35 #[.agg #[.slice A0_0 l0_0.length c0_0], .int .i64 a1] w fun e w' => e = .returned (.int .i64 r) ∧ Below w.heap.size w w' := by
 have hu27 := Try.underlying27
 have HR0_0 := Aside0.mk hr0_0
 have HC0_0 := Aside0.mk hc0_0
 clear hr0_0 hc0_0
 have HB := Aside0.mk (Below.refl w.heap.size w)
 have H : ((impl_IsSemigroup.f k l0_0).bind fun t345 => (if t345 = true then ((impl_within.f a1 0 1000).bind fun t346 => (impl_EulerAt.j0 k a1 (!t346) l0_0)) else (impl_EulerAt.j0 k a1 true l0_0))) = some r := h
 clear h
 have HC3 := Aside0.mk H
 clear H
 go_enter Try.func35, Try.ntmps35
 go_upto_region 1 with (first | ((with_reducible refine gate_dst (N := 2) rfl ?_); refine bx 2 #[.slice A0_0 l0_0.length c0_0] 27 ?_; intro gb344 hg w4 hbox hb; have BK344 := Aside0.mk (hbox); have GW344 := Aside0.mk (gs hg : w.heap.size ≤ gb344); have GE344 := Aside0.mk (gs hg : w.heap.size ≤ gb344); replace HB := Aside0.mk (below_step bw hb); clear hb hbox hg))
 (try simp only [Act.put, List.setIfInBounds_toArray, List.set_cons_zero, List.set_cons_succ])
 go_cut [19] (fun v19 wc => ∃ (kq : Nat) (x19_2 : Bool), v19 = .bool x19_2 ∧ Aside0 (impl_EulerAt.j0 kq a1 x19_2 l0_0 = some r) ∧ Aside0 (kq ≤ k) ∧ Aside0 (wc.heap[gb344]? = some (.cells #[(.slice A0_0 l0_0.length c0_0)] 27 (0, 0))) ∧ Aside0 (Below w.heap.size w wc))
 case first =>
  have H := HC3.out
  clear HC3
  replace H := ga H; obtain ⟨t345, A5, H⟩ := H
  replace H := gb H; obtain ⟨rfl, H⟩ | ⟨rfl, H⟩ := H
  ·replace H := ga H; obtain ⟨t346, A7, H⟩ := H
   have H' := Aside0.mk H
   clear H
   have hcz8_0 := bc BK344 0 (.slice A0_0 l0_0.length c0_0)
   have hfz8_0 := blk_frozen BK344.out 0
   go_wp2_with (first | ((with_reducible refine gate_callee (f := 57) rfl ?_); refine gl (some 13) Try.func57 #[.agg #[.slice A0_0 l0_0.length c0_0]] ?_; (with_reducible refine (impl_IsSemigroup.calls k _ _ l0_0 true _ ?side1 ?side2 A5.out).mono ?_); (case side1 => exact co (Kd.C_below HR0_0.out HB.out)); (case side2 => exact HC0_0.out); rintro e w9 ⟨rfl, hb⟩; refine ⟨_, rfl, ?_⟩; replace BK344 := Aside0.mk (blk_below (g := gb344) (o := .cells #[.slice A0_0 l0_0.length c0_0] 27 (0, 0)) (bo BK344.out) hb); replace HB := Aside0.mk (below_step bw hb); clear hb) | (go_at_call 60; (with_reducible refine (impl_within.calls a1 0 1000 t346 _ A7.out).mono ?_); rintro e w' ⟨rfl, ⟨nd, rfl⟩⟩))
   go_meet
   case rel => exact ⟨_, (!t346), rr, H', ⟨om⟩, ⟨bo BK344.out⟩, ⟨bw⟩⟩
  ·have H' := Aside0.mk H
   clear H
   have hcz10_0 := bc BK344 0 (.slice A0_0 l0_0.length c0_0)
   have hfz10_0 := blk_frozen BK344.out 0
   go_wp2_with (first | ((with_reducible refine gate_callee (f := 57) rfl ?_); refine gl (some 13) Try.func57 #[.agg #[.slice A0_0 l0_0.length c0_0]] ?_; (with_reducible refine (impl_IsSemigroup.calls k _ _ l0_0 false _ ?side1 ?side2 A5.out).mono ?_); (case side1 => exact co (Kd.C_below HR0_0.out HB.out)); (case side2 => exact HC0_0.out); rintro e w11 ⟨rfl, hb⟩; refine ⟨_, rfl, ?_⟩; replace BK344 := Aside0.mk (blk_below (g := gb344) (o := .cells #[.slice A0_0 l0_0.length c0_0] 27 (0, 0)) (bo BK344.out) hb); replace HB := Aside0.mk (below_step bw hb); clear hb))
   go_meet
   case rel => exact ⟨_, (true), rr, H', ⟨om⟩, ⟨bo BK344.out⟩, ⟨bw⟩⟩
 case rest =>
  clear HC3
  try clear hcz10_0; try clear hcz8_0; try clear hfz10_0; try clear hfz8_0
  obtain ⟨kq, x19_2, rfl, HA, HJ2, BK344, HB⟩ := hcut
  cases kq with
  | zero => exact absurd HA.out (by simp [impl_EulerAt.j0])
  | succ kj2 =>
   have H := HA.out
   clear HA
   simp only [impl_EulerAt.j0] at H
   replace H := gb H; obtain ⟨rfl, H⟩ | ⟨rfl, H⟩ := H
   ·obtain rfl := Option.some.inj H
    go_wp2
    go_ret
    exact ⟨re, bw⟩
   ·replace H := ga H; obtain ⟨t347, A13, H⟩ := H
    obtain ⟨ji14, hji14⟩ : ∃ j_ : Int, (shl .i64 1 (l0_0.length : Int)) = j_ := ⟨_, rfl⟩
    replace H : (impl_EulerAt.l0 kj2 a1 t347 0 ji14 0 l0_0) = some r := by first | (rw [hji14] at H; exact H) | (simp only [hji14] at H ⊢; exact H)
    (try rw [hji14] at A13)
    have hji14_ : (IntKind.i64.wrap (1 * 2 ^ min (l0_0.length : Int).toNat 64)) = ji14 := hji14
    have hji14z : (l0_0.length : Int) ≤ 64 → (IntKind.i64.wrap (1 * 2 ^ (l0_0.length : Int).toNat)) = ji14 := shl_small hji14
    have hji14p : (IntKind.i64.wrap (1 * 2 ^ min l0_0.length 64)) = ji14 := hji14_
    have hji14q : (l0_0.length : Int) ≤ 64 → (IntKind.i64.wrap (1 * 2 ^ l0_0.length)) = ji14 := hji14z
    have hji14r : (IntKind.i64.wrap (2 ^ min l0_0.length 64)) = ji14 := by have h_ := hji14p; rw [Int.one_mul] at h_; exact h_
    have hji14s : (l0_0.length : Int) ≤ 64 → (IntKind.i64.wrap (2 ^ l0_0.length)) = ji14 := fun hle_ => by have h_ := hji14q hle_; rw [Int.one_mul] at h_; exact h_
    have hji14u : (IntKind.i64.wrap (2 ^ min (l0_0.length : Int).toNat 64)) = ji14 := by have h_ := hji14_; rw [Int.one_mul] at h_; exact h_
    have hji14v : (l0_0.length : Int) ≤ 64 → (IntKind.i64.wrap (2 ^ (l0_0.length : Int).toNat)) = ji14 := fun hle_ => by have h_ := hji14z hle_; rw [Int.one_mul] at h_; exact h_
    have hji14y : (wrap64 (1 * 2 ^ min (l0_0.length : Int).toNat 64)) = ji14 := (i64_w _).symm.trans hji14_
    have hji14x : (l0_0.length : Int) ≤ 64 → (wrap64 (1 * 2 ^ (l0_0.length : Int).toNat)) = ji14 := fun h_ => (i64_w _).symm.trans (hji14z h_)
    have H' := Aside0.mk H
    clear H
    have hcz15_0 := bc BK344 0 (.slice A0_0 l0_0.length c0_0)
    have hfz15_0 := blk_frozen BK344.out 0
    go_wp2_with (first | ((with_reducible refine gate_callee (f := 64) rfl ?_); refine gl (some 21) Try.func64 #[.agg #[.slice A0_0 l0_0.length c0_0]] ?_; (with_reducible refine (impl_reach.calls kj2 _ _ l0_0 t347 _ ?side1 ?side2 A13.out).mono ?_); (case side1 => exact co (Kd.C_below HR0_0.out HB.out)); (case side2 => exact HC0_0.out); rintro e w16 ⟨F_t347, rfl, hF_t347, hb⟩; refine ⟨_, rfl, ?_⟩; replace BK344 := Aside0.mk (blk_below (g := gb344) (o := .cells #[.slice A0_0 l0_0.length c0_0] 27 (0, 0)) (bo BK344.out) hb); have HW_ := Aside0.mk (below_step bw hb : Below w.heap.size w w16); replace HR0_0 := Aside0.mk (Kd.C_below HR0_0.out HW_.out); clear HB hb; have HB := Aside0.mk (Below.refl w16.heap.size w16); obtain ⟨gF_t347, lF_t347, rfl, eF_t347, hF_t347⟩ := hF_t347; obtain ⟨w, rfl⟩ : ∃ x_, x_ = w16 := ⟨_, rfl⟩; have hcz17_0 := bc BK344 0 (.slice A0_0 l0_0.length c0_0); have hfz17_0 := blk_frozen BK344.out 0))
    go_loopg [6, 26] kj2 (fun kq v6 v26 w' => ∃ (x6_2 : Int) (x26_2 : Int), v6 = .int .i64 x6_2 ∧ v26 = .int .i64 x26_2 ∧ Aside0 (impl_EulerAt.l0 kq a1 t347 x6_2 ji14 x26_2 l0_0 = some r) ∧ Aside0 (kq ≤ kj2) ∧ Aside0 (w'.heap[gb344]? = some (.cells #[(.slice A0_0 l0_0.length c0_0)] 27 (0, 0))) ∧ Aside0 (Below w.heap.size w w'))
    case atStart => exact ⟨(0), (0), rr, rr, H', ⟨Nat.le_refl _⟩, ⟨bo BK344.out⟩, ⟨bw⟩⟩
    case round =>
     clear H'
     try clear hcz10_0; try clear hcz15_0; try clear hcz17_0; try clear hcz8_0; try clear hfz10_0; try clear hfz15_0; try clear hfz17_0; try clear hfz8_0
     obtain ⟨x6_2, x26_2, rfl, rfl, HA, HK2, BK344, HB⟩ := hrel
     cases gk with
     | zero => exact absurd HA.out (by simp [impl_EulerAt.l0])
     | succ k2 =>
      have H := HA.out
      clear HA
      simp only [impl_EulerAt.l0] at H
      replace H := gi H; obtain ⟨c18b0, H⟩ | ⟨c18b0, H⟩ := H
      ·have H' := Aside0.mk H
       clear H
       have hcz19_0 := bc BK344 0 (.slice A0_0 l0_0.length c0_0)
       have hfz19_0 := blk_frozen BK344.out 0
       go_wp2
       go_loopg [8, 9, 33] k2 (fun kq v8 v9 v33 w' => ∃ (x8_3 : Int) (x9_3 : Int) (x33_3 : Int), v8 = .int .i64 x8_3 ∧ v9 = .int .i64 x9_3 ∧ v33 = .int .i64 x33_3 ∧ Aside0 (impl_EulerAt.l1 kq a1 t347 x6_2 x26_2 x8_3 x9_3 ji14 x26_2 l0_0 (l0_0.length : Int) x33_3 l0_0 = some r) ∧ Aside0 (kq ≤ k2) ∧ Aside0 (w'.heap[gb344]? = some (.cells #[(.slice A0_0 l0_0.length c0_0)] 27 (0, 0))) ∧ Aside0 (Below w.heap.size w w'))
       case atStart => exact ⟨(a1), (1), (0), rr, rr, rr, H', ⟨Nat.le_refl _⟩, ⟨bo BK344.out⟩, ⟨bw⟩⟩
       case round =>
        clear H'
        try clear c18b0; try clear hcz10_0; try clear hcz15_0; try clear hcz17_0; try clear hcz19_0; try clear hcz8_0; try clear hfz10_0; try clear hfz15_0; try clear hfz17_0; try clear hfz19_0; try clear hfz8_0
        obtain ⟨x8_3, x9_3, x33_3, rfl, rfl, rfl, HA, HK3, BK344, HB⟩ := hrel
        cases gk with
        | zero => exact absurd HA.out (by simp [impl_EulerAt.l1])
        | succ k3 =>
         have H := HA.out
         clear HA
         simp only [impl_EulerAt.l1] at H
         replace H := gi H; obtain ⟨c20b0, H⟩ | ⟨c20b0, H⟩ := H
         ·replace H := gd H; obtain ⟨c21b0, H⟩ := H
          replace H := gd H; obtain ⟨c22b0, H⟩ := H
          have c23b0 := eq_true (of_decide_eq_true (by first | (with_reducible assumption) | assumption) : 0 ≤ x33_3)
          obtain ⟨ji24, hji24⟩ : ∃ j_ : Int, (shr .i64 x26_2 x33_3) = j_ := ⟨_, rfl⟩
          replace H : (if (Go.bits .and .i64 (ji24) 1) = 1 then (impl_EulerAt.l1 k3 a1 t347 x6_2 x26_2 (wrap64 (x8_3 - (rd l0_0 x33_3))) (wrap64 (-x9_3)) ji14 x26_2 l0_0 (l0_0.length : Int) (wrap64 (x33_3 + 1)) l0_0) else (impl_EulerAt.l1 k3 a1 t347 x6_2 x26_2 x8_3 x9_3 ji14 x26_2 l0_0 (l0_0.length : Int) (wrap64 (x33_3 + 1)) l0_0)) = some r := by first | (rw [hji24] at H; exact H) | (simp only [hji24] at H ⊢; exact H)
          have hji24_ : (x26_2 / 2 ^ min x33_3.toNat 64) = ji24 := hji24
          have hji24z : x33_3 ≤ 64 → (x26_2 / 2 ^ x33_3.toNat) = ji24 := shr_small hji24
          by_cases c25 : (Go.bits .and .i64 (ji24) 1) = 1
          ·rw [if_pos c25] at H
           have c25b0 : ((Go.bits .and .i64 (ji24) 1) == 1) = true := beq_iff_eq.mpr c25
           have c25b1 : ((Go.bits .and .i64 (ji24) 1) != 1) = false := bne_eq_false_iff_eq.mpr c25
           clear c25
           have H' := Aside0.mk H
           clear H
           obtain ⟨⟨ad348, e348, hx348_0⟩, p348, q348⟩ := pq (Kd.at_int HR0_0.out x33_3)
           cases e348
           replace hx348_0 := (HB.out.cell (World.block_lt_of_cell? w _ hx348_0)).trans hx348_0
           go_wp2
           go_roundg k3
           case measure => have := HJ2.out; have := HK2.out; have := HK3.out; omega
           case rel => exact ⟨(wrap64 (x8_3 - (rd l0_0 x33_3))), (wrap64 (-x9_3)), (wrap64 (x33_3 + 1)), rr, rr, rr, H', ⟨by have := HJ2.out; have := HK2.out; have := HK3.out; omega⟩, ⟨bo BK344.out⟩, ⟨bw⟩⟩
          ·rw [if_neg c25] at H
           have c25b0 : ((Go.bits .and .i64 (ji24) 1) == 1) = false := beq_eq_false_iff_ne.mpr c25
           have c25b1 : ((Go.bits .and .i64 (ji24) 1) != 1) = true := bne_iff_ne.mpr c25
           have H' := Aside0.mk H
           clear H
           obtain ⟨⟨ad348, e348, hx348_0⟩, p348, q348⟩ := pq (Kd.at_int HR0_0.out x33_3)
           cases e348
           replace hx348_0 := (HB.out.cell (World.block_lt_of_cell? w _ hx348_0)).trans hx348_0
           go_wp2
           go_roundg k3
           case measure => have := HJ2.out; have := HK2.out; have := HK3.out; omega
           case rel => exact ⟨(x8_3), (x9_3), (wrap64 (x33_3 + 1)), rr, rr, rr, H', ⟨by have := HJ2.out; have := HK2.out; have := HK3.out; omega⟩, ⟨bo BK344.out⟩, ⟨bw⟩⟩
         ·replace H := ga H; obtain ⟨t349, A26, H⟩ := H
          replace H := gb H; obtain ⟨rfl, H⟩ | ⟨rfl, H⟩ := H
          ·have H' := Aside0.mk H
           clear H
           go_wp2_with (first | (go_at_fn gF_t347; (with_reducible refine (hF_t347 _ bw x8_3 true A26.out).mono ?_); rintro e w' ⟨rfl, ⟨nd, rfl⟩⟩))
           go_roundg k3
           case measure => have := HJ2.out; have := HK2.out; have := HK3.out; omega
           case rel => exact ⟨(wrap64 (x6_2 + x9_3)), (wrap64 (x26_2 + 1)), rr, rr, H', ⟨by have := HJ2.out; have := HK2.out; have := HK3.out; omega⟩, ⟨bo BK344.out⟩, ⟨bw⟩⟩
          ·have H' := Aside0.mk H
           clear H
           go_wp2_with (first | (go_at_fn gF_t347; (with_reducible refine (hF_t347 _ bw x8_3 false A26.out).mono ?_); rintro e w' ⟨rfl, ⟨nd, rfl⟩⟩))
           go_roundg k3
           case measure => have := HJ2.out; have := HK2.out; have := HK3.out; omega
           case rel => exact ⟨(x6_2), (wrap64 (x26_2 + 1)), rr, rr, H', ⟨by have := HJ2.out; have := HK2.out; have := HK3.out; omega⟩, ⟨bo BK344.out⟩, ⟨bw⟩⟩
      ·obtain rfl := Option.some.inj H
       go_wp2
       go_ret
       replace HB := Aside0.mk (below_step HW_.out HB.out)
       exact ⟨by first | rfl | (simp [errW_none, errW_some] <;> rfl) | (simp only [← hji14]; first | rfl | (simp [errW_none, errW_some] <;> rfl)) | (simp [*, errW_none, errW_some] <;> rfl), bw⟩


/-! ### laws_FnExactEulerAt: function 10 -/
def laws_FnExactEulerAt.f (k : Nat) (l0_0 : List Int) (a1 : Int) : Option (Bool) := (laws_szSemigroup.f l0_0 1048576).bind fun t351 => (if t351 < 0 then (some true) else ((laws_toSemigroup.f k l0_0).bind fun t352 => ((spec_EulerAt.f k t352 a1).bind fun t355 => ((laws_toSemigroup.f k l0_0).bind fun t356 => ((impl_EulerAt.f k t356 a1).bind fun t360 => (if t360 = t355 then ((laws_toSemigroup.f k l0_0).bind fun t361 => ((laws_eqSemigroup.f k t356 t361).bind fun t364 => (if t364 = true then (some true) else (some false)))) else (some false)))))))
set_option maxHeartbeats 8000000 in
set_option maxRecDepth 100000 in
theorem laws_FnExactEulerAt.calls (k : Nat) (A0_0 : Option Addr) (c0_0 : Nat) (l0_0 : List Int) (a1 : Int) (w : World) (hr0_0 : Kd.C (Kd.int .i64) w A0_0 l0_0.length l0_0) (hc0_0 : l0_0.length ≤ c0_0) (h : laws_FnExactEulerAt.f k l0_0 a1 = some true) :
  Calls Try.prog 10 #[.agg #[.slice A0_0 l0_0.length c0_0], .int .i64 a1] w fun e w' => e = .returned (.bool true) ∧ Below w.heap.size w w' := by
 have hu24 := Try.underlying24
 have hu27 := Try.underlying27
 have HR0_0 := Aside0.mk hr0_0
 have HC0_0 := Aside0.mk hc0_0
 clear hr0_0 hc0_0
 have HB := Aside0.mk (Below.refl w.heap.size w)
 have H : ((laws_szSemigroup.f l0_0 1048576).bind fun t351 => (if t351 < 0 then (some true) else ((laws_toSemigroup.f k l0_0).bind fun t352 => ((spec_EulerAt.f k t352 a1).bind fun t355 => ((laws_toSemigroup.f k l0_0).bind fun t356 => ((impl_EulerAt.f k t356 a1).bind fun t360 => (if t360 = t355 then ((laws_toSemigroup.f k l0_0).bind fun t361 => ((laws_eqSemigroup.f k t356 t361).bind fun t364 => (if t364 = true then (some true) else (some false)))) else (some false)))))))) = some true := h
 clear h
 replace H := ga H; obtain ⟨t351, A3, H⟩ := H
 replace H := gi H; obtain ⟨c4b0, H⟩ | ⟨c4b0, H⟩ := H
 ·skip
  go_enter Try.func10, Try.ntmps10
  go_wp2_with (first | ((with_reducible refine gate_dst (N := 2) rfl ?_); refine bx 2 #[.slice A0_0 l0_0.length c0_0] 24 ?_; intro gb350 hg w5 hbox hb; have BK350 := Aside0.mk (hbox); have GW350 := Aside0.mk (gs hg : w.heap.size ≤ gb350); have GE350 := Aside0.mk (gs hg : w.heap.size ≤ gb350); replace HB := Aside0.mk (below_step bw hb); clear hb hbox hg; have hcz6_0 := bc BK350 0 (.slice A0_0 l0_0.length c0_0); have hfz6_0 := blk_frozen BK350.out 0) | ((with_reducible refine gate_callee (f := 15) rfl ?_); refine gl (some 11) Try.func15 #[.agg #[.slice A0_0 l0_0.length c0_0], .int .i64 1048576] ?_; (with_reducible refine (laws_szSemigroup.calls _ _ l0_0 1048576 t351 _ ?side1 ?side2 A3.out).mono ?_); (case side1 => exact co (Kd.C_below HR0_0.out HB.out)); (case side2 => exact HC0_0.out); rintro e w7 ⟨rfl, hb⟩; refine ⟨_, rfl, ?_⟩; replace BK350 := Aside0.mk (blk_below (g := gb350) (o := .cells #[.slice A0_0 l0_0.length c0_0] 24 (0, 0)) (bo BK350.out) hb); replace HB := Aside0.mk (below_step bw hb); clear hb))
  go_ret
  exact ⟨re, bw⟩
 ·replace H := ga H; obtain ⟨t352, A8, H⟩ := H
  replace H := ga H; obtain ⟨t355, A9, H⟩ := H
  replace H := ga H; obtain ⟨t356, A10, H⟩ := H
  replace H := ga H; obtain ⟨t360, A11, H⟩ := H
  by_cases c12 : t360 = t355
  ·rw [if_pos c12] at H
   have c12b0 : (t360 == t355) = true := beq_iff_eq.mpr c12
   have c12b1 : (t360 != t355) = false := bne_eq_false_iff_eq.mpr c12
   clear c12
   replace H := ga H; obtain ⟨t361, A13, H⟩ := H
   replace H := ga H; obtain ⟨t364, A14, H⟩ := H
   by_cases c15 : t364 = true
   ·subst c15
    have H1 : (some true) = some true := rfl
    clear H
    have H := H1
    clear H1
    skip
    go_enter Try.func10, Try.ntmps10
    try go_wp2_with (first | ((with_reducible refine gate_dst (N := 2) rfl ?_); refine bx 2 #[.slice A0_0 l0_0.length c0_0] 24 ?_; intro gb350 hg w16 hbox hb; have BK350 := Aside0.mk (hbox); have GW350 := Aside0.mk (gs hg : w.heap.size ≤ gb350); have GE350 := Aside0.mk (gs hg : w.heap.size ≤ gb350); replace HB := Aside0.mk (below_step bw hb); clear hb hbox hg; have hcz17_0 := bc BK350 0 (.slice A0_0 l0_0.length c0_0); have hfz17_0 := blk_frozen BK350.out 0) | ((with_reducible refine gate_callee (f := 15) rfl ?_); refine gl (some 11) Try.func15 #[.agg #[.slice A0_0 l0_0.length c0_0], .int .i64 1048576] ?_; (with_reducible refine (laws_szSemigroup.calls _ _ l0_0 1048576 t351 _ ?side1 ?side2 A3.out).mono ?_); (case side1 => exact co (Kd.C_below HR0_0.out HB.out)); (case side2 => exact HC0_0.out); rintro e w18 ⟨rfl, hb⟩; refine ⟨_, rfl, ?_⟩; replace BK350 := Aside0.mk (blk_below (g := gb350) (o := .cells #[.slice A0_0 l0_0.length c0_0] 24 (0, 0)) (bo BK350.out) hb); replace HB := Aside0.mk (below_step bw hb); clear hb; have hcz19_0 := bc BK350 0 (.slice A0_0 l0_0.length c0_0); have hfz19_0 := blk_frozen BK350.out 0) | ((with_reducible refine gate_callee (f := 17) rfl ?_); refine gl (some 15) Try.func17 #[.agg #[.slice A0_0 l0_0.length c0_0]] ?_; (with_reducible refine (laws_toSemigroup.calls k _ _ l0_0 t352 _ ?side1 ?side2 A8.out).mono ?_); (case side1 => exact co (Kd.C_below HR0_0.out HB.out)); (case side2 => exact HC0_0.out); rintro e w20 ⟨v353, rfl, ho0, hb⟩; refine ⟨_, rfl, ?_⟩; have HO354 := Aside0.mk (Kd.R_lower ho0 (below_size bw)); replace BK350 := Aside0.mk (blk_below (g := gb350) (o := .cells #[.slice A0_0 l0_0.length c0_0] 24 (0, 0)) (bo BK350.out) hb); replace HB := Aside0.mk (below_step bw hb); clear hb ho0; obtain ⟨Ao21, co21, eo21⟩ := Kd.R_slice HO354.out; subst eo21) | ((with_reducible refine gate_callee (f := 34) rfl ?_); refine gl (some 17) Try.func34 #[.agg #[.slice Ao21 t352.length co21], .int .i64 a1] ?_; (with_reducible refine (spec_EulerAt.calls k _ _ t352 a1 t355 _ ?side1 ?side2 A9.out).mono ?_); (case side1 => exact co (Kd.R_reads' HO354.out).2.2); (case side2 => exact (Kd.R_reads' HO354.out).2.1); rintro e w22 ⟨rfl, hb⟩; refine ⟨_, rfl, ?_⟩; replace HO354 := Aside0.mk (Kd.R_below (ro HO354.out) hb); replace BK350 := Aside0.mk (blk_below (g := gb350) (o := .cells #[.slice A0_0 l0_0.length c0_0] 24 (0, 0)) (bo BK350.out) hb); replace HB := Aside0.mk (below_step bw hb); clear hb; have hcz23_0 := bc BK350 0 (.slice A0_0 l0_0.length c0_0); have hfz23_0 := blk_frozen BK350.out 0) | ((with_reducible refine gate_callee (f := 17) rfl ?_); refine gl (some 19) Try.func17 #[.agg #[.slice A0_0 l0_0.length c0_0]] ?_; (with_reducible refine (laws_toSemigroup.calls k _ _ l0_0 t356 _ ?side1 ?side2 A10.out).mono ?_); (case side1 => exact co (Kd.C_below HR0_0.out HB.out)); (case side2 => exact HC0_0.out); rintro e w24 ⟨v357, rfl, ho0, hb⟩; refine ⟨_, rfl, ?_⟩; have HO358 := Aside0.mk (Kd.R_lower (Kd.R_new' ho0 (Kd.R_lt (ro HO354.out))) (below_size bw)); replace HO354 := Aside0.mk (Kd.R_elder' (ro HO354.out) (Kd.R_base ho0) hb); replace BK350 := Aside0.mk (blk_below (g := gb350) (o := .cells #[.slice A0_0 l0_0.length c0_0] 24 (0, 0)) (bo BK350.out) hb); replace HB := Aside0.mk (below_step bw hb); clear hb ho0) | ((with_reducible refine gate_dst (N := 7) rfl ?_); refine bx 7 #[.slice none 0 0] 27 ?_; intro gb359 hg w25 hbox hb; replace HO354 := Aside0.mk (Kd.R_below (ro HO354.out) hb); replace HO358 := Aside0.mk (Kd.R_below (ro HO358.out) hb); have BK359 := Aside0.mk (hbox); have GW359 := Aside0.mk (gs hg : w.heap.size ≤ gb359); have GE359 := Aside0.mk (gs hg : w.heap.size ≤ gb359); replace HB := Aside0.mk (below_step bw hb); have NB350_359 := Aside0.mk ((by rw [hg]; exact Nat.ne_of_lt (blk_lt (g := gb350) (o := .cells #[.slice A0_0 l0_0.length c0_0] 24 (0, 0)) (bo BK350.out)) : gb350 ≠ gb359)); have NB359_350 := Aside0.mk ((by rw [hg]; exact Nat.ne_of_gt (blk_lt (g := gb350) (o := .cells #[.slice A0_0 l0_0.length c0_0] 24 (0, 0)) (bo BK350.out)) : gb359 ≠ gb350)); replace BK350 := Aside0.mk (blk_below (g := gb350) (o := .cells #[.slice A0_0 l0_0.length c0_0] 24 (0, 0)) (bo BK350.out) hb); clear hb hbox hg; obtain ⟨Ao26, co26, eo26⟩ := Kd.R_slice HO358.out; subst eo26; have hnb27 := NB359_350.out; have hnc27 := NB350_359.out; have hcz28_0 := bc BK359 0 (.slice none 0 0); have hfz28_0 := blk_frozen BK359.out 0) | ((with_reducible refine gate_callee (f := 35) rfl ?_); refine gl (some 22) Try.func35 #[.agg #[.slice Ao26 t356.length co26], .int .i64 a1] ?_; (with_reducible refine (impl_EulerAt.calls k _ _ t356 a1 t360 _ ?side1 ?side2 A11.out).mono ?_); (case side1 => refine (Kd.R_reads' (e := 3) (base := w.heap.size) (ok := fun k_ => (True ∧ some k_ ≠ (.slice Ao21 t352.length co21 : Value).ownBlock)) (n := t356.length) (c := co26) ?_).2.2; exact (by (with_reducible repeat (first | apply Kd.R_alloc | apply Kd.R_drewN | apply Kd.R_drew)); exact (Kd.R_mono (Kd.R_far (p := ⟨gb359, 0, none⟩) (Kd.R_types HO358.out BK359.out (by decide)) (fun _ hk => hk.2) (.slice Ao26 t356.length co26)) (fun _ h_ => h_.1)))); (case side2 => exact (Kd.R_reads' HO358.out).2.1); rintro e w29 ⟨rfl, hb⟩; refine ⟨_, rfl, ?_⟩; replace HO354 := Aside0.mk (Kd.R_below (by (with_reducible repeat (first | apply Kd.R_alloc | apply Kd.R_drewN | apply Kd.R_drew)); exact (Kd.R_mono (Kd.R_far (p := ⟨gb359, 0, none⟩) (Kd.R_types HO354.out BK359.out (by decide)) (fun _ hk => hk.2) (.slice Ao26 t356.length co26)) (fun _ h_ => h_.1))) hb); replace HO358 := Aside0.mk (Kd.R_below (by (with_reducible repeat (first | apply Kd.R_alloc | apply Kd.R_drewN | apply Kd.R_drew)); exact (Kd.R_mono (Kd.R_far (p := ⟨gb359, 0, none⟩) (Kd.R_types HO358.out BK359.out (by decide)) (fun _ hk => hk.2) (.slice Ao26 t356.length co26)) (fun _ h_ => h_.1))) hb); replace BK350 := Aside0.mk (blk_below (g := gb350) (o := .cells #[.slice A0_0 l0_0.length c0_0] 24 (0, 0)) (by (with_reducible repeat (first | refine blk_drewN ?_ _ | refine blk_drew ?_ | refine blk_alloc ?_ _)); refine blk_far ?_ NB350_359.out _; (with_reducible repeat (first | refine blk_drewN ?_ _ | refine blk_drew ?_ | refine blk_alloc ?_ _)); exact BK350.out) hb); replace BK359 := Aside0.mk (blk_below (g := gb359) (o := .cells #[.slice Ao26 t356.length co26] 27 (0, 0)) (by (with_reducible repeat (first | refine blk_drewN ?_ _ | refine blk_drew ?_ | refine blk_alloc ?_ _)); refine blk_put (cs := #[.slice none 0 0]) ?_ 0 _ rfl; (with_reducible repeat (first | refine blk_drewN ?_ _ | refine blk_drew ?_ | refine blk_alloc ?_ _)); exact BK359.out) hb); replace HB := Aside0.mk (below_step bw hb); clear hb))
    replace HO354 := Aside0.mk (Kd.R_drew HO354.out)
    replace HO358 := Aside0.mk (Kd.R_drew HO358.out)
    replace BK350 := Aside0.mk (blk_drew BK350.out)
    replace BK359 := Aside0.mk (blk_drew BK359.out)
    replace HB := Aside0.mk (below_drew1 HB.out)
    refine start_ (n := 5) (S := fun w' => w'.cell? ⟨gb359, 0, none⟩ = some (.slice Ao26 t356.length co26) ∧ w'.cell? ⟨gb350, 0, none⟩ = some (.slice A0_0 l0_0.length c0_0)) (ds := []) #[Z,Z,Z,Z,Z] (by kernel_rfl) rfl rfl ⟨(blk_cell BK359.out 0).trans rfl, (blk_cell BK350.out 0).trans rfl⟩ (fun hHeld => ?_)
    generalize w29.drew = w30 at HO354 HO358 BK350 BK359 HB hHeld ⊢
    refine take_ (i := 0) (N := some 26) (v := ?_) (a' := ?_) #[Y,Z,Z,Z,Z] rfl rfl (by kernel_rfl) (fun _ _ _ h => h) (Or.inl ⟨by rfl, ?_⟩) hHeld ?_ ?_
    rotate_left
    ·rintro w' ⟨s0, s1⟩
     go_simp
     with_reducible rfl
    rotate_left
    ·simp only [Act.put, qa, qb, qc, i64_w, i32_w]
     rfl
    refine take_ (i := 1) (N := some 27) (v := ?_) (a' := ?_) #[Y,Y,Z,Z,Z] rfl rfl (by kernel_rfl) (fun _ _ _ h => h) (Or.inl ⟨by rfl, ?_⟩) hHeld ?_ ?_
    rotate_left
    ·rintro w' ⟨s0, s1⟩
     go_simp
     with_reducible rfl
    rotate_left
    ·simp only [Act.put, qa, qb, qc, i64_w, i32_w]
     rfl
    refine one_ (i := 2) (N := some 28) #[Y,Y,Y,Z,Z] rfl rfl (by kernel_rfl) (by decide) (fun K hK => ?_)
    refine gm Try.func17 #[.agg #[.slice A0_0 l0_0.length c0_0]] ?_
    with_reducible refine (laws_toSemigroup.calls k _ _ l0_0 t361 _ ?side1 ?side2 A13.out).mono ?_
    (case side1 => exact co (Kd.C_below HR0_0.out HB.out))
    (case side2 => exact HC0_0.out)
    rintro e w31 ⟨v362, rfl, ho0, hb⟩
    refine ⟨_, rfl, ?_⟩
    have HO363 := Aside0.mk (Kd.R_lower (Kd.R_new' (Kd.R_new' ho0 (Kd.R_lt (ro HO354.out))) (Kd.R_lt (ro HO358.out))) (below_size bw))
    replace HO354 := Aside0.mk (Kd.R_elder' (ro HO354.out) (Kd.R_base ho0) hb)
    replace HO358 := Aside0.mk (Kd.R_elder' (ro HO358.out) (Kd.R_base ho0) hb)
    replace BK350 := Aside0.mk (blk_below (g := gb350) (o := .cells #[.slice A0_0 l0_0.length c0_0] 24 (0, 0)) (bo BK350.out) hb)
    replace BK359 := Aside0.mk (blk_below (g := gb359) (o := .cells #[.slice Ao26 t356.length co26] 27 (0, 0)) (bo BK359.out) hb)
    replace HB := Aside0.mk (below_step bw hb)
    clear hb ho0
    obtain ⟨Ao32, co32, eo32⟩ := Kd.R_slice HO363.out
    (first | subst eo32 | (injection eo32 with f1_ f2_ f3_; have f4_ := f1_.symm; have f5_ := f3_.symm; clear f1_ f2_ f3_; subst f4_; subst f5_))
    refine hK.out _ _ ⟨(blk_cell BK359.out 0).trans rfl, (blk_cell BK350.out 0).trans rfl⟩ (fun hHeld => ?_)
    clear hK K
    refine norm_ (a' := ?_) ?_ ?_
    rotate_left
    ·show Act.put _ (some 28) _ = _
     simp only [Act.put, qa, qb, qc, i64_w, i32_w]
     rfl
    refine one_ (i := 3) (N := some 29) #[Y,Y,Y,Y,Z] rfl rfl (by kernel_rfl) (by decide) (fun K hK => ?_)
    refine gm Try.func19 #[.agg #[.slice Ao26 t356.length co26], .agg #[.slice Ao32 t361.length co32]] ?_
    with_reducible refine (laws_eqSemigroup.calls k _ _ t356 _ _ t361 true _ ?side1 ?side2 ?side3 ?side4 A14.out).mono ?_
    (case side1 => exact co (Kd.R_reads' HO358.out).2.2)
    (case side2 => exact (Kd.R_reads' HO358.out).2.1)
    (case side3 => exact co (Kd.R_reads' HO363.out).2.2)
    (case side4 => exact (Kd.R_reads' HO363.out).2.1)
    rintro e w33 ⟨rfl, hb⟩
    refine ⟨_, rfl, ?_⟩
    replace HO354 := Aside0.mk (Kd.R_below (ro HO354.out) hb)
    replace HO358 := Aside0.mk (Kd.R_below (ro HO358.out) hb)
    replace HO363 := Aside0.mk (Kd.R_below (ro HO363.out) hb)
    replace BK350 := Aside0.mk (blk_below (g := gb350) (o := .cells #[.slice A0_0 l0_0.length c0_0] 24 (0, 0)) (bo BK350.out) hb)
    replace BK359 := Aside0.mk (blk_below (g := gb359) (o := .cells #[.slice Ao26 t356.length co26] 27 (0, 0)) (bo BK359.out) hb)
    replace HB := Aside0.mk (below_step bw hb)
    clear hb
    refine hK.out _ _ ⟨(blk_cell BK359.out 0).trans rfl, (blk_cell BK350.out 0).trans rfl⟩ (fun hHeld => ?_)
    clear hK K
    refine norm_ (a' := ?_) ?_ ?_
    rotate_left
    ·show Act.put _ (some 29) _ = _
     simp only [Act.put, qa, qb, qc, i64_w, i32_w]
     rfl
    refine pure_ (i := 4) (N := some 30) (v := ?_) (a' := ?_) #[Y,Y,Y,Y,Y] rfl rfl (by kernel_rfl) (fun _ _ _ h => h) (Or.inl ⟨by rfl, ?_⟩) ?_ ?_
    rotate_left
    ·intro w'
     go_simp
     with_reducible rfl
    rotate_left
    ·simp only [Act.put, qa, qb, qc, i64_w, i32_w]
     rfl
    refine done_ (by kernel_rfl) ?_
    try go_wp2
    go_ret
    exact ⟨re, bw⟩
   ·replace c15 := Bool.eq_false_iff.mpr c15
    subst c15
    have H1 : (some false) = some true := by rw [if_neg (show ¬ (false = true) by decide)] at H; exact H
    clear H
    have H := H1
    clear H1
    exact absurd (Option.some.inj H) (by decide)
  ·rw [if_neg c12] at H
   have c12b0 : (t360 == t355) = false := beq_eq_false_iff_ne.mpr c12
   have c12b1 : (t360 != t355) = true := bne_iff_ne.mpr c12
   exact absurd (Option.some.inj H) (by decide)
end Go.Proofs.Ytolbllafeblmdaa.C
