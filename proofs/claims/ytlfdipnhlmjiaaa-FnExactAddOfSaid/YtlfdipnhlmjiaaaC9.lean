/- Contracts of functions of the program: laws_FnExactAddOf. -/
import Derived.Test.YtlfdipnhlmjiaaaC0
import Derived.Test.YtlfdipnhlmjiaaaC1
import Derived.Test.YtlfdipnhlmjiaaaC7
import Derived.Test.YtlfdipnhlmjiaaaC8
namespace Go.Proofs.Ytlfdipnhlmjiaaa.C
open Go.RowKit Go.Proofs.YtlfdipnhlmjiaaaW.PrintWords Go.Proofs.YtlfdipnhlmjiaaaW.PrintLast Go.Proofs.YtlfdipnhlmjiaaaW.PrintMore
attribute [local go_sem] max2_int min2_int max_two min_two max_three min_three max_four min_four
set_option linter.unusedVariables false
set_option linter.unusedSimpArgs false

/-! ### laws_FnExactAddOf: function 13 -/
mutual
def laws_FnExactAddOf.j0 : Nat → Bool → Bool → Bool → List Int → List Int → List Int → List Int → List Int → List Int → Option (Bool)
 | 0, _, _, _, _, _, _, _, _, _ => none
 | k + 1, x7, x11, x53, x467000, x468000, x481000, x485000, x489000, x494000 => if x53 = true then (some false) else ((laws_toSemigroup.f k x467000).bind fun t495 => ((laws_eqSemigroup.f k x485000 t495).bind fun t498 => (if t498 = true then ((laws_toSemigroup.f k x468000).bind fun t499 => ((laws_eqSemigroup.f k x489000 t499).bind fun t502 => (if t502 = true then ((laws_markSemigroup.f k x485000 1).bind fun bt503 => ((laws_markSemigroup.f k x489000 bt503.1).bind fun bt505 => (if bt505.1 < 0 then (laws_FnExactAddOf.j1 k x7 true x467000 x468000 x481000 x494000) else ((laws_eqSemigroup.f k x494000 x481000).bind fun t507 => (if t507 = true then (laws_FnExactAddOf.j1 k x7 (x11 != x7) x467000 x468000 x481000 x494000) else (laws_FnExactAddOf.j1 k x7 true x467000 x468000 x481000 x494000)))))) else (some false)))) else (some false))))
def laws_FnExactAddOf.j1 : Nat → Bool → Bool → List Int → List Int → List Int → List Int → Option (Bool)
 | 0, _, _, _, _, _, _ => none
 | k + 1, x7, x82, x467000, x468000, x481000, x494000 => if x82 = true then (some false) else ((laws_markSemigroup.f k x494000 1).bind fun bt508 => ((laws_heldSemigroup.f k bt508.2 1).bind fun t510 => (if t510 < 0 then (some false) else (if t510 = bt508.1 then ((laws_toSemigroup.f k x467000).bind fun t511 => ((laws_toSemigroup.f k x468000).bind fun t514 => ((impl_AddOf.f k t511 t514).bind fun bt517 => ((laws_eqSemigroup.f k bt517.1 x481000).bind fun t522 => (if t522 = true then (laws_FnExactAddOf.j2 k bt508.1 (bt517.2 != x7) bt508.2) else (laws_FnExactAddOf.j2 k bt508.1 true bt508.2)))))) else (some false)))))
def laws_FnExactAddOf.j2 : Nat → Int → Bool → List Int → Option (Bool)
 | 0, _, _, _ => none
 | k + 1, x13, x110, x494000 => if x110 = true then (some false) else ((laws_heldSemigroup.f k x494000 1).bind fun t523 => (if t523 < 0 then (some false) else (if t523 = x13 then (some true) else (some false))))
end
def laws_FnExactAddOf.f (k : Nat) (l0_0 : List Int) (l1_0 : List Int) : Option (Bool) := (laws_szSemigroup.f l0_0 1048576).bind fun t468 => (if t468 < 0 then (some true) else ((laws_szSemigroup.f l1_0 t468).bind fun t469 => (if t469 < 0 then (some true) else ((laws_toSemigroup.f k l0_0).bind fun t470 => ((laws_toSemigroup.f k l1_0).bind fun t473 => ((spec_AddOf.f k t470 t473).bind fun bt476 => ((laws_toSemigroup.f k l0_0).bind fun t481 => ((laws_toSemigroup.f k l1_0).bind fun t485 => ((impl_AddOf.f k t481 t485).bind fun bt489 => ((laws_eqSemigroup.f k bt489.1 bt476.1).bind fun t494 => (if t494 = true then (laws_FnExactAddOf.j0 k bt476.2 bt489.2 (bt489.2 != bt476.2) l0_0 l1_0 bt476.1 t481 t485 bt489.1) else (laws_FnExactAddOf.j0 k bt476.2 bt489.2 true l0_0 l1_0 bt476.1 t481 t485 bt489.1))))))))))))
def laws_FnExactAddOf.T8 : Bool × List (List Nat × List Nat) := (true, [([], []), ([0], [0]), ([], []), ([2, 1], [2]), ([1, 3, 3], [1, 3]), ([4], [4]), ([5], [5]), ([5], [5]), ([], []), ([8, 6, 4, 0, 1, 2, 3, 4, 5, 6, 8], [6, 8]), ([7, 9, 0, 1, 2, 3, 4, 5, 6, 7, 8, 9], [7])])
def laws_FnExactAddOf.B8 : List Nat := [0, 1, 0, 7, 15, 31, 63, 63, 0, 383, 1023]
theorem laws_FnExactAddOf.tab8 : rtab .any (opsOf Try.f13 8) = laws_FnExactAddOf.T8 := by kernel_rfl
theorem laws_FnExactAddOf.bits8 : waitsOk laws_FnExactAddOf.T8.2 laws_FnExactAddOf.B8 = true := by kernel_rfl
def laws_FnExactAddOf.T31 : Bool × List (List Nat × List Nat) := (true, [([], []), ([0], [0]), ([], []), ([2, 1], [2]), ([1, 3, 3], [1, 3]), ([4], [4]), ([5], [5]), ([5], [5]), ([], []), ([8, 6, 4, 0, 1, 2, 3, 4, 5, 6, 8], [6, 8]), ([7, 9, 0, 1, 2, 3, 4, 5, 6, 7, 8, 9], [7])])
def laws_FnExactAddOf.B31 : List Nat := [0, 1, 0, 7, 15, 31, 63, 63, 0, 383, 1023]
theorem laws_FnExactAddOf.tab31 : rtab .any (opsOf Try.f13 31) = laws_FnExactAddOf.T31 := by kernel_rfl
theorem laws_FnExactAddOf.bits31 : waitsOk laws_FnExactAddOf.T31.2 laws_FnExactAddOf.B31 = true := by kernel_rfl
set_option maxHeartbeats 8000000 in
set_option maxRecDepth 100000 in
theorem laws_FnExactAddOf.calls (k : Nat) (A0_0 : Option Addr) (c0_0 : Nat) (l0_0 : List Int) (A1_0 : Option Addr) (c1_0 : Nat) (l1_0 : List Int) (w : World) (hr0_0 : Kd.C (Kd.int .i64) w A0_0 l0_0.length l0_0) (hc0_0 : l0_0.length ≤ c0_0) (hr1_0 : Kd.C (Kd.int .i64) w A1_0 l1_0.length l1_0) (hc1_0 : l1_0.length ≤ c1_0) (h : laws_FnExactAddOf.f k l0_0 l1_0 = some true) :
  Calls Try.prog 13 #[.agg #[.slice A0_0 l0_0.length c0_0], .agg #[.slice A1_0 l1_0.length c1_0]] w fun e w' => e = .returned (.bool true) ∧ Below w.heap.size w w' := by
 have hu24 := Try.underlying24
 have hu27 := Try.underlying27
 have HR0_0 := Aside0.mk hr0_0
 have HC0_0 := Aside0.mk hc0_0
 clear hr0_0 hc0_0
 have HR1_0 := Aside0.mk hr1_0
 have HC1_0 := Aside0.mk hc1_0
 clear hr1_0 hc1_0
 have HB := Aside0.mk (Below.refl w.heap.size w)
 have H : ((laws_szSemigroup.f l0_0 1048576).bind fun t468 => (if t468 < 0 then (some true) else ((laws_szSemigroup.f l1_0 t468).bind fun t469 => (if t469 < 0 then (some true) else ((laws_toSemigroup.f k l0_0).bind fun t470 => ((laws_toSemigroup.f k l1_0).bind fun t473 => ((spec_AddOf.f k t470 t473).bind fun bt476 => ((laws_toSemigroup.f k l0_0).bind fun t481 => ((laws_toSemigroup.f k l1_0).bind fun t485 => ((impl_AddOf.f k t481 t485).bind fun bt489 => ((laws_eqSemigroup.f k bt489.1 bt476.1).bind fun t494 => (if t494 = true then (laws_FnExactAddOf.j0 k bt476.2 bt489.2 (bt489.2 != bt476.2) l0_0 l1_0 bt476.1 t481 t485 bt489.1) else (laws_FnExactAddOf.j0 k bt476.2 bt489.2 true l0_0 l1_0 bt476.1 t481 t485 bt489.1))))))))))))) = some true := h
 clear h
 replace H := ga H; obtain ⟨t468, A3, H⟩ := H
 replace H := gi H; obtain ⟨c4b0, H⟩ | ⟨c4b0, H⟩ := H
 ·skip
  go_enter Try.func13, Try.ntmps13
  go_wp2_with (first | ((with_reducible refine gate_dst (N := 2) rfl ?_); refine bx 2 #[.slice A0_0 l0_0.length c0_0] 24 ?_; intro gb466 hg w5 hbox hb; have BK466 := Aside0.mk (hbox); have GW466 := Aside0.mk (gs hg : w.heap.size ≤ gb466); have GE466 := Aside0.mk (gs hg : w.heap.size ≤ gb466); replace HB := Aside0.mk (below_step bw hb); clear hb hbox hg) | ((with_reducible refine gate_dst (N := 3) rfl ?_); refine bx 3 #[.slice A1_0 l1_0.length c1_0] 24 ?_; intro gb467 hg w6 hbox hb; have BK467 := Aside0.mk (hbox); have GW467 := Aside0.mk (gs hg : w.heap.size ≤ gb467); have GE467 := Aside0.mk (gs hg : w.heap.size ≤ gb467); replace HB := Aside0.mk (below_step bw hb); have NB466_467 := Aside0.mk ((by rw [hg]; exact Nat.ne_of_lt (blk_lt (g := gb466) (o := .cells #[.slice A0_0 l0_0.length c0_0] 24 (0, 0)) (bo BK466.out)) : gb466 ≠ gb467)); have NB467_466 := Aside0.mk ((by rw [hg]; exact Nat.ne_of_gt (blk_lt (g := gb466) (o := .cells #[.slice A0_0 l0_0.length c0_0] 24 (0, 0)) (bo BK466.out)) : gb467 ≠ gb466)); replace BK466 := Aside0.mk (blk_below (g := gb466) (o := .cells #[.slice A0_0 l0_0.length c0_0] 24 (0, 0)) (bo BK466.out) hb); clear hb hbox hg; have hnb7 := NB466_467.out; have hnc7 := NB467_466.out; have hcz8_0 := bc BK466 0 (.slice A0_0 l0_0.length c0_0); have hfz8_0 := blk_frozen BK466.out 0) | ((with_reducible refine gate_callee (f := 14) rfl ?_); refine gl (some 19) Try.func14 #[.agg #[.slice A0_0 l0_0.length c0_0], .int .i64 1048576] ?_; (with_reducible refine (laws_szSemigroup.calls _ _ l0_0 1048576 t468 _ ?side1 ?side2 A3.out).mono ?_); (case side1 => exact co (Kd.C_below HR0_0.out HB.out)); (case side2 => exact HC0_0.out); rintro e w9 ⟨rfl, hb⟩; refine ⟨_, rfl, ?_⟩; replace BK466 := Aside0.mk (blk_below (g := gb466) (o := .cells #[.slice A0_0 l0_0.length c0_0] 24 (0, 0)) (bo BK466.out) hb); replace BK467 := Aside0.mk (blk_below (g := gb467) (o := .cells #[.slice A1_0 l1_0.length c1_0] 24 (0, 0)) (bo BK467.out) hb); replace HB := Aside0.mk (below_step bw hb); clear hb))
  go_ret
  exact ⟨re, bw⟩
 ·replace H := ga H; obtain ⟨t469, A10, H⟩ := H
  replace H := gi H; obtain ⟨c11b0, H⟩ | ⟨c11b0, H⟩ := H
  ·skip
   go_enter Try.func13, Try.ntmps13
   go_wp2_with (first | ((with_reducible refine gate_dst (N := 2) rfl ?_); refine bx 2 #[.slice A0_0 l0_0.length c0_0] 24 ?_; intro gb466 hg w12 hbox hb; have BK466 := Aside0.mk (hbox); have GW466 := Aside0.mk (gs hg : w.heap.size ≤ gb466); have GE466 := Aside0.mk (gs hg : w.heap.size ≤ gb466); replace HB := Aside0.mk (below_step bw hb); clear hb hbox hg) | ((with_reducible refine gate_dst (N := 3) rfl ?_); refine bx 3 #[.slice A1_0 l1_0.length c1_0] 24 ?_; intro gb467 hg w13 hbox hb; have BK467 := Aside0.mk (hbox); have GW467 := Aside0.mk (gs hg : w.heap.size ≤ gb467); have GE467 := Aside0.mk (gs hg : w.heap.size ≤ gb467); replace HB := Aside0.mk (below_step bw hb); have NB466_467 := Aside0.mk ((by rw [hg]; exact Nat.ne_of_lt (blk_lt (g := gb466) (o := .cells #[.slice A0_0 l0_0.length c0_0] 24 (0, 0)) (bo BK466.out)) : gb466 ≠ gb467)); have NB467_466 := Aside0.mk ((by rw [hg]; exact Nat.ne_of_gt (blk_lt (g := gb466) (o := .cells #[.slice A0_0 l0_0.length c0_0] 24 (0, 0)) (bo BK466.out)) : gb467 ≠ gb466)); replace BK466 := Aside0.mk (blk_below (g := gb466) (o := .cells #[.slice A0_0 l0_0.length c0_0] 24 (0, 0)) (bo BK466.out) hb); clear hb hbox hg; have hnb14 := NB466_467.out; have hnc14 := NB467_466.out; have hcz15_0 := bc BK466 0 (.slice A0_0 l0_0.length c0_0); have hfz15_0 := blk_frozen BK466.out 0) | ((with_reducible refine gate_callee (f := 14) rfl ?_); refine gl (some 19) Try.func14 #[.agg #[.slice A0_0 l0_0.length c0_0], .int .i64 1048576] ?_; (with_reducible refine (laws_szSemigroup.calls _ _ l0_0 1048576 t468 _ ?side1 ?side2 A3.out).mono ?_); (case side1 => exact co (Kd.C_below HR0_0.out HB.out)); (case side2 => exact HC0_0.out); rintro e w16 ⟨rfl, hb⟩; refine ⟨_, rfl, ?_⟩; replace BK466 := Aside0.mk (blk_below (g := gb466) (o := .cells #[.slice A0_0 l0_0.length c0_0] 24 (0, 0)) (bo BK466.out) hb); replace BK467 := Aside0.mk (blk_below (g := gb467) (o := .cells #[.slice A1_0 l1_0.length c1_0] 24 (0, 0)) (bo BK467.out) hb); replace HB := Aside0.mk (below_step bw hb); clear hb; have hcz17_0 := bc BK467 0 (.slice A1_0 l1_0.length c1_0); have hfz17_0 := blk_frozen BK467.out 0) | ((with_reducible refine gate_callee (f := 14) rfl ?_); refine gl (some 24) Try.func14 #[.agg #[.slice A1_0 l1_0.length c1_0], .int .i64 t468] ?_; (with_reducible refine (laws_szSemigroup.calls _ _ l1_0 t468 t469 _ ?side1 ?side2 A10.out).mono ?_); (case side1 => exact co (Kd.C_below HR1_0.out HB.out)); (case side2 => exact HC1_0.out); rintro e w18 ⟨rfl, hb⟩; refine ⟨_, rfl, ?_⟩; replace BK466 := Aside0.mk (blk_below (g := gb466) (o := .cells #[.slice A0_0 l0_0.length c0_0] 24 (0, 0)) (bo BK466.out) hb); replace BK467 := Aside0.mk (blk_below (g := gb467) (o := .cells #[.slice A1_0 l1_0.length c1_0] 24 (0, 0)) (bo BK467.out) hb); replace HB := Aside0.mk (below_step bw hb); clear hb))
   go_ret
   exact ⟨re, bw⟩
  ·replace H := ga H; obtain ⟨t470, A19, H⟩ := H
   replace H := ga H; obtain ⟨t473, A20, H⟩ := H
   replace H := ga H; obtain ⟨⟨t476, t479⟩, A21, H⟩ := H
   replace H : ((laws_toSemigroup.f k l0_0).bind fun t481 => ((laws_toSemigroup.f k l1_0).bind fun t485 => ((impl_AddOf.f k t481 t485).bind fun bt489 => ((laws_eqSemigroup.f k bt489.1 t476).bind fun t494 => (if t494 = true then (laws_FnExactAddOf.j0 k t479 bt489.2 (bt489.2 != t479) l0_0 l1_0 t476 t481 t485 bt489.1) else (laws_FnExactAddOf.j0 k t479 bt489.2 true l0_0 l1_0 t476 t481 t485 bt489.1)))))) = some true := H
   replace H := ga H; obtain ⟨t481, A22, H⟩ := H
   replace H := ga H; obtain ⟨t485, A23, H⟩ := H
   replace H := ga H; obtain ⟨⟨t489, t492⟩, A24, H⟩ := H
   replace H : ((laws_eqSemigroup.f k t489 t476).bind fun t494 => (if t494 = true then (laws_FnExactAddOf.j0 k t479 t492 (t492 != t479) l0_0 l1_0 t476 t481 t485 t489) else (laws_FnExactAddOf.j0 k t479 t492 true l0_0 l1_0 t476 t481 t485 t489))) = some true := H
   have HC25 := Aside0.mk H
   clear H
   go_enter Try.func13, Try.ntmps13
   try go_wp2_with (first | ((with_reducible refine gate_dst (N := 2) rfl ?_); refine bx 2 #[.slice A0_0 l0_0.length c0_0] 24 ?_; intro gb466 hg w26 hbox hb; have BK466 := Aside0.mk (hbox); have GW466 := Aside0.mk (gs hg : w.heap.size ≤ gb466); have GE466 := Aside0.mk (gs hg : w.heap.size ≤ gb466); replace HB := Aside0.mk (below_step bw hb); clear hb hbox hg) | ((with_reducible refine gate_dst (N := 3) rfl ?_); refine bx 3 #[.slice A1_0 l1_0.length c1_0] 24 ?_; intro gb467 hg w27 hbox hb; have BK467 := Aside0.mk (hbox); have GW467 := Aside0.mk (gs hg : w.heap.size ≤ gb467); have GE467 := Aside0.mk (gs hg : w.heap.size ≤ gb467); replace HB := Aside0.mk (below_step bw hb); have NB466_467 := Aside0.mk ((by rw [hg]; exact Nat.ne_of_lt (blk_lt (g := gb466) (o := .cells #[.slice A0_0 l0_0.length c0_0] 24 (0, 0)) (bo BK466.out)) : gb466 ≠ gb467)); have NB467_466 := Aside0.mk ((by rw [hg]; exact Nat.ne_of_gt (blk_lt (g := gb466) (o := .cells #[.slice A0_0 l0_0.length c0_0] 24 (0, 0)) (bo BK466.out)) : gb467 ≠ gb466)); replace BK466 := Aside0.mk (blk_below (g := gb466) (o := .cells #[.slice A0_0 l0_0.length c0_0] 24 (0, 0)) (bo BK466.out) hb); clear hb hbox hg; have hnb28 := NB466_467.out; have hnc28 := NB467_466.out; have hcz29_0 := bc BK466 0 (.slice A0_0 l0_0.length c0_0); have hfz29_0 := blk_frozen BK466.out 0) | ((with_reducible refine gate_callee (f := 14) rfl ?_); refine gl (some 19) Try.func14 #[.agg #[.slice A0_0 l0_0.length c0_0], .int .i64 1048576] ?_; (with_reducible refine (laws_szSemigroup.calls _ _ l0_0 1048576 t468 _ ?side1 ?side2 A3.out).mono ?_); (case side1 => exact co (Kd.C_below HR0_0.out HB.out)); (case side2 => exact HC0_0.out); rintro e w30 ⟨rfl, hb⟩; refine ⟨_, rfl, ?_⟩; replace BK466 := Aside0.mk (blk_below (g := gb466) (o := .cells #[.slice A0_0 l0_0.length c0_0] 24 (0, 0)) (bo BK466.out) hb); replace BK467 := Aside0.mk (blk_below (g := gb467) (o := .cells #[.slice A1_0 l1_0.length c1_0] 24 (0, 0)) (bo BK467.out) hb); replace HB := Aside0.mk (below_step bw hb); clear hb; have hcz31_0 := bc BK467 0 (.slice A1_0 l1_0.length c1_0); have hfz31_0 := blk_frozen BK467.out 0) | ((with_reducible refine gate_callee (f := 14) rfl ?_); refine gl (some 24) Try.func14 #[.agg #[.slice A1_0 l1_0.length c1_0], .int .i64 t468] ?_; (with_reducible refine (laws_szSemigroup.calls _ _ l1_0 t468 t469 _ ?side1 ?side2 A10.out).mono ?_); (case side1 => exact co (Kd.C_below HR1_0.out HB.out)); (case side2 => exact HC1_0.out); rintro e w32 ⟨rfl, hb⟩; refine ⟨_, rfl, ?_⟩; replace BK466 := Aside0.mk (blk_below (g := gb466) (o := .cells #[.slice A0_0 l0_0.length c0_0] 24 (0, 0)) (bo BK466.out) hb); replace BK467 := Aside0.mk (blk_below (g := gb467) (o := .cells #[.slice A1_0 l1_0.length c1_0] 24 (0, 0)) (bo BK467.out) hb); replace HB := Aside0.mk (below_step bw hb); clear hb))
   replace BK466 := Aside0.mk (blk_drew BK466.out)
   replace BK467 := Aside0.mk (blk_drew BK467.out)
   replace HB := Aside0.mk (below_drew1 HB.out)
   refine start_ (n := 11) (S := fun w' => w'.cell? ⟨gb466, 0, none⟩ = some (.slice A0_0 l0_0.length c0_0) ∧ w'.cell? ⟨gb467, 0, none⟩ = some (.slice A1_0 l1_0.length c1_0)) (ds := []) #[Z,Z,Z,Z,Z,Z,Z,Z,Z,Z,Z] (by kernel_rfl) rfl rfl ⟨(blk_cell BK466.out 0).trans rfl, (blk_cell BK467.out 0).trans rfl⟩ (fun hHeld => ?_); refine with_tabW laws_FnExactAddOf.tab8 laws_FnExactAddOf.bits8 (fun HT_ HW_ => ?_)
   generalize w32.drew = w33 at BK466 BK467 HB hHeld ⊢
   refine take_ (i := 0) (N := some 28) (v := ?_) (a' := ?_) #[Y,Z,Z,Z,Z,Z,Z,Z,Z,Z,Z] rfl rfl (take_ofW HT_.out HW_.out (by kernel_rfl)) (fun _ _ _ h => h) (Or.inl ⟨by rfl, ?_⟩) hHeld ?_ ?_
   rotate_left
   ·rintro w' ⟨s0, s1⟩
    go_simp
    with_reducible rfl
   rotate_left
   ·simp only [Act.put, qa, qb, qc, i64_w, i32_w]
    rfl
   refine take_ (i := 2) (N := some 30) (v := ?_) (a' := ?_) #[Y,Z,Y,Z,Z,Z,Z,Z,Z,Z,Z] rfl rfl (take_ofW HT_.out HW_.out (by kernel_rfl)) (fun _ _ _ h => h) (Or.inl ⟨by rfl, ?_⟩) hHeld ?_ ?_
   rotate_left
   ·rintro w' ⟨s0, s1⟩
    go_simp
    with_reducible rfl
   rotate_left
   ·simp only [Act.put, qa, qb, qc, i64_w, i32_w]
    rfl
   refine join_ (σ := Value × Value × Value × Nat) 2 #[Y,Y,Y,Y,Y,Y,Y,Y,Y,Z,Z] (fun s_ => [(29, .agg #[s_.1]), (31, .agg #[s_.2.1]), (32, .tuple #[.agg #[s_.2.2.1], .bool t479]), (6, .pointer (some ⟨s_.2.2.2, 0, none⟩)), (27, .tuple #[.agg #[s_.2.2.1], .bool t479]), (33, .agg #[s_.2.2.1]), (34, .bool t479)]) (fun s_ w' => (w'.cell? ⟨gb466, 0, none⟩ = some (.slice A0_0 l0_0.length c0_0) ∧ w'.cell? ⟨gb467, 0, none⟩ = some (.slice A1_0 l1_0.length c1_0)) ∧ (Kd.R (Kd.int .i64) 3 w' w.heap.size (fun k_ => some k_ ≠ (s_.2.1 : Value).ownBlock ∧ some k_ ≠ (s_.2.2.1 : Value).ownBlock) s_.1 t470) ∧ (Kd.R (Kd.int .i64) 3 w' w.heap.size (fun k_ => some k_ ≠ (s_.1 : Value).ownBlock ∧ some k_ ≠ (s_.2.2.1 : Value).ownBlock) s_.2.1 t473) ∧ (Kd.R (Kd.int .i64) 3 w' w.heap.size (fun k_ => some k_ ≠ (s_.1 : Value).ownBlock ∧ some k_ ≠ (s_.2.1 : Value).ownBlock) s_.2.2.1 t476) ∧ (w'.heap[gb466]? = some (.cells #[.slice A0_0 l0_0.length c0_0] 24 (0, 0))) ∧ (w'.heap[gb467]? = some (.cells #[.slice A1_0 l1_0.length c1_0] 24 (0, 0))) ∧ (w'.heap[s_.2.2.2]? = some (.cells #[.slice none 0 0] 27 (0, 0))) ∧ (w.heap.size ≤ s_.2.2.2) ∧ (w.heap.size ≤ s_.2.2.2) ∧ (gb466 ≠ s_.2.2.2) ∧ (s_.2.2.2 ≠ gb466) ∧ (gb467 ≠ s_.2.2.2) ∧ (s_.2.2.2 ≠ gb467) ∧ (Below w.heap.size w w')) ?_ ?_
   rotate_left
   ·intro hCont
    refine two_ (i := 1) (j := 8) (Ni := some 29) (Nj := some 6) #[Y,Y,Y,Z,Z,Z,Z,Z,Z,Z,Z] #[Y,Z,Y,Z,Z,Z,Z,Z,Y,Z,Z] rfl rfl rfl rfl (two_of HT_.out (by kernel_rfl)) (by decide) (by decide) (fun K hK => ?_) (fun K hK => ?_)
    ·skip
     refine gm Try.func16 #[.agg #[.slice A0_0 l0_0.length c0_0]] ?_
     with_reducible refine (laws_toSemigroup.calls k _ _ l0_0 t470 _ ?side1 ?side2 A19.out).mono ?_
     (case side1 => exact co (Kd.C_below HR0_0.out HB.out))
     (case side2 => exact HC0_0.out)
     rintro e w34 ⟨v471, rfl, ho0, hb⟩
     refine ⟨_, rfl, ?_⟩
     have HO472 := Aside0.mk (Kd.R_lower ho0 (below_size bw))
     replace BK466 := Aside0.mk (blk_below (g := gb466) (o := .cells #[.slice A0_0 l0_0.length c0_0] 24 (0, 0)) (bo BK466.out) hb)
     replace BK467 := Aside0.mk (blk_below (g := gb467) (o := .cells #[.slice A1_0 l1_0.length c1_0] 24 (0, 0)) (bo BK467.out) hb)
     replace HB := Aside0.mk (below_step bw hb)
     clear hb ho0
     refine hK.out _ _ ⟨(blk_cell BK466.out 0).trans rfl, (blk_cell BK467.out 0).trans rfl⟩ (fun hHeld => ?_)
     clear hK K
     refine norm_ (a' := ?_) ?_ ?_
     rotate_left
     ·show Act.put _ (some 29) _ = _
      simp only [Act.put, qa, qb, qc, i64_w, i32_w]
      rfl
     refine two_ (i := 3) (j := 8) (Ni := some 31) (Nj := some 6) #[Y,Y,Y,Y,Z,Z,Z,Z,Z,Z,Z] #[Y,Y,Y,Z,Z,Z,Z,Z,Y,Z,Z] rfl rfl rfl rfl (two_of HT_.out (by kernel_rfl)) (by decide) (by decide) (fun K hK => ?_) (fun K hK => ?_)
     ·skip
      refine gm Try.func16 #[.agg #[.slice A1_0 l1_0.length c1_0]] ?_
      with_reducible refine (laws_toSemigroup.calls k _ _ l1_0 t473 _ ?side1 ?side2 A20.out).mono ?_
      (case side1 => exact co (Kd.C_below HR1_0.out HB.out))
      (case side2 => exact HC1_0.out)
      rintro e w35 ⟨v474, rfl, ho0, hb⟩
      refine ⟨_, rfl, ?_⟩
      have HO475 := Aside0.mk (Kd.R_lower (Kd.R_new' ho0 (Kd.R_lt (ro HO472.out))) (below_size bw))
      replace HO472 := Aside0.mk (Kd.R_elder' (ro HO472.out) (Kd.R_base ho0) hb)
      replace BK466 := Aside0.mk (blk_below (g := gb466) (o := .cells #[.slice A0_0 l0_0.length c0_0] 24 (0, 0)) (bo BK466.out) hb)
      replace BK467 := Aside0.mk (blk_below (g := gb467) (o := .cells #[.slice A1_0 l1_0.length c1_0] 24 (0, 0)) (bo BK467.out) hb)
      replace HB := Aside0.mk (below_step bw hb)
      clear hb ho0
      obtain ⟨Ao36, co36, eo36⟩ := Kd.R_slice HO472.out
      (first | subst eo36 | (injection eo36 with f1_ f2_ f3_; have f4_ := f1_.symm; have f5_ := f3_.symm; clear f1_ f2_ f3_; subst f4_; subst f5_))
      obtain ⟨Ao37, co37, eo37⟩ := Kd.R_slice HO475.out
      (first | subst eo37 | (injection eo37 with f1_ f2_ f3_; have f4_ := f1_.symm; have f5_ := f3_.symm; clear f1_ f2_ f3_; subst f4_; subst f5_))
      refine hK.out _ _ ⟨(blk_cell BK466.out 0).trans rfl, (blk_cell BK467.out 0).trans rfl⟩ (fun hHeld => ?_)
      clear hK K
      refine norm_ (a' := ?_) ?_ ?_
      rotate_left
      ·show Act.put _ (some 31) _ = _
       simp only [Act.put, qa, qb, qc, i64_w, i32_w]
       rfl
      refine two_ (i := 4) (j := 8) (Ni := some 32) (Nj := some 6) #[Y,Y,Y,Y,Y,Z,Z,Z,Z,Z,Z] #[Y,Y,Y,Y,Z,Z,Z,Z,Y,Z,Z] rfl rfl rfl rfl (two_of HT_.out (by kernel_rfl)) (by decide) (by decide) (fun K hK => ?_) (fun K hK => ?_)
      ·skip
       refine gm Try.func55 #[.agg #[.slice Ao36 t470.length co36], .agg #[.slice Ao37 t473.length co37]] ?_
       with_reducible refine (spec_AddOf.calls k _ _ t470 _ _ t473 t476 t479 _ ?side1 ?side2 ?side3 ?side4 A21.out).mono ?_
       (case side1 => exact co (Kd.R_reads' HO472.out).2.2)
       (case side2 => exact (Kd.R_reads' HO472.out).2.1)
       (case side3 => exact co (Kd.R_reads' HO475.out).2.2)
       (case side4 => exact (Kd.R_reads' HO475.out).2.1)
       rintro e w38 ⟨v477, rfl, ho0, hb⟩
       refine ⟨_, rfl, ?_⟩
       have HO478 := Aside0.mk (Kd.R_lower (Kd.R_new' (Kd.R_new' ho0 (Kd.R_lt (ro HO472.out))) (Kd.R_lt (ro HO475.out))) (below_size bw))
       replace HO472 := Aside0.mk (Kd.R_elder' (ro HO472.out) (Kd.R_base ho0) hb)
       replace HO475 := Aside0.mk (Kd.R_elder' (ro HO475.out) (Kd.R_base ho0) hb)
       replace BK466 := Aside0.mk (blk_below (g := gb466) (o := .cells #[.slice A0_0 l0_0.length c0_0] 24 (0, 0)) (bo BK466.out) hb)
       replace BK467 := Aside0.mk (blk_below (g := gb467) (o := .cells #[.slice A1_0 l1_0.length c1_0] 24 (0, 0)) (bo BK467.out) hb)
       replace HB := Aside0.mk (below_step bw hb)
       clear hb ho0
       refine hK.out _ _ ⟨(blk_cell BK466.out 0).trans rfl, (blk_cell BK467.out 0).trans rfl⟩ (fun hHeld => ?_)
       clear hK K
       refine norm_ (a' := ?_) ?_ ?_
       rotate_left
       ·show Act.put _ (some 32) _ = _
        simp only [Act.put, qa, qb, qc, i64_w, i32_w]
        rfl
       refine pa 5 (some 27) #[Y,Y,Y,Y,Y,Y,Z,Z,Z,Z,Z] HT_ ?_
       refine pa 6 (some 33) #[Y,Y,Y,Y,Y,Y,Y,Z,Z,Z,Z] HT_ ?_
       refine pa 7 (some 34) #[Y,Y,Y,Y,Y,Y,Y,Y,Z,Z,Z] HT_ ?_
       refine oa 8 (some 6) #[Y,Y,Y,Y,Y,Y,Y,Y,Y,Z,Z] HT_ (fun K hK => ?_)
       refine box_step ?hg (N := 6) ?hd (cs := #[.slice none 0 0]) (t := 27) ?hr ?_; (case hd => rfl); (case hg => rfl); (case hr => first | (go_simp; done) | (go_simp; rfl))
       intro gb480 hg w39 hbox hb
       replace HO472 := Aside0.mk (Kd.R_below (ro HO472.out) hb)
       replace HO475 := Aside0.mk (Kd.R_below (ro HO475.out) hb)
       replace HO478 := Aside0.mk (Kd.R_below (ro HO478.out) hb)
       have BK480 := Aside0.mk (hbox)
       have GW480 := Aside0.mk (gs hg : w.heap.size ≤ gb480)
       have GE480 := Aside0.mk (gs hg : w.heap.size ≤ gb480)
       replace HB := Aside0.mk (below_step bw hb)
       have NB466_480 := Aside0.mk ((by rw [hg]; exact Nat.ne_of_lt (blk_lt (g := gb466) (o := .cells #[.slice A0_0 l0_0.length c0_0] 24 (0, 0)) (bo BK466.out)) : gb466 ≠ gb480))
       have NB480_466 := Aside0.mk ((by rw [hg]; exact Nat.ne_of_gt (blk_lt (g := gb466) (o := .cells #[.slice A0_0 l0_0.length c0_0] 24 (0, 0)) (bo BK466.out)) : gb480 ≠ gb466))
       replace BK466 := Aside0.mk (blk_below (g := gb466) (o := .cells #[.slice A0_0 l0_0.length c0_0] 24 (0, 0)) (bo BK466.out) hb)
       have NB467_480 := Aside0.mk ((by rw [hg]; exact Nat.ne_of_lt (blk_lt (g := gb467) (o := .cells #[.slice A1_0 l1_0.length c1_0] 24 (0, 0)) (bo BK467.out)) : gb467 ≠ gb480))
       have NB480_467 := Aside0.mk ((by rw [hg]; exact Nat.ne_of_gt (blk_lt (g := gb467) (o := .cells #[.slice A1_0 l1_0.length c1_0] 24 (0, 0)) (bo BK467.out)) : gb480 ≠ gb467))
       replace BK467 := Aside0.mk (blk_below (g := gb467) (o := .cells #[.slice A1_0 l1_0.length c1_0] 24 (0, 0)) (bo BK467.out) hb)
       clear hb hbox hg
       refine hK.out _ _ ⟨(blk_cell BK466.out 0).trans rfl, (blk_cell BK467.out 0).trans rfl⟩ (fun hHeld => ?_)
       clear hK K
       refine norm_ (a' := ?_) ?_ ?_
       rotate_left
       ·show Act.put _ (some 6) _ = _
        simp only [Act.put, qa, qb, qc, i64_w, i32_w]
        rfl
       exact norm_ (by simp only [putAll, Act.put, List.setIfInBounds_toArray, List.set_cons_zero, List.set_cons_succ]) (hCont (.slice Ao36 t470.length co36, .slice Ao37 t473.length co37, v477, gb480) _ ⟨hHeld, (by (with_reducible repeat (first | apply Kd.R_alloc | apply Kd.R_drewN | apply Kd.R_drew)); exact Kd.R_mono HO472.out (fun _ hk => by first | exact ⟨hk.1.2, hk.2⟩ | simp_all)), (by (with_reducible repeat (first | apply Kd.R_alloc | apply Kd.R_drewN | apply Kd.R_drew)); exact Kd.R_mono HO475.out (fun _ hk => by first | exact ⟨hk.1.2, hk.2⟩ | simp_all)), (by (with_reducible repeat (first | apply Kd.R_alloc | apply Kd.R_drewN | apply Kd.R_drew)); exact Kd.R_mono HO478.out (fun _ hk => by first | exact ⟨hk.1.2, hk.2⟩ | simp_all)), (bo BK466.out), (bo BK467.out), (bo BK480.out), GW480.out, GE480.out, NB466_480.out, NB480_466.out, NB467_480.out, NB480_467.out, bw⟩)
      ·skip
       refine box_step ?hg (N := 6) ?hd (cs := #[.slice none 0 0]) (t := 27) ?hr ?_; (case hd => rfl); (case hg => rfl); (case hr => first | (go_simp; done) | (go_simp; rfl))
       intro gb480 hg w36 hbox hb
       replace HO472 := Aside0.mk (Kd.R_below (ro HO472.out) hb)
       replace HO475 := Aside0.mk (Kd.R_below (ro HO475.out) hb)
       have BK480 := Aside0.mk (hbox)
       have GW480 := Aside0.mk (gs hg : w.heap.size ≤ gb480)
       have GE480 := Aside0.mk (gs hg : w.heap.size ≤ gb480)
       replace HB := Aside0.mk (below_step bw hb)
       have NB466_480 := Aside0.mk ((by rw [hg]; exact Nat.ne_of_lt (blk_lt (g := gb466) (o := .cells #[.slice A0_0 l0_0.length c0_0] 24 (0, 0)) (bo BK466.out)) : gb466 ≠ gb480))
       have NB480_466 := Aside0.mk ((by rw [hg]; exact Nat.ne_of_gt (blk_lt (g := gb466) (o := .cells #[.slice A0_0 l0_0.length c0_0] 24 (0, 0)) (bo BK466.out)) : gb480 ≠ gb466))
       replace BK466 := Aside0.mk (blk_below (g := gb466) (o := .cells #[.slice A0_0 l0_0.length c0_0] 24 (0, 0)) (bo BK466.out) hb)
       have NB467_480 := Aside0.mk ((by rw [hg]; exact Nat.ne_of_lt (blk_lt (g := gb467) (o := .cells #[.slice A1_0 l1_0.length c1_0] 24 (0, 0)) (bo BK467.out)) : gb467 ≠ gb480))
       have NB480_467 := Aside0.mk ((by rw [hg]; exact Nat.ne_of_gt (blk_lt (g := gb467) (o := .cells #[.slice A1_0 l1_0.length c1_0] 24 (0, 0)) (bo BK467.out)) : gb480 ≠ gb467))
       replace BK467 := Aside0.mk (blk_below (g := gb467) (o := .cells #[.slice A1_0 l1_0.length c1_0] 24 (0, 0)) (bo BK467.out) hb)
       clear hb hbox hg
       obtain ⟨Ao37, co37, eo37⟩ := Kd.R_slice HO472.out
       (first | subst eo37 | (injection eo37 with f1_ f2_ f3_; have f4_ := f1_.symm; have f5_ := f3_.symm; clear f1_ f2_ f3_; subst f4_; subst f5_))
       obtain ⟨Ao38, co38, eo38⟩ := Kd.R_slice HO475.out
       (first | subst eo38 | (injection eo38 with f1_ f2_ f3_; have f4_ := f1_.symm; have f5_ := f3_.symm; clear f1_ f2_ f3_; subst f4_; subst f5_))
       refine hK.out _ _ ⟨(blk_cell BK466.out 0).trans rfl, (blk_cell BK467.out 0).trans rfl⟩ (fun hHeld => ?_)
       clear hK K
       refine norm_ (a' := ?_) ?_ ?_
       rotate_left
       ·show Act.put _ (some 6) _ = _
        simp only [Act.put, qa, qb, qc, i64_w, i32_w]
        rfl
       refine oa 4 (some 32) #[Y,Y,Y,Y,Y,Z,Z,Z,Y,Z,Z] HT_ (fun K hK => ?_)
       refine gm Try.func55 #[.agg #[.slice Ao37 t470.length co37], .agg #[.slice Ao38 t473.length co38]] ?_
       with_reducible refine (spec_AddOf.calls k _ _ t470 _ _ t473 t476 t479 _ ?side1 ?side2 ?side3 ?side4 A21.out).mono ?_
       (case side1 => exact co (Kd.R_reads' HO472.out).2.2)
       (case side2 => exact (Kd.R_reads' HO472.out).2.1)
       (case side3 => exact co (Kd.R_reads' HO475.out).2.2)
       (case side4 => exact (Kd.R_reads' HO475.out).2.1)
       rintro e w39 ⟨v477, rfl, ho0, hb⟩
       refine ⟨_, rfl, ?_⟩
       have HO478 := Aside0.mk (Kd.R_lower (Kd.R_new' (Kd.R_new' ho0 (Kd.R_lt (ro HO472.out))) (Kd.R_lt (ro HO475.out))) (below_size bw))
       replace HO472 := Aside0.mk (Kd.R_elder' (ro HO472.out) (Kd.R_base ho0) hb)
       replace HO475 := Aside0.mk (Kd.R_elder' (ro HO475.out) (Kd.R_base ho0) hb)
       replace BK466 := Aside0.mk (blk_below (g := gb466) (o := .cells #[.slice A0_0 l0_0.length c0_0] 24 (0, 0)) (bo BK466.out) hb)
       replace BK467 := Aside0.mk (blk_below (g := gb467) (o := .cells #[.slice A1_0 l1_0.length c1_0] 24 (0, 0)) (bo BK467.out) hb)
       replace BK480 := Aside0.mk (blk_below (g := gb480) (o := .cells #[.slice none 0 0] 27 (0, 0)) (bo BK480.out) hb)
       replace HB := Aside0.mk (below_step bw hb)
       clear hb ho0
       refine hK.out _ _ ⟨(blk_cell BK466.out 0).trans rfl, (blk_cell BK467.out 0).trans rfl⟩ (fun hHeld => ?_)
       clear hK K
       refine norm_ (a' := ?_) ?_ ?_
       rotate_left
       ·show Act.put _ (some 32) _ = _
        simp only [Act.put, qa, qb, qc, i64_w, i32_w]
        rfl
       refine pa 5 (some 27) #[Y,Y,Y,Y,Y,Y,Z,Z,Y,Z,Z] HT_ ?_
       refine pa 6 (some 33) #[Y,Y,Y,Y,Y,Y,Y,Z,Y,Z,Z] HT_ ?_
       refine pa 7 (some 34) #[Y,Y,Y,Y,Y,Y,Y,Y,Y,Z,Z] HT_ ?_
       exact norm_ (by simp only [putAll, Act.put, List.setIfInBounds_toArray, List.set_cons_zero, List.set_cons_succ]) (hCont (.slice Ao37 t470.length co37, .slice Ao38 t473.length co38, v477, gb480) _ ⟨hHeld, (by (with_reducible repeat (first | apply Kd.R_alloc | apply Kd.R_drewN | apply Kd.R_drew)); exact Kd.R_mono HO472.out (fun _ hk => by first | exact ⟨hk.1.2, hk.2⟩ | simp_all)), (by (with_reducible repeat (first | apply Kd.R_alloc | apply Kd.R_drewN | apply Kd.R_drew)); exact Kd.R_mono HO475.out (fun _ hk => by first | exact ⟨hk.1.2, hk.2⟩ | simp_all)), (by (with_reducible repeat (first | apply Kd.R_alloc | apply Kd.R_drewN | apply Kd.R_drew)); exact Kd.R_mono HO478.out (fun _ hk => by first | exact ⟨hk.1.2, hk.2⟩ | simp_all)), (bo BK466.out), (bo BK467.out), (bo BK480.out), GW480.out, GE480.out, NB466_480.out, NB480_466.out, NB467_480.out, NB480_467.out, bw⟩)
     ·skip
      refine box_step ?hg (N := 6) ?hd (cs := #[.slice none 0 0]) (t := 27) ?hr ?_; (case hd => rfl); (case hg => rfl); (case hr => first | (go_simp; done) | (go_simp; rfl))
      intro gb480 hg w35 hbox hb
      replace HO472 := Aside0.mk (Kd.R_below (ro HO472.out) hb)
      have BK480 := Aside0.mk (hbox)
      have GW480 := Aside0.mk (gs hg : w.heap.size ≤ gb480)
      have GE480 := Aside0.mk (gs hg : w.heap.size ≤ gb480)
      replace HB := Aside0.mk (below_step bw hb)
      have NB466_480 := Aside0.mk ((by rw [hg]; exact Nat.ne_of_lt (blk_lt (g := gb466) (o := .cells #[.slice A0_0 l0_0.length c0_0] 24 (0, 0)) (bo BK466.out)) : gb466 ≠ gb480))
      have NB480_466 := Aside0.mk ((by rw [hg]; exact Nat.ne_of_gt (blk_lt (g := gb466) (o := .cells #[.slice A0_0 l0_0.length c0_0] 24 (0, 0)) (bo BK466.out)) : gb480 ≠ gb466))
      replace BK466 := Aside0.mk (blk_below (g := gb466) (o := .cells #[.slice A0_0 l0_0.length c0_0] 24 (0, 0)) (bo BK466.out) hb)
      have NB467_480 := Aside0.mk ((by rw [hg]; exact Nat.ne_of_lt (blk_lt (g := gb467) (o := .cells #[.slice A1_0 l1_0.length c1_0] 24 (0, 0)) (bo BK467.out)) : gb467 ≠ gb480))
      have NB480_467 := Aside0.mk ((by rw [hg]; exact Nat.ne_of_gt (blk_lt (g := gb467) (o := .cells #[.slice A1_0 l1_0.length c1_0] 24 (0, 0)) (bo BK467.out)) : gb480 ≠ gb467))
      replace BK467 := Aside0.mk (blk_below (g := gb467) (o := .cells #[.slice A1_0 l1_0.length c1_0] 24 (0, 0)) (bo BK467.out) hb)
      clear hb hbox hg
      refine hK.out _ _ ⟨(blk_cell BK466.out 0).trans rfl, (blk_cell BK467.out 0).trans rfl⟩ (fun hHeld => ?_)
      clear hK K
      refine norm_ (a' := ?_) ?_ ?_
      rotate_left
      ·show Act.put _ (some 6) _ = _
       simp only [Act.put, qa, qb, qc, i64_w, i32_w]
       rfl
      refine oa 3 (some 31) #[Y,Y,Y,Y,Z,Z,Z,Z,Y,Z,Z] HT_ (fun K hK => ?_)
      refine gm Try.func16 #[.agg #[.slice A1_0 l1_0.length c1_0]] ?_
      with_reducible refine (laws_toSemigroup.calls k _ _ l1_0 t473 _ ?side1 ?side2 A20.out).mono ?_
      (case side1 => exact co (Kd.C_below HR1_0.out HB.out))
      (case side2 => exact HC1_0.out)
      rintro e w36 ⟨v474, rfl, ho0, hb⟩
      refine ⟨_, rfl, ?_⟩
      have HO475 := Aside0.mk (Kd.R_lower (Kd.R_new' ho0 (Kd.R_lt (ro HO472.out))) (below_size bw))
      replace HO472 := Aside0.mk (Kd.R_elder' (ro HO472.out) (Kd.R_base ho0) hb)
      replace BK466 := Aside0.mk (blk_below (g := gb466) (o := .cells #[.slice A0_0 l0_0.length c0_0] 24 (0, 0)) (bo BK466.out) hb)
      replace BK467 := Aside0.mk (blk_below (g := gb467) (o := .cells #[.slice A1_0 l1_0.length c1_0] 24 (0, 0)) (bo BK467.out) hb)
      replace BK480 := Aside0.mk (blk_below (g := gb480) (o := .cells #[.slice none 0 0] 27 (0, 0)) (bo BK480.out) hb)
      replace HB := Aside0.mk (below_step bw hb)
      clear hb ho0
      obtain ⟨Ao37, co37, eo37⟩ := Kd.R_slice HO472.out
      (first | subst eo37 | (injection eo37 with f1_ f2_ f3_; have f4_ := f1_.symm; have f5_ := f3_.symm; clear f1_ f2_ f3_; subst f4_; subst f5_))
      obtain ⟨Ao38, co38, eo38⟩ := Kd.R_slice HO475.out
      (first | subst eo38 | (injection eo38 with f1_ f2_ f3_; have f4_ := f1_.symm; have f5_ := f3_.symm; clear f1_ f2_ f3_; subst f4_; subst f5_))
      refine hK.out _ _ ⟨(blk_cell BK466.out 0).trans rfl, (blk_cell BK467.out 0).trans rfl⟩ (fun hHeld => ?_)
      clear hK K
      refine norm_ (a' := ?_) ?_ ?_
      rotate_left
      ·show Act.put _ (some 31) _ = _
       simp only [Act.put, qa, qb, qc, i64_w, i32_w]
       rfl
      refine oa 4 (some 32) #[Y,Y,Y,Y,Y,Z,Z,Z,Y,Z,Z] HT_ (fun K hK => ?_)
      refine gm Try.func55 #[.agg #[.slice Ao37 t470.length co37], .agg #[.slice Ao38 t473.length co38]] ?_
      with_reducible refine (spec_AddOf.calls k _ _ t470 _ _ t473 t476 t479 _ ?side1 ?side2 ?side3 ?side4 A21.out).mono ?_
      (case side1 => exact co (Kd.R_reads' HO472.out).2.2)
      (case side2 => exact (Kd.R_reads' HO472.out).2.1)
      (case side3 => exact co (Kd.R_reads' HO475.out).2.2)
      (case side4 => exact (Kd.R_reads' HO475.out).2.1)
      rintro e w39 ⟨v477, rfl, ho0, hb⟩
      refine ⟨_, rfl, ?_⟩
      have HO478 := Aside0.mk (Kd.R_lower (Kd.R_new' (Kd.R_new' ho0 (Kd.R_lt (ro HO472.out))) (Kd.R_lt (ro HO475.out))) (below_size bw))
      replace HO472 := Aside0.mk (Kd.R_elder' (ro HO472.out) (Kd.R_base ho0) hb)
      replace HO475 := Aside0.mk (Kd.R_elder' (ro HO475.out) (Kd.R_base ho0) hb)
      replace BK466 := Aside0.mk (blk_below (g := gb466) (o := .cells #[.slice A0_0 l0_0.length c0_0] 24 (0, 0)) (bo BK466.out) hb)
      replace BK467 := Aside0.mk (blk_below (g := gb467) (o := .cells #[.slice A1_0 l1_0.length c1_0] 24 (0, 0)) (bo BK467.out) hb)
      replace BK480 := Aside0.mk (blk_below (g := gb480) (o := .cells #[.slice none 0 0] 27 (0, 0)) (bo BK480.out) hb)
      replace HB := Aside0.mk (below_step bw hb)
      clear hb ho0
      refine hK.out _ _ ⟨(blk_cell BK466.out 0).trans rfl, (blk_cell BK467.out 0).trans rfl⟩ (fun hHeld => ?_)
      clear hK K
      refine norm_ (a' := ?_) ?_ ?_
      rotate_left
      ·show Act.put _ (some 32) _ = _
       simp only [Act.put, qa, qb, qc, i64_w, i32_w]
       rfl
      refine pa 5 (some 27) #[Y,Y,Y,Y,Y,Y,Z,Z,Y,Z,Z] HT_ ?_
      refine pa 6 (some 33) #[Y,Y,Y,Y,Y,Y,Y,Z,Y,Z,Z] HT_ ?_
      refine pa 7 (some 34) #[Y,Y,Y,Y,Y,Y,Y,Y,Y,Z,Z] HT_ ?_
      exact norm_ (by simp only [putAll, Act.put, List.setIfInBounds_toArray, List.set_cons_zero, List.set_cons_succ]) (hCont (.slice Ao37 t470.length co37, .slice Ao38 t473.length co38, v477, gb480) _ ⟨hHeld, (by (with_reducible repeat (first | apply Kd.R_alloc | apply Kd.R_drewN | apply Kd.R_drew)); exact Kd.R_mono HO472.out (fun _ hk => by first | exact ⟨hk.1.2, hk.2⟩ | simp_all)), (by (with_reducible repeat (first | apply Kd.R_alloc | apply Kd.R_drewN | apply Kd.R_drew)); exact Kd.R_mono HO475.out (fun _ hk => by first | exact ⟨hk.1.2, hk.2⟩ | simp_all)), (by (with_reducible repeat (first | apply Kd.R_alloc | apply Kd.R_drewN | apply Kd.R_drew)); exact Kd.R_mono HO478.out (fun _ hk => by first | exact ⟨hk.1.2, hk.2⟩ | simp_all)), (bo BK466.out), (bo BK467.out), (bo BK480.out), GW480.out, GE480.out, NB466_480.out, NB480_466.out, NB467_480.out, NB480_467.out, bw⟩)
    ·skip
     refine box_step ?hg (N := 6) ?hd (cs := #[.slice none 0 0]) (t := 27) ?hr ?_; (case hd => rfl); (case hg => rfl); (case hr => first | (go_simp; done) | (go_simp; rfl))
     intro gb480 hg w34 hbox hb
     have BK480 := Aside0.mk (hbox)
     have GW480 := Aside0.mk (gs hg : w.heap.size ≤ gb480)
     have GE480 := Aside0.mk (gs hg : w.heap.size ≤ gb480)
     replace HB := Aside0.mk (below_step bw hb)
     have NB466_480 := Aside0.mk ((by rw [hg]; exact Nat.ne_of_lt (blk_lt (g := gb466) (o := .cells #[.slice A0_0 l0_0.length c0_0] 24 (0, 0)) (bo BK466.out)) : gb466 ≠ gb480))
     have NB480_466 := Aside0.mk ((by rw [hg]; exact Nat.ne_of_gt (blk_lt (g := gb466) (o := .cells #[.slice A0_0 l0_0.length c0_0] 24 (0, 0)) (bo BK466.out)) : gb480 ≠ gb466))
     replace BK466 := Aside0.mk (blk_below (g := gb466) (o := .cells #[.slice A0_0 l0_0.length c0_0] 24 (0, 0)) (bo BK466.out) hb)
     have NB467_480 := Aside0.mk ((by rw [hg]; exact Nat.ne_of_lt (blk_lt (g := gb467) (o := .cells #[.slice A1_0 l1_0.length c1_0] 24 (0, 0)) (bo BK467.out)) : gb467 ≠ gb480))
     have NB480_467 := Aside0.mk ((by rw [hg]; exact Nat.ne_of_gt (blk_lt (g := gb467) (o := .cells #[.slice A1_0 l1_0.length c1_0] 24 (0, 0)) (bo BK467.out)) : gb480 ≠ gb467))
     replace BK467 := Aside0.mk (blk_below (g := gb467) (o := .cells #[.slice A1_0 l1_0.length c1_0] 24 (0, 0)) (bo BK467.out) hb)
     clear hb hbox hg
     refine hK.out _ _ ⟨(blk_cell BK466.out 0).trans rfl, (blk_cell BK467.out 0).trans rfl⟩ (fun hHeld => ?_)
     clear hK K
     refine norm_ (a' := ?_) ?_ ?_
     rotate_left
     ·show Act.put _ (some 6) _ = _
      simp only [Act.put, qa, qb, qc, i64_w, i32_w]
      rfl
     refine oa 1 (some 29) #[Y,Y,Y,Z,Z,Z,Z,Z,Y,Z,Z] HT_ (fun K hK => ?_)
     refine gm Try.func16 #[.agg #[.slice A0_0 l0_0.length c0_0]] ?_
     with_reducible refine (laws_toSemigroup.calls k _ _ l0_0 t470 _ ?side1 ?side2 A19.out).mono ?_
     (case side1 => exact co (Kd.C_below HR0_0.out HB.out))
     (case side2 => exact HC0_0.out)
     rintro e w35 ⟨v471, rfl, ho0, hb⟩
     refine ⟨_, rfl, ?_⟩
     have HO472 := Aside0.mk (Kd.R_lower ho0 (below_size bw))
     replace BK466 := Aside0.mk (blk_below (g := gb466) (o := .cells #[.slice A0_0 l0_0.length c0_0] 24 (0, 0)) (bo BK466.out) hb)
     replace BK467 := Aside0.mk (blk_below (g := gb467) (o := .cells #[.slice A1_0 l1_0.length c1_0] 24 (0, 0)) (bo BK467.out) hb)
     replace BK480 := Aside0.mk (blk_below (g := gb480) (o := .cells #[.slice none 0 0] 27 (0, 0)) (bo BK480.out) hb)
     replace HB := Aside0.mk (below_step bw hb)
     clear hb ho0
     refine hK.out _ _ ⟨(blk_cell BK466.out 0).trans rfl, (blk_cell BK467.out 0).trans rfl⟩ (fun hHeld => ?_)
     clear hK K
     refine norm_ (a' := ?_) ?_ ?_
     rotate_left
     ·show Act.put _ (some 29) _ = _
      simp only [Act.put, qa, qb, qc, i64_w, i32_w]
      rfl
     refine oa 3 (some 31) #[Y,Y,Y,Y,Z,Z,Z,Z,Y,Z,Z] HT_ (fun K hK => ?_)
     refine gm Try.func16 #[.agg #[.slice A1_0 l1_0.length c1_0]] ?_
     with_reducible refine (laws_toSemigroup.calls k _ _ l1_0 t473 _ ?side1 ?side2 A20.out).mono ?_
     (case side1 => exact co (Kd.C_below HR1_0.out HB.out))
     (case side2 => exact HC1_0.out)
     rintro e w36 ⟨v474, rfl, ho0, hb⟩
     refine ⟨_, rfl, ?_⟩
     have HO475 := Aside0.mk (Kd.R_lower (Kd.R_new' ho0 (Kd.R_lt (ro HO472.out))) (below_size bw))
     replace HO472 := Aside0.mk (Kd.R_elder' (ro HO472.out) (Kd.R_base ho0) hb)
     replace BK466 := Aside0.mk (blk_below (g := gb466) (o := .cells #[.slice A0_0 l0_0.length c0_0] 24 (0, 0)) (bo BK466.out) hb)
     replace BK467 := Aside0.mk (blk_below (g := gb467) (o := .cells #[.slice A1_0 l1_0.length c1_0] 24 (0, 0)) (bo BK467.out) hb)
     replace BK480 := Aside0.mk (blk_below (g := gb480) (o := .cells #[.slice none 0 0] 27 (0, 0)) (bo BK480.out) hb)
     replace HB := Aside0.mk (below_step bw hb)
     clear hb ho0
     obtain ⟨Ao37, co37, eo37⟩ := Kd.R_slice HO472.out
     (first | subst eo37 | (injection eo37 with f1_ f2_ f3_; have f4_ := f1_.symm; have f5_ := f3_.symm; clear f1_ f2_ f3_; subst f4_; subst f5_))
     obtain ⟨Ao38, co38, eo38⟩ := Kd.R_slice HO475.out
     (first | subst eo38 | (injection eo38 with f1_ f2_ f3_; have f4_ := f1_.symm; have f5_ := f3_.symm; clear f1_ f2_ f3_; subst f4_; subst f5_))
     refine hK.out _ _ ⟨(blk_cell BK466.out 0).trans rfl, (blk_cell BK467.out 0).trans rfl⟩ (fun hHeld => ?_)
     clear hK K
     refine norm_ (a' := ?_) ?_ ?_
     rotate_left
     ·show Act.put _ (some 31) _ = _
      simp only [Act.put, qa, qb, qc, i64_w, i32_w]
      rfl
     refine oa 4 (some 32) #[Y,Y,Y,Y,Y,Z,Z,Z,Y,Z,Z] HT_ (fun K hK => ?_)
     refine gm Try.func55 #[.agg #[.slice Ao37 t470.length co37], .agg #[.slice Ao38 t473.length co38]] ?_
     with_reducible refine (spec_AddOf.calls k _ _ t470 _ _ t473 t476 t479 _ ?side1 ?side2 ?side3 ?side4 A21.out).mono ?_
     (case side1 => exact co (Kd.R_reads' HO472.out).2.2)
     (case side2 => exact (Kd.R_reads' HO472.out).2.1)
     (case side3 => exact co (Kd.R_reads' HO475.out).2.2)
     (case side4 => exact (Kd.R_reads' HO475.out).2.1)
     rintro e w39 ⟨v477, rfl, ho0, hb⟩
     refine ⟨_, rfl, ?_⟩
     have HO478 := Aside0.mk (Kd.R_lower (Kd.R_new' (Kd.R_new' ho0 (Kd.R_lt (ro HO472.out))) (Kd.R_lt (ro HO475.out))) (below_size bw))
     replace HO472 := Aside0.mk (Kd.R_elder' (ro HO472.out) (Kd.R_base ho0) hb)
     replace HO475 := Aside0.mk (Kd.R_elder' (ro HO475.out) (Kd.R_base ho0) hb)
     replace BK466 := Aside0.mk (blk_below (g := gb466) (o := .cells #[.slice A0_0 l0_0.length c0_0] 24 (0, 0)) (bo BK466.out) hb)
     replace BK467 := Aside0.mk (blk_below (g := gb467) (o := .cells #[.slice A1_0 l1_0.length c1_0] 24 (0, 0)) (bo BK467.out) hb)
     replace BK480 := Aside0.mk (blk_below (g := gb480) (o := .cells #[.slice none 0 0] 27 (0, 0)) (bo BK480.out) hb)
     replace HB := Aside0.mk (below_step bw hb)
     clear hb ho0
     refine hK.out _ _ ⟨(blk_cell BK466.out 0).trans rfl, (blk_cell BK467.out 0).trans rfl⟩ (fun hHeld => ?_)
     clear hK K
     refine norm_ (a' := ?_) ?_ ?_
     rotate_left
     ·show Act.put _ (some 32) _ = _
      simp only [Act.put, qa, qb, qc, i64_w, i32_w]
      rfl
     refine pa 5 (some 27) #[Y,Y,Y,Y,Y,Y,Z,Z,Y,Z,Z] HT_ ?_
     refine pa 6 (some 33) #[Y,Y,Y,Y,Y,Y,Y,Z,Y,Z,Z] HT_ ?_
     refine pa 7 (some 34) #[Y,Y,Y,Y,Y,Y,Y,Y,Y,Z,Z] HT_ ?_
     exact norm_ (by simp only [putAll, Act.put, List.setIfInBounds_toArray, List.set_cons_zero, List.set_cons_succ]) (hCont (.slice Ao37 t470.length co37, .slice Ao38 t473.length co38, v477, gb480) _ ⟨hHeld, (by (with_reducible repeat (first | apply Kd.R_alloc | apply Kd.R_drewN | apply Kd.R_drew)); exact Kd.R_mono HO472.out (fun _ hk => by first | exact ⟨hk.1.2, hk.2⟩ | simp_all)), (by (with_reducible repeat (first | apply Kd.R_alloc | apply Kd.R_drewN | apply Kd.R_drew)); exact Kd.R_mono HO475.out (fun _ hk => by first | exact ⟨hk.1.2, hk.2⟩ | simp_all)), (by (with_reducible repeat (first | apply Kd.R_alloc | apply Kd.R_drewN | apply Kd.R_drew)); exact Kd.R_mono HO478.out (fun _ hk => by first | exact ⟨hk.1.2, hk.2⟩ | simp_all)), (bo BK466.out), (bo BK467.out), (bo BK480.out), GW480.out, GE480.out, NB466_480.out, NB480_466.out, NB467_480.out, NB480_467.out, bw⟩)
   rintro ⟨v471, v474, v477, gb480⟩ w40 ⟨hS_, h0_, h1_, h2_, h3_, h4_, h5_, h6_, h7_, h8_, h9_, h10_, h11_, h12_⟩
   have n0_ : Aside0 (Kd.R (Kd.int .i64) 3 w40 w.heap.size (fun k_ => some k_ ≠ (v474 : Value).ownBlock ∧ some k_ ≠ (v477 : Value).ownBlock) v471 t470) := ⟨h0_⟩
   have n1_ : Aside0 (Kd.R (Kd.int .i64) 3 w40 w.heap.size (fun k_ => some k_ ≠ (v471 : Value).ownBlock ∧ some k_ ≠ (v477 : Value).ownBlock) v474 t473) := ⟨h1_⟩
   have n2_ : Aside0 (Kd.R (Kd.int .i64) 3 w40 w.heap.size (fun k_ => some k_ ≠ (v471 : Value).ownBlock ∧ some k_ ≠ (v474 : Value).ownBlock) v477 t476) := ⟨h2_⟩
   have n3_ : Aside0 (w40.heap[gb466]? = some (.cells #[.slice A0_0 l0_0.length c0_0] 24 (0, 0))) := ⟨h3_⟩
   have n4_ : Aside0 (w40.heap[gb467]? = some (.cells #[.slice A1_0 l1_0.length c1_0] 24 (0, 0))) := ⟨h4_⟩
   have n5_ : Aside0 (w40.heap[gb480]? = some (.cells #[.slice none 0 0] 27 (0, 0))) := ⟨h5_⟩
   have n6_ : Aside0 (w.heap.size ≤ gb480) := ⟨h6_⟩
   have n7_ : Aside0 (w.heap.size ≤ gb480) := ⟨h7_⟩
   have n8_ : Aside0 (gb466 ≠ gb480) := ⟨h8_⟩
   have n9_ : Aside0 (gb480 ≠ gb466) := ⟨h9_⟩
   have n10_ : Aside0 (gb467 ≠ gb480) := ⟨h10_⟩
   have n11_ : Aside0 (gb480 ≠ gb467) := ⟨h11_⟩
   have n12_ : Aside0 (Below w.heap.size w w40) := ⟨h12_⟩
   clear BK466
   clear BK467
   clear HB
   clear h0_ h1_ h2_ h3_ h4_ h5_ h6_ h7_ h8_ h9_ h10_ h11_ h12_
   have HO472 := n0_
   have HO475 := n1_
   have HO478 := n2_
   have BK466 := n3_
   have BK467 := n4_
   have BK480 := n5_
   have GW480 := n6_
   have GE480 := n7_
   have NB466_480 := n8_
   have NB480_466 := n9_
   have NB467_480 := n10_
   have NB480_467 := n11_
   have HB := n12_
   clear n0_ n1_ n2_ n3_ n4_ n5_ n6_ n7_ n8_ n9_ n10_ n11_ n12_
   have hHeld : w40.cell? ⟨gb466, 0, none⟩ = some (.slice A0_0 l0_0.length c0_0) ∧ w40.cell? ⟨gb467, 0, none⟩ = some (.slice A1_0 l1_0.length c1_0) := hS_
   obtain ⟨Ao41, co41, eo41⟩ := Kd.R_slice HO478.out
   (first | subst eo41 | (injection eo41 with f1_ f2_ f3_; have f4_ := f1_.symm; have f5_ := f3_.symm; clear f1_ f2_ f3_; subst f4_; subst f5_))
   refine norm_ (a' := ?_) ?_ ?_
   rotate_left
   ·simp only [putAll, Act.put, List.setIfInBounds_toArray, List.set_cons_zero, List.set_cons_succ]
    rfl
   refine oa 9 none #[Y,Y,Y,Y,Y,Y,Y,Y,Y,Y,Z] HT_ (fun K hK => ?_)
   have hs42 := bc BK480 0 (.slice none 0 0)
   have hfs42 := blk_frozen BK480.out 0
   have hns42_0 := NB466_480.out
   have hns42_1 := NB467_480.out
   have hms42_0 := NB480_466.out
   have hms42_1 := NB480_467.out
   refine skip_ (w1 := ?_) (by rfl) rfl ?_ ?_
   rotate_left
   ·go_simp
    rfl
   refine hK.out _ _ ⟨((cell_far (p := ⟨gb480, _, none⟩) NB466_480.out _).trans (hHeld.1)), ((cell_far (p := ⟨gb480, _, none⟩) NB467_480.out _).trans (hHeld.2))⟩ (fun hHeld => ?_)
   clear hK K
   refine pa 10 (some 7) #[Y,Y,Y,Y,Y,Y,Y,Y,Y,Y,Y] HT_ ?_
   refine done_ (done_of HT_.out (by kernel_rfl)) ?_
   have hnb43 := NB466_480.out
   have hnc43 := NB480_466.out
   have hcz44_0 := bc BK466 0 (.slice A0_0 l0_0.length c0_0)
   have hfz44_0 := blk_frozen BK466.out 0
   go_upto_region 12 with (first | ((with_reducible refine gate_callee (f := 16) rfl ?_); refine gl (some 36) Try.func16 #[.agg #[.slice A0_0 l0_0.length c0_0]] ?_; (with_reducible refine (laws_toSemigroup.calls k _ _ l0_0 t481 _ ?side1 ?side2 A22.out).mono ?_); (case side1 => exact Kd.C_below HR0_0.out bw); (case side2 => exact HC0_0.out); rintro e w45 ⟨v482, rfl, ho0, hb⟩; refine ⟨_, rfl, ?_⟩; have HO483 := Aside0.mk (Kd.R_lower (Kd.R_new' (Kd.R_new' (Kd.R_new' ho0 (Kd.R_lt (by (with_reducible repeat (first | apply Kd.R_alloc | apply Kd.R_drewN | apply Kd.R_drew)); exact (Kd.R_mono (Kd.R_far (p := ⟨gb480, 0, none⟩) (Kd.R_types HO472.out BK480.out (by decide)) (fun _ hk => hk.2) (.slice Ao41 t476.length co41)) (fun _ h_ => h_.1))))) (Kd.R_lt (by (with_reducible repeat (first | apply Kd.R_alloc | apply Kd.R_drewN | apply Kd.R_drew)); exact (Kd.R_mono (Kd.R_far (p := ⟨gb480, 0, none⟩) (Kd.R_types HO475.out BK480.out (by decide)) (fun _ hk => hk.2) (.slice Ao41 t476.length co41)) (fun _ h_ => h_.1))))) (Kd.R_lt (by (with_reducible repeat (first | apply Kd.R_alloc | apply Kd.R_drewN | apply Kd.R_drew)); exact (Kd.R_mono (Kd.R_far (p := ⟨gb480, 0, none⟩) (Kd.R_types HO478.out BK480.out (by decide)) (fun _ hk => hk.2) (.slice Ao41 t476.length co41)) (fun _ h_ => h_.1))))) (below_size bw)); replace HO472 := Aside0.mk (Kd.R_elder' (by (with_reducible repeat (first | apply Kd.R_alloc | apply Kd.R_drewN | apply Kd.R_drew)); exact (Kd.R_mono (Kd.R_far (p := ⟨gb480, 0, none⟩) (Kd.R_types HO472.out BK480.out (by decide)) (fun _ hk => hk.2) (.slice Ao41 t476.length co41)) (fun _ h_ => h_.1))) (Kd.R_base ho0) hb); replace HO475 := Aside0.mk (Kd.R_elder' (by (with_reducible repeat (first | apply Kd.R_alloc | apply Kd.R_drewN | apply Kd.R_drew)); exact (Kd.R_mono (Kd.R_far (p := ⟨gb480, 0, none⟩) (Kd.R_types HO475.out BK480.out (by decide)) (fun _ hk => hk.2) (.slice Ao41 t476.length co41)) (fun _ h_ => h_.1))) (Kd.R_base ho0) hb); replace HO478 := Aside0.mk (Kd.R_elder' (by (with_reducible repeat (first | apply Kd.R_alloc | apply Kd.R_drewN | apply Kd.R_drew)); exact (Kd.R_mono (Kd.R_far (p := ⟨gb480, 0, none⟩) (Kd.R_types HO478.out BK480.out (by decide)) (fun _ hk => hk.2) (.slice Ao41 t476.length co41)) (fun _ h_ => h_.1))) (Kd.R_base ho0) hb); replace BK466 := Aside0.mk (blk_below (g := gb466) (o := .cells #[.slice A0_0 l0_0.length c0_0] 24 (0, 0)) (by (with_reducible repeat (first | refine blk_drewN ?_ _ | refine blk_drew ?_ | refine blk_alloc ?_ _)); refine blk_far ?_ NB466_480.out _; (with_reducible repeat (first | refine blk_drewN ?_ _ | refine blk_drew ?_ | refine blk_alloc ?_ _)); exact BK466.out) hb); replace BK467 := Aside0.mk (blk_below (g := gb467) (o := .cells #[.slice A1_0 l1_0.length c1_0] 24 (0, 0)) (by (with_reducible repeat (first | refine blk_drewN ?_ _ | refine blk_drew ?_ | refine blk_alloc ?_ _)); refine blk_far ?_ NB467_480.out _; (with_reducible repeat (first | refine blk_drewN ?_ _ | refine blk_drew ?_ | refine blk_alloc ?_ _)); exact BK467.out) hb); replace BK480 := Aside0.mk (blk_below (g := gb480) (o := .cells #[.slice Ao41 t476.length co41] 27 (0, 0)) (by (with_reducible repeat (first | refine blk_drewN ?_ _ | refine blk_drew ?_ | refine blk_alloc ?_ _)); refine blk_put (cs := #[.slice none 0 0]) ?_ 0 _ rfl; (with_reducible repeat (first | refine blk_drewN ?_ _ | refine blk_drew ?_ | refine blk_alloc ?_ _)); exact BK480.out) hb); replace HB := Aside0.mk (below_step bw hb); clear hb ho0) | ((with_reducible refine gate_dst (N := 8) rfl ?_); refine bx 8 #[.slice none 0 0] 27 ?_; intro gb484 hg w46 hbox hb; replace HO472 := Aside0.mk (Kd.R_below (ro HO472.out) hb); replace HO475 := Aside0.mk (Kd.R_below (ro HO475.out) hb); replace HO478 := Aside0.mk (Kd.R_below (ro HO478.out) hb); replace HO483 := Aside0.mk (Kd.R_below (ro HO483.out) hb); have BK484 := Aside0.mk (hbox); have GW484 := Aside0.mk (gs hg : w.heap.size ≤ gb484); have GE484 := Aside0.mk (gs hg : w.heap.size ≤ gb484); replace HB := Aside0.mk (below_step bw hb); have NB466_484 := Aside0.mk ((by rw [hg]; exact Nat.ne_of_lt (blk_lt (g := gb466) (o := .cells #[.slice A0_0 l0_0.length c0_0] 24 (0, 0)) (bo BK466.out)) : gb466 ≠ gb484)); have NB484_466 := Aside0.mk ((by rw [hg]; exact Nat.ne_of_gt (blk_lt (g := gb466) (o := .cells #[.slice A0_0 l0_0.length c0_0] 24 (0, 0)) (bo BK466.out)) : gb484 ≠ gb466)); replace BK466 := Aside0.mk (blk_below (g := gb466) (o := .cells #[.slice A0_0 l0_0.length c0_0] 24 (0, 0)) (bo BK466.out) hb); have NB467_484 := Aside0.mk ((by rw [hg]; exact Nat.ne_of_lt (blk_lt (g := gb467) (o := .cells #[.slice A1_0 l1_0.length c1_0] 24 (0, 0)) (bo BK467.out)) : gb467 ≠ gb484)); have NB484_467 := Aside0.mk ((by rw [hg]; exact Nat.ne_of_gt (blk_lt (g := gb467) (o := .cells #[.slice A1_0 l1_0.length c1_0] 24 (0, 0)) (bo BK467.out)) : gb484 ≠ gb467)); replace BK467 := Aside0.mk (blk_below (g := gb467) (o := .cells #[.slice A1_0 l1_0.length c1_0] 24 (0, 0)) (bo BK467.out) hb); have NB480_484 := Aside0.mk ((by rw [hg]; exact Nat.ne_of_lt (blk_lt (g := gb480) (o := .cells #[.slice Ao41 t476.length co41] 27 (0, 0)) (bo BK480.out)) : gb480 ≠ gb484)); have NB484_480 := Aside0.mk ((by rw [hg]; exact Nat.ne_of_gt (blk_lt (g := gb480) (o := .cells #[.slice Ao41 t476.length co41] 27 (0, 0)) (bo BK480.out)) : gb484 ≠ gb480)); replace BK480 := Aside0.mk (blk_below (g := gb480) (o := .cells #[.slice Ao41 t476.length co41] 27 (0, 0)) (bo BK480.out) hb); clear hb hbox hg; obtain ⟨Ao47, co47, eo47⟩ := Kd.R_slice HO483.out; subst eo47; have hnb48 := NB484_466.out; have hnc48 := NB466_484.out; have hnb49 := NB484_467.out; have hnc49 := NB467_484.out; have hnb50 := NB484_480.out; have hnc50 := NB480_484.out; have hcz51_0 := bc BK484 0 (.slice none 0 0); have hfz51_0 := blk_frozen BK484.out 0; have hnb52 := NB467_480.out; have hnc52 := NB480_467.out; have hcz53_0 := bc BK467 0 (.slice A1_0 l1_0.length c1_0); have hfz53_0 := blk_frozen BK467.out 0) | ((with_reducible refine gate_callee (f := 16) rfl ?_); refine gl (some 38) Try.func16 #[.agg #[.slice A1_0 l1_0.length c1_0]] ?_; (with_reducible refine (laws_toSemigroup.calls k _ _ l1_0 t485 _ ?side1 ?side2 A23.out).mono ?_); (case side1 => exact Kd.C_below HR1_0.out bw); (case side2 => exact HC1_0.out); rintro e w54 ⟨v486, rfl, ho0, hb⟩; refine ⟨_, rfl, ?_⟩; have HO487 := Aside0.mk (Kd.R_lower (Kd.R_new' (Kd.R_new' (Kd.R_new' (Kd.R_new' ho0 (Kd.R_lt (by (with_reducible repeat (first | apply Kd.R_alloc | apply Kd.R_drewN | apply Kd.R_drew)); exact (Kd.R_mono (Kd.R_far (p := ⟨gb484, 0, none⟩) (Kd.R_types HO472.out BK484.out (by decide)) (fun _ hk => hk.2) (.slice Ao47 t481.length co47)) (fun _ h_ => h_.1))))) (Kd.R_lt (by (with_reducible repeat (first | apply Kd.R_alloc | apply Kd.R_drewN | apply Kd.R_drew)); exact (Kd.R_mono (Kd.R_far (p := ⟨gb484, 0, none⟩) (Kd.R_types HO475.out BK484.out (by decide)) (fun _ hk => hk.2) (.slice Ao47 t481.length co47)) (fun _ h_ => h_.1))))) (Kd.R_lt (by (with_reducible repeat (first | apply Kd.R_alloc | apply Kd.R_drewN | apply Kd.R_drew)); exact (Kd.R_mono (Kd.R_far (p := ⟨gb484, 0, none⟩) (Kd.R_types HO478.out BK484.out (by decide)) (fun _ hk => hk.2) (.slice Ao47 t481.length co47)) (fun _ h_ => h_.1))))) (Kd.R_lt (by (with_reducible repeat (first | apply Kd.R_alloc | apply Kd.R_drewN | apply Kd.R_drew)); exact (Kd.R_mono (Kd.R_far (p := ⟨gb484, 0, none⟩) (Kd.R_types HO483.out BK484.out (by decide)) (fun _ hk => hk.2) (.slice Ao47 t481.length co47)) (fun _ h_ => h_.1))))) (below_size bw)); replace HO472 := Aside0.mk (Kd.R_elder' (by (with_reducible repeat (first | apply Kd.R_alloc | apply Kd.R_drewN | apply Kd.R_drew)); exact (Kd.R_mono (Kd.R_far (p := ⟨gb484, 0, none⟩) (Kd.R_types HO472.out BK484.out (by decide)) (fun _ hk => hk.2) (.slice Ao47 t481.length co47)) (fun _ h_ => h_.1))) (Kd.R_base ho0) hb); replace HO475 := Aside0.mk (Kd.R_elder' (by (with_reducible repeat (first | apply Kd.R_alloc | apply Kd.R_drewN | apply Kd.R_drew)); exact (Kd.R_mono (Kd.R_far (p := ⟨gb484, 0, none⟩) (Kd.R_types HO475.out BK484.out (by decide)) (fun _ hk => hk.2) (.slice Ao47 t481.length co47)) (fun _ h_ => h_.1))) (Kd.R_base ho0) hb); replace HO478 := Aside0.mk (Kd.R_elder' (by (with_reducible repeat (first | apply Kd.R_alloc | apply Kd.R_drewN | apply Kd.R_drew)); exact (Kd.R_mono (Kd.R_far (p := ⟨gb484, 0, none⟩) (Kd.R_types HO478.out BK484.out (by decide)) (fun _ hk => hk.2) (.slice Ao47 t481.length co47)) (fun _ h_ => h_.1))) (Kd.R_base ho0) hb); replace HO483 := Aside0.mk (Kd.R_elder' (by (with_reducible repeat (first | apply Kd.R_alloc | apply Kd.R_drewN | apply Kd.R_drew)); exact (Kd.R_mono (Kd.R_far (p := ⟨gb484, 0, none⟩) (Kd.R_types HO483.out BK484.out (by decide)) (fun _ hk => hk.2) (.slice Ao47 t481.length co47)) (fun _ h_ => h_.1))) (Kd.R_base ho0) hb); replace BK466 := Aside0.mk (blk_below (g := gb466) (o := .cells #[.slice A0_0 l0_0.length c0_0] 24 (0, 0)) (by (with_reducible repeat (first | refine blk_drewN ?_ _ | refine blk_drew ?_ | refine blk_alloc ?_ _)); refine blk_far ?_ NB466_484.out _; (with_reducible repeat (first | refine blk_drewN ?_ _ | refine blk_drew ?_ | refine blk_alloc ?_ _)); exact BK466.out) hb); replace BK467 := Aside0.mk (blk_below (g := gb467) (o := .cells #[.slice A1_0 l1_0.length c1_0] 24 (0, 0)) (by (with_reducible repeat (first | refine blk_drewN ?_ _ | refine blk_drew ?_ | refine blk_alloc ?_ _)); refine blk_far ?_ NB467_484.out _; (with_reducible repeat (first | refine blk_drewN ?_ _ | refine blk_drew ?_ | refine blk_alloc ?_ _)); exact BK467.out) hb); replace BK480 := Aside0.mk (blk_below (g := gb480) (o := .cells #[.slice Ao41 t476.length co41] 27 (0, 0)) (by (with_reducible repeat (first | refine blk_drewN ?_ _ | refine blk_drew ?_ | refine blk_alloc ?_ _)); refine blk_far ?_ NB480_484.out _; (with_reducible repeat (first | refine blk_drewN ?_ _ | refine blk_drew ?_ | refine blk_alloc ?_ _)); exact BK480.out) hb); replace BK484 := Aside0.mk (blk_below (g := gb484) (o := .cells #[.slice Ao47 t481.length co47] 27 (0, 0)) (by (with_reducible repeat (first | refine blk_drewN ?_ _ | refine blk_drew ?_ | refine blk_alloc ?_ _)); refine blk_put (cs := #[.slice none 0 0]) ?_ 0 _ rfl; (with_reducible repeat (first | refine blk_drewN ?_ _ | refine blk_drew ?_ | refine blk_alloc ?_ _)); exact BK484.out) hb); replace HB := Aside0.mk (below_step bw hb); clear hb ho0) | ((with_reducible refine gate_dst (N := 9) rfl ?_); refine bx 9 #[.slice none 0 0] 27 ?_; intro gb488 hg w55 hbox hb; replace HO472 := Aside0.mk (Kd.R_below (ro HO472.out) hb); replace HO475 := Aside0.mk (Kd.R_below (ro HO475.out) hb); replace HO478 := Aside0.mk (Kd.R_below (ro HO478.out) hb); replace HO483 := Aside0.mk (Kd.R_below (ro HO483.out) hb); replace HO487 := Aside0.mk (Kd.R_below (ro HO487.out) hb); have BK488 := Aside0.mk (hbox); have GW488 := Aside0.mk (gs hg : w.heap.size ≤ gb488); have GE488 := Aside0.mk (gs hg : w.heap.size ≤ gb488); replace HB := Aside0.mk (below_step bw hb); have NB466_488 := Aside0.mk ((by rw [hg]; exact Nat.ne_of_lt (blk_lt (g := gb466) (o := .cells #[.slice A0_0 l0_0.length c0_0] 24 (0, 0)) (bo BK466.out)) : gb466 ≠ gb488)); have NB488_466 := Aside0.mk ((by rw [hg]; exact Nat.ne_of_gt (blk_lt (g := gb466) (o := .cells #[.slice A0_0 l0_0.length c0_0] 24 (0, 0)) (bo BK466.out)) : gb488 ≠ gb466)); replace BK466 := Aside0.mk (blk_below (g := gb466) (o := .cells #[.slice A0_0 l0_0.length c0_0] 24 (0, 0)) (bo BK466.out) hb); have NB467_488 := Aside0.mk ((by rw [hg]; exact Nat.ne_of_lt (blk_lt (g := gb467) (o := .cells #[.slice A1_0 l1_0.length c1_0] 24 (0, 0)) (bo BK467.out)) : gb467 ≠ gb488)); have NB488_467 := Aside0.mk ((by rw [hg]; exact Nat.ne_of_gt (blk_lt (g := gb467) (o := .cells #[.slice A1_0 l1_0.length c1_0] 24 (0, 0)) (bo BK467.out)) : gb488 ≠ gb467)); replace BK467 := Aside0.mk (blk_below (g := gb467) (o := .cells #[.slice A1_0 l1_0.length c1_0] 24 (0, 0)) (bo BK467.out) hb); have NB480_488 := Aside0.mk ((by rw [hg]; exact Nat.ne_of_lt (blk_lt (g := gb480) (o := .cells #[.slice Ao41 t476.length co41] 27 (0, 0)) (bo BK480.out)) : gb480 ≠ gb488)); have NB488_480 := Aside0.mk ((by rw [hg]; exact Nat.ne_of_gt (blk_lt (g := gb480) (o := .cells #[.slice Ao41 t476.length co41] 27 (0, 0)) (bo BK480.out)) : gb488 ≠ gb480)); replace BK480 := Aside0.mk (blk_below (g := gb480) (o := .cells #[.slice Ao41 t476.length co41] 27 (0, 0)) (bo BK480.out) hb); have NB484_488 := Aside0.mk ((by rw [hg]; exact Nat.ne_of_lt (blk_lt (g := gb484) (o := .cells #[.slice Ao47 t481.length co47] 27 (0, 0)) (bo BK484.out)) : gb484 ≠ gb488)); have NB488_484 := Aside0.mk ((by rw [hg]; exact Nat.ne_of_gt (blk_lt (g := gb484) (o := .cells #[.slice Ao47 t481.length co47] 27 (0, 0)) (bo BK484.out)) : gb488 ≠ gb484)); replace BK484 := Aside0.mk (blk_below (g := gb484) (o := .cells #[.slice Ao47 t481.length co47] 27 (0, 0)) (bo BK484.out) hb); clear hb hbox hg; obtain ⟨Ao56, co56, eo56⟩ := Kd.R_slice HO487.out; subst eo56; have hnb57 := NB488_466.out; have hnc57 := NB466_488.out; have hnb58 := NB488_467.out; have hnc58 := NB467_488.out; have hnb59 := NB488_480.out; have hnc59 := NB480_488.out; have hnb60 := NB488_484.out; have hnc60 := NB484_488.out; have hcz61_0 := bc BK488 0 (.slice none 0 0); have hfz61_0 := blk_frozen BK488.out 0; have hcz62_0 := bc BK484 0 (.slice Ao47 t481.length co47); have hfz62_0 := blk_frozen BK484.out 0) | ((with_reducible refine gate_callee (f := 56) rfl ?_); refine gl (some 42) Try.func56 #[.agg #[.slice Ao47 t481.length co47], .agg #[.slice Ao56 t485.length co56]] ?_; (with_reducible refine (impl_AddOf.calls k _ _ t481 _ _ t485 t489 t492 _ ?side1 ?side2 ?side3 ?side4 A24.out).mono ?_); (case side1 => refine (Kd.R_reads' (e := 3) (base := w.heap.size) (ok := fun k_ => ((((True ∧ some k_ ≠ (v471 : Value).ownBlock) ∧ some k_ ≠ (v474 : Value).ownBlock) ∧ some k_ ≠ (.slice Ao41 t476.length co41 : Value).ownBlock) ∧ some k_ ≠ (.slice Ao56 t485.length co56 : Value).ownBlock)) (n := t481.length) (c := co47) ?_).2.2; exact (by (with_reducible repeat (first | apply Kd.R_alloc | apply Kd.R_drewN | apply Kd.R_drew)); exact (Kd.R_mono (Kd.R_far (p := ⟨gb488, 0, none⟩) (Kd.R_types HO483.out BK488.out (by decide)) (fun _ hk => hk.2) (.slice Ao56 t485.length co56)) (fun _ h_ => h_.1)))); (case side2 => exact (Kd.R_reads' HO483.out).2.1); (case side3 => refine (Kd.R_reads' (e := 3) (base := w.heap.size) (ok := fun k_ => ((((True ∧ some k_ ≠ (v471 : Value).ownBlock) ∧ some k_ ≠ (v474 : Value).ownBlock) ∧ some k_ ≠ (.slice Ao41 t476.length co41 : Value).ownBlock) ∧ some k_ ≠ (.slice Ao47 t481.length co47 : Value).ownBlock)) (n := t485.length) (c := co56) ?_).2.2; exact (by (with_reducible repeat (first | apply Kd.R_alloc | apply Kd.R_drewN | apply Kd.R_drew)); exact (Kd.R_mono (Kd.R_far (p := ⟨gb488, 0, none⟩) (Kd.R_types HO487.out BK488.out (by decide)) (fun _ hk => hk.2) (.slice Ao56 t485.length co56)) (fun _ h_ => h_.1)))); (case side4 => exact (Kd.R_reads' HO487.out).2.1); rintro e w63 ⟨v490, rfl, ho0, hb⟩; refine ⟨_, rfl, ?_⟩; have HO491 := Aside0.mk (Kd.R_lower (Kd.R_new' (Kd.R_new' (Kd.R_new' (Kd.R_new' (Kd.R_new' ho0 (Kd.R_lt (by (with_reducible repeat (first | apply Kd.R_alloc | apply Kd.R_drewN | apply Kd.R_drew)); exact (Kd.R_mono (Kd.R_far (p := ⟨gb488, 0, none⟩) (Kd.R_types HO472.out BK488.out (by decide)) (fun _ hk => hk.2) (.slice Ao56 t485.length co56)) (fun _ h_ => h_.1))))) (Kd.R_lt (by (with_reducible repeat (first | apply Kd.R_alloc | apply Kd.R_drewN | apply Kd.R_drew)); exact (Kd.R_mono (Kd.R_far (p := ⟨gb488, 0, none⟩) (Kd.R_types HO475.out BK488.out (by decide)) (fun _ hk => hk.2) (.slice Ao56 t485.length co56)) (fun _ h_ => h_.1))))) (Kd.R_lt (by (with_reducible repeat (first | apply Kd.R_alloc | apply Kd.R_drewN | apply Kd.R_drew)); exact (Kd.R_mono (Kd.R_far (p := ⟨gb488, 0, none⟩) (Kd.R_types HO478.out BK488.out (by decide)) (fun _ hk => hk.2) (.slice Ao56 t485.length co56)) (fun _ h_ => h_.1))))) (Kd.R_lt (by (with_reducible repeat (first | apply Kd.R_alloc | apply Kd.R_drewN | apply Kd.R_drew)); exact (Kd.R_mono (Kd.R_far (p := ⟨gb488, 0, none⟩) (Kd.R_types HO483.out BK488.out (by decide)) (fun _ hk => hk.2) (.slice Ao56 t485.length co56)) (fun _ h_ => h_.1))))) (Kd.R_lt (by (with_reducible repeat (first | apply Kd.R_alloc | apply Kd.R_drewN | apply Kd.R_drew)); exact (Kd.R_mono (Kd.R_far (p := ⟨gb488, 0, none⟩) (Kd.R_types HO487.out BK488.out (by decide)) (fun _ hk => hk.2) (.slice Ao56 t485.length co56)) (fun _ h_ => h_.1))))) (below_size bw)); replace HO472 := Aside0.mk (Kd.R_elder' (by (with_reducible repeat (first | apply Kd.R_alloc | apply Kd.R_drewN | apply Kd.R_drew)); exact (Kd.R_mono (Kd.R_far (p := ⟨gb488, 0, none⟩) (Kd.R_types HO472.out BK488.out (by decide)) (fun _ hk => hk.2) (.slice Ao56 t485.length co56)) (fun _ h_ => h_.1))) (Kd.R_base ho0) hb); replace HO475 := Aside0.mk (Kd.R_elder' (by (with_reducible repeat (first | apply Kd.R_alloc | apply Kd.R_drewN | apply Kd.R_drew)); exact (Kd.R_mono (Kd.R_far (p := ⟨gb488, 0, none⟩) (Kd.R_types HO475.out BK488.out (by decide)) (fun _ hk => hk.2) (.slice Ao56 t485.length co56)) (fun _ h_ => h_.1))) (Kd.R_base ho0) hb); replace HO478 := Aside0.mk (Kd.R_elder' (by (with_reducible repeat (first | apply Kd.R_alloc | apply Kd.R_drewN | apply Kd.R_drew)); exact (Kd.R_mono (Kd.R_far (p := ⟨gb488, 0, none⟩) (Kd.R_types HO478.out BK488.out (by decide)) (fun _ hk => hk.2) (.slice Ao56 t485.length co56)) (fun _ h_ => h_.1))) (Kd.R_base ho0) hb); replace HO483 := Aside0.mk (Kd.R_elder' (by (with_reducible repeat (first | apply Kd.R_alloc | apply Kd.R_drewN | apply Kd.R_drew)); exact (Kd.R_mono (Kd.R_far (p := ⟨gb488, 0, none⟩) (Kd.R_types HO483.out BK488.out (by decide)) (fun _ hk => hk.2) (.slice Ao56 t485.length co56)) (fun _ h_ => h_.1))) (Kd.R_base ho0) hb); replace HO487 := Aside0.mk (Kd.R_elder' (by (with_reducible repeat (first | apply Kd.R_alloc | apply Kd.R_drewN | apply Kd.R_drew)); exact (Kd.R_mono (Kd.R_far (p := ⟨gb488, 0, none⟩) (Kd.R_types HO487.out BK488.out (by decide)) (fun _ hk => hk.2) (.slice Ao56 t485.length co56)) (fun _ h_ => h_.1))) (Kd.R_base ho0) hb); replace BK466 := Aside0.mk (blk_below (g := gb466) (o := .cells #[.slice A0_0 l0_0.length c0_0] 24 (0, 0)) (by (with_reducible repeat (first | refine blk_drewN ?_ _ | refine blk_drew ?_ | refine blk_alloc ?_ _)); refine blk_far ?_ NB466_488.out _; (with_reducible repeat (first | refine blk_drewN ?_ _ | refine blk_drew ?_ | refine blk_alloc ?_ _)); exact BK466.out) hb); replace BK467 := Aside0.mk (blk_below (g := gb467) (o := .cells #[.slice A1_0 l1_0.length c1_0] 24 (0, 0)) (by (with_reducible repeat (first | refine blk_drewN ?_ _ | refine blk_drew ?_ | refine blk_alloc ?_ _)); refine blk_far ?_ NB467_488.out _; (with_reducible repeat (first | refine blk_drewN ?_ _ | refine blk_drew ?_ | refine blk_alloc ?_ _)); exact BK467.out) hb); replace BK480 := Aside0.mk (blk_below (g := gb480) (o := .cells #[.slice Ao41 t476.length co41] 27 (0, 0)) (by (with_reducible repeat (first | refine blk_drewN ?_ _ | refine blk_drew ?_ | refine blk_alloc ?_ _)); refine blk_far ?_ NB480_488.out _; (with_reducible repeat (first | refine blk_drewN ?_ _ | refine blk_drew ?_ | refine blk_alloc ?_ _)); exact BK480.out) hb); replace BK484 := Aside0.mk (blk_below (g := gb484) (o := .cells #[.slice Ao47 t481.length co47] 27 (0, 0)) (by (with_reducible repeat (first | refine blk_drewN ?_ _ | refine blk_drew ?_ | refine blk_alloc ?_ _)); refine blk_far ?_ NB484_488.out _; (with_reducible repeat (first | refine blk_drewN ?_ _ | refine blk_drew ?_ | refine blk_alloc ?_ _)); exact BK484.out) hb); replace BK488 := Aside0.mk (blk_below (g := gb488) (o := .cells #[.slice Ao56 t485.length co56] 27 (0, 0)) (by (with_reducible repeat (first | refine blk_drewN ?_ _ | refine blk_drew ?_ | refine blk_alloc ?_ _)); refine blk_put (cs := #[.slice none 0 0]) ?_ 0 _ rfl; (with_reducible repeat (first | refine blk_drewN ?_ _ | refine blk_drew ?_ | refine blk_alloc ?_ _)); exact BK488.out) hb); replace HB := Aside0.mk (below_step bw hb); clear hb ho0) | ((with_reducible refine gate_dst (N := 10) rfl ?_); refine bx 10 #[.slice none 0 0] 27 ?_; intro gb493 hg w64 hbox hb; replace HO472 := Aside0.mk (Kd.R_below (ro HO472.out) hb); replace HO475 := Aside0.mk (Kd.R_below (ro HO475.out) hb); replace HO478 := Aside0.mk (Kd.R_below (ro HO478.out) hb); replace HO483 := Aside0.mk (Kd.R_below (ro HO483.out) hb); replace HO487 := Aside0.mk (Kd.R_below (ro HO487.out) hb); replace HO491 := Aside0.mk (Kd.R_below (ro HO491.out) hb); have BK493 := Aside0.mk (hbox); have GW493 := Aside0.mk (gs hg : w.heap.size ≤ gb493); have GE493 := Aside0.mk (gs hg : w.heap.size ≤ gb493); replace HB := Aside0.mk (below_step bw hb); have NB466_493 := Aside0.mk ((by rw [hg]; exact Nat.ne_of_lt (blk_lt (g := gb466) (o := .cells #[.slice A0_0 l0_0.length c0_0] 24 (0, 0)) (bo BK466.out)) : gb466 ≠ gb493)); have NB493_466 := Aside0.mk ((by rw [hg]; exact Nat.ne_of_gt (blk_lt (g := gb466) (o := .cells #[.slice A0_0 l0_0.length c0_0] 24 (0, 0)) (bo BK466.out)) : gb493 ≠ gb466)); replace BK466 := Aside0.mk (blk_below (g := gb466) (o := .cells #[.slice A0_0 l0_0.length c0_0] 24 (0, 0)) (bo BK466.out) hb); have NB467_493 := Aside0.mk ((by rw [hg]; exact Nat.ne_of_lt (blk_lt (g := gb467) (o := .cells #[.slice A1_0 l1_0.length c1_0] 24 (0, 0)) (bo BK467.out)) : gb467 ≠ gb493)); have NB493_467 := Aside0.mk ((by rw [hg]; exact Nat.ne_of_gt (blk_lt (g := gb467) (o := .cells #[.slice A1_0 l1_0.length c1_0] 24 (0, 0)) (bo BK467.out)) : gb493 ≠ gb467)); replace BK467 := Aside0.mk (blk_below (g := gb467) (o := .cells #[.slice A1_0 l1_0.length c1_0] 24 (0, 0)) (bo BK467.out) hb); have NB480_493 := Aside0.mk ((by rw [hg]; exact Nat.ne_of_lt (blk_lt (g := gb480) (o := .cells #[.slice Ao41 t476.length co41] 27 (0, 0)) (bo BK480.out)) : gb480 ≠ gb493)); have NB493_480 := Aside0.mk ((by rw [hg]; exact Nat.ne_of_gt (blk_lt (g := gb480) (o := .cells #[.slice Ao41 t476.length co41] 27 (0, 0)) (bo BK480.out)) : gb493 ≠ gb480)); replace BK480 := Aside0.mk (blk_below (g := gb480) (o := .cells #[.slice Ao41 t476.length co41] 27 (0, 0)) (bo BK480.out) hb); have NB484_493 := Aside0.mk ((by rw [hg]; exact Nat.ne_of_lt (blk_lt (g := gb484) (o := .cells #[.slice Ao47 t481.length co47] 27 (0, 0)) (bo BK484.out)) : gb484 ≠ gb493)); have NB493_484 := Aside0.mk ((by rw [hg]; exact Nat.ne_of_gt (blk_lt (g := gb484) (o := .cells #[.slice Ao47 t481.length co47] 27 (0, 0)) (bo BK484.out)) : gb493 ≠ gb484)); replace BK484 := Aside0.mk (blk_below (g := gb484) (o := .cells #[.slice Ao47 t481.length co47] 27 (0, 0)) (bo BK484.out) hb); have NB488_493 := Aside0.mk ((by rw [hg]; exact Nat.ne_of_lt (blk_lt (g := gb488) (o := .cells #[.slice Ao56 t485.length co56] 27 (0, 0)) (bo BK488.out)) : gb488 ≠ gb493)); have NB493_488 := Aside0.mk ((by rw [hg]; exact Nat.ne_of_gt (blk_lt (g := gb488) (o := .cells #[.slice Ao56 t485.length co56] 27 (0, 0)) (bo BK488.out)) : gb493 ≠ gb488)); replace BK488 := Aside0.mk (blk_below (g := gb488) (o := .cells #[.slice Ao56 t485.length co56] 27 (0, 0)) (bo BK488.out) hb); clear hb hbox hg; obtain ⟨Ao65, co65, eo65⟩ := Kd.R_slice HO491.out; subst eo65; have hnb66 := NB493_466.out; have hnc66 := NB466_493.out; have hnb67 := NB493_467.out; have hnc67 := NB467_493.out; have hnb68 := NB493_480.out; have hnc68 := NB480_493.out; have hnb69 := NB493_484.out; have hnc69 := NB484_493.out; have hnb70 := NB493_488.out; have hnc70 := NB488_493.out; have hcz71_0 := bc BK493 0 (.slice none 0 0); have hfz71_0 := blk_frozen BK493.out 0))
   (try simp only [Act.put, List.setIfInBounds_toArray, List.set_cons_zero, List.set_cons_succ])
   go_cut [53] (fun v53 wc => ∃ (kq : Nat) (x53_24 : Bool), v53 = .bool x53_24 ∧ Aside0 (laws_FnExactAddOf.j0 kq t479 t492 x53_24 l0_0 l1_0 t476 t481 t485 t489 = some true) ∧ Aside0 (kq ≤ k) ∧ Aside0 (Kd.R (Kd.int .i64) 3 wc w.heap.size (fun k_ => some k_ ≠ ((.slice Ao47 t481.length co47) : Value).ownBlock ∧ some k_ ≠ ((.slice Ao56 t485.length co56) : Value).ownBlock ∧ some k_ ≠ ((.slice Ao65 t489.length co65) : Value).ownBlock) (.slice Ao41 t476.length co41) t476) ∧ Aside0 (Kd.R (Kd.int .i64) 3 wc w.heap.size (fun k_ => some k_ ≠ ((.slice Ao41 t476.length co41) : Value).ownBlock ∧ some k_ ≠ ((.slice Ao56 t485.length co56) : Value).ownBlock ∧ some k_ ≠ ((.slice Ao65 t489.length co65) : Value).ownBlock) (.slice Ao47 t481.length co47) t481) ∧ Aside0 (Kd.R (Kd.int .i64) 3 wc w.heap.size (fun k_ => some k_ ≠ ((.slice Ao41 t476.length co41) : Value).ownBlock ∧ some k_ ≠ ((.slice Ao47 t481.length co47) : Value).ownBlock ∧ some k_ ≠ ((.slice Ao65 t489.length co65) : Value).ownBlock) (.slice Ao56 t485.length co56) t485) ∧ Aside0 (Kd.R (Kd.int .i64) 3 wc w.heap.size (fun k_ => some k_ ≠ ((.slice Ao41 t476.length co41) : Value).ownBlock ∧ some k_ ≠ ((.slice Ao47 t481.length co47) : Value).ownBlock ∧ some k_ ≠ ((.slice Ao56 t485.length co56) : Value).ownBlock) (.slice Ao65 t489.length co65) t489) ∧ Aside0 (wc.heap[gb466]? = some (.cells #[(.slice A0_0 l0_0.length c0_0)] 24 (0, 0))) ∧ Aside0 (wc.heap[gb467]? = some (.cells #[(.slice A1_0 l1_0.length c1_0)] 24 (0, 0))) ∧ Aside0 (wc.heap[gb480]? = some (.cells #[(.slice Ao41 t476.length co41)] 27 (0, 0))) ∧ Aside0 (wc.heap[gb484]? = some (.cells #[(.slice Ao47 t481.length co47)] 27 (0, 0))) ∧ Aside0 (wc.heap[gb488]? = some (.cells #[(.slice Ao56 t485.length co56)] 27 (0, 0))) ∧ Aside0 (wc.heap[gb493]? = some (.cells #[(.slice Ao65 t489.length co65)] 27 (0, 0))) ∧ Aside0 (Below w.heap.size w wc))
   case first =>
    have H := HC25.out
    clear HC25
    replace H := ga H; obtain ⟨t494, A72, H⟩ := H
    replace H := gb H; obtain ⟨rfl, H⟩ | ⟨rfl, H⟩ := H
    ·have H' := Aside0.mk H
     clear H
     have hnb74 := NB493_466.out
     have hnc74 := NB466_493.out
     have hnb75 := NB493_467.out
     have hnc75 := NB467_493.out
     have hnb76 := NB493_480.out
     have hnc76 := NB480_493.out
     have hnb77 := NB493_484.out
     have hnc77 := NB484_493.out
     have hnb78 := NB493_488.out
     have hnc78 := NB488_493.out
     have hcz79_0 := bc BK493 0 (.slice none 0 0)
     have hfz79_0 := blk_frozen BK493.out 0
     have hnb80 := NB480_466.out
     have hnc80 := NB466_480.out
     have hnb81 := NB480_467.out
     have hnc81 := NB467_480.out
     have hnb82 := NB480_484.out
     have hnc82 := NB484_480.out
     have hnb83 := NB480_488.out
     have hnc83 := NB488_480.out
     have hcz84_0 := bc BK480 0 (.slice Ao41 t476.length co41)
     have hfz84_0 := blk_frozen BK480.out 0
     go_wp2_with (first | ((with_reducible refine gate_callee (f := 18) rfl ?_); refine gl (some 47) Try.func18 #[.agg #[.slice Ao65 t489.length co65], .agg #[.slice Ao41 t476.length co41]] ?_; (with_reducible refine (laws_eqSemigroup.calls k _ _ t489 _ _ t476 true _ ?side1 ?side2 ?side3 ?side4 A72.out).mono ?_); (case side1 => refine (Kd.R_reads' (e := 3) (base := w.heap.size) (ok := fun k_ => (((((True ∧ some k_ ≠ (v471 : Value).ownBlock) ∧ some k_ ≠ (v474 : Value).ownBlock) ∧ some k_ ≠ (.slice Ao41 t476.length co41 : Value).ownBlock) ∧ some k_ ≠ (.slice Ao47 t481.length co47 : Value).ownBlock) ∧ some k_ ≠ (.slice Ao56 t485.length co56 : Value).ownBlock)) (n := t489.length) (c := co65) ?_).2.2; exact (by (with_reducible repeat (first | apply Kd.R_alloc | apply Kd.R_drewN | apply Kd.R_drew)); exact (Kd.R_mono (Kd.R_far (p := ⟨gb493, 0, none⟩) (Kd.R_types HO491.out BK493.out (by decide)) (fun _ hk => hk.2) (.slice Ao65 t489.length co65)) (fun _ h_ => h_.1)))); (case side2 => exact (Kd.R_reads' HO491.out).2.1); (case side3 => refine (Kd.R_reads' (e := 3) (base := w.heap.size) (ok := fun k_ => ((((some k_ ≠ (v471 : Value).ownBlock ∧ some k_ ≠ (v474 : Value).ownBlock) ∧ some k_ ≠ (.slice Ao47 t481.length co47 : Value).ownBlock) ∧ some k_ ≠ (.slice Ao56 t485.length co56 : Value).ownBlock) ∧ some k_ ≠ (.slice Ao65 t489.length co65 : Value).ownBlock)) (n := t476.length) (c := co41) ?_).2.2; exact (by (with_reducible repeat (first | apply Kd.R_alloc | apply Kd.R_drewN | apply Kd.R_drew)); exact (Kd.R_mono (Kd.R_far (p := ⟨gb493, 0, none⟩) (Kd.R_types HO478.out BK493.out (by decide)) (fun _ hk => hk.2) (.slice Ao65 t489.length co65)) (fun _ h_ => h_.1)))); (case side4 => exact (Kd.R_reads' HO478.out).2.1); rintro e w85 ⟨rfl, hb⟩; refine ⟨_, rfl, ?_⟩; replace HO472 := Aside0.mk (Kd.R_below (by (with_reducible repeat (first | apply Kd.R_alloc | apply Kd.R_drewN | apply Kd.R_drew)); exact (Kd.R_mono (Kd.R_far (p := ⟨gb493, 0, none⟩) (Kd.R_types HO472.out BK493.out (by decide)) (fun _ hk => hk.2) (.slice Ao65 t489.length co65)) (fun _ h_ => h_.1))) hb); replace HO475 := Aside0.mk (Kd.R_below (by (with_reducible repeat (first | apply Kd.R_alloc | apply Kd.R_drewN | apply Kd.R_drew)); exact (Kd.R_mono (Kd.R_far (p := ⟨gb493, 0, none⟩) (Kd.R_types HO475.out BK493.out (by decide)) (fun _ hk => hk.2) (.slice Ao65 t489.length co65)) (fun _ h_ => h_.1))) hb); replace HO478 := Aside0.mk (Kd.R_below (by (with_reducible repeat (first | apply Kd.R_alloc | apply Kd.R_drewN | apply Kd.R_drew)); exact (Kd.R_mono (Kd.R_far (p := ⟨gb493, 0, none⟩) (Kd.R_types HO478.out BK493.out (by decide)) (fun _ hk => hk.2) (.slice Ao65 t489.length co65)) (fun _ h_ => h_.1))) hb); replace HO483 := Aside0.mk (Kd.R_below (by (with_reducible repeat (first | apply Kd.R_alloc | apply Kd.R_drewN | apply Kd.R_drew)); exact (Kd.R_mono (Kd.R_far (p := ⟨gb493, 0, none⟩) (Kd.R_types HO483.out BK493.out (by decide)) (fun _ hk => hk.2) (.slice Ao65 t489.length co65)) (fun _ h_ => h_.1))) hb); replace HO487 := Aside0.mk (Kd.R_below (by (with_reducible repeat (first | apply Kd.R_alloc | apply Kd.R_drewN | apply Kd.R_drew)); exact (Kd.R_mono (Kd.R_far (p := ⟨gb493, 0, none⟩) (Kd.R_types HO487.out BK493.out (by decide)) (fun _ hk => hk.2) (.slice Ao65 t489.length co65)) (fun _ h_ => h_.1))) hb); replace HO491 := Aside0.mk (Kd.R_below (by (with_reducible repeat (first | apply Kd.R_alloc | apply Kd.R_drewN | apply Kd.R_drew)); exact (Kd.R_mono (Kd.R_far (p := ⟨gb493, 0, none⟩) (Kd.R_types HO491.out BK493.out (by decide)) (fun _ hk => hk.2) (.slice Ao65 t489.length co65)) (fun _ h_ => h_.1))) hb); replace BK466 := Aside0.mk (blk_below (g := gb466) (o := .cells #[.slice A0_0 l0_0.length c0_0] 24 (0, 0)) (by (with_reducible repeat (first | refine blk_drewN ?_ _ | refine blk_drew ?_ | refine blk_alloc ?_ _)); refine blk_far ?_ NB466_493.out _; (with_reducible repeat (first | refine blk_drewN ?_ _ | refine blk_drew ?_ | refine blk_alloc ?_ _)); exact BK466.out) hb); replace BK467 := Aside0.mk (blk_below (g := gb467) (o := .cells #[.slice A1_0 l1_0.length c1_0] 24 (0, 0)) (by (with_reducible repeat (first | refine blk_drewN ?_ _ | refine blk_drew ?_ | refine blk_alloc ?_ _)); refine blk_far ?_ NB467_493.out _; (with_reducible repeat (first | refine blk_drewN ?_ _ | refine blk_drew ?_ | refine blk_alloc ?_ _)); exact BK467.out) hb); replace BK480 := Aside0.mk (blk_below (g := gb480) (o := .cells #[.slice Ao41 t476.length co41] 27 (0, 0)) (by (with_reducible repeat (first | refine blk_drewN ?_ _ | refine blk_drew ?_ | refine blk_alloc ?_ _)); refine blk_far ?_ NB480_493.out _; (with_reducible repeat (first | refine blk_drewN ?_ _ | refine blk_drew ?_ | refine blk_alloc ?_ _)); exact BK480.out) hb); replace BK484 := Aside0.mk (blk_below (g := gb484) (o := .cells #[.slice Ao47 t481.length co47] 27 (0, 0)) (by (with_reducible repeat (first | refine blk_drewN ?_ _ | refine blk_drew ?_ | refine blk_alloc ?_ _)); refine blk_far ?_ NB484_493.out _; (with_reducible repeat (first | refine blk_drewN ?_ _ | refine blk_drew ?_ | refine blk_alloc ?_ _)); exact BK484.out) hb); replace BK488 := Aside0.mk (blk_below (g := gb488) (o := .cells #[.slice Ao56 t485.length co56] 27 (0, 0)) (by (with_reducible repeat (first | refine blk_drewN ?_ _ | refine blk_drew ?_ | refine blk_alloc ?_ _)); refine blk_far ?_ NB488_493.out _; (with_reducible repeat (first | refine blk_drewN ?_ _ | refine blk_drew ?_ | refine blk_alloc ?_ _)); exact BK488.out) hb); replace BK493 := Aside0.mk (blk_below (g := gb493) (o := .cells #[.slice Ao65 t489.length co65] 27 (0, 0)) (by (with_reducible repeat (first | refine blk_drewN ?_ _ | refine blk_drew ?_ | refine blk_alloc ?_ _)); refine blk_put (cs := #[.slice none 0 0]) ?_ 0 _ rfl; (with_reducible repeat (first | refine blk_drewN ?_ _ | refine blk_drew ?_ | refine blk_alloc ?_ _)); exact BK493.out) hb); replace HB := Aside0.mk (below_step bw hb); clear hb))
     go_meet
     case rel => exact ⟨_, ((t492 != t479)), rr, H', ⟨om⟩, ⟨by (with_reducible repeat (first | apply Kd.R_alloc | apply Kd.R_drewN | apply Kd.R_drew)); exact Kd.R_mono HO478.out (fun _ hk => ⟨hk.1.1.2, ⟨hk.1.2, hk.2⟩⟩)⟩, ⟨by (with_reducible repeat (first | apply Kd.R_alloc | apply Kd.R_drewN | apply Kd.R_drew)); exact Kd.R_mono HO483.out (fun _ hk => ⟨hk.1.1.2, ⟨hk.1.2, hk.2⟩⟩)⟩, ⟨by (with_reducible repeat (first | apply Kd.R_alloc | apply Kd.R_drewN | apply Kd.R_drew)); exact Kd.R_mono HO487.out (fun _ hk => ⟨hk.1.1.2, ⟨hk.1.2, hk.2⟩⟩)⟩, ⟨by (with_reducible repeat (first | apply Kd.R_alloc | apply Kd.R_drewN | apply Kd.R_drew)); exact Kd.R_mono HO491.out (fun _ hk => ⟨hk.1.1.2, ⟨hk.1.2, hk.2⟩⟩)⟩, ⟨bo BK466.out⟩, ⟨bo BK467.out⟩, ⟨bo BK480.out⟩, ⟨bo BK484.out⟩, ⟨bo BK488.out⟩, ⟨bo BK493.out⟩, ⟨bw⟩⟩
    ·have H' := Aside0.mk H
     clear H
     have hnb86 := NB493_466.out
     have hnc86 := NB466_493.out
     have hnb87 := NB493_467.out
     have hnc87 := NB467_493.out
     have hnb88 := NB493_480.out
     have hnc88 := NB480_493.out
     have hnb89 := NB493_484.out
     have hnc89 := NB484_493.out
     have hnb90 := NB493_488.out
     have hnc90 := NB488_493.out
     have hcz91_0 := bc BK493 0 (.slice none 0 0)
     have hfz91_0 := blk_frozen BK493.out 0
     have hnb92 := NB480_466.out
     have hnc92 := NB466_480.out
     have hnb93 := NB480_467.out
     have hnc93 := NB467_480.out
     have hnb94 := NB480_484.out
     have hnc94 := NB484_480.out
     have hnb95 := NB480_488.out
     have hnc95 := NB488_480.out
     have hcz96_0 := bc BK480 0 (.slice Ao41 t476.length co41)
     have hfz96_0 := blk_frozen BK480.out 0
     go_wp2_with (first | ((with_reducible refine gate_callee (f := 18) rfl ?_); refine gl (some 47) Try.func18 #[.agg #[.slice Ao65 t489.length co65], .agg #[.slice Ao41 t476.length co41]] ?_; (with_reducible refine (laws_eqSemigroup.calls k _ _ t489 _ _ t476 false _ ?side1 ?side2 ?side3 ?side4 A72.out).mono ?_); (case side1 => refine (Kd.R_reads' (e := 3) (base := w.heap.size) (ok := fun k_ => (((((True ∧ some k_ ≠ (v471 : Value).ownBlock) ∧ some k_ ≠ (v474 : Value).ownBlock) ∧ some k_ ≠ (.slice Ao41 t476.length co41 : Value).ownBlock) ∧ some k_ ≠ (.slice Ao47 t481.length co47 : Value).ownBlock) ∧ some k_ ≠ (.slice Ao56 t485.length co56 : Value).ownBlock)) (n := t489.length) (c := co65) ?_).2.2; exact (by (with_reducible repeat (first | apply Kd.R_alloc | apply Kd.R_drewN | apply Kd.R_drew)); exact (Kd.R_mono (Kd.R_far (p := ⟨gb493, 0, none⟩) (Kd.R_types HO491.out BK493.out (by decide)) (fun _ hk => hk.2) (.slice Ao65 t489.length co65)) (fun _ h_ => h_.1)))); (case side2 => exact (Kd.R_reads' HO491.out).2.1); (case side3 => refine (Kd.R_reads' (e := 3) (base := w.heap.size) (ok := fun k_ => ((((some k_ ≠ (v471 : Value).ownBlock ∧ some k_ ≠ (v474 : Value).ownBlock) ∧ some k_ ≠ (.slice Ao47 t481.length co47 : Value).ownBlock) ∧ some k_ ≠ (.slice Ao56 t485.length co56 : Value).ownBlock) ∧ some k_ ≠ (.slice Ao65 t489.length co65 : Value).ownBlock)) (n := t476.length) (c := co41) ?_).2.2; exact (by (with_reducible repeat (first | apply Kd.R_alloc | apply Kd.R_drewN | apply Kd.R_drew)); exact (Kd.R_mono (Kd.R_far (p := ⟨gb493, 0, none⟩) (Kd.R_types HO478.out BK493.out (by decide)) (fun _ hk => hk.2) (.slice Ao65 t489.length co65)) (fun _ h_ => h_.1)))); (case side4 => exact (Kd.R_reads' HO478.out).2.1); rintro e w97 ⟨rfl, hb⟩; refine ⟨_, rfl, ?_⟩; replace HO472 := Aside0.mk (Kd.R_below (by (with_reducible repeat (first | apply Kd.R_alloc | apply Kd.R_drewN | apply Kd.R_drew)); exact (Kd.R_mono (Kd.R_far (p := ⟨gb493, 0, none⟩) (Kd.R_types HO472.out BK493.out (by decide)) (fun _ hk => hk.2) (.slice Ao65 t489.length co65)) (fun _ h_ => h_.1))) hb); replace HO475 := Aside0.mk (Kd.R_below (by (with_reducible repeat (first | apply Kd.R_alloc | apply Kd.R_drewN | apply Kd.R_drew)); exact (Kd.R_mono (Kd.R_far (p := ⟨gb493, 0, none⟩) (Kd.R_types HO475.out BK493.out (by decide)) (fun _ hk => hk.2) (.slice Ao65 t489.length co65)) (fun _ h_ => h_.1))) hb); replace HO478 := Aside0.mk (Kd.R_below (by (with_reducible repeat (first | apply Kd.R_alloc | apply Kd.R_drewN | apply Kd.R_drew)); exact (Kd.R_mono (Kd.R_far (p := ⟨gb493, 0, none⟩) (Kd.R_types HO478.out BK493.out (by decide)) (fun _ hk => hk.2) (.slice Ao65 t489.length co65)) (fun _ h_ => h_.1))) hb); replace HO483 := Aside0.mk (Kd.R_below (by (with_reducible repeat (first | apply Kd.R_alloc | apply Kd.R_drewN | apply Kd.R_drew)); exact (Kd.R_mono (Kd.R_far (p := ⟨gb493, 0, none⟩) (Kd.R_types HO483.out BK493.out (by decide)) (fun _ hk => hk.2) (.slice Ao65 t489.length co65)) (fun _ h_ => h_.1))) hb); replace HO487 := Aside0.mk (Kd.R_below (by (with_reducible repeat (first | apply Kd.R_alloc | apply Kd.R_drewN | apply Kd.R_drew)); exact (Kd.R_mono (Kd.R_far (p := ⟨gb493, 0, none⟩) (Kd.R_types HO487.out BK493.out (by decide)) (fun _ hk => hk.2) (.slice Ao65 t489.length co65)) (fun _ h_ => h_.1))) hb); replace HO491 := Aside0.mk (Kd.R_below (by (with_reducible repeat (first | apply Kd.R_alloc | apply Kd.R_drewN | apply Kd.R_drew)); exact (Kd.R_mono (Kd.R_far (p := ⟨gb493, 0, none⟩) (Kd.R_types HO491.out BK493.out (by decide)) (fun _ hk => hk.2) (.slice Ao65 t489.length co65)) (fun _ h_ => h_.1))) hb); replace BK466 := Aside0.mk (blk_below (g := gb466) (o := .cells #[.slice A0_0 l0_0.length c0_0] 24 (0, 0)) (by (with_reducible repeat (first | refine blk_drewN ?_ _ | refine blk_drew ?_ | refine blk_alloc ?_ _)); refine blk_far ?_ NB466_493.out _; (with_reducible repeat (first | refine blk_drewN ?_ _ | refine blk_drew ?_ | refine blk_alloc ?_ _)); exact BK466.out) hb); replace BK467 := Aside0.mk (blk_below (g := gb467) (o := .cells #[.slice A1_0 l1_0.length c1_0] 24 (0, 0)) (by (with_reducible repeat (first | refine blk_drewN ?_ _ | refine blk_drew ?_ | refine blk_alloc ?_ _)); refine blk_far ?_ NB467_493.out _; (with_reducible repeat (first | refine blk_drewN ?_ _ | refine blk_drew ?_ | refine blk_alloc ?_ _)); exact BK467.out) hb); replace BK480 := Aside0.mk (blk_below (g := gb480) (o := .cells #[.slice Ao41 t476.length co41] 27 (0, 0)) (by (with_reducible repeat (first | refine blk_drewN ?_ _ | refine blk_drew ?_ | refine blk_alloc ?_ _)); refine blk_far ?_ NB480_493.out _; (with_reducible repeat (first | refine blk_drewN ?_ _ | refine blk_drew ?_ | refine blk_alloc ?_ _)); exact BK480.out) hb); replace BK484 := Aside0.mk (blk_below (g := gb484) (o := .cells #[.slice Ao47 t481.length co47] 27 (0, 0)) (by (with_reducible repeat (first | refine blk_drewN ?_ _ | refine blk_drew ?_ | refine blk_alloc ?_ _)); refine blk_far ?_ NB484_493.out _; (with_reducible repeat (first | refine blk_drewN ?_ _ | refine blk_drew ?_ | refine blk_alloc ?_ _)); exact BK484.out) hb); replace BK488 := Aside0.mk (blk_below (g := gb488) (o := .cells #[.slice Ao56 t485.length co56] 27 (0, 0)) (by (with_reducible repeat (first | refine blk_drewN ?_ _ | refine blk_drew ?_ | refine blk_alloc ?_ _)); refine blk_far ?_ NB488_493.out _; (with_reducible repeat (first | refine blk_drewN ?_ _ | refine blk_drew ?_ | refine blk_alloc ?_ _)); exact BK488.out) hb); replace BK493 := Aside0.mk (blk_below (g := gb493) (o := .cells #[.slice Ao65 t489.length co65] 27 (0, 0)) (by (with_reducible repeat (first | refine blk_drewN ?_ _ | refine blk_drew ?_ | refine blk_alloc ?_ _)); refine blk_put (cs := #[.slice none 0 0]) ?_ 0 _ rfl; (with_reducible repeat (first | refine blk_drewN ?_ _ | refine blk_drew ?_ | refine blk_alloc ?_ _)); exact BK493.out) hb); replace HB := Aside0.mk (below_step bw hb); clear hb))
     go_meet
     case rel => exact ⟨_, (true), rr, H', ⟨om⟩, ⟨by (with_reducible repeat (first | apply Kd.R_alloc | apply Kd.R_drewN | apply Kd.R_drew)); exact Kd.R_mono HO478.out (fun _ hk => ⟨hk.1.1.2, ⟨hk.1.2, hk.2⟩⟩)⟩, ⟨by (with_reducible repeat (first | apply Kd.R_alloc | apply Kd.R_drewN | apply Kd.R_drew)); exact Kd.R_mono HO483.out (fun _ hk => ⟨hk.1.1.2, ⟨hk.1.2, hk.2⟩⟩)⟩, ⟨by (with_reducible repeat (first | apply Kd.R_alloc | apply Kd.R_drewN | apply Kd.R_drew)); exact Kd.R_mono HO487.out (fun _ hk => ⟨hk.1.1.2, ⟨hk.1.2, hk.2⟩⟩)⟩, ⟨by (with_reducible repeat (first | apply Kd.R_alloc | apply Kd.R_drewN | apply Kd.R_drew)); exact Kd.R_mono HO491.out (fun _ hk => ⟨hk.1.1.2, ⟨hk.1.2, hk.2⟩⟩)⟩, ⟨bo BK466.out⟩, ⟨bo BK467.out⟩, ⟨bo BK480.out⟩, ⟨bo BK484.out⟩, ⟨bo BK488.out⟩, ⟨bo BK493.out⟩, ⟨bw⟩⟩
   case rest =>
    clear HC25
    try clear hcz44_0; try clear hcz51_0; try clear hcz53_0; try clear hcz61_0; try clear hcz62_0; try clear hcz71_0; try clear hcz79_0; try clear hcz84_0; try clear hcz91_0; try clear hcz96_0; try clear hfz44_0; try clear hfz51_0; try clear hfz53_0; try clear hfz61_0; try clear hfz62_0; try clear hfz71_0; try clear hfz79_0; try clear hfz84_0; try clear hfz91_0; try clear hfz96_0
    obtain ⟨kq, x53_24, rfl, HA, HJ24, HO_481000, HO_485000, HO_489000, HO_494000, BK466, BK467, BK480, BK484, BK488, BK493, HB⟩ := hcut
    cases kq with
    | zero => exact absurd HA.out (by simp [laws_FnExactAddOf.j0])
    | succ kj24 =>
     have H := HA.out
     clear HA
     simp only [laws_FnExactAddOf.j0] at H
     replace H := gb H; obtain ⟨rfl, H⟩ | ⟨rfl, H⟩ := H
     ·exact absurd (Option.some.inj H) (by decide)
     ·replace H := ga H; obtain ⟨t495, A99, H⟩ := H
      replace H := ga H; obtain ⟨t498, A100, H⟩ := H
      replace H := gb H; obtain ⟨rfl, H⟩ | ⟨rfl, H⟩ := H
      ·replace H := ga H; obtain ⟨t499, A102, H⟩ := H
       replace H := ga H; obtain ⟨t502, A103, H⟩ := H
       replace H := gb H; obtain ⟨rfl, H⟩ | ⟨rfl, H⟩ := H
       ·replace H := ga H; obtain ⟨⟨t503, t504⟩, A105, H⟩ := H
        replace H : ((laws_markSemigroup.f kj24 t485 t503).bind fun bt505 => (if bt505.1 < 0 then (laws_FnExactAddOf.j1 kj24 t479 true l0_0 l1_0 t476 t489) else ((laws_eqSemigroup.f kj24 t489 t476).bind fun t507 => (if t507 = true then (laws_FnExactAddOf.j1 kj24 t479 (t492 != t479) l0_0 l1_0 t476 t489) else (laws_FnExactAddOf.j1 kj24 t479 true l0_0 l1_0 t476 t489))))) = some true := H
        replace H := ga H; obtain ⟨⟨t505, t506⟩, A106, H⟩ := H
        replace H : (if t505 < 0 then (laws_FnExactAddOf.j1 kj24 t479 true l0_0 l1_0 t476 t489) else ((laws_eqSemigroup.f kj24 t489 t476).bind fun t507 => (if t507 = true then (laws_FnExactAddOf.j1 kj24 t479 (t492 != t479) l0_0 l1_0 t476 t489) else (laws_FnExactAddOf.j1 kj24 t479 true l0_0 l1_0 t476 t489)))) = some true := H
        have HC107 := Aside0.mk H
        clear H
        try go_wp2
        replace HO_481000 := Aside0.mk (Kd.R_drew HO_481000.out)
        replace HO_485000 := Aside0.mk (Kd.R_drew HO_485000.out)
        replace HO_489000 := Aside0.mk (Kd.R_drew HO_489000.out)
        replace HO_494000 := Aside0.mk (Kd.R_drew HO_494000.out)
        replace BK466 := Aside0.mk (blk_drew BK466.out)
        replace BK467 := Aside0.mk (blk_drew BK467.out)
        replace BK480 := Aside0.mk (blk_drew BK480.out)
        replace BK484 := Aside0.mk (blk_drew BK484.out)
        replace BK488 := Aside0.mk (blk_drew BK488.out)
        replace BK493 := Aside0.mk (blk_drew BK493.out)
        replace HB := Aside0.mk (below_drew1 HB.out)
        refine start_ (n := 5) (S := fun w' => w'.cell? ⟨gb484, 0, none⟩ = some (.slice Ao47 t481.length co47) ∧ w'.cell? ⟨gb466, 0, none⟩ = some (.slice A0_0 l0_0.length c0_0)) (ds := []) #[Z,Z,Z,Z,Z] (by kernel_rfl) rfl rfl ⟨(blk_cell BK484.out 0).trans rfl, (blk_cell BK466.out 0).trans rfl⟩ (fun hHeld => ?_)
        generalize wc.drew = w108 at HO_481000 HO_485000 HO_489000 HO_494000 BK466 BK467 BK480 BK484 BK488 BK493 HB hHeld ⊢
        refine take_ (i := 0) (N := some 54) (v := ?_) (a' := ?_) #[Y,Z,Z,Z,Z] rfl rfl (by kernel_rfl) (fun _ _ _ h => h) (Or.inl ⟨by rfl, ?_⟩) hHeld ?_ ?_
        rotate_left
        ·rintro w' ⟨s0, s1⟩
         go_simp
         with_reducible rfl
        rotate_left
        ·simp only [Act.put, qa, qb, qc, i64_w, i32_w]
         rfl
        refine take_ (i := 1) (N := some 55) (v := ?_) (a' := ?_) #[Y,Y,Z,Z,Z] rfl rfl (by kernel_rfl) (fun _ _ _ h => h) (Or.inl ⟨by rfl, ?_⟩) hHeld ?_ ?_
        rotate_left
        ·rintro w' ⟨s0, s1⟩
         go_simp
         with_reducible rfl
        rotate_left
        ·simp only [Act.put, qa, qb, qc, i64_w, i32_w]
         rfl
        refine one_ (i := 2) (N := some 56) #[Y,Y,Y,Z,Z] rfl rfl (by kernel_rfl) (by decide) (fun K hK => ?_)
        refine gm Try.func16 #[.agg #[.slice A0_0 l0_0.length c0_0]] ?_
        with_reducible refine (laws_toSemigroup.calls kj24 _ _ l0_0 t495 _ ?side1 ?side2 A99.out).mono ?_
        (case side1 => exact co (Kd.C_below HR0_0.out HB.out))
        (case side2 => exact HC0_0.out)
        rintro e w109 ⟨v496, rfl, ho0, hb⟩
        refine ⟨_, rfl, ?_⟩
        have HO497 := Aside0.mk (Kd.R_lower (Kd.R_new' (Kd.R_new' (Kd.R_new' (Kd.R_new' ho0 (Kd.R_lt (ro HO_481000.out))) (Kd.R_lt (ro HO_485000.out))) (Kd.R_lt (ro HO_489000.out))) (Kd.R_lt (ro HO_494000.out))) (below_size bw))
        replace HO_481000 := Aside0.mk (Kd.R_elder' (ro HO_481000.out) (Kd.R_base ho0) hb)
        replace HO_485000 := Aside0.mk (Kd.R_elder' (ro HO_485000.out) (Kd.R_base ho0) hb)
        replace HO_489000 := Aside0.mk (Kd.R_elder' (ro HO_489000.out) (Kd.R_base ho0) hb)
        replace HO_494000 := Aside0.mk (Kd.R_elder' (ro HO_494000.out) (Kd.R_base ho0) hb)
        replace BK466 := Aside0.mk (blk_below (g := gb466) (o := .cells #[.slice A0_0 l0_0.length c0_0] 24 (0, 0)) (bo BK466.out) hb)
        replace BK467 := Aside0.mk (blk_below (g := gb467) (o := .cells #[.slice A1_0 l1_0.length c1_0] 24 (0, 0)) (bo BK467.out) hb)
        replace BK480 := Aside0.mk (blk_below (g := gb480) (o := .cells #[.slice Ao41 t476.length co41] 27 (0, 0)) (bo BK480.out) hb)
        replace BK484 := Aside0.mk (blk_below (g := gb484) (o := .cells #[.slice Ao47 t481.length co47] 27 (0, 0)) (bo BK484.out) hb)
        replace BK488 := Aside0.mk (blk_below (g := gb488) (o := .cells #[.slice Ao56 t485.length co56] 27 (0, 0)) (bo BK488.out) hb)
        replace BK493 := Aside0.mk (blk_below (g := gb493) (o := .cells #[.slice Ao65 t489.length co65] 27 (0, 0)) (bo BK493.out) hb)
        replace HB := Aside0.mk (below_step bw hb)
        clear hb ho0
        obtain ⟨Ao110, co110, eo110⟩ := Kd.R_slice HO497.out
        (first | subst eo110 | (injection eo110 with f1_ f2_ f3_; have f4_ := f1_.symm; have f5_ := f3_.symm; clear f1_ f2_ f3_; subst f4_; subst f5_))
        refine hK.out _ _ ⟨(blk_cell BK484.out 0).trans rfl, (blk_cell BK466.out 0).trans rfl⟩ (fun hHeld => ?_)
        clear hK K
        refine norm_ (a' := ?_) ?_ ?_
        rotate_left
        ·show Act.put _ (some 56) _ = _
         simp only [Act.put, qa, qb, qc, i64_w, i32_w]
         rfl
        refine one_ (i := 3) (N := some 57) #[Y,Y,Y,Y,Z] rfl rfl (by kernel_rfl) (by decide) (fun K hK => ?_)
        refine gm Try.func18 #[.agg #[.slice Ao47 t481.length co47], .agg #[.slice Ao110 t495.length co110]] ?_
        with_reducible refine (laws_eqSemigroup.calls kj24 _ _ t481 _ _ t495 true _ ?side1 ?side2 ?side3 ?side4 A100.out).mono ?_
        (case side1 => exact co (Kd.R_reads' HO_485000.out).2.2)
        (case side2 => exact (Kd.R_reads' HO_485000.out).2.1)
        (case side3 => exact co (Kd.R_reads' HO497.out).2.2)
        (case side4 => exact (Kd.R_reads' HO497.out).2.1)
        rintro e w111 ⟨rfl, hb⟩
        refine ⟨_, rfl, ?_⟩
        replace HO_481000 := Aside0.mk (Kd.R_below (ro HO_481000.out) hb)
        replace HO_485000 := Aside0.mk (Kd.R_below (ro HO_485000.out) hb)
        replace HO_489000 := Aside0.mk (Kd.R_below (ro HO_489000.out) hb)
        replace HO_494000 := Aside0.mk (Kd.R_below (ro HO_494000.out) hb)
        replace HO497 := Aside0.mk (Kd.R_below (ro HO497.out) hb)
        replace BK466 := Aside0.mk (blk_below (g := gb466) (o := .cells #[.slice A0_0 l0_0.length c0_0] 24 (0, 0)) (bo BK466.out) hb)
        replace BK467 := Aside0.mk (blk_below (g := gb467) (o := .cells #[.slice A1_0 l1_0.length c1_0] 24 (0, 0)) (bo BK467.out) hb)
        replace BK480 := Aside0.mk (blk_below (g := gb480) (o := .cells #[.slice Ao41 t476.length co41] 27 (0, 0)) (bo BK480.out) hb)
        replace BK484 := Aside0.mk (blk_below (g := gb484) (o := .cells #[.slice Ao47 t481.length co47] 27 (0, 0)) (bo BK484.out) hb)
        replace BK488 := Aside0.mk (blk_below (g := gb488) (o := .cells #[.slice Ao56 t485.length co56] 27 (0, 0)) (bo BK488.out) hb)
        replace BK493 := Aside0.mk (blk_below (g := gb493) (o := .cells #[.slice Ao65 t489.length co65] 27 (0, 0)) (bo BK493.out) hb)
        replace HB := Aside0.mk (below_step bw hb)
        clear hb
        refine hK.out _ _ ⟨(blk_cell BK484.out 0).trans rfl, (blk_cell BK466.out 0).trans rfl⟩ (fun hHeld => ?_)
        clear hK K
        refine norm_ (a' := ?_) ?_ ?_
        rotate_left
        ·show Act.put _ (some 57) _ = _
         simp only [Act.put, qa, qb, qc, i64_w, i32_w]
         rfl
        refine pure_ (i := 4) (N := some 58) (v := ?_) (a' := ?_) #[Y,Y,Y,Y,Y] rfl rfl (by kernel_rfl) (fun _ _ _ h => h) (Or.inl ⟨by rfl, ?_⟩) ?_ ?_
        rotate_left
        ·intro w'
         go_simp
         with_reducible rfl
        rotate_left
        ·simp only [Act.put, qa, qb, qc, i64_w, i32_w]
         rfl
        refine done_ (by kernel_rfl) ?_
        try go_wp2
        replace HO_481000 := Aside0.mk (Kd.R_drew HO_481000.out)
        replace HO_485000 := Aside0.mk (Kd.R_drew HO_485000.out)
        replace HO_489000 := Aside0.mk (Kd.R_drew HO_489000.out)
        replace HO_494000 := Aside0.mk (Kd.R_drew HO_494000.out)
        replace HO497 := Aside0.mk (Kd.R_drew HO497.out)
        replace BK466 := Aside0.mk (blk_drew BK466.out)
        replace BK467 := Aside0.mk (blk_drew BK467.out)
        replace BK480 := Aside0.mk (blk_drew BK480.out)
        replace BK484 := Aside0.mk (blk_drew BK484.out)
        replace BK488 := Aside0.mk (blk_drew BK488.out)
        replace BK493 := Aside0.mk (blk_drew BK493.out)
        replace HB := Aside0.mk (below_drew1 HB.out)
        refine start_ (n := 5) (S := fun w' => w'.cell? ⟨gb488, 0, none⟩ = some (.slice Ao56 t485.length co56) ∧ w'.cell? ⟨gb467, 0, none⟩ = some (.slice A1_0 l1_0.length c1_0)) (ds := []) #[Z,Z,Z,Z,Z] (by kernel_rfl) rfl rfl ⟨(blk_cell BK488.out 0).trans rfl, (blk_cell BK467.out 0).trans rfl⟩ (fun hHeld => ?_)
        generalize w111.drew = w112 at HO_481000 HO_485000 HO_489000 HO_494000 HO497 BK466 BK467 BK480 BK484 BK488 BK493 HB hHeld ⊢
        refine take_ (i := 0) (N := some 59) (v := ?_) (a' := ?_) #[Y,Z,Z,Z,Z] rfl rfl (by kernel_rfl) (fun _ _ _ h => h) (Or.inl ⟨by rfl, ?_⟩) hHeld ?_ ?_
        rotate_left
        ·rintro w' ⟨s0, s1⟩
         go_simp
         with_reducible rfl
        rotate_left
        ·simp only [Act.put, qa, qb, qc, i64_w, i32_w]
         rfl
        refine take_ (i := 1) (N := some 60) (v := ?_) (a' := ?_) #[Y,Y,Z,Z,Z] rfl rfl (by kernel_rfl) (fun _ _ _ h => h) (Or.inl ⟨by rfl, ?_⟩) hHeld ?_ ?_
        rotate_left
        ·rintro w' ⟨s0, s1⟩
         go_simp
         with_reducible rfl
        rotate_left
        ·simp only [Act.put, qa, qb, qc, i64_w, i32_w]
         rfl
        refine one_ (i := 2) (N := some 61) #[Y,Y,Y,Z,Z] rfl rfl (by kernel_rfl) (by decide) (fun K hK => ?_)
        refine gm Try.func16 #[.agg #[.slice A1_0 l1_0.length c1_0]] ?_
        with_reducible refine (laws_toSemigroup.calls kj24 _ _ l1_0 t499 _ ?side1 ?side2 A102.out).mono ?_
        (case side1 => exact co (Kd.C_below HR1_0.out HB.out))
        (case side2 => exact HC1_0.out)
        rintro e w113 ⟨v500, rfl, ho0, hb⟩
        refine ⟨_, rfl, ?_⟩
        have HO501 := Aside0.mk (Kd.R_lower (Kd.R_new' (Kd.R_new' (Kd.R_new' (Kd.R_new' (Kd.R_new' ho0 (Kd.R_lt (ro HO_481000.out))) (Kd.R_lt (ro HO_485000.out))) (Kd.R_lt (ro HO_489000.out))) (Kd.R_lt (ro HO_494000.out))) (Kd.R_lt (ro HO497.out))) (below_size bw))
        replace HO_481000 := Aside0.mk (Kd.R_elder' (ro HO_481000.out) (Kd.R_base ho0) hb)
        replace HO_485000 := Aside0.mk (Kd.R_elder' (ro HO_485000.out) (Kd.R_base ho0) hb)
        replace HO_489000 := Aside0.mk (Kd.R_elder' (ro HO_489000.out) (Kd.R_base ho0) hb)
        replace HO_494000 := Aside0.mk (Kd.R_elder' (ro HO_494000.out) (Kd.R_base ho0) hb)
        replace HO497 := Aside0.mk (Kd.R_elder' (ro HO497.out) (Kd.R_base ho0) hb)
        replace BK466 := Aside0.mk (blk_below (g := gb466) (o := .cells #[.slice A0_0 l0_0.length c0_0] 24 (0, 0)) (bo BK466.out) hb)
        replace BK467 := Aside0.mk (blk_below (g := gb467) (o := .cells #[.slice A1_0 l1_0.length c1_0] 24 (0, 0)) (bo BK467.out) hb)
        replace BK480 := Aside0.mk (blk_below (g := gb480) (o := .cells #[.slice Ao41 t476.length co41] 27 (0, 0)) (bo BK480.out) hb)
        replace BK484 := Aside0.mk (blk_below (g := gb484) (o := .cells #[.slice Ao47 t481.length co47] 27 (0, 0)) (bo BK484.out) hb)
        replace BK488 := Aside0.mk (blk_below (g := gb488) (o := .cells #[.slice Ao56 t485.length co56] 27 (0, 0)) (bo BK488.out) hb)
        replace BK493 := Aside0.mk (blk_below (g := gb493) (o := .cells #[.slice Ao65 t489.length co65] 27 (0, 0)) (bo BK493.out) hb)
        replace HB := Aside0.mk (below_step bw hb)
        clear hb ho0
        obtain ⟨Ao114, co114, eo114⟩ := Kd.R_slice HO501.out
        (first | subst eo114 | (injection eo114 with f1_ f2_ f3_; have f4_ := f1_.symm; have f5_ := f3_.symm; clear f1_ f2_ f3_; subst f4_; subst f5_))
        refine hK.out _ _ ⟨(blk_cell BK488.out 0).trans rfl, (blk_cell BK467.out 0).trans rfl⟩ (fun hHeld => ?_)
        clear hK K
        refine norm_ (a' := ?_) ?_ ?_
        rotate_left
        ·show Act.put _ (some 61) _ = _
         simp only [Act.put, qa, qb, qc, i64_w, i32_w]
         rfl
        refine one_ (i := 3) (N := some 62) #[Y,Y,Y,Y,Z] rfl rfl (by kernel_rfl) (by decide) (fun K hK => ?_)
        refine gm Try.func18 #[.agg #[.slice Ao56 t485.length co56], .agg #[.slice Ao114 t499.length co114]] ?_
        with_reducible refine (laws_eqSemigroup.calls kj24 _ _ t485 _ _ t499 true _ ?side1 ?side2 ?side3 ?side4 A103.out).mono ?_
        (case side1 => exact co (Kd.R_reads' HO_489000.out).2.2)
        (case side2 => exact (Kd.R_reads' HO_489000.out).2.1)
        (case side3 => exact co (Kd.R_reads' HO501.out).2.2)
        (case side4 => exact (Kd.R_reads' HO501.out).2.1)
        rintro e w115 ⟨rfl, hb⟩
        refine ⟨_, rfl, ?_⟩
        replace HO_481000 := Aside0.mk (Kd.R_below (ro HO_481000.out) hb)
        replace HO_485000 := Aside0.mk (Kd.R_below (ro HO_485000.out) hb)
        replace HO_489000 := Aside0.mk (Kd.R_below (ro HO_489000.out) hb)
        replace HO_494000 := Aside0.mk (Kd.R_below (ro HO_494000.out) hb)
        replace HO497 := Aside0.mk (Kd.R_below (ro HO497.out) hb)
        replace HO501 := Aside0.mk (Kd.R_below (ro HO501.out) hb)
        replace BK466 := Aside0.mk (blk_below (g := gb466) (o := .cells #[.slice A0_0 l0_0.length c0_0] 24 (0, 0)) (bo BK466.out) hb)
        replace BK467 := Aside0.mk (blk_below (g := gb467) (o := .cells #[.slice A1_0 l1_0.length c1_0] 24 (0, 0)) (bo BK467.out) hb)
        replace BK480 := Aside0.mk (blk_below (g := gb480) (o := .cells #[.slice Ao41 t476.length co41] 27 (0, 0)) (bo BK480.out) hb)
        replace BK484 := Aside0.mk (blk_below (g := gb484) (o := .cells #[.slice Ao47 t481.length co47] 27 (0, 0)) (bo BK484.out) hb)
        replace BK488 := Aside0.mk (blk_below (g := gb488) (o := .cells #[.slice Ao56 t485.length co56] 27 (0, 0)) (bo BK488.out) hb)
        replace BK493 := Aside0.mk (blk_below (g := gb493) (o := .cells #[.slice Ao65 t489.length co65] 27 (0, 0)) (bo BK493.out) hb)
        replace HB := Aside0.mk (below_step bw hb)
        clear hb
        refine hK.out _ _ ⟨(blk_cell BK488.out 0).trans rfl, (blk_cell BK467.out 0).trans rfl⟩ (fun hHeld => ?_)
        clear hK K
        refine norm_ (a' := ?_) ?_ ?_
        rotate_left
        ·show Act.put _ (some 62) _ = _
         simp only [Act.put, qa, qb, qc, i64_w, i32_w]
         rfl
        refine pure_ (i := 4) (N := some 63) (v := ?_) (a' := ?_) #[Y,Y,Y,Y,Y] rfl rfl (by kernel_rfl) (fun _ _ _ h => h) (Or.inl ⟨by rfl, ?_⟩) ?_ ?_
        rotate_left
        ·intro w'
         go_simp
         with_reducible rfl
        rotate_left
        ·simp only [Act.put, qa, qb, qc, i64_w, i32_w]
         rfl
        refine done_ (by kernel_rfl) ?_
        have hnb116 := NB484_466.out
        have hnc116 := NB466_484.out
        have hnb117 := NB484_467.out
        have hnc117 := NB467_484.out
        have hnb118 := NB484_480.out
        have hnc118 := NB480_484.out
        have hnb119 := NB484_488.out
        have hnc119 := NB488_484.out
        have hnb120 := NB484_493.out
        have hnc120 := NB493_484.out
        have hcz121_0 := bc BK484 0 (.slice Ao47 t481.length co47)
        have hfz121_0 := blk_frozen BK484.out 0
        go_upto_region 21 with (first | ((with_reducible refine gate_callee (f := 22) rfl ?_); refine gl (some 66) Try.func22 #[.agg #[.slice Ao47 t481.length co47], .int .i64 1] ?_; (with_reducible refine (laws_markSemigroup.calls kj24 (fun k_ => some k_ = (.slice Ao47 t481.length co47 : Value).ownBlock) (.slice Ao47 t481.length co47) t481 1 t503 t504 w _ ?side1 ?side2 A105.out).mono ?_); (case side1 => repeat (first | (with_reducible first | exact HB.out | apply below_alloc | apply pw_below_drewN | apply below_drew1 | refine below_set ?_ GE466.out | refine below_set ?_ GE467.out | refine below_set ?_ GE480.out | refine below_set ?_ GE484.out | refine below_set ?_ GE488.out | refine below_set ?_ GE493.out) | exact HB.out)); (case side2 => exact Kd.R_tight rfl HO_485000.out); rintro e w122 ⟨rfl, hy0, hb, hkp⟩; refine ⟨_, rfl, ?_⟩; replace HO_481000 := Aside0.mk (Kd.R_mono (ok' := fun k_ => some k_ ≠ (.slice Ao47 t481.length co47 : Value).ownBlock ∧ some k_ ≠ (.slice Ao56 t485.length co56 : Value).ownBlock ∧ some k_ ≠ (.slice Ao65 t489.length co65 : Value).ownBlock ∧ some k_ ≠ (.slice Ao110 t495.length co110 : Value).ownBlock ∧ some k_ ≠ (.slice Ao114 t499.length co114 : Value).ownBlock) (Kd.R_keptB (HO_481000.out) hkp (fun k_ hk_ hs_ => by first | exact (hk_.1.1.1) hs_ | simp_all)) (fun k_ hk_ => by first | exact ⟨hk_.1.1.1.1, hk_.1.1.1.2.1, hk_.1.1.1.2.2, hk_.1.1.2, hk_.1.2⟩ | simp_all)); replace HO_489000 := Aside0.mk (Kd.R_mono (ok' := fun k_ => some k_ ≠ (.slice Ao41 t476.length co41 : Value).ownBlock ∧ some k_ ≠ (.slice Ao47 t481.length co47 : Value).ownBlock ∧ some k_ ≠ (.slice Ao65 t489.length co65 : Value).ownBlock ∧ some k_ ≠ (.slice Ao110 t495.length co110 : Value).ownBlock ∧ some k_ ≠ (.slice Ao114 t499.length co114 : Value).ownBlock) (Kd.R_keptB (HO_489000.out) hkp (fun k_ hk_ hs_ => by first | exact (hk_.1.1.2.1) hs_ | simp_all)) (fun k_ hk_ => by first | exact ⟨hk_.1.1.1.1, hk_.1.1.1.2.1, hk_.1.1.1.2.2, hk_.1.1.2, hk_.1.2⟩ | simp_all)); replace HO_494000 := Aside0.mk (Kd.R_mono (ok' := fun k_ => some k_ ≠ (.slice Ao41 t476.length co41 : Value).ownBlock ∧ some k_ ≠ (.slice Ao47 t481.length co47 : Value).ownBlock ∧ some k_ ≠ (.slice Ao56 t485.length co56 : Value).ownBlock ∧ some k_ ≠ (.slice Ao110 t495.length co110 : Value).ownBlock ∧ some k_ ≠ (.slice Ao114 t499.length co114 : Value).ownBlock) (Kd.R_keptB (HO_494000.out) hkp (fun k_ hk_ hs_ => by first | exact (hk_.1.1.2.1) hs_ | simp_all)) (fun k_ hk_ => by first | exact ⟨hk_.1.1.1.1, hk_.1.1.1.2.1, hk_.1.1.1.2.2, hk_.1.1.2, hk_.1.2⟩ | simp_all)); replace BK466 := Aside0.mk (blk_kept (bo BK466.out) hkp (fun hs_ => (fun e_ => (Kd.R_ne HO_485000.out BK466.out (by decide)) e_) hs_)); replace BK467 := Aside0.mk (blk_kept (bo BK467.out) hkp (fun hs_ => (fun e_ => (Kd.R_ne HO_485000.out BK467.out (by decide)) e_) hs_)); replace BK480 := Aside0.mk (blk_kept (bo BK480.out) hkp (fun hs_ => (fun e_ => (Kd.R_ne HO_485000.out BK480.out (by decide)) e_) hs_)); replace BK484 := Aside0.mk (blk_kept (bo BK484.out) hkp (fun hs_ => (fun e_ => (Kd.R_ne HO_485000.out BK484.out (by decide)) e_) hs_)); replace BK488 := Aside0.mk (blk_kept (bo BK488.out) hkp (fun hs_ => (fun e_ => (Kd.R_ne HO_485000.out BK488.out (by decide)) e_) hs_)); replace BK493 := Aside0.mk (blk_kept (bo BK493.out) hkp (fun hs_ => (fun e_ => (Kd.R_ne HO_485000.out BK493.out (by decide)) e_) hs_)); replace HO_485000 := Aside0.mk (Kd.R_reok rfl hy0 (fun k_ e_ => HO_485000.out.1 k_ e_)); replace HO497 := Aside0.mk (Kd.R_mono (ok' := fun k_ => some k_ ≠ (.slice Ao41 t476.length co41 : Value).ownBlock ∧ some k_ ≠ (.slice Ao47 t481.length co47 : Value).ownBlock ∧ some k_ ≠ (.slice Ao56 t485.length co56 : Value).ownBlock ∧ some k_ ≠ (.slice Ao65 t489.length co65 : Value).ownBlock ∧ some k_ ≠ (.slice Ao114 t499.length co114 : Value).ownBlock) (Kd.R_keptB (HO497.out) hkp (fun k_ hk_ hs_ => by first | exact (hk_.1.1.1.2) hs_ | simp_all)) (fun k_ hk_ => by first | exact ⟨hk_.1.1.1.1.1.2, hk_.1.1.1.1.2, hk_.1.1.1.2, hk_.1.1.2, hk_.1.2⟩ | simp_all)); replace HO501 := Aside0.mk (Kd.R_mono (ok' := fun k_ => some k_ ≠ (.slice Ao41 t476.length co41 : Value).ownBlock ∧ some k_ ≠ (.slice Ao47 t481.length co47 : Value).ownBlock ∧ some k_ ≠ (.slice Ao56 t485.length co56 : Value).ownBlock ∧ some k_ ≠ (.slice Ao65 t489.length co65 : Value).ownBlock ∧ some k_ ≠ (.slice Ao110 t495.length co110 : Value).ownBlock) (Kd.R_keptB (HO501.out) hkp (fun k_ hk_ hs_ => by first | exact (hk_.1.1.1.2) hs_ | simp_all)) (fun k_ hk_ => by first | exact ⟨hk_.1.1.1.1.1.2, hk_.1.1.1.1.2, hk_.1.1.1.2, hk_.1.1.2, hk_.1.2⟩ | simp_all)); replace HB := Aside0.mk (hb); clear hb hkp hy0; have hnb123 := NB488_466.out; have hnc123 := NB466_488.out; have hnb124 := NB488_467.out; have hnc124 := NB467_488.out; have hnb125 := NB488_480.out; have hnc125 := NB480_488.out; have hnb126 := NB488_493.out; have hnc126 := NB493_488.out; have hcz127_0 := bc BK488 0 (.slice Ao56 t485.length co56); have hfz127_0 := blk_frozen BK488.out 0) | ((with_reducible refine gate_callee (f := 22) rfl ?_); refine gl (some 69) Try.func22 #[.agg #[.slice Ao56 t485.length co56], .int .i64 t503] ?_; (with_reducible refine (laws_markSemigroup.calls kj24 (fun k_ => some k_ = (.slice Ao56 t485.length co56 : Value).ownBlock) (.slice Ao56 t485.length co56) t485 t503 t505 t506 w _ ?side1 ?side2 A106.out).mono ?_); (case side1 => repeat (first | (with_reducible first | exact HB.out | apply below_alloc | apply pw_below_drewN | apply below_drew1 | refine below_set ?_ GE466.out | refine below_set ?_ GE467.out | refine below_set ?_ GE480.out | refine below_set ?_ GE484.out | refine below_set ?_ GE488.out | refine below_set ?_ GE493.out) | exact HB.out)); (case side2 => exact Kd.R_tight rfl HO_489000.out); rintro e w128 ⟨rfl, hy0, hb, hkp⟩; refine ⟨_, rfl, ?_⟩; replace HO_481000 := Aside0.mk (Kd.R_mono (ok' := fun k_ => some k_ ≠ (.slice Ao47 t481.length co47 : Value).ownBlock ∧ some k_ ≠ (.slice Ao56 t485.length co56 : Value).ownBlock ∧ some k_ ≠ (.slice Ao65 t489.length co65 : Value).ownBlock ∧ some k_ ≠ (.slice Ao110 t495.length co110 : Value).ownBlock ∧ some k_ ≠ (.slice Ao114 t499.length co114 : Value).ownBlock) (Kd.R_keptB (HO_481000.out) hkp (fun k_ hk_ hs_ => by first | exact (hk_.2.1) hs_ | simp_all)) (fun k_ hk_ => by first | exact ⟨hk_.1.1, hk_.1.2.1, hk_.1.2.2.1, hk_.1.2.2.2.1, hk_.1.2.2.2.2⟩ | simp_all)); replace HO_485000 := Aside0.mk (Kd.R_mono (ok' := fun k_ => some k_ ≠ (.slice Ao41 t476.length co41 : Value).ownBlock ∧ some k_ ≠ (.slice Ao56 t485.length co56 : Value).ownBlock ∧ some k_ ≠ (.slice Ao65 t489.length co65 : Value).ownBlock ∧ some k_ ≠ (.slice Ao110 t495.length co110 : Value).ownBlock ∧ some k_ ≠ (.slice Ao114 t499.length co114 : Value).ownBlock) (Kd.R_keptB (HO_485000.out) hkp (fun k_ hk_ hs_ => by first | exact (hk_.1.1.2.1) hs_ | simp_all)) (fun k_ hk_ => by first | exact ⟨hk_.1.1.1.1, hk_.1.1.1.2.1, hk_.1.1.1.2.2, hk_.1.1.2, hk_.1.2⟩ | simp_all)); replace HO_494000 := Aside0.mk (Kd.R_mono (ok' := fun k_ => some k_ ≠ (.slice Ao41 t476.length co41 : Value).ownBlock ∧ some k_ ≠ (.slice Ao47 t481.length co47 : Value).ownBlock ∧ some k_ ≠ (.slice Ao56 t485.length co56 : Value).ownBlock ∧ some k_ ≠ (.slice Ao110 t495.length co110 : Value).ownBlock ∧ some k_ ≠ (.slice Ao114 t499.length co114 : Value).ownBlock) (Kd.R_keptB (HO_494000.out) hkp (fun k_ hk_ hs_ => by first | exact (hk_.2.2.1) hs_ | simp_all)) (fun k_ hk_ => by first | exact ⟨hk_.1.1, hk_.1.2.1, hk_.1.2.2.1, hk_.1.2.2.2.1, hk_.1.2.2.2.2⟩ | simp_all)); replace BK466 := Aside0.mk (blk_kept (bo BK466.out) hkp (fun hs_ => (fun e_ => (Kd.R_ne HO_489000.out BK466.out (by decide)) e_) hs_)); replace BK467 := Aside0.mk (blk_kept (bo BK467.out) hkp (fun hs_ => (fun e_ => (Kd.R_ne HO_489000.out BK467.out (by decide)) e_) hs_)); replace BK480 := Aside0.mk (blk_kept (bo BK480.out) hkp (fun hs_ => (fun e_ => (Kd.R_ne HO_489000.out BK480.out (by decide)) e_) hs_)); replace BK484 := Aside0.mk (blk_kept (bo BK484.out) hkp (fun hs_ => (fun e_ => (Kd.R_ne HO_489000.out BK484.out (by decide)) e_) hs_)); replace BK488 := Aside0.mk (blk_kept (bo BK488.out) hkp (fun hs_ => (fun e_ => (Kd.R_ne HO_489000.out BK488.out (by decide)) e_) hs_)); replace BK493 := Aside0.mk (blk_kept (bo BK493.out) hkp (fun hs_ => (fun e_ => (Kd.R_ne HO_489000.out BK493.out (by decide)) e_) hs_)); replace HO_489000 := Aside0.mk (Kd.R_reok rfl hy0 (fun k_ e_ => HO_489000.out.1 k_ e_)); replace HO497 := Aside0.mk (Kd.R_mono (ok' := fun k_ => some k_ ≠ (.slice Ao41 t476.length co41 : Value).ownBlock ∧ some k_ ≠ (.slice Ao47 t481.length co47 : Value).ownBlock ∧ some k_ ≠ (.slice Ao56 t485.length co56 : Value).ownBlock ∧ some k_ ≠ (.slice Ao65 t489.length co65 : Value).ownBlock ∧ some k_ ≠ (.slice Ao114 t499.length co114 : Value).ownBlock) (Kd.R_keptB (HO497.out) hkp (fun k_ hk_ hs_ => by first | exact (hk_.2.2.1) hs_ | simp_all)) (fun k_ hk_ => by first | exact ⟨hk_.1.1, hk_.1.2.1, hk_.1.2.2.1, hk_.1.2.2.2.1, hk_.1.2.2.2.2⟩ | simp_all)); replace HO501 := Aside0.mk (Kd.R_mono (ok' := fun k_ => some k_ ≠ (.slice Ao41 t476.length co41 : Value).ownBlock ∧ some k_ ≠ (.slice Ao47 t481.length co47 : Value).ownBlock ∧ some k_ ≠ (.slice Ao56 t485.length co56 : Value).ownBlock ∧ some k_ ≠ (.slice Ao65 t489.length co65 : Value).ownBlock ∧ some k_ ≠ (.slice Ao110 t495.length co110 : Value).ownBlock) (Kd.R_keptB (HO501.out) hkp (fun k_ hk_ hs_ => by first | exact (hk_.2.2.1) hs_ | simp_all)) (fun k_ hk_ => by first | exact ⟨hk_.1.1, hk_.1.2.1, hk_.1.2.2.1, hk_.1.2.2.2.1, hk_.1.2.2.2.2⟩ | simp_all)); replace HB := Aside0.mk (hb); clear hb hkp hy0))
        (try simp only [Act.put, List.setIfInBounds_toArray, List.set_cons_zero, List.set_cons_succ])
        go_cut [82] (fun v82 wc => ∃ (kq : Nat) (x82_106 : Bool), v82 = .bool x82_106 ∧ Aside0 (laws_FnExactAddOf.j1 kq t479 x82_106 l0_0 l1_0 t476 t489 = some true) ∧ Aside0 (kq ≤ kj24) ∧ Aside0 (Kd.R (Kd.int .i64) 3 wc w.heap.size (fun k_ => some k_ ≠ ((.slice Ao47 t481.length co47) : Value).ownBlock ∧ some k_ ≠ ((.slice Ao56 t485.length co56) : Value).ownBlock ∧ some k_ ≠ ((.slice Ao65 t489.length co65) : Value).ownBlock) (.slice Ao41 t476.length co41) t476) ∧ Aside0 (Kd.R (Kd.int .i64) 3 wc w.heap.size (fun k_ => some k_ ≠ ((.slice Ao41 t476.length co41) : Value).ownBlock ∧ some k_ ≠ ((.slice Ao56 t485.length co56) : Value).ownBlock ∧ some k_ ≠ ((.slice Ao65 t489.length co65) : Value).ownBlock) (.slice Ao47 t481.length co47) t504) ∧ Aside0 (Kd.R (Kd.int .i64) 3 wc w.heap.size (fun k_ => some k_ ≠ ((.slice Ao41 t476.length co41) : Value).ownBlock ∧ some k_ ≠ ((.slice Ao47 t481.length co47) : Value).ownBlock ∧ some k_ ≠ ((.slice Ao65 t489.length co65) : Value).ownBlock) (.slice Ao56 t485.length co56) t506) ∧ Aside0 (Kd.R (Kd.int .i64) 3 wc w.heap.size (fun k_ => some k_ ≠ ((.slice Ao41 t476.length co41) : Value).ownBlock ∧ some k_ ≠ ((.slice Ao47 t481.length co47) : Value).ownBlock ∧ some k_ ≠ ((.slice Ao56 t485.length co56) : Value).ownBlock) (.slice Ao65 t489.length co65) t489) ∧ Aside0 (wc.heap[gb466]? = some (.cells #[(.slice A0_0 l0_0.length c0_0)] 24 (0, 0))) ∧ Aside0 (wc.heap[gb467]? = some (.cells #[(.slice A1_0 l1_0.length c1_0)] 24 (0, 0))) ∧ Aside0 (wc.heap[gb480]? = some (.cells #[(.slice Ao41 t476.length co41)] 27 (0, 0))) ∧ Aside0 (wc.heap[gb484]? = some (.cells #[(.slice Ao47 t481.length co47)] 27 (0, 0))) ∧ Aside0 (wc.heap[gb488]? = some (.cells #[(.slice Ao56 t485.length co56)] 27 (0, 0))) ∧ Aside0 (wc.heap[gb493]? = some (.cells #[(.slice Ao65 t489.length co65)] 27 (0, 0))) ∧ Aside0 (Below w.heap.size w wc))
        case first =>
         have H := HC107.out
         clear HC107
         replace H := gi H; obtain ⟨c129b0, H⟩ | ⟨c129b0, H⟩ := H
         ·(first | rw [c129b0] | (simp only [i64_w, i32_w]; rw [c129b0]) | skip)
          have H' := Aside0.mk H
          clear H
          go_wp2
          go_meet
          case rel => exact ⟨_, (true), rr, H', ⟨by have := HJ24.out; first | omega | exact Nat.le_refl _⟩, ⟨by (with_reducible repeat (first | apply Kd.R_alloc | apply Kd.R_drewN | apply Kd.R_drew)); exact Kd.R_mono HO_481000.out (fun _ hk => ⟨hk.1, ⟨hk.2.1, hk.2.2.1⟩⟩)⟩, ⟨by (with_reducible repeat (first | apply Kd.R_alloc | apply Kd.R_drewN | apply Kd.R_drew)); exact Kd.R_mono HO_485000.out (fun _ hk => ⟨hk.1, ⟨hk.2.1, hk.2.2.1⟩⟩)⟩, ⟨by (with_reducible repeat (first | apply Kd.R_alloc | apply Kd.R_drewN | apply Kd.R_drew)); exact Kd.R_mono HO_489000.out (fun _ hk => ⟨hk.1, ⟨hk.2.1, hk.2.2.1⟩⟩)⟩, ⟨by (with_reducible repeat (first | apply Kd.R_alloc | apply Kd.R_drewN | apply Kd.R_drew)); exact Kd.R_mono HO_494000.out (fun _ hk => ⟨hk.1, ⟨hk.2.1, hk.2.2.1⟩⟩)⟩, ⟨bo BK466.out⟩, ⟨bo BK467.out⟩, ⟨bo BK480.out⟩, ⟨bo BK484.out⟩, ⟨bo BK488.out⟩, ⟨bo BK493.out⟩, ⟨bw⟩⟩
         ·(first | rw [c129b0] | (simp only [i64_w, i32_w]; rw [c129b0]) | skip)
          replace H := ga H; obtain ⟨t507, A130, H⟩ := H
          replace H := gb H; obtain ⟨rfl, H⟩ | ⟨rfl, H⟩ := H
          ·have H' := Aside0.mk H
           clear H
           have hnb132 := NB493_466.out
           have hnc132 := NB466_493.out
           have hnb133 := NB493_467.out
           have hnc133 := NB467_493.out
           have hnb134 := NB493_480.out
           have hnc134 := NB480_493.out
           have hnb135 := NB493_484.out
           have hnc135 := NB484_493.out
           have hnb136 := NB493_488.out
           have hnc136 := NB488_493.out
           have hcz137_0 := bc BK493 0 (.slice Ao65 t489.length co65)
           have hfz137_0 := blk_frozen BK493.out 0
           have hnb138 := NB480_466.out
           have hnc138 := NB466_480.out
           have hnb139 := NB480_467.out
           have hnc139 := NB467_480.out
           have hnb140 := NB480_484.out
           have hnc140 := NB484_480.out
           have hnb141 := NB480_488.out
           have hnc141 := NB488_480.out
           have hcz142_0 := bc BK480 0 (.slice Ao41 t476.length co41)
           have hfz142_0 := blk_frozen BK480.out 0
           go_wp2_with (first | (go_at_call 18; (with_reducible refine (laws_eqSemigroup.calls kj24 _ _ t489 _ _ t476 true _ ?side1 ?side2 ?side3 ?side4 A130.out).mono ?_); (case side1 => exact co (Kd.R_reads' HO_494000.out).2.2); (case side2 => exact (Kd.R_reads' HO_494000.out).2.1); (case side3 => exact co (Kd.R_reads' HO_481000.out).2.2); (case side4 => exact (Kd.R_reads' HO_481000.out).2.1); rintro e w143 ⟨rfl, hb⟩; replace HO_481000 := Aside0.mk (Kd.R_below (ro HO_481000.out) hb); replace HO_485000 := Aside0.mk (Kd.R_below (ro HO_485000.out) hb); replace HO_489000 := Aside0.mk (Kd.R_below (ro HO_489000.out) hb); replace HO_494000 := Aside0.mk (Kd.R_below (ro HO_494000.out) hb); replace HO497 := Aside0.mk (Kd.R_below (ro HO497.out) hb); replace HO501 := Aside0.mk (Kd.R_below (ro HO501.out) hb); replace BK466 := Aside0.mk (blk_below (g := gb466) (o := .cells #[.slice A0_0 l0_0.length c0_0] 24 (0, 0)) (bo BK466.out) hb); replace BK467 := Aside0.mk (blk_below (g := gb467) (o := .cells #[.slice A1_0 l1_0.length c1_0] 24 (0, 0)) (bo BK467.out) hb); replace BK480 := Aside0.mk (blk_below (g := gb480) (o := .cells #[.slice Ao41 t476.length co41] 27 (0, 0)) (bo BK480.out) hb); replace BK484 := Aside0.mk (blk_below (g := gb484) (o := .cells #[.slice Ao47 t481.length co47] 27 (0, 0)) (bo BK484.out) hb); replace BK488 := Aside0.mk (blk_below (g := gb488) (o := .cells #[.slice Ao56 t485.length co56] 27 (0, 0)) (bo BK488.out) hb); replace BK493 := Aside0.mk (blk_below (g := gb493) (o := .cells #[.slice Ao65 t489.length co65] 27 (0, 0)) (bo BK493.out) hb); replace HB := Aside0.mk (below_step bw hb); clear hb))
           go_meet
           case rel => exact ⟨_, ((t492 != t479)), rr, H', ⟨by have := HJ24.out; first | omega | exact Nat.le_refl _⟩, ⟨by (with_reducible repeat (first | apply Kd.R_alloc | apply Kd.R_drewN | apply Kd.R_drew)); exact Kd.R_mono HO_481000.out (fun _ hk => ⟨hk.1, ⟨hk.2.1, hk.2.2.1⟩⟩)⟩, ⟨by (with_reducible repeat (first | apply Kd.R_alloc | apply Kd.R_drewN | apply Kd.R_drew)); exact Kd.R_mono HO_485000.out (fun _ hk => ⟨hk.1, ⟨hk.2.1, hk.2.2.1⟩⟩)⟩, ⟨by (with_reducible repeat (first | apply Kd.R_alloc | apply Kd.R_drewN | apply Kd.R_drew)); exact Kd.R_mono HO_489000.out (fun _ hk => ⟨hk.1, ⟨hk.2.1, hk.2.2.1⟩⟩)⟩, ⟨by (with_reducible repeat (first | apply Kd.R_alloc | apply Kd.R_drewN | apply Kd.R_drew)); exact Kd.R_mono HO_494000.out (fun _ hk => ⟨hk.1, ⟨hk.2.1, hk.2.2.1⟩⟩)⟩, ⟨bo BK466.out⟩, ⟨bo BK467.out⟩, ⟨bo BK480.out⟩, ⟨bo BK484.out⟩, ⟨bo BK488.out⟩, ⟨bo BK493.out⟩, ⟨bw⟩⟩
          ·have H' := Aside0.mk H
           clear H
           have hnb144 := NB493_466.out
           have hnc144 := NB466_493.out
           have hnb145 := NB493_467.out
           have hnc145 := NB467_493.out
           have hnb146 := NB493_480.out
           have hnc146 := NB480_493.out
           have hnb147 := NB493_484.out
           have hnc147 := NB484_493.out
           have hnb148 := NB493_488.out
           have hnc148 := NB488_493.out
           have hcz149_0 := bc BK493 0 (.slice Ao65 t489.length co65)
           have hfz149_0 := blk_frozen BK493.out 0
           have hnb150 := NB480_466.out
           have hnc150 := NB466_480.out
           have hnb151 := NB480_467.out
           have hnc151 := NB467_480.out
           have hnb152 := NB480_484.out
           have hnc152 := NB484_480.out
           have hnb153 := NB480_488.out
           have hnc153 := NB488_480.out
           have hcz154_0 := bc BK480 0 (.slice Ao41 t476.length co41)
           have hfz154_0 := blk_frozen BK480.out 0
           go_wp2_with (first | (go_at_call 18; (with_reducible refine (laws_eqSemigroup.calls kj24 _ _ t489 _ _ t476 false _ ?side1 ?side2 ?side3 ?side4 A130.out).mono ?_); (case side1 => exact co (Kd.R_reads' HO_494000.out).2.2); (case side2 => exact (Kd.R_reads' HO_494000.out).2.1); (case side3 => exact co (Kd.R_reads' HO_481000.out).2.2); (case side4 => exact (Kd.R_reads' HO_481000.out).2.1); rintro e w155 ⟨rfl, hb⟩; replace HO_481000 := Aside0.mk (Kd.R_below (ro HO_481000.out) hb); replace HO_485000 := Aside0.mk (Kd.R_below (ro HO_485000.out) hb); replace HO_489000 := Aside0.mk (Kd.R_below (ro HO_489000.out) hb); replace HO_494000 := Aside0.mk (Kd.R_below (ro HO_494000.out) hb); replace HO497 := Aside0.mk (Kd.R_below (ro HO497.out) hb); replace HO501 := Aside0.mk (Kd.R_below (ro HO501.out) hb); replace BK466 := Aside0.mk (blk_below (g := gb466) (o := .cells #[.slice A0_0 l0_0.length c0_0] 24 (0, 0)) (bo BK466.out) hb); replace BK467 := Aside0.mk (blk_below (g := gb467) (o := .cells #[.slice A1_0 l1_0.length c1_0] 24 (0, 0)) (bo BK467.out) hb); replace BK480 := Aside0.mk (blk_below (g := gb480) (o := .cells #[.slice Ao41 t476.length co41] 27 (0, 0)) (bo BK480.out) hb); replace BK484 := Aside0.mk (blk_below (g := gb484) (o := .cells #[.slice Ao47 t481.length co47] 27 (0, 0)) (bo BK484.out) hb); replace BK488 := Aside0.mk (blk_below (g := gb488) (o := .cells #[.slice Ao56 t485.length co56] 27 (0, 0)) (bo BK488.out) hb); replace BK493 := Aside0.mk (blk_below (g := gb493) (o := .cells #[.slice Ao65 t489.length co65] 27 (0, 0)) (bo BK493.out) hb); replace HB := Aside0.mk (below_step bw hb); clear hb))
           go_meet
           case rel => exact ⟨_, (true), rr, H', ⟨by have := HJ24.out; first | omega | exact Nat.le_refl _⟩, ⟨by (with_reducible repeat (first | apply Kd.R_alloc | apply Kd.R_drewN | apply Kd.R_drew)); exact Kd.R_mono HO_481000.out (fun _ hk => ⟨hk.1, ⟨hk.2.1, hk.2.2.1⟩⟩)⟩, ⟨by (with_reducible repeat (first | apply Kd.R_alloc | apply Kd.R_drewN | apply Kd.R_drew)); exact Kd.R_mono HO_485000.out (fun _ hk => ⟨hk.1, ⟨hk.2.1, hk.2.2.1⟩⟩)⟩, ⟨by (with_reducible repeat (first | apply Kd.R_alloc | apply Kd.R_drewN | apply Kd.R_drew)); exact Kd.R_mono HO_489000.out (fun _ hk => ⟨hk.1, ⟨hk.2.1, hk.2.2.1⟩⟩)⟩, ⟨by (with_reducible repeat (first | apply Kd.R_alloc | apply Kd.R_drewN | apply Kd.R_drew)); exact Kd.R_mono HO_494000.out (fun _ hk => ⟨hk.1, ⟨hk.2.1, hk.2.2.1⟩⟩)⟩, ⟨bo BK466.out⟩, ⟨bo BK467.out⟩, ⟨bo BK480.out⟩, ⟨bo BK484.out⟩, ⟨bo BK488.out⟩, ⟨bo BK493.out⟩, ⟨bw⟩⟩
        case rest =>
         clear HC107
         try clear c129b0; try clear hcz121_0; try clear hcz127_0; try clear hcz137_0; try clear hcz142_0; try clear hcz149_0; try clear hcz154_0; try clear hcz44_0; try clear hcz51_0; try clear hcz53_0; try clear hcz61_0; try clear hcz62_0; try clear hcz71_0; try clear hcz79_0; try clear hcz84_0; try clear hcz91_0; try clear hcz96_0; try clear hfz121_0; try clear hfz127_0; try clear hfz137_0; try clear hfz142_0; try clear hfz149_0; try clear hfz154_0; try clear hfz44_0; try clear hfz51_0; try clear hfz53_0; try clear hfz61_0; try clear hfz62_0; try clear hfz71_0; try clear hfz79_0; try clear hfz84_0; try clear hfz91_0; try clear hfz96_0
         obtain ⟨kq, x82_106, rfl, HA, HJ106, HO_481000, HO_485000, HO_489000, HO_494000, BK466, BK467, BK480, BK484, BK488, BK493, HB⟩ := hcut
         have hl485000_106 := (Kd.R_reads' HO_485000.out).1
         rw [hl485000_106] at HO_485000
         (try simp only [hl485000_106])
         (try simp only [hl485000_106] at BK466)
         (try simp only [hl485000_106] at BK467)
         (try simp only [hl485000_106] at BK480)
         (try simp only [hl485000_106] at BK484)
         (try simp only [hl485000_106] at BK488)
         (try simp only [hl485000_106] at BK493)
         (try simp only [hl485000_106] at HO_481000)
         (try simp only [hl485000_106] at HO_489000)
         (try simp only [hl485000_106] at HO_494000)
         have hl489000_106 := (Kd.R_reads' HO_489000.out).1
         rw [hl489000_106] at HO_489000
         (try simp only [hl489000_106])
         (try simp only [hl489000_106] at BK466)
         (try simp only [hl489000_106] at BK467)
         (try simp only [hl489000_106] at BK480)
         (try simp only [hl489000_106] at BK484)
         (try simp only [hl489000_106] at BK488)
         (try simp only [hl489000_106] at BK493)
         (try simp only [hl489000_106] at HO_481000)
         (try simp only [hl489000_106] at HO_485000)
         (try simp only [hl489000_106] at HO_494000)
         cases kq with
         | zero => exact absurd HA.out (by simp [laws_FnExactAddOf.j1])
         | succ kj106 =>
          have H := HA.out
          clear HA
          simp only [laws_FnExactAddOf.j1] at H
          replace H := gb H; obtain ⟨rfl, H⟩ | ⟨rfl, H⟩ := H
          ·exact absurd (Option.some.inj H) (by decide)
          ·replace H := ga H; obtain ⟨⟨t508, t509⟩, A157, H⟩ := H
           replace H : ((laws_heldSemigroup.f kj106 t509 1).bind fun t510 => (if t510 < 0 then (some false) else (if t510 = t508 then ((laws_toSemigroup.f kj106 l0_0).bind fun t511 => ((laws_toSemigroup.f kj106 l1_0).bind fun t514 => ((impl_AddOf.f kj106 t511 t514).bind fun bt517 => ((laws_eqSemigroup.f kj106 bt517.1 t476).bind fun t522 => (if t522 = true then (laws_FnExactAddOf.j2 kj106 t508 (bt517.2 != t479) t509) else (laws_FnExactAddOf.j2 kj106 t508 true t509)))))) else (some false)))) = some true := H
           replace H := ga H; obtain ⟨t510, A158, H⟩ := H
           replace H := gi H; obtain ⟨c159b0, H⟩ | ⟨c159b0, H⟩ := H
           ·exact absurd (Option.some.inj H) (by decide)
           ·by_cases c169 : t510 = t508
            ·rw [if_pos c169] at H
             have c169b0 : (t510 == t508) = true := beq_iff_eq.mpr c169
             have c169b1 : (t510 != t508) = false := bne_eq_false_iff_eq.mpr c169
             clear c169
             replace H := ga H; obtain ⟨t511, A170, H⟩ := H
             replace H := ga H; obtain ⟨t514, A171, H⟩ := H
             replace H := ga H; obtain ⟨⟨t517, t520⟩, A172, H⟩ := H
             replace H : ((laws_eqSemigroup.f kj106 t517 t476).bind fun t522 => (if t522 = true then (laws_FnExactAddOf.j2 kj106 t508 (t520 != t479) t509) else (laws_FnExactAddOf.j2 kj106 t508 true t509))) = some true := H
             have HC173 := Aside0.mk H
             clear H
             have hnb174 := NB493_466.out
             have hnc174 := NB466_493.out
             have hnb175 := NB493_467.out
             have hnc175 := NB467_493.out
             have hnb176 := NB493_480.out
             have hnc176 := NB480_493.out
             have hnb177 := NB493_484.out
             have hnc177 := NB484_493.out
             have hnb178 := NB493_488.out
             have hnc178 := NB488_493.out
             have hcz179_0 := bc BK493 0 (.slice Ao65 t489.length co65)
             have hfz179_0 := blk_frozen BK493.out 0
             try go_wp2_with (first | ((with_reducible refine gate_callee (f := 22) rfl ?_); refine gl (some 85) Try.func22 #[.agg #[.slice Ao65 t489.length co65], .int .i64 1] ?_; (with_reducible refine (laws_markSemigroup.calls kj106 (fun k_ => some k_ = (.slice Ao65 t489.length co65 : Value).ownBlock) (.slice Ao65 t489.length co65) t489 1 t508 t509 w _ ?side1 ?side2 A157.out).mono ?_); (case side1 => repeat (first | (with_reducible first | exact HB.out | apply below_alloc | apply pw_below_drewN | apply below_drew1 | refine below_set ?_ GE466.out | refine below_set ?_ GE467.out | refine below_set ?_ GE480.out | refine below_set ?_ GE484.out | refine below_set ?_ GE488.out | refine below_set ?_ GE493.out) | exact HB.out)); (case side2 => exact Kd.R_tight rfl HO_494000.out); rintro e w180 ⟨rfl, hy0, hb, hkp⟩; refine ⟨_, rfl, ?_⟩; replace HO_481000 := Aside0.mk (Kd.R_mono (ok' := fun k_ => some k_ ≠ (.slice Ao47 t504.length co47 : Value).ownBlock ∧ some k_ ≠ (.slice Ao56 t506.length co56 : Value).ownBlock ∧ some k_ ≠ (.slice Ao65 t489.length co65 : Value).ownBlock) (Kd.R_keptB (HO_481000.out) hkp (fun k_ hk_ hs_ => by first | exact (hk_.2.2) hs_ | simp_all)) (fun k_ hk_ => by first | exact ⟨hk_.1.1, hk_.1.2.1, hk_.1.2.2⟩ | simp_all)); replace HO_485000 := Aside0.mk (Kd.R_mono (ok' := fun k_ => some k_ ≠ (.slice Ao41 t476.length co41 : Value).ownBlock ∧ some k_ ≠ (.slice Ao56 t506.length co56 : Value).ownBlock ∧ some k_ ≠ (.slice Ao65 t489.length co65 : Value).ownBlock) (Kd.R_keptB (HO_485000.out) hkp (fun k_ hk_ hs_ => by first | exact (hk_.2.2) hs_ | simp_all)) (fun k_ hk_ => by first | exact ⟨hk_.1.1, hk_.1.2.1, hk_.1.2.2⟩ | simp_all)); replace HO_489000 := Aside0.mk (Kd.R_mono (ok' := fun k_ => some k_ ≠ (.slice Ao41 t476.length co41 : Value).ownBlock ∧ some k_ ≠ (.slice Ao47 t504.length co47 : Value).ownBlock ∧ some k_ ≠ (.slice Ao65 t489.length co65 : Value).ownBlock) (Kd.R_keptB (HO_489000.out) hkp (fun k_ hk_ hs_ => by first | exact (hk_.2.2) hs_ | simp_all)) (fun k_ hk_ => by first | exact ⟨hk_.1.1, hk_.1.2.1, hk_.1.2.2⟩ | simp_all)); replace BK466 := Aside0.mk (blk_kept (bo BK466.out) hkp (fun hs_ => (fun e_ => (Kd.R_ne HO_494000.out BK466.out (by decide)) e_) hs_)); replace BK467 := Aside0.mk (blk_kept (bo BK467.out) hkp (fun hs_ => (fun e_ => (Kd.R_ne HO_494000.out BK467.out (by decide)) e_) hs_)); replace BK480 := Aside0.mk (blk_kept (bo BK480.out) hkp (fun hs_ => (fun e_ => (Kd.R_ne HO_494000.out BK480.out (by decide)) e_) hs_)); replace BK484 := Aside0.mk (blk_kept (bo BK484.out) hkp (fun hs_ => (fun e_ => (Kd.R_ne HO_494000.out BK484.out (by decide)) e_) hs_)); replace BK488 := Aside0.mk (blk_kept (bo BK488.out) hkp (fun hs_ => (fun e_ => (Kd.R_ne HO_494000.out BK488.out (by decide)) e_) hs_)); replace BK493 := Aside0.mk (blk_kept (bo BK493.out) hkp (fun hs_ => (fun e_ => (Kd.R_ne HO_494000.out BK493.out (by decide)) e_) hs_)); replace HO_494000 := Aside0.mk (Kd.R_reok rfl hy0 (fun k_ e_ => HO_494000.out.1 k_ e_)); replace HB := Aside0.mk (hb); clear hb hkp hy0; have hcz181_0 := bc BK493 0 (.slice Ao65 t489.length co65); have hfz181_0 := blk_frozen BK493.out 0) | ((with_reducible refine gate_callee (f := 27) rfl ?_); refine goesL_ (some 88) rfl rfl Try.func27 (by kernel_rfl) rfl #[.agg #[.slice Ao65 t509.length co65], .int .i64 1] rfl (by (try simp only [List.map_toArray, List.map_cons, List.map_nil]); first | done | (rw [show t509.length = t489.length from (Kd.R_reads' HO_494000.out).1.symm] <;> rfl) | rfl | (simp only [List.length_drop, List.length_take]; rfl)) ?_; (with_reducible refine (laws_heldSemigroup.calls kj106 _ _ t509 1 t510 _ ?side1 ?side2 A158.out).mono ?_); (case side1 => exact co (Kd.R_reads' HO_494000.out).2.2); (case side2 => rw [show t509.length = t489.length from (Kd.R_reads' HO_494000.out).1.symm]; exact (Kd.R_reads' HO_494000.out).2.1); rintro e w182 ⟨rfl, hb⟩; refine ⟨_, rfl, ?_⟩; replace HO_481000 := Aside0.mk (Kd.R_below (ro HO_481000.out) hb); replace HO_485000 := Aside0.mk (Kd.R_below (ro HO_485000.out) hb); replace HO_489000 := Aside0.mk (Kd.R_below (ro HO_489000.out) hb); replace HO_494000 := Aside0.mk (Kd.R_below (ro HO_494000.out) hb); replace BK466 := Aside0.mk (blk_below (g := gb466) (o := .cells #[.slice A0_0 l0_0.length c0_0] 24 (0, 0)) (bo BK466.out) hb); replace BK467 := Aside0.mk (blk_below (g := gb467) (o := .cells #[.slice A1_0 l1_0.length c1_0] 24 (0, 0)) (bo BK467.out) hb); replace BK480 := Aside0.mk (blk_below (g := gb480) (o := .cells #[.slice Ao41 t476.length co41] 27 (0, 0)) (bo BK480.out) hb); replace BK484 := Aside0.mk (blk_below (g := gb484) (o := .cells #[.slice Ao47 t504.length co47] 27 (0, 0)) (bo BK484.out) hb); replace BK488 := Aside0.mk (blk_below (g := gb488) (o := .cells #[.slice Ao56 t506.length co56] 27 (0, 0)) (bo BK488.out) hb); replace BK493 := Aside0.mk (blk_below (g := gb493) (o := .cells #[.slice Ao65 t489.length co65] 27 (0, 0)) (bo BK493.out) hb); replace HB := Aside0.mk (below_step bw hb); clear hb))
             replace HO_481000 := Aside0.mk (Kd.R_drew HO_481000.out)
             replace HO_485000 := Aside0.mk (Kd.R_drew HO_485000.out)
             replace HO_489000 := Aside0.mk (Kd.R_drew HO_489000.out)
             replace HO_494000 := Aside0.mk (Kd.R_drew HO_494000.out)
             replace BK466 := Aside0.mk (blk_drew BK466.out)
             replace BK467 := Aside0.mk (blk_drew BK467.out)
             replace BK480 := Aside0.mk (blk_drew BK480.out)
             replace BK484 := Aside0.mk (blk_drew BK484.out)
             replace BK488 := Aside0.mk (blk_drew BK488.out)
             replace BK493 := Aside0.mk (blk_drew BK493.out)
             replace HB := Aside0.mk (below_drew1 HB.out)
             refine start_ (n := 11) (S := fun w' => w'.cell? ⟨gb466, 0, none⟩ = some (.slice A0_0 l0_0.length c0_0) ∧ w'.cell? ⟨gb467, 0, none⟩ = some (.slice A1_0 l1_0.length c1_0)) (ds := []) #[Z,Z,Z,Z,Z,Z,Z,Z,Z,Z,Z] (by kernel_rfl) rfl rfl ⟨(blk_cell BK466.out 0).trans rfl, (blk_cell BK467.out 0).trans rfl⟩ (fun hHeld => ?_); refine with_tabW laws_FnExactAddOf.tab31 laws_FnExactAddOf.bits31 (fun HT_ HW_ => ?_)
             generalize w182.drew = w183 at HO_481000 HO_485000 HO_489000 HO_494000 BK466 BK467 BK480 BK484 BK488 BK493 HB hHeld ⊢
             refine take_ (i := 0) (N := some 95) (v := ?_) (a' := ?_) #[Y,Z,Z,Z,Z,Z,Z,Z,Z,Z,Z] rfl rfl (take_ofW HT_.out HW_.out (by kernel_rfl)) (fun _ _ _ h => h) (Or.inl ⟨by rfl, ?_⟩) hHeld ?_ ?_
             rotate_left
             ·rintro w' ⟨s0, s1⟩
              go_simp
              with_reducible rfl
             rotate_left
             ·simp only [Act.put, qa, qb, qc, i64_w, i32_w]
              rfl
             refine take_ (i := 2) (N := some 97) (v := ?_) (a' := ?_) #[Y,Z,Y,Z,Z,Z,Z,Z,Z,Z,Z] rfl rfl (take_ofW HT_.out HW_.out (by kernel_rfl)) (fun _ _ _ h => h) (Or.inl ⟨by rfl, ?_⟩) hHeld ?_ ?_
             rotate_left
             ·rintro w' ⟨s0, s1⟩
              go_simp
              with_reducible rfl
             rotate_left
             ·simp only [Act.put, qa, qb, qc, i64_w, i32_w]
              rfl
             refine join_ (σ := Value × Value × Value × Nat) 2 #[Y,Y,Y,Y,Y,Y,Y,Y,Y,Z,Z] (fun s_ => [(96, .agg #[s_.1]), (98, .agg #[s_.2.1]), (99, .tuple #[.agg #[s_.2.2.1], .bool t520]), (15, .pointer (some ⟨s_.2.2.2, 0, none⟩)), (94, .tuple #[.agg #[s_.2.2.1], .bool t520]), (100, .agg #[s_.2.2.1]), (101, .bool t520)]) (fun s_ w' => (w'.cell? ⟨gb466, 0, none⟩ = some (.slice A0_0 l0_0.length c0_0) ∧ w'.cell? ⟨gb467, 0, none⟩ = some (.slice A1_0 l1_0.length c1_0)) ∧ (Kd.R (Kd.int .i64) 3 w' w.heap.size (fun k_ => some k_ ≠ (s_.2.1 : Value).ownBlock ∧ some k_ ≠ (s_.2.2.1 : Value).ownBlock ∧ some k_ ≠ (.slice Ao41 t476.length co41 : Value).ownBlock ∧ some k_ ≠ (.slice Ao47 t504.length co47 : Value).ownBlock ∧ some k_ ≠ (.slice Ao56 t506.length co56 : Value).ownBlock ∧ some k_ ≠ (.slice Ao65 t489.length co65 : Value).ownBlock) s_.1 t511) ∧ (Kd.R (Kd.int .i64) 3 w' w.heap.size (fun k_ => some k_ ≠ (s_.1 : Value).ownBlock ∧ some k_ ≠ (s_.2.2.1 : Value).ownBlock ∧ some k_ ≠ (.slice Ao41 t476.length co41 : Value).ownBlock ∧ some k_ ≠ (.slice Ao47 t504.length co47 : Value).ownBlock ∧ some k_ ≠ (.slice Ao56 t506.length co56 : Value).ownBlock ∧ some k_ ≠ (.slice Ao65 t489.length co65 : Value).ownBlock) s_.2.1 t514) ∧ (Kd.R (Kd.int .i64) 3 w' w.heap.size (fun k_ => some k_ ≠ (s_.1 : Value).ownBlock ∧ some k_ ≠ (s_.2.1 : Value).ownBlock ∧ some k_ ≠ (.slice Ao41 t476.length co41 : Value).ownBlock ∧ some k_ ≠ (.slice Ao47 t504.length co47 : Value).ownBlock ∧ some k_ ≠ (.slice Ao56 t506.length co56 : Value).ownBlock ∧ some k_ ≠ (.slice Ao65 t489.length co65 : Value).ownBlock) s_.2.2.1 t517) ∧ (Kd.R (Kd.int .i64) 3 w' w.heap.size (fun k_ => some k_ ≠ (s_.1 : Value).ownBlock ∧ some k_ ≠ (s_.2.1 : Value).ownBlock ∧ some k_ ≠ (s_.2.2.1 : Value).ownBlock ∧ some k_ ≠ (.slice Ao47 t504.length co47 : Value).ownBlock ∧ some k_ ≠ (.slice Ao56 t506.length co56 : Value).ownBlock ∧ some k_ ≠ (.slice Ao65 t489.length co65 : Value).ownBlock) (.slice Ao41 t476.length co41) t476) ∧ (Kd.R (Kd.int .i64) 3 w' w.heap.size (fun k_ => some k_ ≠ (s_.1 : Value).ownBlock ∧ some k_ ≠ (s_.2.1 : Value).ownBlock ∧ some k_ ≠ (s_.2.2.1 : Value).ownBlock ∧ some k_ ≠ (.slice Ao41 t476.length co41 : Value).ownBlock ∧ some k_ ≠ (.slice Ao56 t506.length co56 : Value).ownBlock ∧ some k_ ≠ (.slice Ao65 t489.length co65 : Value).ownBlock) (.slice Ao47 t504.length co47) t504) ∧ (Kd.R (Kd.int .i64) 3 w' w.heap.size (fun k_ => some k_ ≠ (s_.1 : Value).ownBlock ∧ some k_ ≠ (s_.2.1 : Value).ownBlock ∧ some k_ ≠ (s_.2.2.1 : Value).ownBlock ∧ some k_ ≠ (.slice Ao41 t476.length co41 : Value).ownBlock ∧ some k_ ≠ (.slice Ao47 t504.length co47 : Value).ownBlock ∧ some k_ ≠ (.slice Ao65 t489.length co65 : Value).ownBlock) (.slice Ao56 t506.length co56) t506) ∧ (Kd.R (Kd.int .i64) 3 w' w.heap.size (fun k_ => some k_ ≠ (s_.1 : Value).ownBlock ∧ some k_ ≠ (s_.2.1 : Value).ownBlock ∧ some k_ ≠ (s_.2.2.1 : Value).ownBlock ∧ some k_ ≠ (.slice Ao41 t476.length co41 : Value).ownBlock ∧ some k_ ≠ (.slice Ao47 t504.length co47 : Value).ownBlock ∧ some k_ ≠ (.slice Ao56 t506.length co56 : Value).ownBlock) (.slice Ao65 t489.length co65) t509) ∧ (w'.heap[gb466]? = some (.cells #[.slice A0_0 l0_0.length c0_0] 24 (0, 0))) ∧ (w'.heap[gb467]? = some (.cells #[.slice A1_0 l1_0.length c1_0] 24 (0, 0))) ∧ (w'.heap[gb480]? = some (.cells #[.slice Ao41 t476.length co41] 27 (0, 0))) ∧ (w'.heap[gb484]? = some (.cells #[.slice Ao47 t504.length co47] 27 (0, 0))) ∧ (w'.heap[gb488]? = some (.cells #[.slice Ao56 t506.length co56] 27 (0, 0))) ∧ (w'.heap[gb493]? = some (.cells #[.slice Ao65 t489.length co65] 27 (0, 0))) ∧ (w'.heap[s_.2.2.2]? = some (.cells #[.slice none 0 0] 27 (0, 0))) ∧ (w.heap.size ≤ s_.2.2.2) ∧ (w.heap.size ≤ s_.2.2.2) ∧ (gb466 ≠ s_.2.2.2) ∧ (s_.2.2.2 ≠ gb466) ∧ (gb467 ≠ s_.2.2.2) ∧ (s_.2.2.2 ≠ gb467) ∧ (gb480 ≠ s_.2.2.2) ∧ (s_.2.2.2 ≠ gb480) ∧ (gb484 ≠ s_.2.2.2) ∧ (s_.2.2.2 ≠ gb484) ∧ (gb488 ≠ s_.2.2.2) ∧ (s_.2.2.2 ≠ gb488) ∧ (gb493 ≠ s_.2.2.2) ∧ (s_.2.2.2 ≠ gb493) ∧ (Below w.heap.size w w')) ?_ ?_
             rotate_left
             ·intro hCont
              refine two_ (i := 1) (j := 8) (Ni := some 96) (Nj := some 15) #[Y,Y,Y,Z,Z,Z,Z,Z,Z,Z,Z] #[Y,Z,Y,Z,Z,Z,Z,Z,Y,Z,Z] rfl rfl rfl rfl (two_of HT_.out (by kernel_rfl)) (by decide) (by decide) (fun K hK => ?_) (fun K hK => ?_)
              ·skip
               refine gm Try.func16 #[.agg #[.slice A0_0 l0_0.length c0_0]] ?_
               with_reducible refine (laws_toSemigroup.calls kj106 _ _ l0_0 t511 _ ?side1 ?side2 A170.out).mono ?_
               (case side1 => exact co (Kd.C_below HR0_0.out HB.out))
               (case side2 => exact HC0_0.out)
               rintro e w184 ⟨v512, rfl, ho0, hb⟩
               refine ⟨_, rfl, ?_⟩
               have HO513 := Aside0.mk (Kd.R_lower (Kd.R_new' (Kd.R_new' (Kd.R_new' (Kd.R_new' ho0 (Kd.R_lt (ro HO_481000.out))) (Kd.R_lt (ro HO_485000.out))) (Kd.R_lt (ro HO_489000.out))) (Kd.R_lt (ro HO_494000.out))) (below_size bw))
               replace HO_481000 := Aside0.mk (Kd.R_elder' (ro HO_481000.out) (Kd.R_base ho0) hb)
               replace HO_485000 := Aside0.mk (Kd.R_elder' (ro HO_485000.out) (Kd.R_base ho0) hb)
               replace HO_489000 := Aside0.mk (Kd.R_elder' (ro HO_489000.out) (Kd.R_base ho0) hb)
               replace HO_494000 := Aside0.mk (Kd.R_elder' (ro HO_494000.out) (Kd.R_base ho0) hb)
               replace BK466 := Aside0.mk (blk_below (g := gb466) (o := .cells #[.slice A0_0 l0_0.length c0_0] 24 (0, 0)) (bo BK466.out) hb)
               replace BK467 := Aside0.mk (blk_below (g := gb467) (o := .cells #[.slice A1_0 l1_0.length c1_0] 24 (0, 0)) (bo BK467.out) hb)
               replace BK480 := Aside0.mk (blk_below (g := gb480) (o := .cells #[.slice Ao41 t476.length co41] 27 (0, 0)) (bo BK480.out) hb)
               replace BK484 := Aside0.mk (blk_below (g := gb484) (o := .cells #[.slice Ao47 t504.length co47] 27 (0, 0)) (bo BK484.out) hb)
               replace BK488 := Aside0.mk (blk_below (g := gb488) (o := .cells #[.slice Ao56 t506.length co56] 27 (0, 0)) (bo BK488.out) hb)
               replace BK493 := Aside0.mk (blk_below (g := gb493) (o := .cells #[.slice Ao65 t489.length co65] 27 (0, 0)) (bo BK493.out) hb)
               replace HB := Aside0.mk (below_step bw hb)
               clear hb ho0
               refine hK.out _ _ ⟨(blk_cell BK466.out 0).trans rfl, (blk_cell BK467.out 0).trans rfl⟩ (fun hHeld => ?_)
               clear hK K
               refine norm_ (a' := ?_) ?_ ?_
               rotate_left
               ·show Act.put _ (some 96) _ = _
                simp only [Act.put, qa, qb, qc, i64_w, i32_w]
                rfl
               refine two_ (i := 3) (j := 8) (Ni := some 98) (Nj := some 15) #[Y,Y,Y,Y,Z,Z,Z,Z,Z,Z,Z] #[Y,Y,Y,Z,Z,Z,Z,Z,Y,Z,Z] rfl rfl rfl rfl (two_of HT_.out (by kernel_rfl)) (by decide) (by decide) (fun K hK => ?_) (fun K hK => ?_)
               ·skip
                refine gm Try.func16 #[.agg #[.slice A1_0 l1_0.length c1_0]] ?_
                with_reducible refine (laws_toSemigroup.calls kj106 _ _ l1_0 t514 _ ?side1 ?side2 A171.out).mono ?_
                (case side1 => exact co (Kd.C_below HR1_0.out HB.out))
                (case side2 => exact HC1_0.out)
                rintro e w185 ⟨v515, rfl, ho0, hb⟩
                refine ⟨_, rfl, ?_⟩
                have HO516 := Aside0.mk (Kd.R_lower (Kd.R_new' (Kd.R_new' (Kd.R_new' (Kd.R_new' (Kd.R_new' ho0 (Kd.R_lt (ro HO_481000.out))) (Kd.R_lt (ro HO_485000.out))) (Kd.R_lt (ro HO_489000.out))) (Kd.R_lt (ro HO_494000.out))) (Kd.R_lt (ro HO513.out))) (below_size bw))
                replace HO_481000 := Aside0.mk (Kd.R_elder' (ro HO_481000.out) (Kd.R_base ho0) hb)
                replace HO_485000 := Aside0.mk (Kd.R_elder' (ro HO_485000.out) (Kd.R_base ho0) hb)
                replace HO_489000 := Aside0.mk (Kd.R_elder' (ro HO_489000.out) (Kd.R_base ho0) hb)
                replace HO_494000 := Aside0.mk (Kd.R_elder' (ro HO_494000.out) (Kd.R_base ho0) hb)
                replace HO513 := Aside0.mk (Kd.R_elder' (ro HO513.out) (Kd.R_base ho0) hb)
                replace BK466 := Aside0.mk (blk_below (g := gb466) (o := .cells #[.slice A0_0 l0_0.length c0_0] 24 (0, 0)) (bo BK466.out) hb)
                replace BK467 := Aside0.mk (blk_below (g := gb467) (o := .cells #[.slice A1_0 l1_0.length c1_0] 24 (0, 0)) (bo BK467.out) hb)
                replace BK480 := Aside0.mk (blk_below (g := gb480) (o := .cells #[.slice Ao41 t476.length co41] 27 (0, 0)) (bo BK480.out) hb)
                replace BK484 := Aside0.mk (blk_below (g := gb484) (o := .cells #[.slice Ao47 t504.length co47] 27 (0, 0)) (bo BK484.out) hb)
                replace BK488 := Aside0.mk (blk_below (g := gb488) (o := .cells #[.slice Ao56 t506.length co56] 27 (0, 0)) (bo BK488.out) hb)
                replace BK493 := Aside0.mk (blk_below (g := gb493) (o := .cells #[.slice Ao65 t489.length co65] 27 (0, 0)) (bo BK493.out) hb)
                replace HB := Aside0.mk (below_step bw hb)
                clear hb ho0
                obtain ⟨Ao186, co186, eo186⟩ := Kd.R_slice HO513.out
                (first | subst eo186 | (injection eo186 with f1_ f2_ f3_; have f4_ := f1_.symm; have f5_ := f3_.symm; clear f1_ f2_ f3_; subst f4_; subst f5_))
                obtain ⟨Ao187, co187, eo187⟩ := Kd.R_slice HO516.out
                (first | subst eo187 | (injection eo187 with f1_ f2_ f3_; have f4_ := f1_.symm; have f5_ := f3_.symm; clear f1_ f2_ f3_; subst f4_; subst f5_))
                refine hK.out _ _ ⟨(blk_cell BK466.out 0).trans rfl, (blk_cell BK467.out 0).trans rfl⟩ (fun hHeld => ?_)
                clear hK K
                refine norm_ (a' := ?_) ?_ ?_
                rotate_left
                ·show Act.put _ (some 98) _ = _
                 simp only [Act.put, qa, qb, qc, i64_w, i32_w]
                 rfl
                refine two_ (i := 4) (j := 8) (Ni := some 99) (Nj := some 15) #[Y,Y,Y,Y,Y,Z,Z,Z,Z,Z,Z] #[Y,Y,Y,Y,Z,Z,Z,Z,Y,Z,Z] rfl rfl rfl rfl (two_of HT_.out (by kernel_rfl)) (by decide) (by decide) (fun K hK => ?_) (fun K hK => ?_)
                ·skip
                 refine gm Try.func56 #[.agg #[.slice Ao186 t511.length co186], .agg #[.slice Ao187 t514.length co187]] ?_
                 with_reducible refine (impl_AddOf.calls kj106 _ _ t511 _ _ t514 t517 t520 _ ?side1 ?side2 ?side3 ?side4 A172.out).mono ?_
                 (case side1 => exact co (Kd.R_reads' HO513.out).2.2)
                 (case side2 => exact (Kd.R_reads' HO513.out).2.1)
                 (case side3 => exact co (Kd.R_reads' HO516.out).2.2)
                 (case side4 => exact (Kd.R_reads' HO516.out).2.1)
                 rintro e w188 ⟨v518, rfl, ho0, hb⟩
                 refine ⟨_, rfl, ?_⟩
                 have HO519 := Aside0.mk (Kd.R_lower (Kd.R_new' (Kd.R_new' (Kd.R_new' (Kd.R_new' (Kd.R_new' (Kd.R_new' ho0 (Kd.R_lt (ro HO_481000.out))) (Kd.R_lt (ro HO_485000.out))) (Kd.R_lt (ro HO_489000.out))) (Kd.R_lt (ro HO_494000.out))) (Kd.R_lt (ro HO513.out))) (Kd.R_lt (ro HO516.out))) (below_size bw))
                 replace HO_481000 := Aside0.mk (Kd.R_elder' (ro HO_481000.out) (Kd.R_base ho0) hb)
                 replace HO_485000 := Aside0.mk (Kd.R_elder' (ro HO_485000.out) (Kd.R_base ho0) hb)
                 replace HO_489000 := Aside0.mk (Kd.R_elder' (ro HO_489000.out) (Kd.R_base ho0) hb)
                 replace HO_494000 := Aside0.mk (Kd.R_elder' (ro HO_494000.out) (Kd.R_base ho0) hb)
                 replace HO513 := Aside0.mk (Kd.R_elder' (ro HO513.out) (Kd.R_base ho0) hb)
                 replace HO516 := Aside0.mk (Kd.R_elder' (ro HO516.out) (Kd.R_base ho0) hb)
                 replace BK466 := Aside0.mk (blk_below (g := gb466) (o := .cells #[.slice A0_0 l0_0.length c0_0] 24 (0, 0)) (bo BK466.out) hb)
                 replace BK467 := Aside0.mk (blk_below (g := gb467) (o := .cells #[.slice A1_0 l1_0.length c1_0] 24 (0, 0)) (bo BK467.out) hb)
                 replace BK480 := Aside0.mk (blk_below (g := gb480) (o := .cells #[.slice Ao41 t476.length co41] 27 (0, 0)) (bo BK480.out) hb)
                 replace BK484 := Aside0.mk (blk_below (g := gb484) (o := .cells #[.slice Ao47 t504.length co47] 27 (0, 0)) (bo BK484.out) hb)
                 replace BK488 := Aside0.mk (blk_below (g := gb488) (o := .cells #[.slice Ao56 t506.length co56] 27 (0, 0)) (bo BK488.out) hb)
                 replace BK493 := Aside0.mk (blk_below (g := gb493) (o := .cells #[.slice Ao65 t489.length co65] 27 (0, 0)) (bo BK493.out) hb)
                 replace HB := Aside0.mk (below_step bw hb)
                 clear hb ho0
                 refine hK.out _ _ ⟨(blk_cell BK466.out 0).trans rfl, (blk_cell BK467.out 0).trans rfl⟩ (fun hHeld => ?_)
                 clear hK K
                 refine norm_ (a' := ?_) ?_ ?_
                 rotate_left
                 ·show Act.put _ (some 99) _ = _
                  simp only [Act.put, qa, qb, qc, i64_w, i32_w]
                  rfl
                 refine pa 5 (some 94) #[Y,Y,Y,Y,Y,Y,Z,Z,Z,Z,Z] HT_ ?_
                 refine pa 6 (some 100) #[Y,Y,Y,Y,Y,Y,Y,Z,Z,Z,Z] HT_ ?_
                 refine pa 7 (some 101) #[Y,Y,Y,Y,Y,Y,Y,Y,Z,Z,Z] HT_ ?_
                 refine oa 8 (some 15) #[Y,Y,Y,Y,Y,Y,Y,Y,Y,Z,Z] HT_ (fun K hK => ?_)
                 refine box_step ?hg (N := 15) ?hd (cs := #[.slice none 0 0]) (t := 27) ?hr ?_; (case hd => rfl); (case hg => rfl); (case hr => first | (go_simp; done) | (go_simp; rfl))
                 intro gb521 hg w189 hbox hb
                 replace HO_481000 := Aside0.mk (Kd.R_below (ro HO_481000.out) hb)
                 replace HO_485000 := Aside0.mk (Kd.R_below (ro HO_485000.out) hb)
                 replace HO_489000 := Aside0.mk (Kd.R_below (ro HO_489000.out) hb)
                 replace HO_494000 := Aside0.mk (Kd.R_below (ro HO_494000.out) hb)
                 replace HO513 := Aside0.mk (Kd.R_below (ro HO513.out) hb)
                 replace HO516 := Aside0.mk (Kd.R_below (ro HO516.out) hb)
                 replace HO519 := Aside0.mk (Kd.R_below (ro HO519.out) hb)
                 have BK521 := Aside0.mk (hbox)
                 have GW521 := Aside0.mk (gs hg : w.heap.size ≤ gb521)
                 have GE521 := Aside0.mk (gs hg : w.heap.size ≤ gb521)
                 replace HB := Aside0.mk (below_step bw hb)
                 have NB466_521 := Aside0.mk ((by rw [hg]; exact Nat.ne_of_lt (blk_lt (g := gb466) (o := .cells #[.slice A0_0 l0_0.length c0_0] 24 (0, 0)) (bo BK466.out)) : gb466 ≠ gb521))
                 have NB521_466 := Aside0.mk ((by rw [hg]; exact Nat.ne_of_gt (blk_lt (g := gb466) (o := .cells #[.slice A0_0 l0_0.length c0_0] 24 (0, 0)) (bo BK466.out)) : gb521 ≠ gb466))
                 replace BK466 := Aside0.mk (blk_below (g := gb466) (o := .cells #[.slice A0_0 l0_0.length c0_0] 24 (0, 0)) (bo BK466.out) hb)
                 have NB467_521 := Aside0.mk ((by rw [hg]; exact Nat.ne_of_lt (blk_lt (g := gb467) (o := .cells #[.slice A1_0 l1_0.length c1_0] 24 (0, 0)) (bo BK467.out)) : gb467 ≠ gb521))
                 have NB521_467 := Aside0.mk ((by rw [hg]; exact Nat.ne_of_gt (blk_lt (g := gb467) (o := .cells #[.slice A1_0 l1_0.length c1_0] 24 (0, 0)) (bo BK467.out)) : gb521 ≠ gb467))
                 replace BK467 := Aside0.mk (blk_below (g := gb467) (o := .cells #[.slice A1_0 l1_0.length c1_0] 24 (0, 0)) (bo BK467.out) hb)
                 have NB480_521 := Aside0.mk ((by rw [hg]; exact Nat.ne_of_lt (blk_lt (g := gb480) (o := .cells #[.slice Ao41 t476.length co41] 27 (0, 0)) (bo BK480.out)) : gb480 ≠ gb521))
                 have NB521_480 := Aside0.mk ((by rw [hg]; exact Nat.ne_of_gt (blk_lt (g := gb480) (o := .cells #[.slice Ao41 t476.length co41] 27 (0, 0)) (bo BK480.out)) : gb521 ≠ gb480))
                 replace BK480 := Aside0.mk (blk_below (g := gb480) (o := .cells #[.slice Ao41 t476.length co41] 27 (0, 0)) (bo BK480.out) hb)
                 have NB484_521 := Aside0.mk ((by rw [hg]; exact Nat.ne_of_lt (blk_lt (g := gb484) (o := .cells #[.slice Ao47 t504.length co47] 27 (0, 0)) (bo BK484.out)) : gb484 ≠ gb521))
                 have NB521_484 := Aside0.mk ((by rw [hg]; exact Nat.ne_of_gt (blk_lt (g := gb484) (o := .cells #[.slice Ao47 t504.length co47] 27 (0, 0)) (bo BK484.out)) : gb521 ≠ gb484))
                 replace BK484 := Aside0.mk (blk_below (g := gb484) (o := .cells #[.slice Ao47 t504.length co47] 27 (0, 0)) (bo BK484.out) hb)
                 have NB488_521 := Aside0.mk ((by rw [hg]; exact Nat.ne_of_lt (blk_lt (g := gb488) (o := .cells #[.slice Ao56 t506.length co56] 27 (0, 0)) (bo BK488.out)) : gb488 ≠ gb521))
                 have NB521_488 := Aside0.mk ((by rw [hg]; exact Nat.ne_of_gt (blk_lt (g := gb488) (o := .cells #[.slice Ao56 t506.length co56] 27 (0, 0)) (bo BK488.out)) : gb521 ≠ gb488))
                 replace BK488 := Aside0.mk (blk_below (g := gb488) (o := .cells #[.slice Ao56 t506.length co56] 27 (0, 0)) (bo BK488.out) hb)
                 have NB493_521 := Aside0.mk ((by rw [hg]; exact Nat.ne_of_lt (blk_lt (g := gb493) (o := .cells #[.slice Ao65 t489.length co65] 27 (0, 0)) (bo BK493.out)) : gb493 ≠ gb521))
                 have NB521_493 := Aside0.mk ((by rw [hg]; exact Nat.ne_of_gt (blk_lt (g := gb493) (o := .cells #[.slice Ao65 t489.length co65] 27 (0, 0)) (bo BK493.out)) : gb521 ≠ gb493))
                 replace BK493 := Aside0.mk (blk_below (g := gb493) (o := .cells #[.slice Ao65 t489.length co65] 27 (0, 0)) (bo BK493.out) hb)
                 clear hb hbox hg
                 refine hK.out _ _ ⟨(blk_cell BK466.out 0).trans rfl, (blk_cell BK467.out 0).trans rfl⟩ (fun hHeld => ?_)
                 clear hK K
                 refine norm_ (a' := ?_) ?_ ?_
                 rotate_left
                 ·show Act.put _ (some 15) _ = _
                  simp only [Act.put, qa, qb, qc, i64_w, i32_w]
                  rfl
                 exact norm_ (by simp only [putAll, Act.put, List.setIfInBounds_toArray, List.set_cons_zero, List.set_cons_succ]) (hCont (.slice Ao186 t511.length co186, .slice Ao187 t514.length co187, v518, gb521) _ ⟨hHeld, (by (with_reducible repeat (first | apply Kd.R_alloc | apply Kd.R_drewN | apply Kd.R_drew)); exact Kd.R_mono HO513.out (fun _ hk => ⟨hk.1.2, ⟨hk.2, ⟨hk.1.1.1.1.1.2, ⟨hk.1.1.1.1.2, ⟨hk.1.1.1.2, hk.1.1.2⟩⟩⟩⟩⟩)), (by (with_reducible repeat (first | apply Kd.R_alloc | apply Kd.R_drewN | apply Kd.R_drew)); exact Kd.R_mono HO516.out (fun _ hk => ⟨hk.1.2, ⟨hk.2, ⟨hk.1.1.1.1.1.2, ⟨hk.1.1.1.1.2, ⟨hk.1.1.1.2, hk.1.1.2⟩⟩⟩⟩⟩)), (by (with_reducible repeat (first | apply Kd.R_alloc | apply Kd.R_drewN | apply Kd.R_drew)); exact Kd.R_mono HO519.out (fun _ hk => ⟨hk.1.2, ⟨hk.2, ⟨hk.1.1.1.1.1.2, ⟨hk.1.1.1.1.2, ⟨hk.1.1.1.2, hk.1.1.2⟩⟩⟩⟩⟩)), (by (with_reducible repeat (first | apply Kd.R_alloc | apply Kd.R_drewN | apply Kd.R_drew)); exact Kd.R_mono HO_481000.out (fun _ hk => ⟨hk.1.1.2, ⟨hk.1.2, ⟨hk.2, ⟨hk.1.1.1.1, ⟨hk.1.1.1.2.1, hk.1.1.1.2.2⟩⟩⟩⟩⟩)), (by (with_reducible repeat (first | apply Kd.R_alloc | apply Kd.R_drewN | apply Kd.R_drew)); exact Kd.R_mono HO_485000.out (fun _ hk => ⟨hk.1.1.2, ⟨hk.1.2, ⟨hk.2, ⟨hk.1.1.1.1, ⟨hk.1.1.1.2.1, hk.1.1.1.2.2⟩⟩⟩⟩⟩)), (by (with_reducible repeat (first | apply Kd.R_alloc | apply Kd.R_drewN | apply Kd.R_drew)); exact Kd.R_mono HO_489000.out (fun _ hk => ⟨hk.1.1.2, ⟨hk.1.2, ⟨hk.2, ⟨hk.1.1.1.1, ⟨hk.1.1.1.2.1, hk.1.1.1.2.2⟩⟩⟩⟩⟩)), (by (with_reducible repeat (first | apply Kd.R_alloc | apply Kd.R_drewN | apply Kd.R_drew)); exact Kd.R_mono HO_494000.out (fun _ hk => ⟨hk.1.1.2, ⟨hk.1.2, ⟨hk.2, ⟨hk.1.1.1.1, ⟨hk.1.1.1.2.1, hk.1.1.1.2.2⟩⟩⟩⟩⟩)), (bo BK466.out), (bo BK467.out), (bo BK480.out), (bo BK484.out), (bo BK488.out), (bo BK493.out), (bo BK521.out), GW521.out, GE521.out, NB466_521.out, NB521_466.out, NB467_521.out, NB521_467.out, NB480_521.out, NB521_480.out, NB484_521.out, NB521_484.out, NB488_521.out, NB521_488.out, NB493_521.out, NB521_493.out, bw⟩)
                ·skip
                 refine box_step ?hg (N := 15) ?hd (cs := #[.slice none 0 0]) (t := 27) ?hr ?_; (case hd => rfl); (case hg => rfl); (case hr => first | (go_simp; done) | (go_simp; rfl))
                 intro gb521 hg w186 hbox hb
                 replace HO_481000 := Aside0.mk (Kd.R_below (ro HO_481000.out) hb)
                 replace HO_485000 := Aside0.mk (Kd.R_below (ro HO_485000.out) hb)
                 replace HO_489000 := Aside0.mk (Kd.R_below (ro HO_489000.out) hb)
                 replace HO_494000 := Aside0.mk (Kd.R_below (ro HO_494000.out) hb)
                 replace HO513 := Aside0.mk (Kd.R_below (ro HO513.out) hb)
                 replace HO516 := Aside0.mk (Kd.R_below (ro HO516.out) hb)
                 have BK521 := Aside0.mk (hbox)
                 have GW521 := Aside0.mk (gs hg : w.heap.size ≤ gb521)
                 have GE521 := Aside0.mk (gs hg : w.heap.size ≤ gb521)
                 replace HB := Aside0.mk (below_step bw hb)
                 have NB466_521 := Aside0.mk ((by rw [hg]; exact Nat.ne_of_lt (blk_lt (g := gb466) (o := .cells #[.slice A0_0 l0_0.length c0_0] 24 (0, 0)) (bo BK466.out)) : gb466 ≠ gb521))
                 have NB521_466 := Aside0.mk ((by rw [hg]; exact Nat.ne_of_gt (blk_lt (g := gb466) (o := .cells #[.slice A0_0 l0_0.length c0_0] 24 (0, 0)) (bo BK466.out)) : gb521 ≠ gb466))
                 replace BK466 := Aside0.mk (blk_below (g := gb466) (o := .cells #[.slice A0_0 l0_0.length c0_0] 24 (0, 0)) (bo BK466.out) hb)
                 have NB467_521 := Aside0.mk ((by rw [hg]; exact Nat.ne_of_lt (blk_lt (g := gb467) (o := .cells #[.slice A1_0 l1_0.length c1_0] 24 (0, 0)) (bo BK467.out)) : gb467 ≠ gb521))
                 have NB521_467 := Aside0.mk ((by rw [hg]; exact Nat.ne_of_gt (blk_lt (g := gb467) (o := .cells #[.slice A1_0 l1_0.length c1_0] 24 (0, 0)) (bo BK467.out)) : gb521 ≠ gb467))
                 replace BK467 := Aside0.mk (blk_below (g := gb467) (o := .cells #[.slice A1_0 l1_0.length c1_0] 24 (0, 0)) (bo BK467.out) hb)
                 have NB480_521 := Aside0.mk ((by rw [hg]; exact Nat.ne_of_lt (blk_lt (g := gb480) (o := .cells #[.slice Ao41 t476.length co41] 27 (0, 0)) (bo BK480.out)) : gb480 ≠ gb521))
                 have NB521_480 := Aside0.mk ((by rw [hg]; exact Nat.ne_of_gt (blk_lt (g := gb480) (o := .cells #[.slice Ao41 t476.length co41] 27 (0, 0)) (bo BK480.out)) : gb521 ≠ gb480))
                 replace BK480 := Aside0.mk (blk_below (g := gb480) (o := .cells #[.slice Ao41 t476.length co41] 27 (0, 0)) (bo BK480.out) hb)
                 have NB484_521 := Aside0.mk ((by rw [hg]; exact Nat.ne_of_lt (blk_lt (g := gb484) (o := .cells #[.slice Ao47 t504.length co47] 27 (0, 0)) (bo BK484.out)) : gb484 ≠ gb521))
                 have NB521_484 := Aside0.mk ((by rw [hg]; exact Nat.ne_of_gt (blk_lt (g := gb484) (o := .cells #[.slice Ao47 t504.length co47] 27 (0, 0)) (bo BK484.out)) : gb521 ≠ gb484))
                 replace BK484 := Aside0.mk (blk_below (g := gb484) (o := .cells #[.slice Ao47 t504.length co47] 27 (0, 0)) (bo BK484.out) hb)
                 have NB488_521 := Aside0.mk ((by rw [hg]; exact Nat.ne_of_lt (blk_lt (g := gb488) (o := .cells #[.slice Ao56 t506.length co56] 27 (0, 0)) (bo BK488.out)) : gb488 ≠ gb521))
                 have NB521_488 := Aside0.mk ((by rw [hg]; exact Nat.ne_of_gt (blk_lt (g := gb488) (o := .cells #[.slice Ao56 t506.length co56] 27 (0, 0)) (bo BK488.out)) : gb521 ≠ gb488))
                 replace BK488 := Aside0.mk (blk_below (g := gb488) (o := .cells #[.slice Ao56 t506.length co56] 27 (0, 0)) (bo BK488.out) hb)
                 have NB493_521 := Aside0.mk ((by rw [hg]; exact Nat.ne_of_lt (blk_lt (g := gb493) (o := .cells #[.slice Ao65 t489.length co65] 27 (0, 0)) (bo BK493.out)) : gb493 ≠ gb521))
                 have NB521_493 := Aside0.mk ((by rw [hg]; exact Nat.ne_of_gt (blk_lt (g := gb493) (o := .cells #[.slice Ao65 t489.length co65] 27 (0, 0)) (bo BK493.out)) : gb521 ≠ gb493))
                 replace BK493 := Aside0.mk (blk_below (g := gb493) (o := .cells #[.slice Ao65 t489.length co65] 27 (0, 0)) (bo BK493.out) hb)
                 clear hb hbox hg
                 obtain ⟨Ao187, co187, eo187⟩ := Kd.R_slice HO513.out
                 (first | subst eo187 | (injection eo187 with f1_ f2_ f3_; have f4_ := f1_.symm; have f5_ := f3_.symm; clear f1_ f2_ f3_; subst f4_; subst f5_))
                 obtain ⟨Ao188, co188, eo188⟩ := Kd.R_slice HO516.out
                 (first | subst eo188 | (injection eo188 with f1_ f2_ f3_; have f4_ := f1_.symm; have f5_ := f3_.symm; clear f1_ f2_ f3_; subst f4_; subst f5_))
                 refine hK.out _ _ ⟨(blk_cell BK466.out 0).trans rfl, (blk_cell BK467.out 0).trans rfl⟩ (fun hHeld => ?_)
                 clear hK K
                 refine norm_ (a' := ?_) ?_ ?_
                 rotate_left
                 ·show Act.put _ (some 15) _ = _
                  simp only [Act.put, qa, qb, qc, i64_w, i32_w]
                  rfl
                 refine oa 4 (some 99) #[Y,Y,Y,Y,Y,Z,Z,Z,Y,Z,Z] HT_ (fun K hK => ?_)
                 refine gm Try.func56 #[.agg #[.slice Ao187 t511.length co187], .agg #[.slice Ao188 t514.length co188]] ?_
                 with_reducible refine (impl_AddOf.calls kj106 _ _ t511 _ _ t514 t517 t520 _ ?side1 ?side2 ?side3 ?side4 A172.out).mono ?_
                 (case side1 => exact co (Kd.R_reads' HO513.out).2.2)
                 (case side2 => exact (Kd.R_reads' HO513.out).2.1)
                 (case side3 => exact co (Kd.R_reads' HO516.out).2.2)
                 (case side4 => exact (Kd.R_reads' HO516.out).2.1)
                 rintro e w189 ⟨v518, rfl, ho0, hb⟩
                 refine ⟨_, rfl, ?_⟩
                 have HO519 := Aside0.mk (Kd.R_lower (Kd.R_new' (Kd.R_new' (Kd.R_new' (Kd.R_new' (Kd.R_new' (Kd.R_new' ho0 (Kd.R_lt (ro HO_481000.out))) (Kd.R_lt (ro HO_485000.out))) (Kd.R_lt (ro HO_489000.out))) (Kd.R_lt (ro HO_494000.out))) (Kd.R_lt (ro HO513.out))) (Kd.R_lt (ro HO516.out))) (below_size bw))
                 replace HO_481000 := Aside0.mk (Kd.R_elder' (ro HO_481000.out) (Kd.R_base ho0) hb)
                 replace HO_485000 := Aside0.mk (Kd.R_elder' (ro HO_485000.out) (Kd.R_base ho0) hb)
                 replace HO_489000 := Aside0.mk (Kd.R_elder' (ro HO_489000.out) (Kd.R_base ho0) hb)
                 replace HO_494000 := Aside0.mk (Kd.R_elder' (ro HO_494000.out) (Kd.R_base ho0) hb)
                 replace HO513 := Aside0.mk (Kd.R_elder' (ro HO513.out) (Kd.R_base ho0) hb)
                 replace HO516 := Aside0.mk (Kd.R_elder' (ro HO516.out) (Kd.R_base ho0) hb)
                 replace BK466 := Aside0.mk (blk_below (g := gb466) (o := .cells #[.slice A0_0 l0_0.length c0_0] 24 (0, 0)) (bo BK466.out) hb)
                 replace BK467 := Aside0.mk (blk_below (g := gb467) (o := .cells #[.slice A1_0 l1_0.length c1_0] 24 (0, 0)) (bo BK467.out) hb)
                 replace BK480 := Aside0.mk (blk_below (g := gb480) (o := .cells #[.slice Ao41 t476.length co41] 27 (0, 0)) (bo BK480.out) hb)
                 replace BK484 := Aside0.mk (blk_below (g := gb484) (o := .cells #[.slice Ao47 t504.length co47] 27 (0, 0)) (bo BK484.out) hb)
                 replace BK488 := Aside0.mk (blk_below (g := gb488) (o := .cells #[.slice Ao56 t506.length co56] 27 (0, 0)) (bo BK488.out) hb)
                 replace BK493 := Aside0.mk (blk_below (g := gb493) (o := .cells #[.slice Ao65 t489.length co65] 27 (0, 0)) (bo BK493.out) hb)
                 replace BK521 := Aside0.mk (blk_below (g := gb521) (o := .cells #[.slice none 0 0] 27 (0, 0)) (bo BK521.out) hb)
                 replace HB := Aside0.mk (below_step bw hb)
                 clear hb ho0
                 refine hK.out _ _ ⟨(blk_cell BK466.out 0).trans rfl, (blk_cell BK467.out 0).trans rfl⟩ (fun hHeld => ?_)
                 clear hK K
                 refine norm_ (a' := ?_) ?_ ?_
                 rotate_left
                 ·show Act.put _ (some 99) _ = _
                  simp only [Act.put, qa, qb, qc, i64_w, i32_w]
                  rfl
                 refine pa 5 (some 94) #[Y,Y,Y,Y,Y,Y,Z,Z,Y,Z,Z] HT_ ?_
                 refine pa 6 (some 100) #[Y,Y,Y,Y,Y,Y,Y,Z,Y,Z,Z] HT_ ?_
                 refine pa 7 (some 101) #[Y,Y,Y,Y,Y,Y,Y,Y,Y,Z,Z] HT_ ?_
                 exact norm_ (by simp only [putAll, Act.put, List.setIfInBounds_toArray, List.set_cons_zero, List.set_cons_succ]) (hCont (.slice Ao187 t511.length co187, .slice Ao188 t514.length co188, v518, gb521) _ ⟨hHeld, (by (with_reducible repeat (first | apply Kd.R_alloc | apply Kd.R_drewN | apply Kd.R_drew)); exact Kd.R_mono HO513.out (fun _ hk => ⟨hk.1.2, ⟨hk.2, ⟨hk.1.1.1.1.1.2, ⟨hk.1.1.1.1.2, ⟨hk.1.1.1.2, hk.1.1.2⟩⟩⟩⟩⟩)), (by (with_reducible repeat (first | apply Kd.R_alloc | apply Kd.R_drewN | apply Kd.R_drew)); exact Kd.R_mono HO516.out (fun _ hk => ⟨hk.1.2, ⟨hk.2, ⟨hk.1.1.1.1.1.2, ⟨hk.1.1.1.1.2, ⟨hk.1.1.1.2, hk.1.1.2⟩⟩⟩⟩⟩)), (by (with_reducible repeat (first | apply Kd.R_alloc | apply Kd.R_drewN | apply Kd.R_drew)); exact Kd.R_mono HO519.out (fun _ hk => ⟨hk.1.2, ⟨hk.2, ⟨hk.1.1.1.1.1.2, ⟨hk.1.1.1.1.2, ⟨hk.1.1.1.2, hk.1.1.2⟩⟩⟩⟩⟩)), (by (with_reducible repeat (first | apply Kd.R_alloc | apply Kd.R_drewN | apply Kd.R_drew)); exact Kd.R_mono HO_481000.out (fun _ hk => ⟨hk.1.1.2, ⟨hk.1.2, ⟨hk.2, ⟨hk.1.1.1.1, ⟨hk.1.1.1.2.1, hk.1.1.1.2.2⟩⟩⟩⟩⟩)), (by (with_reducible repeat (first | apply Kd.R_alloc | apply Kd.R_drewN | apply Kd.R_drew)); exact Kd.R_mono HO_485000.out (fun _ hk => ⟨hk.1.1.2, ⟨hk.1.2, ⟨hk.2, ⟨hk.1.1.1.1, ⟨hk.1.1.1.2.1, hk.1.1.1.2.2⟩⟩⟩⟩⟩)), (by (with_reducible repeat (first | apply Kd.R_alloc | apply Kd.R_drewN | apply Kd.R_drew)); exact Kd.R_mono HO_489000.out (fun _ hk => ⟨hk.1.1.2, ⟨hk.1.2, ⟨hk.2, ⟨hk.1.1.1.1, ⟨hk.1.1.1.2.1, hk.1.1.1.2.2⟩⟩⟩⟩⟩)), (by (with_reducible repeat (first | apply Kd.R_alloc | apply Kd.R_drewN | apply Kd.R_drew)); exact Kd.R_mono HO_494000.out (fun _ hk => ⟨hk.1.1.2, ⟨hk.1.2, ⟨hk.2, ⟨hk.1.1.1.1, ⟨hk.1.1.1.2.1, hk.1.1.1.2.2⟩⟩⟩⟩⟩)), (bo BK466.out), (bo BK467.out), (bo BK480.out), (bo BK484.out), (bo BK488.out), (bo BK493.out), (bo BK521.out), GW521.out, GE521.out, NB466_521.out, NB521_466.out, NB467_521.out, NB521_467.out, NB480_521.out, NB521_480.out, NB484_521.out, NB521_484.out, NB488_521.out, NB521_488.out, NB493_521.out, NB521_493.out, bw⟩)
               ·skip
                refine box_step ?hg (N := 15) ?hd (cs := #[.slice none 0 0]) (t := 27) ?hr ?_; (case hd => rfl); (case hg => rfl); (case hr => first | (go_simp; done) | (go_simp; rfl))
                intro gb521 hg w185 hbox hb
                replace HO_481000 := Aside0.mk (Kd.R_below (ro HO_481000.out) hb)
                replace HO_485000 := Aside0.mk (Kd.R_below (ro HO_485000.out) hb)
                replace HO_489000 := Aside0.mk (Kd.R_below (ro HO_489000.out) hb)
                replace HO_494000 := Aside0.mk (Kd.R_below (ro HO_494000.out) hb)
                replace HO513 := Aside0.mk (Kd.R_below (ro HO513.out) hb)
                have BK521 := Aside0.mk (hbox)
                have GW521 := Aside0.mk (gs hg : w.heap.size ≤ gb521)
                have GE521 := Aside0.mk (gs hg : w.heap.size ≤ gb521)
                replace HB := Aside0.mk (below_step bw hb)
                have NB466_521 := Aside0.mk ((by rw [hg]; exact Nat.ne_of_lt (blk_lt (g := gb466) (o := .cells #[.slice A0_0 l0_0.length c0_0] 24 (0, 0)) (bo BK466.out)) : gb466 ≠ gb521))
                have NB521_466 := Aside0.mk ((by rw [hg]; exact Nat.ne_of_gt (blk_lt (g := gb466) (o := .cells #[.slice A0_0 l0_0.length c0_0] 24 (0, 0)) (bo BK466.out)) : gb521 ≠ gb466))
                replace BK466 := Aside0.mk (blk_below (g := gb466) (o := .cells #[.slice A0_0 l0_0.length c0_0] 24 (0, 0)) (bo BK466.out) hb)
                have NB467_521 := Aside0.mk ((by rw [hg]; exact Nat.ne_of_lt (blk_lt (g := gb467) (o := .cells #[.slice A1_0 l1_0.length c1_0] 24 (0, 0)) (bo BK467.out)) : gb467 ≠ gb521))
                have NB521_467 := Aside0.mk ((by rw [hg]; exact Nat.ne_of_gt (blk_lt (g := gb467) (o := .cells #[.slice A1_0 l1_0.length c1_0] 24 (0, 0)) (bo BK467.out)) : gb521 ≠ gb467))
                replace BK467 := Aside0.mk (blk_below (g := gb467) (o := .cells #[.slice A1_0 l1_0.length c1_0] 24 (0, 0)) (bo BK467.out) hb)
                have NB480_521 := Aside0.mk ((by rw [hg]; exact Nat.ne_of_lt (blk_lt (g := gb480) (o := .cells #[.slice Ao41 t476.length co41] 27 (0, 0)) (bo BK480.out)) : gb480 ≠ gb521))
                have NB521_480 := Aside0.mk ((by rw [hg]; exact Nat.ne_of_gt (blk_lt (g := gb480) (o := .cells #[.slice Ao41 t476.length co41] 27 (0, 0)) (bo BK480.out)) : gb521 ≠ gb480))
                replace BK480 := Aside0.mk (blk_below (g := gb480) (o := .cells #[.slice Ao41 t476.length co41] 27 (0, 0)) (bo BK480.out) hb)
                have NB484_521 := Aside0.mk ((by rw [hg]; exact Nat.ne_of_lt (blk_lt (g := gb484) (o := .cells #[.slice Ao47 t504.length co47] 27 (0, 0)) (bo BK484.out)) : gb484 ≠ gb521))
                have NB521_484 := Aside0.mk ((by rw [hg]; exact Nat.ne_of_gt (blk_lt (g := gb484) (o := .cells #[.slice Ao47 t504.length co47] 27 (0, 0)) (bo BK484.out)) : gb521 ≠ gb484))
                replace BK484 := Aside0.mk (blk_below (g := gb484) (o := .cells #[.slice Ao47 t504.length co47] 27 (0, 0)) (bo BK484.out) hb)
                have NB488_521 := Aside0.mk ((by rw [hg]; exact Nat.ne_of_lt (blk_lt (g := gb488) (o := .cells #[.slice Ao56 t506.length co56] 27 (0, 0)) (bo BK488.out)) : gb488 ≠ gb521))
                have NB521_488 := Aside0.mk ((by rw [hg]; exact Nat.ne_of_gt (blk_lt (g := gb488) (o := .cells #[.slice Ao56 t506.length co56] 27 (0, 0)) (bo BK488.out)) : gb521 ≠ gb488))
                replace BK488 := Aside0.mk (blk_below (g := gb488) (o := .cells #[.slice Ao56 t506.length co56] 27 (0, 0)) (bo BK488.out) hb)
                have NB493_521 := Aside0.mk ((by rw [hg]; exact Nat.ne_of_lt (blk_lt (g := gb493) (o := .cells #[.slice Ao65 t489.length co65] 27 (0, 0)) (bo BK493.out)) : gb493 ≠ gb521))
                have NB521_493 := Aside0.mk ((by rw [hg]; exact Nat.ne_of_gt (blk_lt (g := gb493) (o := .cells #[.slice Ao65 t489.length co65] 27 (0, 0)) (bo BK493.out)) : gb521 ≠ gb493))
                replace BK493 := Aside0.mk (blk_below (g := gb493) (o := .cells #[.slice Ao65 t489.length co65] 27 (0, 0)) (bo BK493.out) hb)
                clear hb hbox hg
                refine hK.out _ _ ⟨(blk_cell BK466.out 0).trans rfl, (blk_cell BK467.out 0).trans rfl⟩ (fun hHeld => ?_)
                clear hK K
                refine norm_ (a' := ?_) ?_ ?_
                rotate_left
                ·show Act.put _ (some 15) _ = _
                 simp only [Act.put, qa, qb, qc, i64_w, i32_w]
                 rfl
                refine oa 3 (some 98) #[Y,Y,Y,Y,Z,Z,Z,Z,Y,Z,Z] HT_ (fun K hK => ?_)
                refine gm Try.func16 #[.agg #[.slice A1_0 l1_0.length c1_0]] ?_
                with_reducible refine (laws_toSemigroup.calls kj106 _ _ l1_0 t514 _ ?side1 ?side2 A171.out).mono ?_
                (case side1 => exact co (Kd.C_below HR1_0.out HB.out))
                (case side2 => exact HC1_0.out)
                rintro e w186 ⟨v515, rfl, ho0, hb⟩
                refine ⟨_, rfl, ?_⟩
                have HO516 := Aside0.mk (Kd.R_lower (Kd.R_new' (Kd.R_new' (Kd.R_new' (Kd.R_new' (Kd.R_new' ho0 (Kd.R_lt (ro HO_481000.out))) (Kd.R_lt (ro HO_485000.out))) (Kd.R_lt (ro HO_489000.out))) (Kd.R_lt (ro HO_494000.out))) (Kd.R_lt (ro HO513.out))) (below_size bw))
                replace HO_481000 := Aside0.mk (Kd.R_elder' (ro HO_481000.out) (Kd.R_base ho0) hb)
                replace HO_485000 := Aside0.mk (Kd.R_elder' (ro HO_485000.out) (Kd.R_base ho0) hb)
                replace HO_489000 := Aside0.mk (Kd.R_elder' (ro HO_489000.out) (Kd.R_base ho0) hb)
                replace HO_494000 := Aside0.mk (Kd.R_elder' (ro HO_494000.out) (Kd.R_base ho0) hb)
                replace HO513 := Aside0.mk (Kd.R_elder' (ro HO513.out) (Kd.R_base ho0) hb)
                replace BK466 := Aside0.mk (blk_below (g := gb466) (o := .cells #[.slice A0_0 l0_0.length c0_0] 24 (0, 0)) (bo BK466.out) hb)
                replace BK467 := Aside0.mk (blk_below (g := gb467) (o := .cells #[.slice A1_0 l1_0.length c1_0] 24 (0, 0)) (bo BK467.out) hb)
                replace BK480 := Aside0.mk (blk_below (g := gb480) (o := .cells #[.slice Ao41 t476.length co41] 27 (0, 0)) (bo BK480.out) hb)
                replace BK484 := Aside0.mk (blk_below (g := gb484) (o := .cells #[.slice Ao47 t504.length co47] 27 (0, 0)) (bo BK484.out) hb)
                replace BK488 := Aside0.mk (blk_below (g := gb488) (o := .cells #[.slice Ao56 t506.length co56] 27 (0, 0)) (bo BK488.out) hb)
                replace BK493 := Aside0.mk (blk_below (g := gb493) (o := .cells #[.slice Ao65 t489.length co65] 27 (0, 0)) (bo BK493.out) hb)
                replace BK521 := Aside0.mk (blk_below (g := gb521) (o := .cells #[.slice none 0 0] 27 (0, 0)) (bo BK521.out) hb)
                replace HB := Aside0.mk (below_step bw hb)
                clear hb ho0
                obtain ⟨Ao187, co187, eo187⟩ := Kd.R_slice HO513.out
                (first | subst eo187 | (injection eo187 with f1_ f2_ f3_; have f4_ := f1_.symm; have f5_ := f3_.symm; clear f1_ f2_ f3_; subst f4_; subst f5_))
                obtain ⟨Ao188, co188, eo188⟩ := Kd.R_slice HO516.out
                (first | subst eo188 | (injection eo188 with f1_ f2_ f3_; have f4_ := f1_.symm; have f5_ := f3_.symm; clear f1_ f2_ f3_; subst f4_; subst f5_))
                refine hK.out _ _ ⟨(blk_cell BK466.out 0).trans rfl, (blk_cell BK467.out 0).trans rfl⟩ (fun hHeld => ?_)
                clear hK K
                refine norm_ (a' := ?_) ?_ ?_
                rotate_left
                ·show Act.put _ (some 98) _ = _
                 simp only [Act.put, qa, qb, qc, i64_w, i32_w]
                 rfl
                refine oa 4 (some 99) #[Y,Y,Y,Y,Y,Z,Z,Z,Y,Z,Z] HT_ (fun K hK => ?_)
                refine gm Try.func56 #[.agg #[.slice Ao187 t511.length co187], .agg #[.slice Ao188 t514.length co188]] ?_
                with_reducible refine (impl_AddOf.calls kj106 _ _ t511 _ _ t514 t517 t520 _ ?side1 ?side2 ?side3 ?side4 A172.out).mono ?_
                (case side1 => exact co (Kd.R_reads' HO513.out).2.2)
                (case side2 => exact (Kd.R_reads' HO513.out).2.1)
                (case side3 => exact co (Kd.R_reads' HO516.out).2.2)
                (case side4 => exact (Kd.R_reads' HO516.out).2.1)
                rintro e w189 ⟨v518, rfl, ho0, hb⟩
                refine ⟨_, rfl, ?_⟩
                have HO519 := Aside0.mk (Kd.R_lower (Kd.R_new' (Kd.R_new' (Kd.R_new' (Kd.R_new' (Kd.R_new' (Kd.R_new' ho0 (Kd.R_lt (ro HO_481000.out))) (Kd.R_lt (ro HO_485000.out))) (Kd.R_lt (ro HO_489000.out))) (Kd.R_lt (ro HO_494000.out))) (Kd.R_lt (ro HO513.out))) (Kd.R_lt (ro HO516.out))) (below_size bw))
                replace HO_481000 := Aside0.mk (Kd.R_elder' (ro HO_481000.out) (Kd.R_base ho0) hb)
                replace HO_485000 := Aside0.mk (Kd.R_elder' (ro HO_485000.out) (Kd.R_base ho0) hb)
                replace HO_489000 := Aside0.mk (Kd.R_elder' (ro HO_489000.out) (Kd.R_base ho0) hb)
                replace HO_494000 := Aside0.mk (Kd.R_elder' (ro HO_494000.out) (Kd.R_base ho0) hb)
                replace HO513 := Aside0.mk (Kd.R_elder' (ro HO513.out) (Kd.R_base ho0) hb)
                replace HO516 := Aside0.mk (Kd.R_elder' (ro HO516.out) (Kd.R_base ho0) hb)
                replace BK466 := Aside0.mk (blk_below (g := gb466) (o := .cells #[.slice A0_0 l0_0.length c0_0] 24 (0, 0)) (bo BK466.out) hb)
                replace BK467 := Aside0.mk (blk_below (g := gb467) (o := .cells #[.slice A1_0 l1_0.length c1_0] 24 (0, 0)) (bo BK467.out) hb)
                replace BK480 := Aside0.mk (blk_below (g := gb480) (o := .cells #[.slice Ao41 t476.length co41] 27 (0, 0)) (bo BK480.out) hb)
                replace BK484 := Aside0.mk (blk_below (g := gb484) (o := .cells #[.slice Ao47 t504.length co47] 27 (0, 0)) (bo BK484.out) hb)
                replace BK488 := Aside0.mk (blk_below (g := gb488) (o := .cells #[.slice Ao56 t506.length co56] 27 (0, 0)) (bo BK488.out) hb)
                replace BK493 := Aside0.mk (blk_below (g := gb493) (o := .cells #[.slice Ao65 t489.length co65] 27 (0, 0)) (bo BK493.out) hb)
                replace BK521 := Aside0.mk (blk_below (g := gb521) (o := .cells #[.slice none 0 0] 27 (0, 0)) (bo BK521.out) hb)
                replace HB := Aside0.mk (below_step bw hb)
                clear hb ho0
                refine hK.out _ _ ⟨(blk_cell BK466.out 0).trans rfl, (blk_cell BK467.out 0).trans rfl⟩ (fun hHeld => ?_)
                clear hK K
                refine norm_ (a' := ?_) ?_ ?_
                rotate_left
                ·show Act.put _ (some 99) _ = _
                 simp only [Act.put, qa, qb, qc, i64_w, i32_w]
                 rfl
                refine pa 5 (some 94) #[Y,Y,Y,Y,Y,Y,Z,Z,Y,Z,Z] HT_ ?_
                refine pa 6 (some 100) #[Y,Y,Y,Y,Y,Y,Y,Z,Y,Z,Z] HT_ ?_
                refine pa 7 (some 101) #[Y,Y,Y,Y,Y,Y,Y,Y,Y,Z,Z] HT_ ?_
                exact norm_ (by simp only [putAll, Act.put, List.setIfInBounds_toArray, List.set_cons_zero, List.set_cons_succ]) (hCont (.slice Ao187 t511.length co187, .slice Ao188 t514.length co188, v518, gb521) _ ⟨hHeld, (by (with_reducible repeat (first | apply Kd.R_alloc | apply Kd.R_drewN | apply Kd.R_drew)); exact Kd.R_mono HO513.out (fun _ hk => ⟨hk.1.2, ⟨hk.2, ⟨hk.1.1.1.1.1.2, ⟨hk.1.1.1.1.2, ⟨hk.1.1.1.2, hk.1.1.2⟩⟩⟩⟩⟩)), (by (with_reducible repeat (first | apply Kd.R_alloc | apply Kd.R_drewN | apply Kd.R_drew)); exact Kd.R_mono HO516.out (fun _ hk => ⟨hk.1.2, ⟨hk.2, ⟨hk.1.1.1.1.1.2, ⟨hk.1.1.1.1.2, ⟨hk.1.1.1.2, hk.1.1.2⟩⟩⟩⟩⟩)), (by (with_reducible repeat (first | apply Kd.R_alloc | apply Kd.R_drewN | apply Kd.R_drew)); exact Kd.R_mono HO519.out (fun _ hk => ⟨hk.1.2, ⟨hk.2, ⟨hk.1.1.1.1.1.2, ⟨hk.1.1.1.1.2, ⟨hk.1.1.1.2, hk.1.1.2⟩⟩⟩⟩⟩)), (by (with_reducible repeat (first | apply Kd.R_alloc | apply Kd.R_drewN | apply Kd.R_drew)); exact Kd.R_mono HO_481000.out (fun _ hk => ⟨hk.1.1.2, ⟨hk.1.2, ⟨hk.2, ⟨hk.1.1.1.1, ⟨hk.1.1.1.2.1, hk.1.1.1.2.2⟩⟩⟩⟩⟩)), (by (with_reducible repeat (first | apply Kd.R_alloc | apply Kd.R_drewN | apply Kd.R_drew)); exact Kd.R_mono HO_485000.out (fun _ hk => ⟨hk.1.1.2, ⟨hk.1.2, ⟨hk.2, ⟨hk.1.1.1.1, ⟨hk.1.1.1.2.1, hk.1.1.1.2.2⟩⟩⟩⟩⟩)), (by (with_reducible repeat (first | apply Kd.R_alloc | apply Kd.R_drewN | apply Kd.R_drew)); exact Kd.R_mono HO_489000.out (fun _ hk => ⟨hk.1.1.2, ⟨hk.1.2, ⟨hk.2, ⟨hk.1.1.1.1, ⟨hk.1.1.1.2.1, hk.1.1.1.2.2⟩⟩⟩⟩⟩)), (by (with_reducible repeat (first | apply Kd.R_alloc | apply Kd.R_drewN | apply Kd.R_drew)); exact Kd.R_mono HO_494000.out (fun _ hk => ⟨hk.1.1.2, ⟨hk.1.2, ⟨hk.2, ⟨hk.1.1.1.1, ⟨hk.1.1.1.2.1, hk.1.1.1.2.2⟩⟩⟩⟩⟩)), (bo BK466.out), (bo BK467.out), (bo BK480.out), (bo BK484.out), (bo BK488.out), (bo BK493.out), (bo BK521.out), GW521.out, GE521.out, NB466_521.out, NB521_466.out, NB467_521.out, NB521_467.out, NB480_521.out, NB521_480.out, NB484_521.out, NB521_484.out, NB488_521.out, NB521_488.out, NB493_521.out, NB521_493.out, bw⟩)
              ·skip
               refine box_step ?hg (N := 15) ?hd (cs := #[.slice none 0 0]) (t := 27) ?hr ?_; (case hd => rfl); (case hg => rfl); (case hr => first | (go_simp; done) | (go_simp; rfl))
               intro gb521 hg w184 hbox hb
               replace HO_481000 := Aside0.mk (Kd.R_below (ro HO_481000.out) hb)
               replace HO_485000 := Aside0.mk (Kd.R_below (ro HO_485000.out) hb)
               replace HO_489000 := Aside0.mk (Kd.R_below (ro HO_489000.out) hb)
               replace HO_494000 := Aside0.mk (Kd.R_below (ro HO_494000.out) hb)
               have BK521 := Aside0.mk (hbox)
               have GW521 := Aside0.mk (gs hg : w.heap.size ≤ gb521)
               have GE521 := Aside0.mk (gs hg : w.heap.size ≤ gb521)
               replace HB := Aside0.mk (below_step bw hb)
               have NB466_521 := Aside0.mk ((by rw [hg]; exact Nat.ne_of_lt (blk_lt (g := gb466) (o := .cells #[.slice A0_0 l0_0.length c0_0] 24 (0, 0)) (bo BK466.out)) : gb466 ≠ gb521))
               have NB521_466 := Aside0.mk ((by rw [hg]; exact Nat.ne_of_gt (blk_lt (g := gb466) (o := .cells #[.slice A0_0 l0_0.length c0_0] 24 (0, 0)) (bo BK466.out)) : gb521 ≠ gb466))
               replace BK466 := Aside0.mk (blk_below (g := gb466) (o := .cells #[.slice A0_0 l0_0.length c0_0] 24 (0, 0)) (bo BK466.out) hb)
               have NB467_521 := Aside0.mk ((by rw [hg]; exact Nat.ne_of_lt (blk_lt (g := gb467) (o := .cells #[.slice A1_0 l1_0.length c1_0] 24 (0, 0)) (bo BK467.out)) : gb467 ≠ gb521))
               have NB521_467 := Aside0.mk ((by rw [hg]; exact Nat.ne_of_gt (blk_lt (g := gb467) (o := .cells #[.slice A1_0 l1_0.length c1_0] 24 (0, 0)) (bo BK467.out)) : gb521 ≠ gb467))
               replace BK467 := Aside0.mk (blk_below (g := gb467) (o := .cells #[.slice A1_0 l1_0.length c1_0] 24 (0, 0)) (bo BK467.out) hb)
               have NB480_521 := Aside0.mk ((by rw [hg]; exact Nat.ne_of_lt (blk_lt (g := gb480) (o := .cells #[.slice Ao41 t476.length co41] 27 (0, 0)) (bo BK480.out)) : gb480 ≠ gb521))
               have NB521_480 := Aside0.mk ((by rw [hg]; exact Nat.ne_of_gt (blk_lt (g := gb480) (o := .cells #[.slice Ao41 t476.length co41] 27 (0, 0)) (bo BK480.out)) : gb521 ≠ gb480))
               replace BK480 := Aside0.mk (blk_below (g := gb480) (o := .cells #[.slice Ao41 t476.length co41] 27 (0, 0)) (bo BK480.out) hb)
               have NB484_521 := Aside0.mk ((by rw [hg]; exact Nat.ne_of_lt (blk_lt (g := gb484) (o := .cells #[.slice Ao47 t504.length co47] 27 (0, 0)) (bo BK484.out)) : gb484 ≠ gb521))
               have NB521_484 := Aside0.mk ((by rw [hg]; exact Nat.ne_of_gt (blk_lt (g := gb484) (o := .cells #[.slice Ao47 t504.length co47] 27 (0, 0)) (bo BK484.out)) : gb521 ≠ gb484))
               replace BK484 := Aside0.mk (blk_below (g := gb484) (o := .cells #[.slice Ao47 t504.length co47] 27 (0, 0)) (bo BK484.out) hb)
               have NB488_521 := Aside0.mk ((by rw [hg]; exact Nat.ne_of_lt (blk_lt (g := gb488) (o := .cells #[.slice Ao56 t506.length co56] 27 (0, 0)) (bo BK488.out)) : gb488 ≠ gb521))
               have NB521_488 := Aside0.mk ((by rw [hg]; exact Nat.ne_of_gt (blk_lt (g := gb488) (o := .cells #[.slice Ao56 t506.length co56] 27 (0, 0)) (bo BK488.out)) : gb521 ≠ gb488))
               replace BK488 := Aside0.mk (blk_below (g := gb488) (o := .cells #[.slice Ao56 t506.length co56] 27 (0, 0)) (bo BK488.out) hb)
               have NB493_521 := Aside0.mk ((by rw [hg]; exact Nat.ne_of_lt (blk_lt (g := gb493) (o := .cells #[.slice Ao65 t489.length co65] 27 (0, 0)) (bo BK493.out)) : gb493 ≠ gb521))
               have NB521_493 := Aside0.mk ((by rw [hg]; exact Nat.ne_of_gt (blk_lt (g := gb493) (o := .cells #[.slice Ao65 t489.length co65] 27 (0, 0)) (bo BK493.out)) : gb521 ≠ gb493))
               replace BK493 := Aside0.mk (blk_below (g := gb493) (o := .cells #[.slice Ao65 t489.length co65] 27 (0, 0)) (bo BK493.out) hb)
               clear hb hbox hg
               refine hK.out _ _ ⟨(blk_cell BK466.out 0).trans rfl, (blk_cell BK467.out 0).trans rfl⟩ (fun hHeld => ?_)
               clear hK K
               refine norm_ (a' := ?_) ?_ ?_
               rotate_left
               ·show Act.put _ (some 15) _ = _
                simp only [Act.put, qa, qb, qc, i64_w, i32_w]
                rfl
               refine oa 1 (some 96) #[Y,Y,Y,Z,Z,Z,Z,Z,Y,Z,Z] HT_ (fun K hK => ?_)
               refine gm Try.func16 #[.agg #[.slice A0_0 l0_0.length c0_0]] ?_
               with_reducible refine (laws_toSemigroup.calls kj106 _ _ l0_0 t511 _ ?side1 ?side2 A170.out).mono ?_
               (case side1 => exact co (Kd.C_below HR0_0.out HB.out))
               (case side2 => exact HC0_0.out)
               rintro e w185 ⟨v512, rfl, ho0, hb⟩
               refine ⟨_, rfl, ?_⟩
               have HO513 := Aside0.mk (Kd.R_lower (Kd.R_new' (Kd.R_new' (Kd.R_new' (Kd.R_new' ho0 (Kd.R_lt (ro HO_481000.out))) (Kd.R_lt (ro HO_485000.out))) (Kd.R_lt (ro HO_489000.out))) (Kd.R_lt (ro HO_494000.out))) (below_size bw))
               replace HO_481000 := Aside0.mk (Kd.R_elder' (ro HO_481000.out) (Kd.R_base ho0) hb)
               replace HO_485000 := Aside0.mk (Kd.R_elder' (ro HO_485000.out) (Kd.R_base ho0) hb)
               replace HO_489000 := Aside0.mk (Kd.R_elder' (ro HO_489000.out) (Kd.R_base ho0) hb)
               replace HO_494000 := Aside0.mk (Kd.R_elder' (ro HO_494000.out) (Kd.R_base ho0) hb)
               replace BK466 := Aside0.mk (blk_below (g := gb466) (o := .cells #[.slice A0_0 l0_0.length c0_0] 24 (0, 0)) (bo BK466.out) hb)
               replace BK467 := Aside0.mk (blk_below (g := gb467) (o := .cells #[.slice A1_0 l1_0.length c1_0] 24 (0, 0)) (bo BK467.out) hb)
               replace BK480 := Aside0.mk (blk_below (g := gb480) (o := .cells #[.slice Ao41 t476.length co41] 27 (0, 0)) (bo BK480.out) hb)
               replace BK484 := Aside0.mk (blk_below (g := gb484) (o := .cells #[.slice Ao47 t504.length co47] 27 (0, 0)) (bo BK484.out) hb)
               replace BK488 := Aside0.mk (blk_below (g := gb488) (o := .cells #[.slice Ao56 t506.length co56] 27 (0, 0)) (bo BK488.out) hb)
               replace BK493 := Aside0.mk (blk_below (g := gb493) (o := .cells #[.slice Ao65 t489.length co65] 27 (0, 0)) (bo BK493.out) hb)
               replace BK521 := Aside0.mk (blk_below (g := gb521) (o := .cells #[.slice none 0 0] 27 (0, 0)) (bo BK521.out) hb)
               replace HB := Aside0.mk (below_step bw hb)
               clear hb ho0
               refine hK.out _ _ ⟨(blk_cell BK466.out 0).trans rfl, (blk_cell BK467.out 0).trans rfl⟩ (fun hHeld => ?_)
               clear hK K
               refine norm_ (a' := ?_) ?_ ?_
               rotate_left
               ·show Act.put _ (some 96) _ = _
                simp only [Act.put, qa, qb, qc, i64_w, i32_w]
                rfl
               refine oa 3 (some 98) #[Y,Y,Y,Y,Z,Z,Z,Z,Y,Z,Z] HT_ (fun K hK => ?_)
               refine gm Try.func16 #[.agg #[.slice A1_0 l1_0.length c1_0]] ?_
               with_reducible refine (laws_toSemigroup.calls kj106 _ _ l1_0 t514 _ ?side1 ?side2 A171.out).mono ?_
               (case side1 => exact co (Kd.C_below HR1_0.out HB.out))
               (case side2 => exact HC1_0.out)
               rintro e w186 ⟨v515, rfl, ho0, hb⟩
               refine ⟨_, rfl, ?_⟩
               have HO516 := Aside0.mk (Kd.R_lower (Kd.R_new' (Kd.R_new' (Kd.R_new' (Kd.R_new' (Kd.R_new' ho0 (Kd.R_lt (ro HO_481000.out))) (Kd.R_lt (ro HO_485000.out))) (Kd.R_lt (ro HO_489000.out))) (Kd.R_lt (ro HO_494000.out))) (Kd.R_lt (ro HO513.out))) (below_size bw))
               replace HO_481000 := Aside0.mk (Kd.R_elder' (ro HO_481000.out) (Kd.R_base ho0) hb)
               replace HO_485000 := Aside0.mk (Kd.R_elder' (ro HO_485000.out) (Kd.R_base ho0) hb)
               replace HO_489000 := Aside0.mk (Kd.R_elder' (ro HO_489000.out) (Kd.R_base ho0) hb)
               replace HO_494000 := Aside0.mk (Kd.R_elder' (ro HO_494000.out) (Kd.R_base ho0) hb)
               replace HO513 := Aside0.mk (Kd.R_elder' (ro HO513.out) (Kd.R_base ho0) hb)
               replace BK466 := Aside0.mk (blk_below (g := gb466) (o := .cells #[.slice A0_0 l0_0.length c0_0] 24 (0, 0)) (bo BK466.out) hb)
               replace BK467 := Aside0.mk (blk_below (g := gb467) (o := .cells #[.slice A1_0 l1_0.length c1_0] 24 (0, 0)) (bo BK467.out) hb)
               replace BK480 := Aside0.mk (blk_below (g := gb480) (o := .cells #[.slice Ao41 t476.length co41] 27 (0, 0)) (bo BK480.out) hb)
               replace BK484 := Aside0.mk (blk_below (g := gb484) (o := .cells #[.slice Ao47 t504.length co47] 27 (0, 0)) (bo BK484.out) hb)
               replace BK488 := Aside0.mk (blk_below (g := gb488) (o := .cells #[.slice Ao56 t506.length co56] 27 (0, 0)) (bo BK488.out) hb)
               replace BK493 := Aside0.mk (blk_below (g := gb493) (o := .cells #[.slice Ao65 t489.length co65] 27 (0, 0)) (bo BK493.out) hb)
               replace BK521 := Aside0.mk (blk_below (g := gb521) (o := .cells #[.slice none 0 0] 27 (0, 0)) (bo BK521.out) hb)
               replace HB := Aside0.mk (below_step bw hb)
               clear hb ho0
               obtain ⟨Ao187, co187, eo187⟩ := Kd.R_slice HO513.out
               (first | subst eo187 | (injection eo187 with f1_ f2_ f3_; have f4_ := f1_.symm; have f5_ := f3_.symm; clear f1_ f2_ f3_; subst f4_; subst f5_))
               obtain ⟨Ao188, co188, eo188⟩ := Kd.R_slice HO516.out
               (first | subst eo188 | (injection eo188 with f1_ f2_ f3_; have f4_ := f1_.symm; have f5_ := f3_.symm; clear f1_ f2_ f3_; subst f4_; subst f5_))
               refine hK.out _ _ ⟨(blk_cell BK466.out 0).trans rfl, (blk_cell BK467.out 0).trans rfl⟩ (fun hHeld => ?_)
               clear hK K
               refine norm_ (a' := ?_) ?_ ?_
               rotate_left
               ·show Act.put _ (some 98) _ = _
                simp only [Act.put, qa, qb, qc, i64_w, i32_w]
                rfl
               refine oa 4 (some 99) #[Y,Y,Y,Y,Y,Z,Z,Z,Y,Z,Z] HT_ (fun K hK => ?_)
               refine gm Try.func56 #[.agg #[.slice Ao187 t511.length co187], .agg #[.slice Ao188 t514.length co188]] ?_
               with_reducible refine (impl_AddOf.calls kj106 _ _ t511 _ _ t514 t517 t520 _ ?side1 ?side2 ?side3 ?side4 A172.out).mono ?_
               (case side1 => exact co (Kd.R_reads' HO513.out).2.2)
               (case side2 => exact (Kd.R_reads' HO513.out).2.1)
               (case side3 => exact co (Kd.R_reads' HO516.out).2.2)
               (case side4 => exact (Kd.R_reads' HO516.out).2.1)
               rintro e w189 ⟨v518, rfl, ho0, hb⟩
               refine ⟨_, rfl, ?_⟩
               have HO519 := Aside0.mk (Kd.R_lower (Kd.R_new' (Kd.R_new' (Kd.R_new' (Kd.R_new' (Kd.R_new' (Kd.R_new' ho0 (Kd.R_lt (ro HO_481000.out))) (Kd.R_lt (ro HO_485000.out))) (Kd.R_lt (ro HO_489000.out))) (Kd.R_lt (ro HO_494000.out))) (Kd.R_lt (ro HO513.out))) (Kd.R_lt (ro HO516.out))) (below_size bw))
               replace HO_481000 := Aside0.mk (Kd.R_elder' (ro HO_481000.out) (Kd.R_base ho0) hb)
               replace HO_485000 := Aside0.mk (Kd.R_elder' (ro HO_485000.out) (Kd.R_base ho0) hb)
               replace HO_489000 := Aside0.mk (Kd.R_elder' (ro HO_489000.out) (Kd.R_base ho0) hb)
               replace HO_494000 := Aside0.mk (Kd.R_elder' (ro HO_494000.out) (Kd.R_base ho0) hb)
               replace HO513 := Aside0.mk (Kd.R_elder' (ro HO513.out) (Kd.R_base ho0) hb)
               replace HO516 := Aside0.mk (Kd.R_elder' (ro HO516.out) (Kd.R_base ho0) hb)
               replace BK466 := Aside0.mk (blk_below (g := gb466) (o := .cells #[.slice A0_0 l0_0.length c0_0] 24 (0, 0)) (bo BK466.out) hb)
               replace BK467 := Aside0.mk (blk_below (g := gb467) (o := .cells #[.slice A1_0 l1_0.length c1_0] 24 (0, 0)) (bo BK467.out) hb)
               replace BK480 := Aside0.mk (blk_below (g := gb480) (o := .cells #[.slice Ao41 t476.length co41] 27 (0, 0)) (bo BK480.out) hb)
               replace BK484 := Aside0.mk (blk_below (g := gb484) (o := .cells #[.slice Ao47 t504.length co47] 27 (0, 0)) (bo BK484.out) hb)
               replace BK488 := Aside0.mk (blk_below (g := gb488) (o := .cells #[.slice Ao56 t506.length co56] 27 (0, 0)) (bo BK488.out) hb)
               replace BK493 := Aside0.mk (blk_below (g := gb493) (o := .cells #[.slice Ao65 t489.length co65] 27 (0, 0)) (bo BK493.out) hb)
               replace BK521 := Aside0.mk (blk_below (g := gb521) (o := .cells #[.slice none 0 0] 27 (0, 0)) (bo BK521.out) hb)
               replace HB := Aside0.mk (below_step bw hb)
               clear hb ho0
               refine hK.out _ _ ⟨(blk_cell BK466.out 0).trans rfl, (blk_cell BK467.out 0).trans rfl⟩ (fun hHeld => ?_)
               clear hK K
               refine norm_ (a' := ?_) ?_ ?_
               rotate_left
               ·show Act.put _ (some 99) _ = _
                simp only [Act.put, qa, qb, qc, i64_w, i32_w]
                rfl
               refine pa 5 (some 94) #[Y,Y,Y,Y,Y,Y,Z,Z,Y,Z,Z] HT_ ?_
               refine pa 6 (some 100) #[Y,Y,Y,Y,Y,Y,Y,Z,Y,Z,Z] HT_ ?_
               refine pa 7 (some 101) #[Y,Y,Y,Y,Y,Y,Y,Y,Y,Z,Z] HT_ ?_
               exact norm_ (by simp only [putAll, Act.put, List.setIfInBounds_toArray, List.set_cons_zero, List.set_cons_succ]) (hCont (.slice Ao187 t511.length co187, .slice Ao188 t514.length co188, v518, gb521) _ ⟨hHeld, (by (with_reducible repeat (first | apply Kd.R_alloc | apply Kd.R_drewN | apply Kd.R_drew)); exact Kd.R_mono HO513.out (fun _ hk => ⟨hk.1.2, ⟨hk.2, ⟨hk.1.1.1.1.1.2, ⟨hk.1.1.1.1.2, ⟨hk.1.1.1.2, hk.1.1.2⟩⟩⟩⟩⟩)), (by (with_reducible repeat (first | apply Kd.R_alloc | apply Kd.R_drewN | apply Kd.R_drew)); exact Kd.R_mono HO516.out (fun _ hk => ⟨hk.1.2, ⟨hk.2, ⟨hk.1.1.1.1.1.2, ⟨hk.1.1.1.1.2, ⟨hk.1.1.1.2, hk.1.1.2⟩⟩⟩⟩⟩)), (by (with_reducible repeat (first | apply Kd.R_alloc | apply Kd.R_drewN | apply Kd.R_drew)); exact Kd.R_mono HO519.out (fun _ hk => ⟨hk.1.2, ⟨hk.2, ⟨hk.1.1.1.1.1.2, ⟨hk.1.1.1.1.2, ⟨hk.1.1.1.2, hk.1.1.2⟩⟩⟩⟩⟩)), (by (with_reducible repeat (first | apply Kd.R_alloc | apply Kd.R_drewN | apply Kd.R_drew)); exact Kd.R_mono HO_481000.out (fun _ hk => ⟨hk.1.1.2, ⟨hk.1.2, ⟨hk.2, ⟨hk.1.1.1.1, ⟨hk.1.1.1.2.1, hk.1.1.1.2.2⟩⟩⟩⟩⟩)), (by (with_reducible repeat (first | apply Kd.R_alloc | apply Kd.R_drewN | apply Kd.R_drew)); exact Kd.R_mono HO_485000.out (fun _ hk => ⟨hk.1.1.2, ⟨hk.1.2, ⟨hk.2, ⟨hk.1.1.1.1, ⟨hk.1.1.1.2.1, hk.1.1.1.2.2⟩⟩⟩⟩⟩)), (by (with_reducible repeat (first | apply Kd.R_alloc | apply Kd.R_drewN | apply Kd.R_drew)); exact Kd.R_mono HO_489000.out (fun _ hk => ⟨hk.1.1.2, ⟨hk.1.2, ⟨hk.2, ⟨hk.1.1.1.1, ⟨hk.1.1.1.2.1, hk.1.1.1.2.2⟩⟩⟩⟩⟩)), (by (with_reducible repeat (first | apply Kd.R_alloc | apply Kd.R_drewN | apply Kd.R_drew)); exact Kd.R_mono HO_494000.out (fun _ hk => ⟨hk.1.1.2, ⟨hk.1.2, ⟨hk.2, ⟨hk.1.1.1.1, ⟨hk.1.1.1.2.1, hk.1.1.1.2.2⟩⟩⟩⟩⟩)), (bo BK466.out), (bo BK467.out), (bo BK480.out), (bo BK484.out), (bo BK488.out), (bo BK493.out), (bo BK521.out), GW521.out, GE521.out, NB466_521.out, NB521_466.out, NB467_521.out, NB521_467.out, NB480_521.out, NB521_480.out, NB484_521.out, NB521_484.out, NB488_521.out, NB521_488.out, NB493_521.out, NB521_493.out, bw⟩)
             rintro ⟨v512, v515, v518, gb521⟩ w190 ⟨hS_, h0_, h1_, h2_, h3_, h4_, h5_, h6_, h7_, h8_, h9_, h10_, h11_, h12_, h13_, h14_, h15_, h16_, h17_, h18_, h19_, h20_, h21_, h22_, h23_, h24_, h25_, h26_, h27_, h28_⟩
             have n0_ : Aside0 (Kd.R (Kd.int .i64) 3 w190 w.heap.size (fun k_ => some k_ ≠ (v515 : Value).ownBlock ∧ some k_ ≠ (v518 : Value).ownBlock ∧ some k_ ≠ (.slice Ao41 t476.length co41 : Value).ownBlock ∧ some k_ ≠ (.slice Ao47 t504.length co47 : Value).ownBlock ∧ some k_ ≠ (.slice Ao56 t506.length co56 : Value).ownBlock ∧ some k_ ≠ (.slice Ao65 t489.length co65 : Value).ownBlock) v512 t511) := ⟨h0_⟩
             have n1_ : Aside0 (Kd.R (Kd.int .i64) 3 w190 w.heap.size (fun k_ => some k_ ≠ (v512 : Value).ownBlock ∧ some k_ ≠ (v518 : Value).ownBlock ∧ some k_ ≠ (.slice Ao41 t476.length co41 : Value).ownBlock ∧ some k_ ≠ (.slice Ao47 t504.length co47 : Value).ownBlock ∧ some k_ ≠ (.slice Ao56 t506.length co56 : Value).ownBlock ∧ some k_ ≠ (.slice Ao65 t489.length co65 : Value).ownBlock) v515 t514) := ⟨h1_⟩
             have n2_ : Aside0 (Kd.R (Kd.int .i64) 3 w190 w.heap.size (fun k_ => some k_ ≠ (v512 : Value).ownBlock ∧ some k_ ≠ (v515 : Value).ownBlock ∧ some k_ ≠ (.slice Ao41 t476.length co41 : Value).ownBlock ∧ some k_ ≠ (.slice Ao47 t504.length co47 : Value).ownBlock ∧ some k_ ≠ (.slice Ao56 t506.length co56 : Value).ownBlock ∧ some k_ ≠ (.slice Ao65 t489.length co65 : Value).ownBlock) v518 t517) := ⟨h2_⟩
             have n3_ : Aside0 (Kd.R (Kd.int .i64) 3 w190 w.heap.size (fun k_ => some k_ ≠ (v512 : Value).ownBlock ∧ some k_ ≠ (v515 : Value).ownBlock ∧ some k_ ≠ (v518 : Value).ownBlock ∧ some k_ ≠ (.slice Ao47 t504.length co47 : Value).ownBlock ∧ some k_ ≠ (.slice Ao56 t506.length co56 : Value).ownBlock ∧ some k_ ≠ (.slice Ao65 t489.length co65 : Value).ownBlock) (.slice Ao41 t476.length co41) t476) := ⟨h3_⟩
             have n4_ : Aside0 (Kd.R (Kd.int .i64) 3 w190 w.heap.size (fun k_ => some k_ ≠ (v512 : Value).ownBlock ∧ some k_ ≠ (v515 : Value).ownBlock ∧ some k_ ≠ (v518 : Value).ownBlock ∧ some k_ ≠ (.slice Ao41 t476.length co41 : Value).ownBlock ∧ some k_ ≠ (.slice Ao56 t506.length co56 : Value).ownBlock ∧ some k_ ≠ (.slice Ao65 t489.length co65 : Value).ownBlock) (.slice Ao47 t504.length co47) t504) := ⟨h4_⟩
             have n5_ : Aside0 (Kd.R (Kd.int .i64) 3 w190 w.heap.size (fun k_ => some k_ ≠ (v512 : Value).ownBlock ∧ some k_ ≠ (v515 : Value).ownBlock ∧ some k_ ≠ (v518 : Value).ownBlock ∧ some k_ ≠ (.slice Ao41 t476.length co41 : Value).ownBlock ∧ some k_ ≠ (.slice Ao47 t504.length co47 : Value).ownBlock ∧ some k_ ≠ (.slice Ao65 t489.length co65 : Value).ownBlock) (.slice Ao56 t506.length co56) t506) := ⟨h5_⟩
             have n6_ : Aside0 (Kd.R (Kd.int .i64) 3 w190 w.heap.size (fun k_ => some k_ ≠ (v512 : Value).ownBlock ∧ some k_ ≠ (v515 : Value).ownBlock ∧ some k_ ≠ (v518 : Value).ownBlock ∧ some k_ ≠ (.slice Ao41 t476.length co41 : Value).ownBlock ∧ some k_ ≠ (.slice Ao47 t504.length co47 : Value).ownBlock ∧ some k_ ≠ (.slice Ao56 t506.length co56 : Value).ownBlock) (.slice Ao65 t489.length co65) t509) := ⟨h6_⟩
             have n7_ : Aside0 (w190.heap[gb466]? = some (.cells #[.slice A0_0 l0_0.length c0_0] 24 (0, 0))) := ⟨h7_⟩
             have n8_ : Aside0 (w190.heap[gb467]? = some (.cells #[.slice A1_0 l1_0.length c1_0] 24 (0, 0))) := ⟨h8_⟩
             have n9_ : Aside0 (w190.heap[gb480]? = some (.cells #[.slice Ao41 t476.length co41] 27 (0, 0))) := ⟨h9_⟩
             have n10_ : Aside0 (w190.heap[gb484]? = some (.cells #[.slice Ao47 t504.length co47] 27 (0, 0))) := ⟨h10_⟩
             have n11_ : Aside0 (w190.heap[gb488]? = some (.cells #[.slice Ao56 t506.length co56] 27 (0, 0))) := ⟨h11_⟩
             have n12_ : Aside0 (w190.heap[gb493]? = some (.cells #[.slice Ao65 t489.length co65] 27 (0, 0))) := ⟨h12_⟩
             have n13_ : Aside0 (w190.heap[gb521]? = some (.cells #[.slice none 0 0] 27 (0, 0))) := ⟨h13_⟩
             have n14_ : Aside0 (w.heap.size ≤ gb521) := ⟨h14_⟩
             have n15_ : Aside0 (w.heap.size ≤ gb521) := ⟨h15_⟩
             have n16_ : Aside0 (gb466 ≠ gb521) := ⟨h16_⟩
             have n17_ : Aside0 (gb521 ≠ gb466) := ⟨h17_⟩
             have n18_ : Aside0 (gb467 ≠ gb521) := ⟨h18_⟩
             have n19_ : Aside0 (gb521 ≠ gb467) := ⟨h19_⟩
             have n20_ : Aside0 (gb480 ≠ gb521) := ⟨h20_⟩
             have n21_ : Aside0 (gb521 ≠ gb480) := ⟨h21_⟩
             have n22_ : Aside0 (gb484 ≠ gb521) := ⟨h22_⟩
             have n23_ : Aside0 (gb521 ≠ gb484) := ⟨h23_⟩
             have n24_ : Aside0 (gb488 ≠ gb521) := ⟨h24_⟩
             have n25_ : Aside0 (gb521 ≠ gb488) := ⟨h25_⟩
             have n26_ : Aside0 (gb493 ≠ gb521) := ⟨h26_⟩
             have n27_ : Aside0 (gb521 ≠ gb493) := ⟨h27_⟩
             have n28_ : Aside0 (Below w.heap.size w w190) := ⟨h28_⟩
             clear HO_481000
             clear HO_485000
             clear HO_489000
             clear HO_494000
             clear BK466
             clear BK467
             clear BK480
             clear BK484
             clear BK488
             clear BK493
             clear HB
             clear h0_ h1_ h2_ h3_ h4_ h5_ h6_ h7_ h8_ h9_ h10_ h11_ h12_ h13_ h14_ h15_ h16_ h17_ h18_ h19_ h20_ h21_ h22_ h23_ h24_ h25_ h26_ h27_ h28_
             have HO513 := n0_
             have HO516 := n1_
             have HO519 := n2_
             have HO_481000 := n3_
             have HO_485000 := n4_
             have HO_489000 := n5_
             have HO_494000 := n6_
             have BK466 := n7_
             have BK467 := n8_
             have BK480 := n9_
             have BK484 := n10_
             have BK488 := n11_
             have BK493 := n12_
             have BK521 := n13_
             have GW521 := n14_
             have GE521 := n15_
             have NB466_521 := n16_
             have NB521_466 := n17_
             have NB467_521 := n18_
             have NB521_467 := n19_
             have NB480_521 := n20_
             have NB521_480 := n21_
             have NB484_521 := n22_
             have NB521_484 := n23_
             have NB488_521 := n24_
             have NB521_488 := n25_
             have NB493_521 := n26_
             have NB521_493 := n27_
             have HB := n28_
             clear n0_ n1_ n2_ n3_ n4_ n5_ n6_ n7_ n8_ n9_ n10_ n11_ n12_ n13_ n14_ n15_ n16_ n17_ n18_ n19_ n20_ n21_ n22_ n23_ n24_ n25_ n26_ n27_ n28_
             have hHeld : w190.cell? ⟨gb466, 0, none⟩ = some (.slice A0_0 l0_0.length c0_0) ∧ w190.cell? ⟨gb467, 0, none⟩ = some (.slice A1_0 l1_0.length c1_0) := hS_
             obtain ⟨Ao191, co191, eo191⟩ := Kd.R_slice HO519.out
             (first | subst eo191 | (injection eo191 with f1_ f2_ f3_; have f4_ := f1_.symm; have f5_ := f3_.symm; clear f1_ f2_ f3_; subst f4_; subst f5_))
             refine norm_ (a' := ?_) ?_ ?_
             rotate_left
             ·simp only [putAll, Act.put, List.setIfInBounds_toArray, List.set_cons_zero, List.set_cons_succ]
              rfl
             refine oa 9 none #[Y,Y,Y,Y,Y,Y,Y,Y,Y,Y,Z] HT_ (fun K hK => ?_)
             have hs192 := bc BK521 0 (.slice none 0 0)
             have hfs192 := blk_frozen BK521.out 0
             have hns192_0 := NB466_521.out
             have hns192_1 := NB467_521.out
             have hns192_2 := NB480_521.out
             have hns192_3 := NB484_521.out
             have hns192_4 := NB488_521.out
             have hns192_5 := NB493_521.out
             have hms192_0 := NB521_466.out
             have hms192_1 := NB521_467.out
             have hms192_2 := NB521_480.out
             have hms192_3 := NB521_484.out
             have hms192_4 := NB521_488.out
             have hms192_5 := NB521_493.out
             refine skip_ (w1 := ?_) (by rfl) rfl ?_ ?_
             rotate_left
             ·go_simp
              rfl
             refine hK.out _ _ ⟨((cell_far (p := ⟨gb521, _, none⟩) NB466_521.out _).trans (hHeld.1)), ((cell_far (p := ⟨gb521, _, none⟩) NB467_521.out _).trans (hHeld.2))⟩ (fun hHeld => ?_)
             clear hK K
             refine pa 10 (some 16) #[Y,Y,Y,Y,Y,Y,Y,Y,Y,Y,Y] HT_ ?_
             refine done_ (done_of HT_.out (by kernel_rfl)) ?_
             go_upto_region 32 with (fail)
             go_cut [110] (fun v110 wc => ∃ (kq : Nat) (x110_172 : Bool), v110 = .bool x110_172 ∧ Aside0 (laws_FnExactAddOf.j2 kq t508 x110_172 t509 = some true) ∧ Aside0 (kq ≤ kj106) ∧ Aside0 (Kd.R (Kd.int .i64) 3 wc w.heap.size (fun k_ => some k_ ≠ ((.slice Ao47 t504.length co47) : Value).ownBlock ∧ some k_ ≠ ((.slice Ao56 t506.length co56) : Value).ownBlock ∧ some k_ ≠ ((.slice Ao65 t489.length co65) : Value).ownBlock ∧ some k_ ≠ ((.slice Ao191 t517.length co191) : Value).ownBlock) (.slice Ao41 t476.length co41) t476) ∧ Aside0 (Kd.R (Kd.int .i64) 3 wc w.heap.size (fun k_ => some k_ ≠ ((.slice Ao41 t476.length co41) : Value).ownBlock ∧ some k_ ≠ ((.slice Ao56 t506.length co56) : Value).ownBlock ∧ some k_ ≠ ((.slice Ao65 t489.length co65) : Value).ownBlock ∧ some k_ ≠ ((.slice Ao191 t517.length co191) : Value).ownBlock) (.slice Ao47 t504.length co47) t504) ∧ Aside0 (Kd.R (Kd.int .i64) 3 wc w.heap.size (fun k_ => some k_ ≠ ((.slice Ao41 t476.length co41) : Value).ownBlock ∧ some k_ ≠ ((.slice Ao47 t504.length co47) : Value).ownBlock ∧ some k_ ≠ ((.slice Ao65 t489.length co65) : Value).ownBlock ∧ some k_ ≠ ((.slice Ao191 t517.length co191) : Value).ownBlock) (.slice Ao56 t506.length co56) t506) ∧ Aside0 (Kd.R (Kd.int .i64) 3 wc w.heap.size (fun k_ => some k_ ≠ ((.slice Ao41 t476.length co41) : Value).ownBlock ∧ some k_ ≠ ((.slice Ao47 t504.length co47) : Value).ownBlock ∧ some k_ ≠ ((.slice Ao56 t506.length co56) : Value).ownBlock ∧ some k_ ≠ ((.slice Ao191 t517.length co191) : Value).ownBlock) (.slice Ao65 t489.length co65) t509) ∧ Aside0 (Kd.R (Kd.int .i64) 3 wc w.heap.size (fun k_ => some k_ ≠ ((.slice Ao41 t476.length co41) : Value).ownBlock ∧ some k_ ≠ ((.slice Ao47 t504.length co47) : Value).ownBlock ∧ some k_ ≠ ((.slice Ao56 t506.length co56) : Value).ownBlock ∧ some k_ ≠ ((.slice Ao65 t489.length co65) : Value).ownBlock) (.slice Ao191 t517.length co191) t517) ∧ Aside0 (wc.heap[gb466]? = some (.cells #[(.slice A0_0 l0_0.length c0_0)] 24 (0, 0))) ∧ Aside0 (wc.heap[gb467]? = some (.cells #[(.slice A1_0 l1_0.length c1_0)] 24 (0, 0))) ∧ Aside0 (wc.heap[gb480]? = some (.cells #[(.slice Ao41 t476.length co41)] 27 (0, 0))) ∧ Aside0 (wc.heap[gb484]? = some (.cells #[(.slice Ao47 t504.length co47)] 27 (0, 0))) ∧ Aside0 (wc.heap[gb488]? = some (.cells #[(.slice Ao56 t506.length co56)] 27 (0, 0))) ∧ Aside0 (wc.heap[gb493]? = some (.cells #[(.slice Ao65 t489.length co65)] 27 (0, 0))) ∧ Aside0 (wc.heap[gb521]? = some (.cells #[(.slice Ao191 t517.length co191)] 27 (0, 0))) ∧ Aside0 (Below w.heap.size w wc))
             case first =>
              have H := HC173.out
              clear HC173
              replace H := ga H; obtain ⟨t522, A193, H⟩ := H
              replace H := gb H; obtain ⟨rfl, H⟩ | ⟨rfl, H⟩ := H
              ·have H' := Aside0.mk H
               clear H
               have hnb195 := NB521_466.out
               have hnc195 := NB466_521.out
               have hnb196 := NB521_467.out
               have hnc196 := NB467_521.out
               have hnb197 := NB521_480.out
               have hnc197 := NB480_521.out
               have hnb198 := NB521_484.out
               have hnc198 := NB484_521.out
               have hnb199 := NB521_488.out
               have hnc199 := NB488_521.out
               have hnb200 := NB521_493.out
               have hnc200 := NB493_521.out
               have hcz201_0 := bc BK521 0 (.slice none 0 0)
               have hfz201_0 := blk_frozen BK521.out 0
               have hnb202 := NB480_466.out
               have hnc202 := NB466_480.out
               have hnb203 := NB480_467.out
               have hnc203 := NB467_480.out
               have hnb204 := NB480_484.out
               have hnc204 := NB484_480.out
               have hnb205 := NB480_488.out
               have hnc205 := NB488_480.out
               have hnb206 := NB480_493.out
               have hnc206 := NB493_480.out
               have hcz207_0 := bc BK480 0 (.slice Ao41 t476.length co41)
               have hfz207_0 := blk_frozen BK480.out 0
               go_wp2_with (first | ((with_reducible refine gate_callee (f := 18) rfl ?_); refine gl (some 104) Try.func18 #[.agg #[.slice Ao191 t517.length co191], .agg #[.slice Ao41 t476.length co41]] ?_; (with_reducible refine (laws_eqSemigroup.calls kj106 _ _ t517 _ _ t476 true _ ?side1 ?side2 ?side3 ?side4 A193.out).mono ?_); (case side1 => refine (Kd.R_reads' (e := 3) (base := w.heap.size) (ok := fun k_ => (some k_ ≠ (v512 : Value).ownBlock ∧ (some k_ ≠ (v515 : Value).ownBlock ∧ (some k_ ≠ (.slice Ao41 t476.length co41 : Value).ownBlock ∧ (some k_ ≠ (.slice Ao47 t504.length co47 : Value).ownBlock ∧ (some k_ ≠ (.slice Ao56 t506.length co56 : Value).ownBlock ∧ some k_ ≠ (.slice Ao65 t489.length co65 : Value).ownBlock)))))) (n := t517.length) (c := co191) ?_).2.2; exact (by (with_reducible repeat (first | apply Kd.R_alloc | apply Kd.R_drewN | apply Kd.R_drew)); exact (Kd.R_mono (Kd.R_far (p := ⟨gb521, 0, none⟩) (Kd.R_types HO519.out BK521.out (by decide)) (fun _ hk => hk.2) (.slice Ao191 t517.length co191)) (fun _ h_ => h_.1)))); (case side2 => exact (Kd.R_reads' HO519.out).2.1); (case side3 => refine (Kd.R_reads' (e := 3) (base := w.heap.size) (ok := fun k_ => (some k_ ≠ (v512 : Value).ownBlock ∧ (some k_ ≠ (v515 : Value).ownBlock ∧ (some k_ ≠ (.slice Ao191 t517.length co191 : Value).ownBlock ∧ (some k_ ≠ (.slice Ao47 t504.length co47 : Value).ownBlock ∧ (some k_ ≠ (.slice Ao56 t506.length co56 : Value).ownBlock ∧ some k_ ≠ (.slice Ao65 t489.length co65 : Value).ownBlock)))))) (n := t476.length) (c := co41) ?_).2.2; exact (by (with_reducible repeat (first | apply Kd.R_alloc | apply Kd.R_drewN | apply Kd.R_drew)); exact (Kd.R_mono (Kd.R_far (p := ⟨gb521, 0, none⟩) (Kd.R_types HO_481000.out BK521.out (by decide)) (fun _ hk => hk.2) (.slice Ao191 t517.length co191)) (fun _ h_ => h_.1)))); (case side4 => exact (Kd.R_reads' HO_481000.out).2.1); rintro e w208 ⟨rfl, hb⟩; refine ⟨_, rfl, ?_⟩; replace HO_481000 := Aside0.mk (Kd.R_below (by (with_reducible repeat (first | apply Kd.R_alloc | apply Kd.R_drewN | apply Kd.R_drew)); exact (Kd.R_mono (Kd.R_far (p := ⟨gb521, 0, none⟩) (Kd.R_types HO_481000.out BK521.out (by decide)) (fun _ hk => hk.2) (.slice Ao191 t517.length co191)) (fun _ h_ => h_.1))) hb); replace HO_485000 := Aside0.mk (Kd.R_below (by (with_reducible repeat (first | apply Kd.R_alloc | apply Kd.R_drewN | apply Kd.R_drew)); exact (Kd.R_mono (Kd.R_far (p := ⟨gb521, 0, none⟩) (Kd.R_types HO_485000.out BK521.out (by decide)) (fun _ hk => hk.2) (.slice Ao191 t517.length co191)) (fun _ h_ => h_.1))) hb); replace HO_489000 := Aside0.mk (Kd.R_below (by (with_reducible repeat (first | apply Kd.R_alloc | apply Kd.R_drewN | apply Kd.R_drew)); exact (Kd.R_mono (Kd.R_far (p := ⟨gb521, 0, none⟩) (Kd.R_types HO_489000.out BK521.out (by decide)) (fun _ hk => hk.2) (.slice Ao191 t517.length co191)) (fun _ h_ => h_.1))) hb); replace HO_494000 := Aside0.mk (Kd.R_below (by (with_reducible repeat (first | apply Kd.R_alloc | apply Kd.R_drewN | apply Kd.R_drew)); exact (Kd.R_mono (Kd.R_far (p := ⟨gb521, 0, none⟩) (Kd.R_types HO_494000.out BK521.out (by decide)) (fun _ hk => hk.2) (.slice Ao191 t517.length co191)) (fun _ h_ => h_.1))) hb); replace HO513 := Aside0.mk (Kd.R_below (by (with_reducible repeat (first | apply Kd.R_alloc | apply Kd.R_drewN | apply Kd.R_drew)); exact (Kd.R_mono (Kd.R_far (p := ⟨gb521, 0, none⟩) (Kd.R_types HO513.out BK521.out (by decide)) (fun _ hk => hk.2) (.slice Ao191 t517.length co191)) (fun _ h_ => h_.1))) hb); replace HO516 := Aside0.mk (Kd.R_below (by (with_reducible repeat (first | apply Kd.R_alloc | apply Kd.R_drewN | apply Kd.R_drew)); exact (Kd.R_mono (Kd.R_far (p := ⟨gb521, 0, none⟩) (Kd.R_types HO516.out BK521.out (by decide)) (fun _ hk => hk.2) (.slice Ao191 t517.length co191)) (fun _ h_ => h_.1))) hb); replace HO519 := Aside0.mk (Kd.R_below (by (with_reducible repeat (first | apply Kd.R_alloc | apply Kd.R_drewN | apply Kd.R_drew)); exact (Kd.R_mono (Kd.R_far (p := ⟨gb521, 0, none⟩) (Kd.R_types HO519.out BK521.out (by decide)) (fun _ hk => hk.2) (.slice Ao191 t517.length co191)) (fun _ h_ => h_.1))) hb); replace BK466 := Aside0.mk (blk_below (g := gb466) (o := .cells #[.slice A0_0 l0_0.length c0_0] 24 (0, 0)) (by (with_reducible repeat (first | refine blk_drewN ?_ _ | refine blk_drew ?_ | refine blk_alloc ?_ _)); refine blk_far ?_ NB466_521.out _; (with_reducible repeat (first | refine blk_drewN ?_ _ | refine blk_drew ?_ | refine blk_alloc ?_ _)); exact BK466.out) hb); replace BK467 := Aside0.mk (blk_below (g := gb467) (o := .cells #[.slice A1_0 l1_0.length c1_0] 24 (0, 0)) (by (with_reducible repeat (first | refine blk_drewN ?_ _ | refine blk_drew ?_ | refine blk_alloc ?_ _)); refine blk_far ?_ NB467_521.out _; (with_reducible repeat (first | refine blk_drewN ?_ _ | refine blk_drew ?_ | refine blk_alloc ?_ _)); exact BK467.out) hb); replace BK480 := Aside0.mk (blk_below (g := gb480) (o := .cells #[.slice Ao41 t476.length co41] 27 (0, 0)) (by (with_reducible repeat (first | refine blk_drewN ?_ _ | refine blk_drew ?_ | refine blk_alloc ?_ _)); refine blk_far ?_ NB480_521.out _; (with_reducible repeat (first | refine blk_drewN ?_ _ | refine blk_drew ?_ | refine blk_alloc ?_ _)); exact BK480.out) hb); replace BK484 := Aside0.mk (blk_below (g := gb484) (o := .cells #[.slice Ao47 t504.length co47] 27 (0, 0)) (by (with_reducible repeat (first | refine blk_drewN ?_ _ | refine blk_drew ?_ | refine blk_alloc ?_ _)); refine blk_far ?_ NB484_521.out _; (with_reducible repeat (first | refine blk_drewN ?_ _ | refine blk_drew ?_ | refine blk_alloc ?_ _)); exact BK484.out) hb); replace BK488 := Aside0.mk (blk_below (g := gb488) (o := .cells #[.slice Ao56 t506.length co56] 27 (0, 0)) (by (with_reducible repeat (first | refine blk_drewN ?_ _ | refine blk_drew ?_ | refine blk_alloc ?_ _)); refine blk_far ?_ NB488_521.out _; (with_reducible repeat (first | refine blk_drewN ?_ _ | refine blk_drew ?_ | refine blk_alloc ?_ _)); exact BK488.out) hb); replace BK493 := Aside0.mk (blk_below (g := gb493) (o := .cells #[.slice Ao65 t489.length co65] 27 (0, 0)) (by (with_reducible repeat (first | refine blk_drewN ?_ _ | refine blk_drew ?_ | refine blk_alloc ?_ _)); refine blk_far ?_ NB493_521.out _; (with_reducible repeat (first | refine blk_drewN ?_ _ | refine blk_drew ?_ | refine blk_alloc ?_ _)); exact BK493.out) hb); replace BK521 := Aside0.mk (blk_below (g := gb521) (o := .cells #[.slice Ao191 t517.length co191] 27 (0, 0)) (by (with_reducible repeat (first | refine blk_drewN ?_ _ | refine blk_drew ?_ | refine blk_alloc ?_ _)); refine blk_put (cs := #[.slice none 0 0]) ?_ 0 _ rfl; (with_reducible repeat (first | refine blk_drewN ?_ _ | refine blk_drew ?_ | refine blk_alloc ?_ _)); exact BK521.out) hb); replace HB := Aside0.mk (below_step bw hb); clear hb))
               go_meet
               case rel => exact ⟨_, ((t520 != t479)), rr, H', ⟨by have := HJ24.out; have := HJ106.out; first | omega | exact Nat.le_refl _⟩, ⟨by (try simp only [hl485000_106]); (try simp only [hl489000_106]); (with_reducible repeat (first | apply Kd.R_alloc | apply Kd.R_drewN | apply Kd.R_drew)); exact Kd.R_mono HO_481000.out (fun _ hk => ⟨hk.2.2.2.1, ⟨hk.2.2.2.2.1, ⟨hk.2.2.2.2.2, hk.2.2.1⟩⟩⟩)⟩, ⟨by (try simp only [hl485000_106]); (try simp only [hl489000_106]); (with_reducible repeat (first | apply Kd.R_alloc | apply Kd.R_drewN | apply Kd.R_drew)); exact Kd.R_mono HO_485000.out (fun _ hk => ⟨hk.2.2.2.1, ⟨hk.2.2.2.2.1, ⟨hk.2.2.2.2.2, hk.2.2.1⟩⟩⟩)⟩, ⟨by (try simp only [hl485000_106]); (try simp only [hl489000_106]); (with_reducible repeat (first | apply Kd.R_alloc | apply Kd.R_drewN | apply Kd.R_drew)); exact Kd.R_mono HO_489000.out (fun _ hk => ⟨hk.2.2.2.1, ⟨hk.2.2.2.2.1, ⟨hk.2.2.2.2.2, hk.2.2.1⟩⟩⟩)⟩, ⟨by (try simp only [hl485000_106]); (try simp only [hl489000_106]); (with_reducible repeat (first | apply Kd.R_alloc | apply Kd.R_drewN | apply Kd.R_drew)); exact Kd.R_mono HO_494000.out (fun _ hk => ⟨hk.2.2.2.1, ⟨hk.2.2.2.2.1, ⟨hk.2.2.2.2.2, hk.2.2.1⟩⟩⟩)⟩, ⟨by (try simp only [hl485000_106]); (try simp only [hl489000_106]); (with_reducible repeat (first | apply Kd.R_alloc | apply Kd.R_drewN | apply Kd.R_drew)); exact Kd.R_mono HO519.out (fun _ hk => ⟨hk.2.2.1, ⟨hk.2.2.2.1, ⟨hk.2.2.2.2.1, hk.2.2.2.2.2⟩⟩⟩)⟩, ⟨by (try simp only [hl485000_106]); (try simp only [hl489000_106]); (with_reducible repeat (first | refine blk_drewN ?_ _ | refine blk_drew ?_ | refine blk_alloc ?_ _)); exact BK466.out⟩, ⟨by (try simp only [hl485000_106]); (try simp only [hl489000_106]); (with_reducible repeat (first | refine blk_drewN ?_ _ | refine blk_drew ?_ | refine blk_alloc ?_ _)); exact BK467.out⟩, ⟨by (try simp only [hl485000_106]); (try simp only [hl489000_106]); (with_reducible repeat (first | refine blk_drewN ?_ _ | refine blk_drew ?_ | refine blk_alloc ?_ _)); exact BK480.out⟩, ⟨by (try simp only [hl485000_106]); (try simp only [hl489000_106]); (with_reducible repeat (first | refine blk_drewN ?_ _ | refine blk_drew ?_ | refine blk_alloc ?_ _)); exact BK484.out⟩, ⟨by (try simp only [hl485000_106]); (try simp only [hl489000_106]); (with_reducible repeat (first | refine blk_drewN ?_ _ | refine blk_drew ?_ | refine blk_alloc ?_ _)); exact BK488.out⟩, ⟨by (try simp only [hl485000_106]); (try simp only [hl489000_106]); (with_reducible repeat (first | refine blk_drewN ?_ _ | refine blk_drew ?_ | refine blk_alloc ?_ _)); exact BK493.out⟩, ⟨by (try simp only [hl485000_106]); (try simp only [hl489000_106]); (with_reducible repeat (first | refine blk_drewN ?_ _ | refine blk_drew ?_ | refine blk_alloc ?_ _)); exact BK521.out⟩, ⟨bw⟩⟩
              ·have H' := Aside0.mk H
               clear H
               have hnb209 := NB521_466.out
               have hnc209 := NB466_521.out
               have hnb210 := NB521_467.out
               have hnc210 := NB467_521.out
               have hnb211 := NB521_480.out
               have hnc211 := NB480_521.out
               have hnb212 := NB521_484.out
               have hnc212 := NB484_521.out
               have hnb213 := NB521_488.out
               have hnc213 := NB488_521.out
               have hnb214 := NB521_493.out
               have hnc214 := NB493_521.out
               have hcz215_0 := bc BK521 0 (.slice none 0 0)
               have hfz215_0 := blk_frozen BK521.out 0
               have hnb216 := NB480_466.out
               have hnc216 := NB466_480.out
               have hnb217 := NB480_467.out
               have hnc217 := NB467_480.out
               have hnb218 := NB480_484.out
               have hnc218 := NB484_480.out
               have hnb219 := NB480_488.out
               have hnc219 := NB488_480.out
               have hnb220 := NB480_493.out
               have hnc220 := NB493_480.out
               have hcz221_0 := bc BK480 0 (.slice Ao41 t476.length co41)
               have hfz221_0 := blk_frozen BK480.out 0
               go_wp2_with (first | ((with_reducible refine gate_callee (f := 18) rfl ?_); refine gl (some 104) Try.func18 #[.agg #[.slice Ao191 t517.length co191], .agg #[.slice Ao41 t476.length co41]] ?_; (with_reducible refine (laws_eqSemigroup.calls kj106 _ _ t517 _ _ t476 false _ ?side1 ?side2 ?side3 ?side4 A193.out).mono ?_); (case side1 => refine (Kd.R_reads' (e := 3) (base := w.heap.size) (ok := fun k_ => (some k_ ≠ (v512 : Value).ownBlock ∧ (some k_ ≠ (v515 : Value).ownBlock ∧ (some k_ ≠ (.slice Ao41 t476.length co41 : Value).ownBlock ∧ (some k_ ≠ (.slice Ao47 t504.length co47 : Value).ownBlock ∧ (some k_ ≠ (.slice Ao56 t506.length co56 : Value).ownBlock ∧ some k_ ≠ (.slice Ao65 t489.length co65 : Value).ownBlock)))))) (n := t517.length) (c := co191) ?_).2.2; exact (by (with_reducible repeat (first | apply Kd.R_alloc | apply Kd.R_drewN | apply Kd.R_drew)); exact (Kd.R_mono (Kd.R_far (p := ⟨gb521, 0, none⟩) (Kd.R_types HO519.out BK521.out (by decide)) (fun _ hk => hk.2) (.slice Ao191 t517.length co191)) (fun _ h_ => h_.1)))); (case side2 => exact (Kd.R_reads' HO519.out).2.1); (case side3 => refine (Kd.R_reads' (e := 3) (base := w.heap.size) (ok := fun k_ => (some k_ ≠ (v512 : Value).ownBlock ∧ (some k_ ≠ (v515 : Value).ownBlock ∧ (some k_ ≠ (.slice Ao191 t517.length co191 : Value).ownBlock ∧ (some k_ ≠ (.slice Ao47 t504.length co47 : Value).ownBlock ∧ (some k_ ≠ (.slice Ao56 t506.length co56 : Value).ownBlock ∧ some k_ ≠ (.slice Ao65 t489.length co65 : Value).ownBlock)))))) (n := t476.length) (c := co41) ?_).2.2; exact (by (with_reducible repeat (first | apply Kd.R_alloc | apply Kd.R_drewN | apply Kd.R_drew)); exact (Kd.R_mono (Kd.R_far (p := ⟨gb521, 0, none⟩) (Kd.R_types HO_481000.out BK521.out (by decide)) (fun _ hk => hk.2) (.slice Ao191 t517.length co191)) (fun _ h_ => h_.1)))); (case side4 => exact (Kd.R_reads' HO_481000.out).2.1); rintro e w222 ⟨rfl, hb⟩; refine ⟨_, rfl, ?_⟩; replace HO_481000 := Aside0.mk (Kd.R_below (by (with_reducible repeat (first | apply Kd.R_alloc | apply Kd.R_drewN | apply Kd.R_drew)); exact (Kd.R_mono (Kd.R_far (p := ⟨gb521, 0, none⟩) (Kd.R_types HO_481000.out BK521.out (by decide)) (fun _ hk => hk.2) (.slice Ao191 t517.length co191)) (fun _ h_ => h_.1))) hb); replace HO_485000 := Aside0.mk (Kd.R_below (by (with_reducible repeat (first | apply Kd.R_alloc | apply Kd.R_drewN | apply Kd.R_drew)); exact (Kd.R_mono (Kd.R_far (p := ⟨gb521, 0, none⟩) (Kd.R_types HO_485000.out BK521.out (by decide)) (fun _ hk => hk.2) (.slice Ao191 t517.length co191)) (fun _ h_ => h_.1))) hb); replace HO_489000 := Aside0.mk (Kd.R_below (by (with_reducible repeat (first | apply Kd.R_alloc | apply Kd.R_drewN | apply Kd.R_drew)); exact (Kd.R_mono (Kd.R_far (p := ⟨gb521, 0, none⟩) (Kd.R_types HO_489000.out BK521.out (by decide)) (fun _ hk => hk.2) (.slice Ao191 t517.length co191)) (fun _ h_ => h_.1))) hb); replace HO_494000 := Aside0.mk (Kd.R_below (by (with_reducible repeat (first | apply Kd.R_alloc | apply Kd.R_drewN | apply Kd.R_drew)); exact (Kd.R_mono (Kd.R_far (p := ⟨gb521, 0, none⟩) (Kd.R_types HO_494000.out BK521.out (by decide)) (fun _ hk => hk.2) (.slice Ao191 t517.length co191)) (fun _ h_ => h_.1))) hb); replace HO513 := Aside0.mk (Kd.R_below (by (with_reducible repeat (first | apply Kd.R_alloc | apply Kd.R_drewN | apply Kd.R_drew)); exact (Kd.R_mono (Kd.R_far (p := ⟨gb521, 0, none⟩) (Kd.R_types HO513.out BK521.out (by decide)) (fun _ hk => hk.2) (.slice Ao191 t517.length co191)) (fun _ h_ => h_.1))) hb); replace HO516 := Aside0.mk (Kd.R_below (by (with_reducible repeat (first | apply Kd.R_alloc | apply Kd.R_drewN | apply Kd.R_drew)); exact (Kd.R_mono (Kd.R_far (p := ⟨gb521, 0, none⟩) (Kd.R_types HO516.out BK521.out (by decide)) (fun _ hk => hk.2) (.slice Ao191 t517.length co191)) (fun _ h_ => h_.1))) hb); replace HO519 := Aside0.mk (Kd.R_below (by (with_reducible repeat (first | apply Kd.R_alloc | apply Kd.R_drewN | apply Kd.R_drew)); exact (Kd.R_mono (Kd.R_far (p := ⟨gb521, 0, none⟩) (Kd.R_types HO519.out BK521.out (by decide)) (fun _ hk => hk.2) (.slice Ao191 t517.length co191)) (fun _ h_ => h_.1))) hb); replace BK466 := Aside0.mk (blk_below (g := gb466) (o := .cells #[.slice A0_0 l0_0.length c0_0] 24 (0, 0)) (by (with_reducible repeat (first | refine blk_drewN ?_ _ | refine blk_drew ?_ | refine blk_alloc ?_ _)); refine blk_far ?_ NB466_521.out _; (with_reducible repeat (first | refine blk_drewN ?_ _ | refine blk_drew ?_ | refine blk_alloc ?_ _)); exact BK466.out) hb); replace BK467 := Aside0.mk (blk_below (g := gb467) (o := .cells #[.slice A1_0 l1_0.length c1_0] 24 (0, 0)) (by (with_reducible repeat (first | refine blk_drewN ?_ _ | refine blk_drew ?_ | refine blk_alloc ?_ _)); refine blk_far ?_ NB467_521.out _; (with_reducible repeat (first | refine blk_drewN ?_ _ | refine blk_drew ?_ | refine blk_alloc ?_ _)); exact BK467.out) hb); replace BK480 := Aside0.mk (blk_below (g := gb480) (o := .cells #[.slice Ao41 t476.length co41] 27 (0, 0)) (by (with_reducible repeat (first | refine blk_drewN ?_ _ | refine blk_drew ?_ | refine blk_alloc ?_ _)); refine blk_far ?_ NB480_521.out _; (with_reducible repeat (first | refine blk_drewN ?_ _ | refine blk_drew ?_ | refine blk_alloc ?_ _)); exact BK480.out) hb); replace BK484 := Aside0.mk (blk_below (g := gb484) (o := .cells #[.slice Ao47 t504.length co47] 27 (0, 0)) (by (with_reducible repeat (first | refine blk_drewN ?_ _ | refine blk_drew ?_ | refine blk_alloc ?_ _)); refine blk_far ?_ NB484_521.out _; (with_reducible repeat (first | refine blk_drewN ?_ _ | refine blk_drew ?_ | refine blk_alloc ?_ _)); exact BK484.out) hb); replace BK488 := Aside0.mk (blk_below (g := gb488) (o := .cells #[.slice Ao56 t506.length co56] 27 (0, 0)) (by (with_reducible repeat (first | refine blk_drewN ?_ _ | refine blk_drew ?_ | refine blk_alloc ?_ _)); refine blk_far ?_ NB488_521.out _; (with_reducible repeat (first | refine blk_drewN ?_ _ | refine blk_drew ?_ | refine blk_alloc ?_ _)); exact BK488.out) hb); replace BK493 := Aside0.mk (blk_below (g := gb493) (o := .cells #[.slice Ao65 t489.length co65] 27 (0, 0)) (by (with_reducible repeat (first | refine blk_drewN ?_ _ | refine blk_drew ?_ | refine blk_alloc ?_ _)); refine blk_far ?_ NB493_521.out _; (with_reducible repeat (first | refine blk_drewN ?_ _ | refine blk_drew ?_ | refine blk_alloc ?_ _)); exact BK493.out) hb); replace BK521 := Aside0.mk (blk_below (g := gb521) (o := .cells #[.slice Ao191 t517.length co191] 27 (0, 0)) (by (with_reducible repeat (first | refine blk_drewN ?_ _ | refine blk_drew ?_ | refine blk_alloc ?_ _)); refine blk_put (cs := #[.slice none 0 0]) ?_ 0 _ rfl; (with_reducible repeat (first | refine blk_drewN ?_ _ | refine blk_drew ?_ | refine blk_alloc ?_ _)); exact BK521.out) hb); replace HB := Aside0.mk (below_step bw hb); clear hb))
               go_meet
               case rel => exact ⟨_, (true), rr, H', ⟨by have := HJ24.out; have := HJ106.out; first | omega | exact Nat.le_refl _⟩, ⟨by (try simp only [hl485000_106]); (try simp only [hl489000_106]); (with_reducible repeat (first | apply Kd.R_alloc | apply Kd.R_drewN | apply Kd.R_drew)); exact Kd.R_mono HO_481000.out (fun _ hk => ⟨hk.2.2.2.1, ⟨hk.2.2.2.2.1, ⟨hk.2.2.2.2.2, hk.2.2.1⟩⟩⟩)⟩, ⟨by (try simp only [hl485000_106]); (try simp only [hl489000_106]); (with_reducible repeat (first | apply Kd.R_alloc | apply Kd.R_drewN | apply Kd.R_drew)); exact Kd.R_mono HO_485000.out (fun _ hk => ⟨hk.2.2.2.1, ⟨hk.2.2.2.2.1, ⟨hk.2.2.2.2.2, hk.2.2.1⟩⟩⟩)⟩, ⟨by (try simp only [hl485000_106]); (try simp only [hl489000_106]); (with_reducible repeat (first | apply Kd.R_alloc | apply Kd.R_drewN | apply Kd.R_drew)); exact Kd.R_mono HO_489000.out (fun _ hk => ⟨hk.2.2.2.1, ⟨hk.2.2.2.2.1, ⟨hk.2.2.2.2.2, hk.2.2.1⟩⟩⟩)⟩, ⟨by (try simp only [hl485000_106]); (try simp only [hl489000_106]); (with_reducible repeat (first | apply Kd.R_alloc | apply Kd.R_drewN | apply Kd.R_drew)); exact Kd.R_mono HO_494000.out (fun _ hk => ⟨hk.2.2.2.1, ⟨hk.2.2.2.2.1, ⟨hk.2.2.2.2.2, hk.2.2.1⟩⟩⟩)⟩, ⟨by (try simp only [hl485000_106]); (try simp only [hl489000_106]); (with_reducible repeat (first | apply Kd.R_alloc | apply Kd.R_drewN | apply Kd.R_drew)); exact Kd.R_mono HO519.out (fun _ hk => ⟨hk.2.2.1, ⟨hk.2.2.2.1, ⟨hk.2.2.2.2.1, hk.2.2.2.2.2⟩⟩⟩)⟩, ⟨by (try simp only [hl485000_106]); (try simp only [hl489000_106]); (with_reducible repeat (first | refine blk_drewN ?_ _ | refine blk_drew ?_ | refine blk_alloc ?_ _)); exact BK466.out⟩, ⟨by (try simp only [hl485000_106]); (try simp only [hl489000_106]); (with_reducible repeat (first | refine blk_drewN ?_ _ | refine blk_drew ?_ | refine blk_alloc ?_ _)); exact BK467.out⟩, ⟨by (try simp only [hl485000_106]); (try simp only [hl489000_106]); (with_reducible repeat (first | refine blk_drewN ?_ _ | refine blk_drew ?_ | refine blk_alloc ?_ _)); exact BK480.out⟩, ⟨by (try simp only [hl485000_106]); (try simp only [hl489000_106]); (with_reducible repeat (first | refine blk_drewN ?_ _ | refine blk_drew ?_ | refine blk_alloc ?_ _)); exact BK484.out⟩, ⟨by (try simp only [hl485000_106]); (try simp only [hl489000_106]); (with_reducible repeat (first | refine blk_drewN ?_ _ | refine blk_drew ?_ | refine blk_alloc ?_ _)); exact BK488.out⟩, ⟨by (try simp only [hl485000_106]); (try simp only [hl489000_106]); (with_reducible repeat (first | refine blk_drewN ?_ _ | refine blk_drew ?_ | refine blk_alloc ?_ _)); exact BK493.out⟩, ⟨by (try simp only [hl485000_106]); (try simp only [hl489000_106]); (with_reducible repeat (first | refine blk_drewN ?_ _ | refine blk_drew ?_ | refine blk_alloc ?_ _)); exact BK521.out⟩, ⟨bw⟩⟩
             case rest =>
              clear HC173
              try clear hcz201_0; try clear hcz207_0; try clear hcz215_0; try clear hcz221_0; try clear hfz201_0; try clear hfz207_0; try clear hfz215_0; try clear hfz221_0
              obtain ⟨kq, x110_172, rfl, HA, HJ172, HO_481000, HO_485000, HO_489000, HO_494000, HO_522000, BK466, BK467, BK480, BK484, BK488, BK493, BK521, HB⟩ := hcut
              have hl494000_172 := (Kd.R_reads' HO_494000.out).1
              rw [hl494000_172] at HO_494000
              (try simp only [hl494000_172])
              (try simp only [hl494000_172] at BK466)
              (try simp only [hl494000_172] at BK467)
              (try simp only [hl494000_172] at BK480)
              (try simp only [hl494000_172] at BK484)
              (try simp only [hl494000_172] at BK488)
              (try simp only [hl494000_172] at BK493)
              (try simp only [hl494000_172] at BK521)
              (try simp only [hl494000_172] at HO_481000)
              (try simp only [hl494000_172] at HO_485000)
              (try simp only [hl494000_172] at HO_489000)
              (try simp only [hl494000_172] at HO_522000)
              cases kq with
              | zero => exact absurd HA.out (by simp [laws_FnExactAddOf.j2])
              | succ kj172 =>
               have H := HA.out
               clear HA
               simp only [laws_FnExactAddOf.j2] at H
               replace H := gb H; obtain ⟨rfl, H⟩ | ⟨rfl, H⟩ := H
               ·exact absurd (Option.some.inj H) (by decide)
               ·replace H := ga H; obtain ⟨t523, A224, H⟩ := H
                replace H := gi H; obtain ⟨c225b0, H⟩ | ⟨c225b0, H⟩ := H
                ·exact absurd (Option.some.inj H) (by decide)
                ·by_cases c234 : t523 = t508
                 ·rw [if_pos c234] at H
                  have c234b0 : (t523 == t508) = true := beq_iff_eq.mpr c234
                  have c234b1 : (t523 != t508) = false := bne_eq_false_iff_eq.mpr c234
                  clear c234
                  skip
                  have hnb235 := NB493_466.out
                  have hnc235 := NB466_493.out
                  have hnb236 := NB493_467.out
                  have hnc236 := NB467_493.out
                  have hnb237 := NB493_480.out
                  have hnc237 := NB480_493.out
                  have hnb238 := NB493_484.out
                  have hnc238 := NB484_493.out
                  have hnb239 := NB493_488.out
                  have hnc239 := NB488_493.out
                  have hnb240 := NB493_521.out
                  have hnc240 := NB521_493.out
                  have hcz241_0 := bc BK493 0 (.slice Ao65 t509.length co65)
                  have hfz241_0 := blk_frozen BK493.out 0
                  go_wp2_with (first | ((with_reducible refine gate_callee (f := 27) rfl ?_); refine gl (some 113) Try.func27 #[.agg #[.slice Ao65 t509.length co65], .int .i64 1] ?_; (with_reducible refine (laws_heldSemigroup.calls kj172 _ _ t509 1 t523 _ ?side1 ?side2 A224.out).mono ?_); (case side1 => exact co (Kd.R_reads' HO_494000.out).2.2); (case side2 => exact (Kd.R_reads' HO_494000.out).2.1); rintro e w242 ⟨rfl, hb⟩; refine ⟨_, rfl, ?_⟩; replace HO_481000 := Aside0.mk (Kd.R_below (ro HO_481000.out) hb); replace HO_485000 := Aside0.mk (Kd.R_below (ro HO_485000.out) hb); replace HO_489000 := Aside0.mk (Kd.R_below (ro HO_489000.out) hb); replace HO_494000 := Aside0.mk (Kd.R_below (ro HO_494000.out) hb); replace HO_522000 := Aside0.mk (Kd.R_below (ro HO_522000.out) hb); replace BK466 := Aside0.mk (blk_below (g := gb466) (o := .cells #[.slice A0_0 l0_0.length c0_0] 24 (0, 0)) (bo BK466.out) hb); replace BK467 := Aside0.mk (blk_below (g := gb467) (o := .cells #[.slice A1_0 l1_0.length c1_0] 24 (0, 0)) (bo BK467.out) hb); replace BK480 := Aside0.mk (blk_below (g := gb480) (o := .cells #[.slice Ao41 t476.length co41] 27 (0, 0)) (bo BK480.out) hb); replace BK484 := Aside0.mk (blk_below (g := gb484) (o := .cells #[.slice Ao47 t504.length co47] 27 (0, 0)) (bo BK484.out) hb); replace BK488 := Aside0.mk (blk_below (g := gb488) (o := .cells #[.slice Ao56 t506.length co56] 27 (0, 0)) (bo BK488.out) hb); replace BK493 := Aside0.mk (blk_below (g := gb493) (o := .cells #[.slice Ao65 t509.length co65] 27 (0, 0)) (bo BK493.out) hb); replace BK521 := Aside0.mk (blk_below (g := gb521) (o := .cells #[.slice Ao191 t517.length co191] 27 (0, 0)) (bo BK521.out) hb); replace HB := Aside0.mk (below_step bw hb); clear hb))
                  go_ret
                  exact ⟨re, bw⟩
                 ·rw [if_neg c234] at H
                  have c234b0 : (t523 == t508) = false := beq_eq_false_iff_ne.mpr c234
                  have c234b1 : (t523 != t508) = true := bne_iff_ne.mpr c234
                  exact absurd (Option.some.inj H) (by decide)
            ·rw [if_neg c169] at H
             have c169b0 : (t510 == t508) = false := beq_eq_false_iff_ne.mpr c169
             have c169b1 : (t510 != t508) = true := bne_iff_ne.mpr c169
             exact absurd (Option.some.inj H) (by decide)
       ·exact absurd (Option.some.inj H) (by decide)
      ·exact absurd (Option.some.inj H) (by decide)
end Go.Proofs.Ytlfdipnhlmjiaaa.C
