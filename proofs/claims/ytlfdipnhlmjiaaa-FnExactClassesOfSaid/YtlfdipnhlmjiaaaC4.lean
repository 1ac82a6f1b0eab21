/- Contracts of functions of the program: impl_Generates. -/
import Derived.Test.YtlfdipnhlmjiaaaC0
import Derived.Test.YtlfdipnhlmjiaaaC3
namespace Go.Proofs.Ytlfdipnhlmjiaaa.C
open Go.RowKit Go.Proofs.YtlfdipnhlmjiaaaW.PrintWords Go.Proofs.YtlfdipnhlmjiaaaW.PrintLast Go.Proofs.YtlfdipnhlmjiaaaW.PrintMore
attribute [local go_sem] max2_int min2_int max_two min_two max_three min_three max_four min_four
set_option linter.unusedVariables false
set_option linter.unusedSimpArgs false

/-! ### impl_Generates: function 115 -/
def impl_Generates.f (k : Nat) (l0 : List Int) (a1 : Int) : Option (Bool) := (impl_usable.f k l0).bind fun t324 => (if t324 = true then ((impl_within.f a1 0 1000000).bind fun t325 => (if t325 = true then (if 0 < (l0.length : Int) then ((impl_leasts.f k l0 (rd l0 0)).bind fun t327 => (if (rd l0 0) = 0 then (none) else (if 0 ≤ (Int.tmod a1 (rd l0 0)) then (if (Int.tmod a1 (rd l0 0)) < (t327.length : Int) then (if (rd t327 (Int.tmod a1 (rd l0 0))) ≥ 0 then (some (decide ((rd t327 (Int.tmod a1 (rd l0 0))) ≤ a1))) else (some false)) else (none)) else (none)))) else (none)) else (some false))) else (some false))
def impl_Generates.T3 : Bool × List (List Nat × List Nat) := (true, [([], []), ([], []), ([1], [1]), ([2], [2]), ([0, 3], [0, 3]), ([], []), ([], []), ([6], [6]), ([7], [7]), ([5, 8], [5, 8]), ([4, 9], [4, 9]), ([10], [10]), ([11, 4, 0, 1, 2, 3, 4, 5, 6, 7, 8, 9, 10, 11], [11])])
def impl_Generates.B3 : List Nat := [0, 0, 2, 6, 15, 0, 0, 64, 192, 480, 1023, 2047, 4095]
theorem impl_Generates.tab3 : rtab .any (opsOf Try.f115 3) = impl_Generates.T3 := by kernel_rfl
theorem impl_Generates.bits3 : waitsOk impl_Generates.T3.2 impl_Generates.B3 = true := by kernel_rfl
set_option maxHeartbeats 8000000 in
set_option maxRecDepth 100000 in
theorem impl_Generates.calls (k : Nat) (A0 : Option Addr) (c0 : Nat) (l0 : List Int) (a1 : Int) (r : Bool) (w : World) (hr0 : Kd.C (Kd.int .i64) w A0 l0.length l0) (hc0 : l0.length ≤ c0) (h : impl_Generates.f k l0 a1 = some r) :
  Calls Try.prog 115 #[.slice A0 l0.length c0, .int .i64 a1] w fun e w' => e = .returned (.bool r) ∧ Below w.heap.size w w' := by
 have HR0 := am hr0
 have HC0 := am hc0
 clear hr0 hc0
 have HB := am (Below.refl w.heap.size w)
 have H : ((impl_usable.f k l0).bind fun t324 => (if t324 = true then ((impl_within.f a1 0 1000000).bind fun t325 => (if t325 = true then (if 0 < (l0.length : Int) then ((impl_leasts.f k l0 (rd l0 0)).bind fun t327 => (if (rd l0 0) = 0 then (none) else (if 0 ≤ (Int.tmod a1 (rd l0 0)) then (if (Int.tmod a1 (rd l0 0)) < (t327.length : Int) then (if (rd t327 (Int.tmod a1 (rd l0 0))) ≥ 0 then (some (decide ((rd t327 (Int.tmod a1 (rd l0 0))) ≤ a1))) else (some false)) else (none)) else (none)))) else (none)) else (some false))) else (some false))) = some r := h
 clear h
 replace H := ga H; obtain ⟨t324, A3, H⟩ := H
 replace H := gb H; obtain ⟨rfl, H⟩ | ⟨rfl, H⟩ := H
 ·replace H := ga H; obtain ⟨t325, A5, H⟩ := H
  replace H := gb H; obtain ⟨rfl, H⟩ | ⟨rfl, H⟩ := H
  ·replace H := gp H; obtain ⟨c7, H⟩ := H
   have c7b0 : decide (0 < (l0.length : Int)) = true := decide_eq_true c7
   have c7b1 : decide (0 < l0.length) = true := decide_eq_true (by omega)
   clear c7
   replace H := ga H; obtain ⟨t327, A8, H⟩ := H
   by_cases c9 : (rd l0 0) = 0
   ·rw [if_pos c9] at H
    exact absurd H (by simp)
   rw [if_neg c9] at H
   have c9b0 : ((rd l0 0) == 0) = false := beq_eq_false_iff_ne.mpr c9
   have c9b1 : ((rd l0 0) != 0) = true := bne_iff_ne.mpr c9
   obtain ⟨ji10, hji10⟩ : ∃ j_ : Int, (Int.tmod a1 (rd l0 0)) = j_ := ⟨_, rfl⟩
   replace H : (if 0 ≤ (ji10) then (if (ji10) < (t327.length : Int) then (if (rd t327 (ji10)) ≥ 0 then (some (decide ((rd t327 (ji10)) ≤ a1))) else (some false)) else (none)) else (none)) = some r := by first | (rw [hji10] at H; exact H) | (simp only [hji10] at H ⊢; exact H)
   (try rw [hji10] at A3)
   (try rw [hji10] at A5)
   (try rw [hji10] at A8)
   replace H := gd H; obtain ⟨c11b0, H⟩ := H
   replace H := gd H; obtain ⟨c12b0, H⟩ := H
   replace H := gj H; obtain ⟨c13, H⟩ | ⟨c13, H⟩ := H
   ·have c13b0 : decide (0 ≤ (rd t327 (ji10))) = true := decide_eq_true c13
    clear c13
    obtain rfl := Option.some.inj H
    go_enter Try.func115, Try.ntmps115
    try go_wp2_with (first | ((with_reducible refine gate_callee (f := 140) rfl ?_); refine gl (some 7) Try.func140 #[.slice A0 l0.length c0] ?_; (with_reducible refine (impl_usable.calls k _ _ l0 true _ ?side1 ?side2 A3.out).mono ?_); (case side1 => exact co HR0.out); (case side2 => exact HC0.out); rintro e w' ⟨rfl, ⟨nda, rfl⟩⟩; refine ⟨_, rfl, ?_⟩) | (go_at_call 63; (with_reducible refine (impl_within.calls a1 0 1000000 true _ A5.out).mono ?_); rintro e w' ⟨rfl, ⟨ndb, rfl⟩⟩))
    replace HB := am (below_drew1 (pw_below_drewN HB.out (nda + ndb)))
    have p326 : 0 ≤ (0 : Int) := (by omega)
    have q326 : 0 < (l0.length : Int) := of_decide_eq_true (by first | (with_reducible assumption) | assumption)
    obtain ⟨ad326, e326, hx326_0⟩ := Kd.at_int HR0.out 0 p326 q326
    have hw326_0 := hx326_0
    (try rw [show ((0 : Int)).toNat = 0 from rfl] at hw326_0)
    (try rw [show 0 * 1 = 0 from rfl] at hw326_0)
    (try rw [Addr.add_zero'] at hw326_0)
    cases e326
    have qi326 : (0 < l0.length) = True := eq_true (by omega)
    (try rw [show ((0 : Int)).toNat = 0 from rfl] at hx326_0)
    (try rw [Addr.add_zero'] at hx326_0)
    replace hx326_0 := hw HB hx326_0
    replace p326 := eq_true p326
    replace q326 := eq_true q326
    have p330 : 0 ≤ (0 : Int) := (by omega)
    have q330 : 0 < (l0.length : Int) := of_decide_eq_true (by first | (with_reducible assumption) | assumption)
    obtain ⟨ad330, e330, hx330_0⟩ := Kd.at_int HR0.out 0 p330 q330
    have hw330_0 := hx330_0
    (try rw [show ((0 : Int)).toNat = 0 from rfl] at hw330_0)
    (try rw [show 0 * 1 = 0 from rfl] at hw330_0)
    (try rw [Addr.add_zero'] at hw330_0)
    obtain rfl : ad326 = ad330 := (by injection e330)
    have qi330 : (0 < l0.length) = True := eq_true (by omega)
    (try rw [show ((0 : Int)).toNat = 0 from rfl] at hx330_0)
    (try rw [Addr.add_zero'] at hx330_0)
    replace hx330_0 := hw HB hx330_0
    replace p330 := eq_true p330
    replace q330 := eq_true q330
    refine start_ (n := 13) (S := fun w' => w'.cell? ad326 = some (.int .i64 (rd l0 0)) ∧ w'.cell? ad326 = some (.int .i64 (rd l0 0))) (ds := []) (yz 13 0) (by kernel_rfl) rfl rfl ⟨((HB.out.cell (World.block_lt_of_cell? w _ hw326_0)).trans hw326_0), ((HB.out.cell (World.block_lt_of_cell? w _ hw330_0)).trans hw330_0)⟩ (fun hHeld => ?_); refine with_tabW impl_Generates.tab3 impl_Generates.bits3 (fun HT_ HW_ => ?_)
    generalize (w.drewN (nda + ndb)).drew = w14 at HB hx326_0 hx330_0 hHeld ⊢
    refine pa 0 (some 14) (yz 13 1) HT_ ?_
    refine pa 1 (some 15) (yz 13 3) HT_ ?_
    refine pa 2 (some 16) (yz 13 7) HT_ ?_
    refine pa 5 (some 19) (yz 13 39) HT_ ?_
    refine pa 6 (some 20) (yz 13 103) HT_ ?_
    refine pa 7 (some 21) (yz 13 231) HT_ ?_
    refine tk 3 (some 17) (yz 13 239) HT_ HW_ hHeld ?_
    refine tk 8 (some 22) (yz 13 495) HT_ HW_ hHeld ?_
    refine pa 9 (some 23) (yz 13 1007) HT_ ?_
    refine oa 4 (some 18) (yz 13 1023) HT_ (fun K hK => ?_)
    refine gm Try.func116 #[.slice (some ad326) l0.length c0, .int .i64 (rd l0 0)] ?_
    with_reducible refine (impl_leasts.calls k _ _ l0 (rd l0 0) t327 _ ?side1 ?side2 A8.out).mono ?_
    (case side1 => exact co (Kd.C_below HR0.out HB.out))
    (case side2 => exact HC0.out)
    rintro e w15 ⟨v328, rfl, ho0, hb⟩
    refine ⟨_, rfl, ?_⟩
    have HO329 := am (Kd.R_lower ho0 (below_size bw))
    replace HB := am (below_step bw hb)
    clear hb ho0
    obtain ⟨Ao16, co16, eo16⟩ := Kd.R_slice HO329.out
    (first | subst eo16 | (injection eo16 with f1_ f2_ f3_; have f4_ := f1_.symm; have f5_ := f3_.symm; clear f1_ f2_ f3_; subst f4_; subst f5_))
    obtain ⟨⟨ad331, e331, hx331_0⟩, p331, q331⟩ := pq (Kd.at_int (Kd.R_reads' HO329.out).2.2 (ji10))
    cases e331
    refine hK.out _ _ ⟨((HB.out.cell (World.block_lt_of_cell? w _ hw326_0)).trans hw326_0), ((HB.out.cell (World.block_lt_of_cell? w _ hw330_0)).trans hw330_0)⟩ (fun hHeld => ?_)
    clear hK K
    refine nm (some 18) ?_
    refine pa 10 (some 24) (yz 13 2047) HT_ ?_
    refine oa 11 (some 25) (yz 13 4095) HT_ (fun K hK => ?_)
    refine value_ (w1 := ?_) (v := ?_) (by rfl) rfl ?_ ?_
    rotate_left 2
    ·go_simp
     constructor
     ·rfl
     rfl
    refine hK.out _ _ hHeld (fun hHeld => ?_)
    clear hK K
    refine nm (some 25) ?_
    refine pa 12 (some 5) (yz 13 8191) HT_ ?_
    refine done_ (done_of HT_.out (by kernel_rfl)) ?_
    try go_wp2
    go_ret
    exact ⟨by first | rfl | (simp [errW_none, errW_some] <;> rfl) | (simp only [← hji10]; first | rfl | (simp [errW_none, errW_some] <;> rfl)) | (simp [*, errW_none, errW_some] <;> rfl), bw⟩
   have c13b0 : decide (0 ≤ (rd t327 (ji10))) = false := decide_eq_false c13
   clear c13
   obtain rfl := Option.some.inj H
   go_enter Try.func115, Try.ntmps115
   try go_wp2_with (first | ((with_reducible refine gate_callee (f := 140) rfl ?_); refine gl (some 7) Try.func140 #[.slice A0 l0.length c0] ?_; (with_reducible refine (impl_usable.calls k _ _ l0 true _ ?side1 ?side2 A3.out).mono ?_); (case side1 => exact co HR0.out); (case side2 => exact HC0.out); rintro e w' ⟨rfl, ⟨nda, rfl⟩⟩; refine ⟨_, rfl, ?_⟩) | (go_at_call 63; (with_reducible refine (impl_within.calls a1 0 1000000 true _ A5.out).mono ?_); rintro e w' ⟨rfl, ⟨ndb, rfl⟩⟩))
   replace HB := am (below_drew1 (pw_below_drewN HB.out (nda + ndb)))
   have p326 : 0 ≤ (0 : Int) := (by omega)
   have q326 : 0 < (l0.length : Int) := of_decide_eq_true (by first | (with_reducible assumption) | assumption)
   obtain ⟨ad326, e326, hx326_0⟩ := Kd.at_int HR0.out 0 p326 q326
   have hw326_0 := hx326_0
   (try rw [show ((0 : Int)).toNat = 0 from rfl] at hw326_0)
   (try rw [show 0 * 1 = 0 from rfl] at hw326_0)
   (try rw [Addr.add_zero'] at hw326_0)
   cases e326
   have qi326 : (0 < l0.length) = True := eq_true (by omega)
   (try rw [show ((0 : Int)).toNat = 0 from rfl] at hx326_0)
   (try rw [Addr.add_zero'] at hx326_0)
   replace hx326_0 := hw HB hx326_0
   replace p326 := eq_true p326
   replace q326 := eq_true q326
   have p330 : 0 ≤ (0 : Int) := (by omega)
   have q330 : 0 < (l0.length : Int) := of_decide_eq_true (by first | (with_reducible assumption) | assumption)
   obtain ⟨ad330, e330, hx330_0⟩ := Kd.at_int HR0.out 0 p330 q330
   have hw330_0 := hx330_0
   (try rw [show ((0 : Int)).toNat = 0 from rfl] at hw330_0)
   (try rw [show 0 * 1 = 0 from rfl] at hw330_0)
   (try rw [Addr.add_zero'] at hw330_0)
   obtain rfl : ad326 = ad330 := (by injection e330)
   have qi330 : (0 < l0.length) = True := eq_true (by omega)
   (try rw [show ((0 : Int)).toNat = 0 from rfl] at hx330_0)
   (try rw [Addr.add_zero'] at hx330_0)
   replace hx330_0 := hw HB hx330_0
   replace p330 := eq_true p330
   replace q330 := eq_true q330
   refine start_ (n := 13) (S := fun w' => w'.cell? ad326 = some (.int .i64 (rd l0 0)) ∧ w'.cell? ad326 = some (.int .i64 (rd l0 0))) (ds := []) (yz 13 0) (by kernel_rfl) rfl rfl ⟨((HB.out.cell (World.block_lt_of_cell? w _ hw326_0)).trans hw326_0), ((HB.out.cell (World.block_lt_of_cell? w _ hw330_0)).trans hw330_0)⟩ (fun hHeld => ?_); refine with_tabW impl_Generates.tab3 impl_Generates.bits3 (fun HT_ HW_ => ?_)
   generalize (w.drewN (nda + ndb)).drew = w17 at HB hx326_0 hx330_0 hHeld ⊢
   refine pa 0 (some 14) (yz 13 1) HT_ ?_
   refine pa 1 (some 15) (yz 13 3) HT_ ?_
   refine pa 2 (some 16) (yz 13 7) HT_ ?_
   refine pa 5 (some 19) (yz 13 39) HT_ ?_
   refine pa 6 (some 20) (yz 13 103) HT_ ?_
   refine pa 7 (some 21) (yz 13 231) HT_ ?_
   refine tk 3 (some 17) (yz 13 239) HT_ HW_ hHeld ?_
   refine tk 8 (some 22) (yz 13 495) HT_ HW_ hHeld ?_
   refine pa 9 (some 23) (yz 13 1007) HT_ ?_
   refine oa 4 (some 18) (yz 13 1023) HT_ (fun K hK => ?_)
   refine gm Try.func116 #[.slice (some ad326) l0.length c0, .int .i64 (rd l0 0)] ?_
   with_reducible refine (impl_leasts.calls k _ _ l0 (rd l0 0) t327 _ ?side1 ?side2 A8.out).mono ?_
   (case side1 => exact co (Kd.C_below HR0.out HB.out))
   (case side2 => exact HC0.out)
   rintro e w18 ⟨v328, rfl, ho0, hb⟩
   refine ⟨_, rfl, ?_⟩
   have HO329 := am (Kd.R_lower ho0 (below_size bw))
   replace HB := am (below_step bw hb)
   clear hb ho0
   obtain ⟨Ao19, co19, eo19⟩ := Kd.R_slice HO329.out
   (first | subst eo19 | (injection eo19 with f1_ f2_ f3_; have f4_ := f1_.symm; have f5_ := f3_.symm; clear f1_ f2_ f3_; subst f4_; subst f5_))
   obtain ⟨⟨ad331, e331, hx331_0⟩, p331, q331⟩ := pq (Kd.at_int (Kd.R_reads' HO329.out).2.2 (ji10))
   cases e331
   refine hK.out _ _ ⟨((HB.out.cell (World.block_lt_of_cell? w _ hw326_0)).trans hw326_0), ((HB.out.cell (World.block_lt_of_cell? w _ hw330_0)).trans hw330_0)⟩ (fun hHeld => ?_)
   clear hK K
   refine nm (some 18) ?_
   refine pa 10 (some 24) (yz 13 2047) HT_ ?_
   refine oa 11 (some 25) (yz 13 4095) HT_ (fun K hK => ?_)
   refine value_ (w1 := ?_) (v := ?_) (by rfl) rfl ?_ ?_
   rotate_left 2
   ·go_simp
    constructor
    ·rfl
    rfl
   refine hK.out _ _ hHeld (fun hHeld => ?_)
   clear hK K
   refine nm (some 25) ?_
   refine pa 12 (some 5) (yz 13 8191) HT_ ?_
   refine done_ (done_of HT_.out (by kernel_rfl)) ?_
   try go_wp2
   go_ret
   exact ⟨by first | rfl | (simp [errW_none, errW_some] <;> rfl) | (simp only [← hji10]; first | rfl | (simp [errW_none, errW_some] <;> rfl)) | (simp [*, errW_none, errW_some] <;> rfl), bw⟩
  obtain rfl := Option.some.inj H
  go_enter Try.func115, Try.ntmps115
  go_wp2_with (first | ((with_reducible refine gate_callee (f := 140) rfl ?_); refine gl (some 7) Try.func140 #[.slice A0 l0.length c0] ?_; (with_reducible refine (impl_usable.calls k _ _ l0 true _ ?side1 ?side2 A3.out).mono ?_); (case side1 => exact co HR0.out); (case side2 => exact HC0.out); rintro e w' ⟨rfl, ⟨nd, rfl⟩⟩; refine ⟨_, rfl, ?_⟩) | (go_at_call 63; (with_reducible refine (impl_within.calls a1 0 1000000 false _ A5.out).mono ?_); rintro e w' ⟨rfl, ⟨nd, rfl⟩⟩))
  go_ret
  exact ⟨re, bw⟩
 obtain rfl := Option.some.inj H
 go_enter Try.func115, Try.ntmps115
 go_wp2_with (first | ((with_reducible refine gate_callee (f := 140) rfl ?_); refine gl (some 7) Try.func140 #[.slice A0 l0.length c0] ?_; (with_reducible refine (impl_usable.calls k _ _ l0 false _ ?side1 ?side2 A3.out).mono ?_); (case side1 => exact co HR0.out); (case side2 => exact HC0.out); rintro e w' ⟨rfl, ⟨nd, rfl⟩⟩; refine ⟨_, rfl, ?_⟩))
 go_ret
 exact ⟨re, bw⟩

end Go.Proofs.Ytlfdipnhlmjiaaa.C
