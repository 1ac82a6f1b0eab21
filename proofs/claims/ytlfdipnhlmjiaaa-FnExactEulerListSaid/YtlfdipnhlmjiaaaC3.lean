/- Contracts of functions of the program: spec_IsSemigroup, spec_l4Gaps, spec_Gaps, spec_FrobeniusOf, impl_within, impl_allWithin, impl_IsAscending, impl_GcdOf, impl_GcdOfList. -/
import Derived.Test.YtlfdipnhlmjiaaaC0
import Derived.Test.YtlfdipnhlmjiaaaC1
import Derived.Test.YtlfdipnhlmjiaaaC2
namespace Go.Proofs.Ytlfdipnhlmjiaaa.C
open Go.RowKit Go.Proofs.YtlfdipnhlmjiaaaW.PrintWords Go.Proofs.YtlfdipnhlmjiaaaW.PrintLast Go.Proofs.YtlfdipnhlmjiaaaW.PrintMore
attribute [local go_sem] max2_int min2_int max_two min_two max_three min_three max_four min_four
set_option linter.unusedVariables false
set_option linter.unusedSimpArgs false

/-! ### spec_IsSemigroup: function 58 -/
def spec_IsSemigroup.f (k : Nat) (l0_0 : List Int) : Option (Bool) := (spec_l3Gens.f k l0_0).bind fun t218 => (if t218 = true then (if (l0_0.length : Int) ≤ 12 then ((spec_IsAscending.f k l0_0).bind fun t219 => (if t219 = true then ((spec_GcdOfList.f k l0_0).bind fun t220 => (if t220 = 1 then ((spec_l3Minimal.f k l0_0).bind fun t221 => ((spec_l2Same.f k t221 l0_0).bind fun t224 => (if t224 = true then ((spec_l3Ends.f k l0_0).bind fun t225 => (some t225)) else (some false)))) else (some false))) else (some false))) else (some false)) else (some false))
def spec_IsSemigroup.T1 : Bool × List (List Nat × List Nat) := (true, [([], []), ([0], [0]), ([1], [1]), ([2, 2], [2]), ([3], [3]), ([4, 3], [3, 4]), ([5, 3], [3, 5]), ([6, 3], [3, 6]), ([3, 7], [3, 7]), ([8, 3], [8]), ([9], [9]), ([10, 9], [9, 10]), ([11, 9, 9], [9, 11]), ([9, 12], [9, 12]), ([13, 12], [13]), ([14], [14]), ([15, 14], [14, 15]), ([16, 14, 14], [14, 16]), ([17, 14], [14, 17]), ([14, 18], [14, 18]), ([19, 17], [19]), ([20], [20]), ([21, 20], [20, 21]), ([22, 20, 20], [20, 22]), ([20], [20]), ([24, 20], [20, 24]), ([23, 25, 23, 20], [20, 23, 25]), ([20, 26], [20, 26]), ([27, 26], [27]), ([28], [28]), ([29, 28], [28, 29]), ([30, 28, 28], [28, 30]), ([28, 31], [28, 31]), ([32, 31, 0, 1, 2, 3, 4, 5, 6, 7, 8, 9, 10, 11, 12, 13, 14, 15, 16, 17, 18, 19, 20, 21, 22, 23, 24, 25, 26, 27, 28, 29, 30, 31, 32], [32])])
def spec_IsSemigroup.B1 : List Nat := [0, 1, 3, 7, 15, 31, 63, 127, 255, 511, 1023, 2047, 4095, 8191, 16383, 32767, 65535, 131071, 262143, 524287, 1048575, 2097151, 4194303, 8388607, 2097151, 18874367, 67108863, 134217727, 268435455, 536870911, 1073741823, 2147483647, 4294967295, 8589934591]
theorem spec_IsSemigroup.tab1 : rtab .any (opsOf Try.f58 1) = spec_IsSemigroup.T1 := by kernel_rfl
theorem spec_IsSemigroup.bits1 : waitsOk spec_IsSemigroup.T1.2 spec_IsSemigroup.B1 = true := by kernel_rfl
set_option maxHeartbeats 8000000 in
set_option maxRecDepth 100000 in
theorem spec_IsSemigroup.calls (k : Nat) (A0_0 : Option Addr) (c0_0 : Nat) (l0_0 : List Int) (r : Bool) (w : World) (hr0_0 : Kd.C (Kd.int .i64) w A0_0 l0_0.length l0_0) (hc0_0 : l0_0.length ≤ c0_0) (h : spec_IsSemigroup.f k l0_0 = some r) :
  Calls Try.prog 58 #[.agg #[.slice A0_0 l0_0.length c0_0]] w fun e w' => e = .returned (.bool r) ∧ Below w.heap.size w w' := by
 have hu27 := Try.underlying27
 have HR0_0 := am hr0_0
 have HC0_0 := am hc0_0
 clear hr0_0 hc0_0
 have HB := am (Below.refl w.heap.size w)
 have H : ((spec_l3Gens.f k l0_0).bind fun t218 => (if t218 = true then (if (l0_0.length : Int) ≤ 12 then ((spec_IsAscending.f k l0_0).bind fun t219 => (if t219 = true then ((spec_GcdOfList.f k l0_0).bind fun t220 => (if t220 = 1 then ((spec_l3Minimal.f k l0_0).bind fun t221 => ((spec_l2Same.f k t221 l0_0).bind fun t224 => (if t224 = true then ((spec_l3Ends.f k l0_0).bind fun t225 => (some t225)) else (some false)))) else (some false))) else (some false))) else (some false)) else (some false))) = some r := h
 clear h
 replace H := ga H; obtain ⟨t218, A2, H⟩ := H
 replace H := gb H; obtain ⟨rfl, H⟩ | ⟨rfl, H⟩ := H
 ·replace H := gj H; obtain ⟨c4, H⟩ | ⟨c4, H⟩ := H
  ·have c4b0 : decide ((l0_0.length : Int) ≤ 12) = true := decide_eq_true c4
   have c4b1 : decide (l0_0.length ≤ 12) = true := decide_eq_true (by omega)
   clear c4
   replace H := ga H; obtain ⟨t219, A5, H⟩ := H
   replace H := gb H; obtain ⟨rfl, H⟩ | ⟨rfl, H⟩ := H
   ·replace H := ga H; obtain ⟨t220, A7, H⟩ := H
    by_cases c8 : t220 = 1
    ·rw [if_pos c8] at H
     have c8b0 : (t220 == 1) = true := beq_iff_eq.mpr c8
     have c8b1 : (t220 != 1) = false := bne_eq_false_iff_eq.mpr c8
     clear c8
     replace H := ga H; obtain ⟨t221, A9, H⟩ := H
     replace H := ga H; obtain ⟨t224, A10, H⟩ := H
     replace H := gb H; obtain ⟨rfl, H⟩ | ⟨rfl, H⟩ := H
     ·replace H := ga H; obtain ⟨t225, A12, H⟩ := H
      obtain rfl := Option.some.inj H
      go_enter Try.func58, Try.ntmps58
      try go_wp2_with (first | ((with_reducible refine gate_dst (N := 1) rfl ?_); (try (refine gate_guard (by rfl) ?_; dsimp only)); refine bx 1 #[.slice A0_0 l0_0.length c0_0] 27 ?_; intro gb217 hg w13 hbox hb; have BK217 := am (hbox); have GW217 := am (gs hg : w.heap.size ≤ gb217); have GE217 := GW217; replace HB := am (below_step bw hb); clear hb hbox hg))
      replace BK217 := bd BK217
      replace HB := am (below_drew1 HB.out)
      refine start_ (n := 34) (S := fun w' => w'.cell? ⟨gb217, 0, none⟩ = some (.slice A0_0 l0_0.length c0_0)) (ds := []) (yz 34 0) (by kernel_rfl) rfl rfl (bc BK217 0 _) (fun hHeld => ?_); refine with_tabW spec_IsSemigroup.tab1 spec_IsSemigroup.bits1 (fun HT_ HW_ => ?_)
      generalize w13.drew = w14 at BK217 HB hHeld ⊢
      refine pa 0 (some 3) (yz 34 1) HT_ ?_
      refine tK 1 (some 4) (yz 34 3) HT_ HW_ hHeld ?_
      refine oa 2 (some 5) (yz 34 7) HT_ (fun K hK => ?_)
      refine gm Try.func106 #[.slice A0_0 l0_0.length c0_0] ?_
      with_reducible refine (spec_l3Gens.calls k _ _ l0_0 true _ ?side1 ?side2 A2.out).mono ?_
      (case side1 => exact co (Kd.C_below HR0_0.out HB.out))
      (case side2 => exact HC0_0.out)
      rintro e w' ⟨rfl, ⟨nd, rfl⟩⟩
      refine ⟨_, rfl, ?_⟩
      refine hK.out _ _ (bc BK217 0 _) (fun hHeld => ?_)
      clear hK K
      refine nm (some 5) ?_
      refine pa 3 (some 6) (yz 34 15) HT_ ?_
      refine pa 4 (some 7) (yz 34 31) HT_ ?_
      refine tK 5 (some 8) (yz 34 63) HT_ HW_ hHeld ?_
      refine pa 6 (some 9) (yz 34 127) HT_ ?_
      refine pa 7 (some 10) (yz 34 255) HT_ ?_
      refine pa 8 (some 11) (yz 34 511) HT_ ?_
      refine pa 9 (some 12) (yz 34 1023) HT_ ?_
      refine pa 10 (some 13) (yz 34 2047) HT_ ?_
      refine tK 11 (some 14) (yz 34 4095) HT_ HW_ hHeld ?_
      refine oa 12 (some 15) (yz 34 8191) HT_ (fun K hK => ?_)
      refine gm Try.func107 #[.slice A0_0 l0_0.length c0_0] ?_
      with_reducible refine (spec_IsAscending.calls k _ _ l0_0 true _ ?side1 ?side2 A5.out).mono ?_
      (case side1 => exact co (Kd.C_below HR0_0.out bw))
      (case side2 => exact HC0_0.out)
      rintro e w' ⟨rfl, ⟨nd, rfl⟩⟩
      refine ⟨_, rfl, ?_⟩
      refine hK.out _ _ (bc BK217 0 _) (fun hHeld => ?_)
      clear hK K
      refine nm (some 15) ?_
      refine pa 13 (some 16) (yz 34 16383) HT_ ?_
      refine pa 14 (some 17) (yz 34 32767) HT_ ?_
      refine pa 15 (some 18) (yz 34 65535) HT_ ?_
      refine tK 16 (some 19) (yz 34 131071) HT_ HW_ hHeld ?_
      refine oa 17 (some 20) (yz 34 262143) HT_ (fun K hK => ?_)
      refine gm Try.func108 #[.slice A0_0 l0_0.length c0_0] ?_
      with_reducible refine (spec_GcdOfList.calls k _ _ l0_0 t220 _ ?side1 ?side2 A7.out).mono ?_
      (case side1 => exact co (Kd.C_below HR0_0.out bw))
      (case side2 => exact HC0_0.out)
      rintro e w' ⟨rfl, ⟨nd, rfl⟩⟩
      refine ⟨_, rfl, ?_⟩
      refine hK.out _ _ (bc BK217 0 _) (fun hHeld => ?_)
      clear hK K
      refine nm (some 20) ?_
      refine pa 18 (some 21) (yz 34 524287) HT_ ?_
      refine pa 19 (some 22) (yz 34 1048575) HT_ ?_
      refine pa 20 (some 23) (yz 34 2097151) HT_ ?_
      refine pa 21 (some 24) (yz 34 4194303) HT_ ?_
      refine pa 24 (some 27) (yz 34 20971519) HT_ ?_
      refine tK 22 (some 25) (yz 34 25165823) HT_ HW_ hHeld ?_
      refine tK 25 (some 28) (yz 34 58720255) HT_ HW_ hHeld ?_
      refine oa 23 (some 26) (yz 34 67108863) HT_ (fun K hK => ?_)
      refine gm Try.func110 #[.slice A0_0 l0_0.length c0_0] ?_
      with_reducible refine (spec_l3Minimal.calls k _ _ l0_0 t221 _ ?side1 ?side2 A9.out).mono ?_
      (case side1 => exact co (Kd.C_below HR0_0.out bw))
      (case side2 => exact HC0_0.out)
      rintro e w15 ⟨v222, rfl, ho0, hb⟩
      refine ⟨_, rfl, ?_⟩
      have HO223 := am (Kd.R_lower ho0 (below_size bw))
      replace BK217 := kb BK217 hb
      replace HB := am (below_step bw hb)
      clear hb ho0
      obtain ⟨Ao16, co16, eo16⟩ := Kd.R_slice HO223.out
      (first | subst eo16 | (injection eo16 with f1_ f2_ f3_; have f4_ := f1_.symm; have f5_ := f3_.symm; clear f1_ f2_ f3_; subst f4_; subst f5_))
      refine hK.out _ _ (bc BK217 0 _) (fun hHeld => ?_)
      clear hK K
      refine nm (some 26) ?_
      refine oa 26 (some 29) (yz 34 134217727) HT_ (fun K hK => ?_)
      refine gm Try.func109 #[.slice Ao16 t221.length co16, .slice A0_0 l0_0.length c0_0] ?_
      with_reducible refine (spec_l2Same.calls k _ _ t221 _ _ l0_0 true _ ?side1 ?side2 ?side3 ?side4 A10.out).mono ?_
      (case side1 => exact co (Kd.R_reads' HO223.out).2.2)
      (case side2 => exact (Kd.R_reads' HO223.out).2.1)
      (case side3 => exact co (Kd.C_below HR0_0.out HB.out))
      (case side4 => exact HC0_0.out)
      rintro e w' ⟨rfl, ⟨nd, rfl⟩⟩
      refine ⟨_, rfl, ?_⟩
      refine hK.out _ _ (bc BK217 0 _) (fun hHeld => ?_)
      clear hK K
      refine nm (some 29) ?_
      refine pa 27 (some 30) (yz 34 268435455) HT_ ?_
      refine pa 28 (some 31) (yz 34 536870911) HT_ ?_
      refine pa 29 (some 32) (yz 34 1073741823) HT_ ?_
      refine tK 30 (some 33) (yz 34 2147483647) HT_ HW_ hHeld ?_
      refine oa 31 (some 34) (yz 34 4294967295) HT_ (fun K hK => ?_)
      refine gm Try.func111 #[.slice A0_0 l0_0.length c0_0] ?_
      with_reducible refine (spec_l3Ends.calls k _ _ l0_0 t225 _ ?side1 ?side2 A12.out).mono ?_
      (case side1 => exact co (Kd.C_below HR0_0.out bw))
      (case side2 => exact HC0_0.out)
      rintro e w17 ⟨rfl, hb⟩
      refine ⟨_, rfl, ?_⟩
      replace HO223 := rK HO223 hb
      replace BK217 := kb BK217 hb
      replace HB := am (below_step bw hb)
      clear hb
      refine hK.out _ _ (bc BK217 0 _) (fun hHeld => ?_)
      clear hK K
      refine nm (some 34) ?_
      refine pa 32 (some 35) (yz 34 8589934591) HT_ ?_
      refine pa 33 (some 2) (yz 34 17179869183) HT_ ?_
      refine done_ (done_of HT_.out (by kernel_rfl)) ?_
      try go_wp2
      go_ret
      exact ⟨re, bw⟩
     obtain rfl := Option.some.inj H
     go_enter Try.func58, Try.ntmps58
     try go_wp2_with (first | ((with_reducible refine gate_dst (N := 1) rfl ?_); (try (refine gate_guard (by rfl) ?_; dsimp only)); refine bx 1 #[.slice A0_0 l0_0.length c0_0] 27 ?_; intro gb217 hg w18 hbox hb; have BK217 := am (hbox); have GW217 := am (gs hg : w.heap.size ≤ gb217); have GE217 := GW217; replace HB := am (below_step bw hb); clear hb hbox hg))
     replace BK217 := bd BK217
     replace HB := am (below_drew1 HB.out)
     refine start_ (n := 34) (S := fun w' => w'.cell? ⟨gb217, 0, none⟩ = some (.slice A0_0 l0_0.length c0_0)) (ds := []) (yz 34 0) (by kernel_rfl) rfl rfl (bc BK217 0 _) (fun hHeld => ?_); refine with_tabW spec_IsSemigroup.tab1 spec_IsSemigroup.bits1 (fun HT_ HW_ => ?_)
     generalize w18.drew = w19 at BK217 HB hHeld ⊢
     refine pa 0 (some 3) (yz 34 1) HT_ ?_
     refine tK 1 (some 4) (yz 34 3) HT_ HW_ hHeld ?_
     refine oa 2 (some 5) (yz 34 7) HT_ (fun K hK => ?_)
     refine gm Try.func106 #[.slice A0_0 l0_0.length c0_0] ?_
     with_reducible refine (spec_l3Gens.calls k _ _ l0_0 true _ ?side1 ?side2 A2.out).mono ?_
     (case side1 => exact co (Kd.C_below HR0_0.out HB.out))
     (case side2 => exact HC0_0.out)
     rintro e w' ⟨rfl, ⟨nd, rfl⟩⟩
     refine ⟨_, rfl, ?_⟩
     refine hK.out _ _ (bc BK217 0 _) (fun hHeld => ?_)
     clear hK K
     refine nm (some 5) ?_
     refine pa 3 (some 6) (yz 34 15) HT_ ?_
     refine pa 4 (some 7) (yz 34 31) HT_ ?_
     refine tK 5 (some 8) (yz 34 63) HT_ HW_ hHeld ?_
     refine pa 6 (some 9) (yz 34 127) HT_ ?_
     refine pa 7 (some 10) (yz 34 255) HT_ ?_
     refine pa 8 (some 11) (yz 34 511) HT_ ?_
     refine pa 9 (some 12) (yz 34 1023) HT_ ?_
     refine pa 10 (some 13) (yz 34 2047) HT_ ?_
     refine tK 11 (some 14) (yz 34 4095) HT_ HW_ hHeld ?_
     refine oa 12 (some 15) (yz 34 8191) HT_ (fun K hK => ?_)
     refine gm Try.func107 #[.slice A0_0 l0_0.length c0_0] ?_
     with_reducible refine (spec_IsAscending.calls k _ _ l0_0 true _ ?side1 ?side2 A5.out).mono ?_
     (case side1 => exact co (Kd.C_below HR0_0.out bw))
     (case side2 => exact HC0_0.out)
     rintro e w' ⟨rfl, ⟨nd, rfl⟩⟩
     refine ⟨_, rfl, ?_⟩
     refine hK.out _ _ (bc BK217 0 _) (fun hHeld => ?_)
     clear hK K
     refine nm (some 15) ?_
     refine pa 13 (some 16) (yz 34 16383) HT_ ?_
     refine pa 14 (some 17) (yz 34 32767) HT_ ?_
     refine pa 15 (some 18) (yz 34 65535) HT_ ?_
     refine tK 16 (some 19) (yz 34 131071) HT_ HW_ hHeld ?_
     refine oa 17 (some 20) (yz 34 262143) HT_ (fun K hK => ?_)
     refine gm Try.func108 #[.slice A0_0 l0_0.length c0_0] ?_
     with_reducible refine (spec_GcdOfList.calls k _ _ l0_0 t220 _ ?side1 ?side2 A7.out).mono ?_
     (case side1 => exact co (Kd.C_below HR0_0.out bw))
     (case side2 => exact HC0_0.out)
     rintro e w' ⟨rfl, ⟨nd, rfl⟩⟩
     refine ⟨_, rfl, ?_⟩
     refine hK.out _ _ (bc BK217 0 _) (fun hHeld => ?_)
     clear hK K
     refine nm (some 20) ?_
     refine pa 18 (some 21) (yz 34 524287) HT_ ?_
     refine pa 19 (some 22) (yz 34 1048575) HT_ ?_
     refine pa 20 (some 23) (yz 34 2097151) HT_ ?_
     refine pa 21 (some 24) (yz 34 4194303) HT_ ?_
     refine pa 24 (some 27) (yz 34 20971519) HT_ ?_
     refine tK 22 (some 25) (yz 34 25165823) HT_ HW_ hHeld ?_
     refine tK 25 (some 28) (yz 34 58720255) HT_ HW_ hHeld ?_
     refine oa 23 (some 26) (yz 34 67108863) HT_ (fun K hK => ?_)
     refine gm Try.func110 #[.slice A0_0 l0_0.length c0_0] ?_
     with_reducible refine (spec_l3Minimal.calls k _ _ l0_0 t221 _ ?side1 ?side2 A9.out).mono ?_
     (case side1 => exact co (Kd.C_below HR0_0.out bw))
     (case side2 => exact HC0_0.out)
     rintro e w20 ⟨v222, rfl, ho0, hb⟩
     refine ⟨_, rfl, ?_⟩
     have HO223 := am (Kd.R_lower ho0 (below_size bw))
     replace BK217 := kb BK217 hb
     replace HB := am (below_step bw hb)
     clear hb ho0
     obtain ⟨Ao21, co21, eo21⟩ := Kd.R_slice HO223.out
     (first | subst eo21 | (injection eo21 with f1_ f2_ f3_; have f4_ := f1_.symm; have f5_ := f3_.symm; clear f1_ f2_ f3_; subst f4_; subst f5_))
     refine hK.out _ _ (bc BK217 0 _) (fun hHeld => ?_)
     clear hK K
     refine nm (some 26) ?_
     refine oa 26 (some 29) (yz 34 134217727) HT_ (fun K hK => ?_)
     refine gm Try.func109 #[.slice Ao21 t221.length co21, .slice A0_0 l0_0.length c0_0] ?_
     with_reducible refine (spec_l2Same.calls k _ _ t221 _ _ l0_0 false _ ?side1 ?side2 ?side3 ?side4 A10.out).mono ?_
     (case side1 => exact co (Kd.R_reads' HO223.out).2.2)
     (case side2 => exact (Kd.R_reads' HO223.out).2.1)
     (case side3 => exact co (Kd.C_below HR0_0.out HB.out))
     (case side4 => exact HC0_0.out)
     rintro e w' ⟨rfl, ⟨nd, rfl⟩⟩
     refine ⟨_, rfl, ?_⟩
     refine hK.out _ _ (bc BK217 0 _) (fun hHeld => ?_)
     clear hK K
     refine nm (some 29) ?_
     refine pa 27 (some 30) (yz 34 268435455) HT_ ?_
     refine pa 28 (some 31) (yz 34 536870911) HT_ ?_
     refine pu 29 (some 32) (yz 34 1073741823) HT_ ?_
     refine pu 30 (some 33) (yz 34 2147483647) HT_ ?_
     refine pu 31 (some 34) (yz 34 4294967295) HT_ ?_
     refine pa 32 (some 35) (yz 34 8589934591) HT_ ?_
     refine pa 33 (some 2) (yz 34 17179869183) HT_ ?_
     refine done_ (done_of HT_.out (by kernel_rfl)) ?_
     try go_wp2
     go_ret
     exact ⟨re, bw⟩
    rw [if_neg c8] at H
    have c8b0 : (t220 == 1) = false := beq_eq_false_iff_ne.mpr c8
    have c8b1 : (t220 != 1) = true := bne_iff_ne.mpr c8
    obtain rfl := Option.some.inj H
    go_enter Try.func58, Try.ntmps58
    try go_wp2_with (first | ((with_reducible refine gate_dst (N := 1) rfl ?_); (try (refine gate_guard (by rfl) ?_; dsimp only)); refine bx 1 #[.slice A0_0 l0_0.length c0_0] 27 ?_; intro gb217 hg w22 hbox hb; have BK217 := am (hbox); have GW217 := am (gs hg : w.heap.size ≤ gb217); have GE217 := GW217; replace HB := am (below_step bw hb); clear hb hbox hg))
    replace BK217 := bd BK217
    replace HB := am (below_drew1 HB.out)
    refine start_ (n := 34) (S := fun w' => w'.cell? ⟨gb217, 0, none⟩ = some (.slice A0_0 l0_0.length c0_0)) (ds := []) (yz 34 0) (by kernel_rfl) rfl rfl (bc BK217 0 _) (fun hHeld => ?_); refine with_tabW spec_IsSemigroup.tab1 spec_IsSemigroup.bits1 (fun HT_ HW_ => ?_)
    generalize w22.drew = w23 at BK217 HB hHeld ⊢
    refine pa 0 (some 3) (yz 34 1) HT_ ?_
    refine tK 1 (some 4) (yz 34 3) HT_ HW_ hHeld ?_
    refine oa 2 (some 5) (yz 34 7) HT_ (fun K hK => ?_)
    refine gm Try.func106 #[.slice A0_0 l0_0.length c0_0] ?_
    with_reducible refine (spec_l3Gens.calls k _ _ l0_0 true _ ?side1 ?side2 A2.out).mono ?_
    (case side1 => exact co (Kd.C_below HR0_0.out HB.out))
    (case side2 => exact HC0_0.out)
    rintro e w' ⟨rfl, ⟨nd, rfl⟩⟩
    refine ⟨_, rfl, ?_⟩
    refine hK.out _ _ (bc BK217 0 _) (fun hHeld => ?_)
    clear hK K
    refine nm (some 5) ?_
    refine pa 3 (some 6) (yz 34 15) HT_ ?_
    refine pa 4 (some 7) (yz 34 31) HT_ ?_
    refine tK 5 (some 8) (yz 34 63) HT_ HW_ hHeld ?_
    refine pa 6 (some 9) (yz 34 127) HT_ ?_
    refine pa 7 (some 10) (yz 34 255) HT_ ?_
    refine pa 8 (some 11) (yz 34 511) HT_ ?_
    refine pa 9 (some 12) (yz 34 1023) HT_ ?_
    refine pa 10 (some 13) (yz 34 2047) HT_ ?_
    refine tK 11 (some 14) (yz 34 4095) HT_ HW_ hHeld ?_
    refine oa 12 (some 15) (yz 34 8191) HT_ (fun K hK => ?_)
    refine gm Try.func107 #[.slice A0_0 l0_0.length c0_0] ?_
    with_reducible refine (spec_IsAscending.calls k _ _ l0_0 true _ ?side1 ?side2 A5.out).mono ?_
    (case side1 => exact co (Kd.C_below HR0_0.out bw))
    (case side2 => exact HC0_0.out)
    rintro e w' ⟨rfl, ⟨nd, rfl⟩⟩
    refine ⟨_, rfl, ?_⟩
    refine hK.out _ _ (bc BK217 0 _) (fun hHeld => ?_)
    clear hK K
    refine nm (some 15) ?_
    refine pa 13 (some 16) (yz 34 16383) HT_ ?_
    refine pa 14 (some 17) (yz 34 32767) HT_ ?_
    refine pa 15 (some 18) (yz 34 65535) HT_ ?_
    refine tK 16 (some 19) (yz 34 131071) HT_ HW_ hHeld ?_
    refine oa 17 (some 20) (yz 34 262143) HT_ (fun K hK => ?_)
    refine gm Try.func108 #[.slice A0_0 l0_0.length c0_0] ?_
    with_reducible refine (spec_GcdOfList.calls k _ _ l0_0 t220 _ ?side1 ?side2 A7.out).mono ?_
    (case side1 => exact co (Kd.C_below HR0_0.out bw))
    (case side2 => exact HC0_0.out)
    rintro e w' ⟨rfl, ⟨nd, rfl⟩⟩
    refine ⟨_, rfl, ?_⟩
    refine hK.out _ _ (bc BK217 0 _) (fun hHeld => ?_)
    clear hK K
    refine nm (some 20) ?_
    refine pa 18 (some 21) (yz 34 524287) HT_ ?_
    refine pa 19 (some 22) (yz 34 1048575) HT_ ?_
    refine pa 20 (some 23) (yz 34 2097151) HT_ ?_
    refine pu 21 (some 24) (yz 34 4194303) HT_ ?_
    refine pu 22 (some 25) (yz 34 8388607) HT_ ?_
    refine pu 23 (some 26) (yz 34 16777215) HT_ ?_
    refine pu 24 (some 27) (yz 34 33554431) HT_ ?_
    refine pu 25 (some 28) (yz 34 67108863) HT_ ?_
    refine pu 26 (some 29) (yz 34 134217727) HT_ ?_
    refine pa 27 (some 30) (yz 34 268435455) HT_ ?_
    refine pa 28 (some 31) (yz 34 536870911) HT_ ?_
    refine pu 29 (some 32) (yz 34 1073741823) HT_ ?_
    refine pu 30 (some 33) (yz 34 2147483647) HT_ ?_
    refine pu 31 (some 34) (yz 34 4294967295) HT_ ?_
    refine pa 32 (some 35) (yz 34 8589934591) HT_ ?_
    refine pa 33 (some 2) (yz 34 17179869183) HT_ ?_
    refine done_ (done_of HT_.out (by kernel_rfl)) ?_
    try go_wp2
    go_ret
    exact ⟨re, bw⟩
   obtain rfl := Option.some.inj H
   go_enter Try.func58, Try.ntmps58
   try go_wp2_with (first | ((with_reducible refine gate_dst (N := 1) rfl ?_); (try (refine gate_guard (by rfl) ?_; dsimp only)); refine bx 1 #[.slice A0_0 l0_0.length c0_0] 27 ?_; intro gb217 hg w24 hbox hb; have BK217 := am (hbox); have GW217 := am (gs hg : w.heap.size ≤ gb217); have GE217 := GW217; replace HB := am (below_step bw hb); clear hb hbox hg))
   replace BK217 := bd BK217
   replace HB := am (below_drew1 HB.out)
   refine start_ (n := 34) (S := fun w' => w'.cell? ⟨gb217, 0, none⟩ = some (.slice A0_0 l0_0.length c0_0)) (ds := []) (yz 34 0) (by kernel_rfl) rfl rfl (bc BK217 0 _) (fun hHeld => ?_); refine with_tabW spec_IsSemigroup.tab1 spec_IsSemigroup.bits1 (fun HT_ HW_ => ?_)
   generalize w24.drew = w25 at BK217 HB hHeld ⊢
   refine pa 0 (some 3) (yz 34 1) HT_ ?_
   refine tK 1 (some 4) (yz 34 3) HT_ HW_ hHeld ?_
   refine oa 2 (some 5) (yz 34 7) HT_ (fun K hK => ?_)
   refine gm Try.func106 #[.slice A0_0 l0_0.length c0_0] ?_
   with_reducible refine (spec_l3Gens.calls k _ _ l0_0 true _ ?side1 ?side2 A2.out).mono ?_
   (case side1 => exact co (Kd.C_below HR0_0.out HB.out))
   (case side2 => exact HC0_0.out)
   rintro e w' ⟨rfl, ⟨nd, rfl⟩⟩
   refine ⟨_, rfl, ?_⟩
   refine hK.out _ _ (bc BK217 0 _) (fun hHeld => ?_)
   clear hK K
   refine nm (some 5) ?_
   refine pa 3 (some 6) (yz 34 15) HT_ ?_
   refine pa 4 (some 7) (yz 34 31) HT_ ?_
   refine tK 5 (some 8) (yz 34 63) HT_ HW_ hHeld ?_
   refine pa 6 (some 9) (yz 34 127) HT_ ?_
   refine pa 7 (some 10) (yz 34 255) HT_ ?_
   refine pa 8 (some 11) (yz 34 511) HT_ ?_
   refine pa 9 (some 12) (yz 34 1023) HT_ ?_
   refine pa 10 (some 13) (yz 34 2047) HT_ ?_
   refine tK 11 (some 14) (yz 34 4095) HT_ HW_ hHeld ?_
   refine oa 12 (some 15) (yz 34 8191) HT_ (fun K hK => ?_)
   refine gm Try.func107 #[.slice A0_0 l0_0.length c0_0] ?_
   with_reducible refine (spec_IsAscending.calls k _ _ l0_0 false _ ?side1 ?side2 A5.out).mono ?_
   (case side1 => exact co (Kd.C_below HR0_0.out bw))
   (case side2 => exact HC0_0.out)
   rintro e w' ⟨rfl, ⟨nd, rfl⟩⟩
   refine ⟨_, rfl, ?_⟩
   refine hK.out _ _ (bc BK217 0 _) (fun hHeld => ?_)
   clear hK K
   refine nm (some 15) ?_
   refine pa 13 (some 16) (yz 34 16383) HT_ ?_
   refine pa 14 (some 17) (yz 34 32767) HT_ ?_
   refine pu 15 (some 18) (yz 34 65535) HT_ ?_
   refine pu 16 (some 19) (yz 34 131071) HT_ ?_
   refine pu 17 (some 20) (yz 34 262143) HT_ ?_
   refine pu 18 (some 21) (yz 34 524287) HT_ ?_
   refine pa 19 (some 22) (yz 34 1048575) HT_ ?_
   refine pa 20 (some 23) (yz 34 2097151) HT_ ?_
   refine pu 21 (some 24) (yz 34 4194303) HT_ ?_
   refine pu 22 (some 25) (yz 34 8388607) HT_ ?_
   refine pu 23 (some 26) (yz 34 16777215) HT_ ?_
   refine pu 24 (some 27) (yz 34 33554431) HT_ ?_
   refine pu 25 (some 28) (yz 34 67108863) HT_ ?_
   refine pu 26 (some 29) (yz 34 134217727) HT_ ?_
   refine pa 27 (some 30) (yz 34 268435455) HT_ ?_
   refine pa 28 (some 31) (yz 34 536870911) HT_ ?_
   refine pu 29 (some 32) (yz 34 1073741823) HT_ ?_
   refine pu 30 (some 33) (yz 34 2147483647) HT_ ?_
   refine pu 31 (some 34) (yz 34 4294967295) HT_ ?_
   refine pa 32 (some 35) (yz 34 8589934591) HT_ ?_
   refine pa 33 (some 2) (yz 34 17179869183) HT_ ?_
   refine done_ (done_of HT_.out (by kernel_rfl)) ?_
   try go_wp2
   go_ret
   exact ⟨re, bw⟩
  have c4b0 : decide ((l0_0.length : Int) ≤ 12) = false := decide_eq_false c4
  have c4b1 : decide (l0_0.length ≤ 12) = false := decide_eq_false (by omega)
  clear c4
  obtain rfl := Option.some.inj H
  go_enter Try.func58, Try.ntmps58
  try go_wp2_with (first | ((with_reducible refine gate_dst (N := 1) rfl ?_); (try (refine gate_guard (by rfl) ?_; dsimp only)); refine bx 1 #[.slice A0_0 l0_0.length c0_0] 27 ?_; intro gb217 hg w26 hbox hb; have BK217 := am (hbox); have GW217 := am (gs hg : w.heap.size ≤ gb217); have GE217 := GW217; replace HB := am (below_step bw hb); clear hb hbox hg))
  replace BK217 := bd BK217
  replace HB := am (below_drew1 HB.out)
  refine start_ (n := 34) (S := fun w' => w'.cell? ⟨gb217, 0, none⟩ = some (.slice A0_0 l0_0.length c0_0)) (ds := []) (yz 34 0) (by kernel_rfl) rfl rfl (bc BK217 0 _) (fun hHeld => ?_); refine with_tabW spec_IsSemigroup.tab1 spec_IsSemigroup.bits1 (fun HT_ HW_ => ?_)
  generalize w26.drew = w27 at BK217 HB hHeld ⊢
  refine pa 0 (some 3) (yz 34 1) HT_ ?_
  refine tK 1 (some 4) (yz 34 3) HT_ HW_ hHeld ?_
  refine oa 2 (some 5) (yz 34 7) HT_ (fun K hK => ?_)
  refine gm Try.func106 #[.slice A0_0 l0_0.length c0_0] ?_
  with_reducible refine (spec_l3Gens.calls k _ _ l0_0 true _ ?side1 ?side2 A2.out).mono ?_
  (case side1 => exact co (Kd.C_below HR0_0.out HB.out))
  (case side2 => exact HC0_0.out)
  rintro e w' ⟨rfl, ⟨nd, rfl⟩⟩
  refine ⟨_, rfl, ?_⟩
  refine hK.out _ _ (bc BK217 0 _) (fun hHeld => ?_)
  clear hK K
  refine nm (some 5) ?_
  refine pa 3 (some 6) (yz 34 15) HT_ ?_
  refine pa 4 (some 7) (yz 34 31) HT_ ?_
  refine tK 5 (some 8) (yz 34 63) HT_ HW_ hHeld ?_
  refine pa 6 (some 9) (yz 34 127) HT_ ?_
  refine pa 7 (some 10) (yz 34 255) HT_ ?_
  refine pa 8 (some 11) (yz 34 511) HT_ ?_
  refine pa 9 (some 12) (yz 34 1023) HT_ ?_
  refine pu 10 (some 13) (yz 34 2047) HT_ ?_
  refine pu 11 (some 14) (yz 34 4095) HT_ ?_
  refine pu 12 (some 15) (yz 34 8191) HT_ ?_
  refine pa 13 (some 16) (yz 34 16383) HT_ ?_
  refine pa 14 (some 17) (yz 34 32767) HT_ ?_
  refine pu 15 (some 18) (yz 34 65535) HT_ ?_
  refine pu 16 (some 19) (yz 34 131071) HT_ ?_
  refine pu 17 (some 20) (yz 34 262143) HT_ ?_
  refine pu 18 (some 21) (yz 34 524287) HT_ ?_
  refine pa 19 (some 22) (yz 34 1048575) HT_ ?_
  refine pa 20 (some 23) (yz 34 2097151) HT_ ?_
  refine pu 21 (some 24) (yz 34 4194303) HT_ ?_
  refine pu 22 (some 25) (yz 34 8388607) HT_ ?_
  refine pu 23 (some 26) (yz 34 16777215) HT_ ?_
  refine pu 24 (some 27) (yz 34 33554431) HT_ ?_
  refine pu 25 (some 28) (yz 34 67108863) HT_ ?_
  refine pu 26 (some 29) (yz 34 134217727) HT_ ?_
  refine pa 27 (some 30) (yz 34 268435455) HT_ ?_
  refine pa 28 (some 31) (yz 34 536870911) HT_ ?_
  refine pu 29 (some 32) (yz 34 1073741823) HT_ ?_
  refine pu 30 (some 33) (yz 34 2147483647) HT_ ?_
  refine pu 31 (some 34) (yz 34 4294967295) HT_ ?_
  refine pa 32 (some 35) (yz 34 8589934591) HT_ ?_
  refine pa 33 (some 2) (yz 34 17179869183) HT_ ?_
  refine done_ (done_of HT_.out (by kernel_rfl)) ?_
  try go_wp2
  go_ret
  exact ⟨re, bw⟩
 obtain rfl := Option.some.inj H
 go_enter Try.func58, Try.ntmps58
 try go_wp2_with (first | ((with_reducible refine gate_dst (N := 1) rfl ?_); (try (refine gate_guard (by rfl) ?_; dsimp only)); refine bx 1 #[.slice A0_0 l0_0.length c0_0] 27 ?_; intro gb217 hg w28 hbox hb; have BK217 := am (hbox); have GW217 := am (gs hg : w.heap.size ≤ gb217); have GE217 := GW217; replace HB := am (below_step bw hb); clear hb hbox hg))
 replace BK217 := bd BK217
 replace HB := am (below_drew1 HB.out)
 refine start_ (n := 34) (S := fun w' => w'.cell? ⟨gb217, 0, none⟩ = some (.slice A0_0 l0_0.length c0_0)) (ds := []) (yz 34 0) (by kernel_rfl) rfl rfl (bc BK217 0 _) (fun hHeld => ?_); refine with_tabW spec_IsSemigroup.tab1 spec_IsSemigroup.bits1 (fun HT_ HW_ => ?_)
 generalize w28.drew = w29 at BK217 HB hHeld ⊢
 refine pa 0 (some 3) (yz 34 1) HT_ ?_
 refine tK 1 (some 4) (yz 34 3) HT_ HW_ hHeld ?_
 refine oa 2 (some 5) (yz 34 7) HT_ (fun K hK => ?_)
 refine gm Try.func106 #[.slice A0_0 l0_0.length c0_0] ?_
 with_reducible refine (spec_l3Gens.calls k _ _ l0_0 false _ ?side1 ?side2 A2.out).mono ?_
 (case side1 => exact co (Kd.C_below HR0_0.out HB.out))
 (case side2 => exact HC0_0.out)
 rintro e w' ⟨rfl, ⟨nd, rfl⟩⟩
 refine ⟨_, rfl, ?_⟩
 refine hK.out _ _ (bc BK217 0 _) (fun hHeld => ?_)
 clear hK K
 refine nm (some 5) ?_
 refine pa 3 (some 6) (yz 34 15) HT_ ?_
 refine pu 4 (some 7) (yz 34 31) HT_ ?_
 refine pu 5 (some 8) (yz 34 63) HT_ ?_
 refine pu 6 (some 9) (yz 34 127) HT_ ?_
 refine pu 7 (some 10) (yz 34 255) HT_ ?_
 refine pa 8 (some 11) (yz 34 511) HT_ ?_
 refine pa 9 (some 12) (yz 34 1023) HT_ ?_
 refine pu 10 (some 13) (yz 34 2047) HT_ ?_
 refine pu 11 (some 14) (yz 34 4095) HT_ ?_
 refine pu 12 (some 15) (yz 34 8191) HT_ ?_
 refine pa 13 (some 16) (yz 34 16383) HT_ ?_
 refine pa 14 (some 17) (yz 34 32767) HT_ ?_
 refine pu 15 (some 18) (yz 34 65535) HT_ ?_
 refine pu 16 (some 19) (yz 34 131071) HT_ ?_
 refine pu 17 (some 20) (yz 34 262143) HT_ ?_
 refine pu 18 (some 21) (yz 34 524287) HT_ ?_
 refine pa 19 (some 22) (yz 34 1048575) HT_ ?_
 refine pa 20 (some 23) (yz 34 2097151) HT_ ?_
 refine pu 21 (some 24) (yz 34 4194303) HT_ ?_
 refine pu 22 (some 25) (yz 34 8388607) HT_ ?_
 refine pu 23 (some 26) (yz 34 16777215) HT_ ?_
 refine pu 24 (some 27) (yz 34 33554431) HT_ ?_
 refine pu 25 (some 28) (yz 34 67108863) HT_ ?_
 refine pu 26 (some 29) (yz 34 134217727) HT_ ?_
 refine pa 27 (some 30) (yz 34 268435455) HT_ ?_
 refine pa 28 (some 31) (yz 34 536870911) HT_ ?_
 refine pu 29 (some 32) (yz 34 1073741823) HT_ ?_
 refine pu 30 (some 33) (yz 34 2147483647) HT_ ?_
 refine pu 31 (some 34) (yz 34 4294967295) HT_ ?_
 refine pa 32 (some 35) (yz 34 8589934591) HT_ ?_
 refine pa 33 (some 2) (yz 34 17179869183) HT_ ?_
 refine done_ (done_of HT_.out (by kernel_rfl)) ?_
 try go_wp2
 go_ret
 exact ⟨re, bw⟩


/-! ### spec_l4Gaps: function 78 -/
def spec_l4Gaps.l0 : Nat → List Int → List Bool → Int → Option (List Int)
 | 0, _, _, _ => none
 | k + 1, x3, x4, x5 => if x5 < 200 then (if 0 ≤ x5 then (if x5 < (x4.length : Int) then (if rdOf false x4 x5 = true then (spec_l4Gaps.l0 k x3 x4 (wrap64 (x5 + 1))) else (if x3.length < 17592186044416 then (spec_l4Gaps.l0 k (x3 ++ [x5]) x4 (wrap64 (x5 + 1))) else (none))) else (none)) else (none)) else (some x3)
def spec_l4Gaps.f (k : Nat) (l0_0 : List Int) : Option (List Int) := (spec_l3Table.f k l0_0 200).bind fun t230 => (spec_l4Gaps.l0 k (([] : List Int)) t230 1)
set_option maxHeartbeats 8000000 in
set_option maxRecDepth 100000 in
theorem spec_l4Gaps.calls (k : Nat) (A0_0 : Option Addr) (c0_0 : Nat) (l0_0 : List Int) (r : List Int) (w : World) (hr0_0 : Kd.C (Kd.int .i64) w A0_0 l0_0.length l0_0) (hc0_0 : l0_0.length ≤ c0_0) (h : spec_l4Gaps.f k l0_0 = some r) :
  Calls Try.prog 78 #[.agg #[.slice A0_0 l0_0.length c0_0]] w fun e w' => ∃ v0_ : Value, e = .returned (v0_) ∧ Kd.R (Kd.int .i64) 3 w' w.heap.size (fun _ => True) v0_ r ∧ Below w.heap.size w w' := by
 have hu27 := Try.underlying27
 have HR0_0 := am hr0_0
 have HC0_0 := am hc0_0
 clear hr0_0 hc0_0
 have HB := am (Below.refl w.heap.size w)
 have H : ((spec_l3Table.f k l0_0 200).bind fun t230 => (spec_l4Gaps.l0 k (([] : List Int)) t230 1)) = some r := h
 clear h
 obtain ⟨y227, hy227⟩ : ∃ y_ : List Int, y_ = (([] : List Int)) := ⟨_, rfl⟩
 replace H : ((spec_l3Table.f k l0_0 200).bind fun t230 => (spec_l4Gaps.l0 k y227 t230 1)) = some r := by first | (rw [hy227]; with_reducible first | exact H | exact bs H) | (with_reducible first | exact bs H | exact H) | (rw [hy227]; exact H) | exact H
 have Ny227 := am hy227
 clear hy227
 replace H := ga H; obtain ⟨t230, A2, H⟩ := H
 have H' := am H
 clear H
 go_enter Try.func78, Try.ntmps78
 go_wp2_with (first | ((with_reducible refine gate_dst (N := 1) rfl ?_); refine bx 1 #[.slice A0_0 l0_0.length c0_0] 27 ?_; intro gb226 hg w3 hbox hb; have BK226 := am (hbox); have GW226 := am (gs hg : w.heap.size ≤ gb226); have GE226 := GW226; replace HB := am (below_step bw hb); clear hb hbox hg) | ((with_reducible refine gate_dst (N := 6) rfl ?_); refine Kd.R_lit (Kd.int .i64) _ 3 ?hg (N := 6) ?hd (xs := ([] : List Int)) (inner := []) (ok := fun _ => True) (okp := fun _ => True) ?hr ?hp (fun _ hk => hk) trivial (Below.refl _ _) (Nat.le_refl _) (by simp) ?_; (case hd => rfl); (case hg => rfl); (case hr => first | (go_simp; done) | (go_simp; rfl)); (case hp => exact (Reps.none _ _)); intro v228 w4 ho5 hb hg_ hnew_; clear hg_ hnew_; (first | rw [← Ny227.out] at ho5 | (simp only [Int.reduceToNat] at ho5; rw [← Ny227.out] at ho5)); have HO229 := am (Kd.R_lower ho5 (below_size bw)); replace BK226 := kb BK226 hb; replace HB := am (below_step bw hb); clear hb ho5; have hcz6_0 := bc BK226 0 (.slice A0_0 l0_0.length c0_0); have hfz6_0 := blk_frozen BK226.out 0) | ((with_reducible refine gate_callee (f := 123) rfl ?_); refine gl (some 9) Try.func123 #[.slice A0_0 l0_0.length c0_0, .int .i64 200] ?_; (with_reducible refine (spec_l3Table.calls k _ _ l0_0 200 t230 _ ?side1 ?side2 A2.out).mono ?_); (case side1 => exact co (Kd.C_below HR0_0.out HB.out)); (case side2 => exact HC0_0.out); rintro e w7 ⟨v231, rfl, ho0, hb⟩; refine ⟨_, rfl, ?_⟩; replace HO229 := rK HO229 hb; have HO232 := am (Kd.R_lower ho0 (below_size bw)); replace BK226 := kb BK226 hb; replace HB := am (below_step bw hb); clear hb ho0))
 go_loopg [3, 5] k (fun kq v3 v5 w' => ∃ (x3_1 : List Int) (x5_1 : Int), v5 = .int .i64 x5_1 ∧ Aside0 (spec_l4Gaps.l0 kq x3_1 t230 x5_1 = some r) ∧ Aside0 (kq ≤ k) ∧ Aside0 (Kd.R (Kd.int .i64) 3 w' w.heap.size (fun _ => True) v3 x3_1) ∧ Aside0 (Kd.R Kd.bool 4 w' w.heap.size (fun _ => True) v231 t230) ∧ Aside0 (w'.heap[gb226]? = some (.cells #[(.slice A0_0 l0_0.length c0_0)] 27 (0, 0))) ∧ Aside0 (Below w.heap.size w w'))
 case atStart => exact ⟨(y227), (1), rr, H', ⟨Nat.le_refl _⟩, ⟨ro HO229.out⟩, ⟨ro HO232.out⟩, ⟨bo BK226.out⟩, ⟨bw⟩⟩
 case round =>
  clear H'
  try clear hcz6_0; try clear hfz6_0
  obtain ⟨x3_1, x5_1, rfl, HA, HK1, HO_3, HO_4, BK226, HB⟩ := hrel
  cases gk with
  | zero => exact absurd HA.out (by simp [spec_l4Gaps.l0])
  | succ k1 =>
   have H := HA.out
   clear HA
   simp only [spec_l4Gaps.l0] at H
   replace H := gi H; obtain ⟨c8b0, H⟩ | ⟨c8b0, H⟩ := H
   ·replace H := gd H; obtain ⟨c9b0, H⟩ := H
    replace H := gd H; obtain ⟨c10b0, H⟩ := H
    obtain ⟨bq11, hbq11⟩ : ∃ b_ : Bool, b_ = (rdOf false t230 x5_1) := ⟨_, rfl⟩
    replace H : (if bq11 = true then (spec_l4Gaps.l0 k1 x3_1 t230 (wrap64 (x5_1 + 1))) else (if x3_1.length < 17592186044416 then (spec_l4Gaps.l0 k1 (x3_1 ++ [x5_1]) t230 (wrap64 (x5_1 + 1))) else (none))) = some r := by rw [← hbq11] at H; exact H
    have Nbq11 := am hbq11
    clear hbq11
    replace H := gb H; obtain ⟨rfl, H⟩ | ⟨rfl, H⟩ := H
    ·have H' := am H
     clear H
     obtain ⟨Ao13, co13, eo13⟩ := Kd.R_slice HO_4.out
     subst eo13
     obtain ⟨⟨ad233, e233, hx233_0⟩, p233, q233⟩ := pq (Kd.at_bool (Kd.R_reads' HO_4.out).2.2 x5_1)
     (try rw [← Nbq11.out] at hx233_0)
     cases e233
     go_wp2
     go_roundg k1
     case measure => have := HK1.out; omega
     case rel => exact ⟨(x3_1), (wrap64 (x5_1 + 1)), rr, H', ⟨by have := HK1.out; omega⟩, ⟨ro HO_3.out⟩, ⟨ro HO_4.out⟩, ⟨bo BK226.out⟩, ⟨bw⟩⟩
    by_cases c14 : x3_1.length < 17592186044416
    rotate_left
    ·rw [if_neg c14] at H
     exact absurd H (by simp)
    rw [if_pos c14] at H
    have LMc14 := am c14
    clear c14
    obtain ⟨y234, hy234⟩ : ∃ y_ : List Int, y_ = (x3_1 ++ [x5_1]) := ⟨_, rfl⟩
    replace H : (spec_l4Gaps.l0 k1 y234 t230 (wrap64 (x5_1 + 1))) = some r := by first | (rw [hy234]; with_reducible first | exact H | exact bs H) | (with_reducible first | exact bs H | exact H) | (rw [hy234]; exact H) | exact H
    have Ny234 := am hy234
    clear hy234
    have H' := am H
    clear H
    obtain ⟨Ao15, co15, eo15⟩ := Kd.R_slice HO_4.out
    subst eo15
    obtain ⟨⟨ad233, e233, hx233_0⟩, p233, q233⟩ := pq (Kd.at_bool (Kd.R_reads' HO_4.out).2.2 x5_1)
    (try rw [← Nbq11.out] at hx233_0)
    cases e233
    go_wp2_with (first | ((with_reducible refine gate_builtin (b := .append) (xs := #[.tmp 19, .tmp 21]) rfl ?_); at_builtin; refine Kd.R_append (Kd.int .i64) (w0 := w) w.heap.size rfl (.tmp 19) (.tmp 21) 22 3 (.int .i64 0) 8 rfl Try.underlying22 info3 rfl (by decide) (by omega) u3 x3_1 x5_1 [.int .i64 x5_1] (fun _ => True) (fun _ => False) rfl rfl ?aP (fun _ hk => hk.elim) ?aF ?aO ?aB ?aS ?aL ?_; (case aP => exact rfl); (case aB => exact bw); (case aF => exact (fun _ _ => trivial)); (case aO => exact (ro HO_3.out)); (case aS => exact (below_size bw)); (case aL => have := LMc14.out; omega); intro v235 w16 ho hb hg hat; rw [← Ny234.out] at ho; replace HO_4 := am (Kd.R_over' (ro HO_4.out) (Kd.R_typed (ro HO_3.out)) (by decide) hg); replace BK226 := am (blk_grown (g := gb226) (o := .cells #[.slice A0_0 l0_0.length c0_0] 27 (0, 0)) (bo BK226.out) hg (Kd.R_ne HO_3.out BK226.out (by decide))); replace HB := am (hb); have HO236 := am (ho); clear HO_3 ho hb hg hat))
    go_roundg k1
    case measure => have := HK1.out; omega
    case rel => exact ⟨(y234), (wrap64 (x5_1 + 1)), rr, H', ⟨by have := HK1.out; omega⟩, ⟨ro HO236.out⟩, ⟨ro HO_4.out⟩, ⟨bo BK226.out⟩, ⟨bw⟩⟩
   obtain rfl := Option.some.inj H
   go_wp2
   go_ret
   exact ⟨_, re, ro HO_3.out, bw⟩


/-! ### spec_Gaps: function 117 -/
def spec_Gaps.f (k : Nat) (l0_0 : List Int) : Option (List Int) := (spec_IsSemigroup.f k l0_0).bind fun t238 => (if t238 = true then ((spec_l4Gaps.f k l0_0).bind fun t239 => (some t239)) else (some (([] : List Int))))
set_option maxHeartbeats 8000000 in
set_option maxRecDepth 100000 in
theorem spec_Gaps.calls (k : Nat) (A0_0 : Option Addr) (c0_0 : Nat) (l0_0 : List Int) (r : List Int) (w : World) (hr0_0 : Kd.C (Kd.int .i64) w A0_0 l0_0.length l0_0) (hc0_0 : l0_0.length ≤ c0_0) (h : spec_Gaps.f k l0_0 = some r) :
  Calls Try.prog 117 #[.agg #[.slice A0_0 l0_0.length c0_0]] w fun e w' => ∃ v0_ : Value, e = .returned (v0_) ∧ Kd.R (Kd.int .i64) 3 w' w.heap.size (fun _ => True) v0_ r ∧ Below w.heap.size w w' := by
 have hu27 := Try.underlying27
 have HR0_0 := am hr0_0
 have HC0_0 := am hc0_0
 clear hr0_0 hc0_0
 have HB := am (Below.refl w.heap.size w)
 have H : ((spec_IsSemigroup.f k l0_0).bind fun t238 => (if t238 = true then ((spec_l4Gaps.f k l0_0).bind fun t239 => (some t239)) else (some (([] : List Int))))) = some r := h
 clear h
 replace H := ga H; obtain ⟨t238, A2, H⟩ := H
 replace H := gb H; obtain ⟨rfl, H⟩ | ⟨rfl, H⟩ := H
 ·replace H := ga H; obtain ⟨t239, A4, H⟩ := H
  obtain rfl := Option.some.inj H
  go_enter Try.func117, Try.ntmps117
  go_wp2_with (first | ((with_reducible refine gate_dst (N := 1) rfl ?_); refine bx 1 #[.slice A0_0 l0_0.length c0_0] 27 ?_; intro gb237 hg w5 hbox hb; have BK237 := am (hbox); have GW237 := am (gs hg : w.heap.size ≤ gb237); have GE237 := GW237; replace HB := am (below_step bw hb); clear hb hbox hg; have hcz6_0 := bc BK237 0 (.slice A0_0 l0_0.length c0_0); have hfz6_0 := blk_frozen BK237.out 0) | ((with_reducible refine gate_callee (f := 58) rfl ?_); refine gl (some 4) Try.func58 #[.agg #[.slice A0_0 l0_0.length c0_0]] ?_; (with_reducible refine (spec_IsSemigroup.calls k _ _ l0_0 true _ ?side1 ?side2 A2.out).mono ?_); (case side1 => exact co (Kd.C_below HR0_0.out HB.out)); (case side2 => exact HC0_0.out); rintro e w7 ⟨rfl, hb⟩; refine ⟨_, rfl, ?_⟩; replace BK237 := kb BK237 hb; replace HB := am (below_step bw hb); clear hb; have hcz8_0 := bc BK237 0 (.slice A0_0 l0_0.length c0_0); have hfz8_0 := blk_frozen BK237.out 0) | ((with_reducible refine gate_callee (f := 78) rfl ?_); refine gl (some 8) Try.func78 #[.agg #[.slice A0_0 l0_0.length c0_0]] ?_; (with_reducible refine (spec_l4Gaps.calls k _ _ l0_0 t239 _ ?side1 ?side2 A4.out).mono ?_); (case side1 => exact co (Kd.C_below HR0_0.out HB.out)); (case side2 => exact HC0_0.out); rintro e w9 ⟨v240, rfl, ho0, hb⟩; refine ⟨_, rfl, ?_⟩; have HO241 := am (Kd.R_lower ho0 (below_size bw)); replace BK237 := kb BK237 hb; replace HB := am (below_step bw hb); clear hb ho0))
  go_ret
  exact ⟨_, re, ro HO241.out, bw⟩
 obtain ⟨y242, hy242⟩ : ∃ y_ : List Int, y_ = (([] : List Int)) := ⟨_, rfl⟩
 replace H : (some y242) = some r := by first | (rw [hy242]; with_reducible first | exact H | exact bs H) | (with_reducible first | exact bs H | exact H) | (rw [hy242]; exact H) | exact H
 have Ny242 := am hy242
 clear hy242
 obtain rfl := Option.some.inj H
 go_enter Try.func117, Try.ntmps117
 go_wp2_with (first | ((with_reducible refine gate_dst (N := 1) rfl ?_); refine bx 1 #[.slice A0_0 l0_0.length c0_0] 27 ?_; intro gb237 hg w10 hbox hb; have BK237 := am (hbox); have GW237 := am (gs hg : w.heap.size ≤ gb237); have GE237 := GW237; replace HB := am (below_step bw hb); clear hb hbox hg; have hcz11_0 := bc BK237 0 (.slice A0_0 l0_0.length c0_0); have hfz11_0 := blk_frozen BK237.out 0) | ((with_reducible refine gate_callee (f := 58) rfl ?_); refine gl (some 4) Try.func58 #[.agg #[.slice A0_0 l0_0.length c0_0]] ?_; (with_reducible refine (spec_IsSemigroup.calls k _ _ l0_0 false _ ?side1 ?side2 A2.out).mono ?_); (case side1 => exact co (Kd.C_below HR0_0.out HB.out)); (case side2 => exact HC0_0.out); rintro e w12 ⟨rfl, hb⟩; refine ⟨_, rfl, ?_⟩; replace BK237 := kb BK237 hb; replace HB := am (below_step bw hb); clear hb) | ((with_reducible refine gate_dst (N := 6) rfl ?_); refine Kd.R_lit (Kd.int .i64) _ 3 ?hg (N := 6) ?hd (xs := ([] : List Int)) (inner := []) (ok := fun _ => True) (okp := fun _ => True) ?hr ?hp (fun _ hk => hk) trivial (Below.refl _ _) (Nat.le_refl _) (by simp) ?_; (case hd => rfl); (case hg => rfl); (case hr => first | (go_simp; done) | (go_simp; rfl)); (case hp => exact (Reps.none _ _)); intro v243 w13 ho14 hb hg_ hnew_; clear hg_ hnew_; (first | rw [← Ny242.out] at ho14 | (simp only [Int.reduceToNat] at ho14; rw [← Ny242.out] at ho14)); have HO244 := am (Kd.R_lower ho14 (below_size bw)); replace BK237 := kb BK237 hb; replace HB := am (below_step bw hb); clear hb ho14))
 go_ret
 exact ⟨_, re, ro HO244.out, bw⟩


/-! ### spec_FrobeniusOf: function 65 -/
def spec_FrobeniusOf.f (k : Nat) (l0_0 : List Int) : Option (Int) := (spec_Gaps.f k l0_0).bind fun t246 => (if (t246.length : Int) = 0 then (some (-1)) else (if 0 ≤ (wrap64 ((t246.length : Int) - 1)) then (if (wrap64 ((t246.length : Int) - 1)) < (t246.length : Int) then (some (rd t246 (wrap64 ((t246.length : Int) - 1)))) else (none)) else (none)))
set_option maxHeartbeats 8000000 in
set_option maxRecDepth 100000 in
theorem spec_FrobeniusOf.calls (k : Nat) (A0_0 : Option Addr) (c0_0 : Nat) (l0_0 : List Int) (r : Int) (w : World) (hr0_0 : Kd.C (Kd.int .i64) w A0_0 l0_0.length l0_0) (hc0_0 : l0_0.length ≤ c0_0) (h : spec_FrobeniusOf.f k l0_0 = some r) :
  Calls Try.prog 65 #[.agg #[.slice A0_0 l0_0.length c0_0]] w fun e w' => e = .returned (.int .i64 r) ∧ Below w.heap.size w w' := by
 have hu27 := Try.underlying27
 have HR0_0 := am hr0_0
 have HC0_0 := am hc0_0
 clear hr0_0 hc0_0
 have HB := am (Below.refl w.heap.size w)
 have H : ((spec_Gaps.f k l0_0).bind fun t246 => (if (t246.length : Int) = 0 then (some (-1)) else (if 0 ≤ (wrap64 ((t246.length : Int) - 1)) then (if (wrap64 ((t246.length : Int) - 1)) < (t246.length : Int) then (some (rd t246 (wrap64 ((t246.length : Int) - 1)))) else (none)) else (none)))) = some r := h
 clear h
 replace H := ga H; obtain ⟨t246, A2, H⟩ := H
 by_cases c3 : (t246.length : Int) = 0
 ·rw [if_pos c3] at H
  have c3b0 : ((t246.length : Int) == 0) = true := beq_iff_eq.mpr c3
  have c3b1 : ((t246.length : Int) != 0) = false := bne_eq_false_iff_eq.mpr c3
  clear c3
  obtain rfl := Option.some.inj H
  go_enter Try.func65, Try.ntmps65
  go_wp2_with (first | ((with_reducible refine gate_dst (N := 1) rfl ?_); refine bx 1 #[.slice A0_0 l0_0.length c0_0] 27 ?_; intro gb245 hg w4 hbox hb; have BK245 := am (hbox); have GW245 := am (gs hg : w.heap.size ≤ gb245); have GE245 := GW245; replace HB := am (below_step bw hb); clear hb hbox hg; have hcz5_0 := bc BK245 0 (.slice A0_0 l0_0.length c0_0); have hfz5_0 := blk_frozen BK245.out 0) | ((with_reducible refine gate_callee (f := 117) rfl ?_); refine gl (some 5) Try.func117 #[.agg #[.slice A0_0 l0_0.length c0_0]] ?_; (with_reducible refine (spec_Gaps.calls k _ _ l0_0 t246 _ ?side1 ?side2 A2.out).mono ?_); (case side1 => exact co (Kd.C_below HR0_0.out HB.out)); (case side2 => exact HC0_0.out); rintro e w6 ⟨v247, rfl, ho0, hb⟩; refine ⟨_, rfl, ?_⟩; have HO248 := am (Kd.R_lower ho0 (below_size bw)); replace BK245 := kb BK245 hb; replace HB := am (below_step bw hb); clear hb ho0; obtain ⟨Ao7, co7, eo7⟩ := Kd.R_slice HO248.out; subst eo7))
  go_ret
  exact ⟨re, bw⟩
 rw [if_neg c3] at H
 have c3b0 : ((t246.length : Int) == 0) = false := beq_eq_false_iff_ne.mpr c3
 have c3b1 : ((t246.length : Int) != 0) = true := bne_iff_ne.mpr c3
 have c3b2 : ¬ (t246 = []) := fun h_ => c3 (by rw [h_]; rfl)
 obtain ⟨ji8, hji8⟩ : ∃ j_ : Int, (wrap64 ((t246.length : Int) - 1)) = j_ := ⟨_, rfl⟩
 replace H : (if 0 ≤ (ji8) then (if (ji8) < (t246.length : Int) then (some (rd t246 (ji8))) else (none)) else (none)) = some r := by first | (rw [hji8] at H; exact H) | (simp only [hji8] at H ⊢; exact H)
 (try rw [hji8] at A2)
 have hji8w : (IntKind.i64.wrap ((t246.length : Int) - 1)) = ji8 := (i64_w _).trans hji8
 replace H := gd H; obtain ⟨c9b0, H⟩ := H
 replace H := gd H; obtain ⟨c10b0, H⟩ := H
 obtain rfl := Option.some.inj H
 go_enter Try.func65, Try.ntmps65
 go_wp2_with (first | ((with_reducible refine gate_dst (N := 1) rfl ?_); refine bx 1 #[.slice A0_0 l0_0.length c0_0] 27 ?_; intro gb245 hg w11 hbox hb; have BK245 := am (hbox); have GW245 := am (gs hg : w.heap.size ≤ gb245); have GE245 := GW245; replace HB := am (below_step bw hb); clear hb hbox hg; have hcz12_0 := bc BK245 0 (.slice A0_0 l0_0.length c0_0); have hfz12_0 := blk_frozen BK245.out 0) | ((with_reducible refine gate_callee (f := 117) rfl ?_); refine gl (some 5) Try.func117 #[.agg #[.slice A0_0 l0_0.length c0_0]] ?_; (with_reducible refine (spec_Gaps.calls k _ _ l0_0 t246 _ ?side1 ?side2 A2.out).mono ?_); (case side1 => exact co (Kd.C_below HR0_0.out HB.out)); (case side2 => exact HC0_0.out); rintro e w13 ⟨v247, rfl, ho0, hb⟩; refine ⟨_, rfl, ?_⟩; have HO248 := am (Kd.R_lower ho0 (below_size bw)); replace BK245 := kb BK245 hb; replace HB := am (below_step bw hb); clear hb ho0; obtain ⟨Ao14, co14, eo14⟩ := Kd.R_slice HO248.out; subst eo14; have p249 : 0 ≤ ((ji8) : Int) := of_decide_eq_true (by first | (with_reducible assumption) | assumption); have q249 : (ji8) < (t246.length : Int) := of_decide_eq_true (by first | (with_reducible assumption) | assumption); obtain ⟨ad249, e249, hx249_0⟩ := Kd.at_int (Kd.R_reads' HO248.out).2.2 (ji8) p249 q249; cases e249; replace p249 := eq_true p249; replace q249 := eq_true q249))
 go_ret
 exact ⟨by first | rfl | (simp [errW_none, errW_some] <;> rfl) | (simp only [← hji8]; first | rfl | (simp [errW_none, errW_some] <;> rfl)) | (simp [*, errW_none, errW_some] <;> rfl), bw⟩


/-! ### impl_within: function 63 -/
def impl_within.f (a0 : Int) (a1 : Int) (a2 : Int) : Option (Bool) := if a0 ≥ a1 then (some (decide (a0 ≤ a2))) else (some false)
set_option maxHeartbeats 8000000 in
set_option maxRecDepth 100000 in
theorem impl_within.calls (a0 : Int) (a1 : Int) (a2 : Int) (r : Bool) (w : World) (h : impl_within.f a0 a1 a2 = some r) :
  Calls Try.prog 63 #[.int .i64 a0, .int .i64 a1, .int .i64 a2] w fun e w' => e = .returned (.bool r) ∧ Drawn0 w w' := by
 have H : (if a0 ≥ a1 then (some (decide (a0 ≤ a2))) else (some false)) = some r := h
 clear h
 replace H := gj H; obtain ⟨c4, H⟩ | ⟨c4, H⟩ := H
 ·have c4b0 : decide (a1 ≤ a0) = true := decide_eq_true c4
  clear c4
  obtain rfl := Option.some.inj H
  go_enter Try.func63, Try.ntmps63
  go_wp2
  go_ret
  exact ⟨rr, dw⟩
 have c4b0 : decide (a1 ≤ a0) = false := decide_eq_false c4
 clear c4
 obtain rfl := Option.some.inj H
 go_enter Try.func63, Try.ntmps63
 go_wp2
 go_ret
 exact ⟨rr, dw⟩


/-! ### impl_allWithin: function 112 -/
def impl_allWithin.l0 : Nat → Int → Int → List Int → Int → Int → Option (Bool)
 | 0, _, _, _, _, _ => none
 | k + 1, x1, x2, x9, x10, x11 => if x11 < x10 then (if 0 ≤ x11 then (if x11 < (x9.length : Int) then ((impl_within.f (rd x9 x11) x1 x2).bind fun t302 => (if t302 = true then (impl_allWithin.l0 k x1 x2 x9 x10 (wrap64 (x11 + 1))) else (some false))) else (none)) else (none)) else (some true)
def impl_allWithin.f (k : Nat) (l0 : List Int) (a1 : Int) (a2 : Int) : Option (Bool) := impl_allWithin.l0 k a1 a2 l0 (l0.length : Int) 0
set_option maxHeartbeats 8000000 in
set_option maxRecDepth 100000 in
theorem impl_allWithin.calls (k : Nat) (A0 : Option Addr) (c0 : Nat) (l0 : List Int) (a1 : Int) (a2 : Int) (r : Bool) (w : World) (hr0 : Kd.C (Kd.int .i64) w A0 l0.length l0) (hc0 : l0.length ≤ c0) (h : impl_allWithin.f k l0 a1 a2 = some r) :
  Calls Try.prog 112 #[.slice A0 l0.length c0, .int .i64 a1, .int .i64 a2] w fun e w' => e = .returned (.bool r) ∧ Drawn0 w w' := by
 have HR0 := am hr0
 have HC0 := am hc0
 clear hr0 hc0
 have H : (impl_allWithin.l0 k a1 a2 l0 (l0.length : Int) 0) = some r := h
 clear h
 have H' := am H
 clear H
 go_enter Try.func112, Try.ntmps112
 go_wp2
 go_loopg [11] k (fun kq v11 w' => ∃ (x11_1 : Int), v11 = .int .i64 x11_1 ∧ Aside0 (impl_allWithin.l0 kq a1 a2 l0 (l0.length : Int) x11_1 = some r) ∧ Aside0 (kq ≤ k) ∧ Drawn0 w w')
 case atStart => exact ⟨(0), rr, H', ⟨Nat.le_refl _⟩, dw⟩
 case round =>
  clear H'
  obtain ⟨x11_1, rfl, HA, HK1, ⟨m1, rfl⟩⟩ := hrel
  cases gk with
  | zero => exact absurd HA.out (by simp [impl_allWithin.l0])
  | succ k1 =>
   have H := HA.out
   clear HA
   simp only [impl_allWithin.l0] at H
   replace H := gi H; obtain ⟨c4b0, H⟩ | ⟨c4b0, H⟩ := H
   ·replace H := gd H; obtain ⟨c5b0, H⟩ := H
    replace H := gd H; obtain ⟨c6b0, H⟩ := H
    replace H := ga H; obtain ⟨t302, A7, H⟩ := H
    replace H := gb H; obtain ⟨rfl, H⟩ | ⟨rfl, H⟩ := H
    ·have H' := am H
     clear H
     obtain ⟨⟨ad301, e301, hx301_0⟩, p301, q301⟩ := pq (Kd.at_int HR0.out x11_1)
     cases e301
     go_wp2_with (first | ((with_reducible refine gate_callee (f := 63) rfl ?_); refine gl (some 18) Try.func63 #[.int .i64 (rd l0 x11_1), .int .i64 a1, .int .i64 a2] ?_; (with_reducible refine (impl_within.calls (rd l0 x11_1) a1 a2 true _ A7.out).mono ?_); rintro e w' ⟨rfl, ⟨nd, rfl⟩⟩; refine ⟨_, rfl, ?_⟩))
     go_roundg k1
     case measure => have := HK1.out; omega
     case rel => exact ⟨(wrap64 (x11_1 + 1)), rr, H', ⟨by have := HK1.out; omega⟩, dw⟩
    obtain rfl := Option.some.inj H
    obtain ⟨⟨ad301, e301, hx301_0⟩, p301, q301⟩ := pq (Kd.at_int HR0.out x11_1)
    cases e301
    go_wp2_with (first | ((with_reducible refine gate_callee (f := 63) rfl ?_); refine gl (some 18) Try.func63 #[.int .i64 (rd l0 x11_1), .int .i64 a1, .int .i64 a2] ?_; (with_reducible refine (impl_within.calls (rd l0 x11_1) a1 a2 false _ A7.out).mono ?_); rintro e w' ⟨rfl, ⟨nd, rfl⟩⟩; refine ⟨_, rfl, ?_⟩))
    go_ret
    exact ⟨rr, dw⟩
   obtain rfl := Option.some.inj H
   go_wp2
   go_ret
   exact ⟨rr, dw⟩


/-! ### impl_IsAscending: function 113 -/
def impl_IsAscending.l0 : Nat → List Int → Int → Option (Bool)
 | 0, _, _ => none
 | k + 1, x0, x3 => if x3 < (x0.length : Int) then (if 0 ≤ x3 then (if 0 ≤ (wrap64 (x3 - 1)) then (if (wrap64 (x3 - 1)) < (x0.length : Int) then (if (rd x0 x3) ≤ (rd x0 (wrap64 (x3 - 1))) then (some false) else (impl_IsAscending.l0 k x0 (wrap64 (x3 + 1)))) else (none)) else (none)) else (none)) else (some true)
def impl_IsAscending.f (k : Nat) (l0 : List Int) : Option (Bool) := impl_IsAscending.l0 k l0 1
set_option maxHeartbeats 8000000 in
set_option maxRecDepth 100000 in
theorem impl_IsAscending.calls (k : Nat) (A0 : Option Addr) (c0 : Nat) (l0 : List Int) (r : Bool) (w : World) (hr0 : Kd.C (Kd.int .i64) w A0 l0.length l0) (hc0 : l0.length ≤ c0) (h : impl_IsAscending.f k l0 = some r) :
  Calls Try.prog 113 #[.slice A0 l0.length c0] w fun e w' => e = .returned (.bool r) ∧ Drawn0 w w' := by
 have HR0 := am hr0
 have HC0 := am hc0
 clear hr0 hc0
 have H : (impl_IsAscending.l0 k l0 1) = some r := h
 clear h
 have H' := am H
 clear H
 go_enter Try.func113, Try.ntmps113
 go_wp2
 repeat (go_quiet (fail); try go_wp2)
 go_loopg [3] k (fun kq v3 w' => ∃ (x3_1 : Int), v3 = .int .i64 x3_1 ∧ Aside0 (impl_IsAscending.l0 kq l0 x3_1 = some r) ∧ Aside0 (kq ≤ k) ∧ Drawn0 w w')
 case atStart => exact ⟨(1), rr, H', ⟨Nat.le_refl _⟩, dw⟩
 case round =>
  clear H'
  obtain ⟨x3_1, rfl, HA, HK1, ⟨m1, rfl⟩⟩ := hrel
  cases gk with
  | zero => exact absurd HA.out (by simp [impl_IsAscending.l0])
  | succ k1 =>
   have H := HA.out
   clear HA
   simp only [impl_IsAscending.l0] at H
   replace H := gi H; obtain ⟨c2b0, H⟩ | ⟨c2b0, H⟩ := H
   ·replace H := gd H; obtain ⟨c3b0, H⟩ := H
    obtain ⟨ji4, hji4⟩ : ∃ j_ : Int, (wrap64 (x3_1 - 1)) = j_ := ⟨_, rfl⟩
    replace H : (if 0 ≤ (ji4) then (if (ji4) < (l0.length : Int) then (if (rd l0 x3_1) ≤ (rd l0 (ji4)) then (some false) else (impl_IsAscending.l0 k1 l0 (wrap64 (x3_1 + 1)))) else (none)) else (none)) = some r := by first | (rw [hji4] at H; exact H) | (simp only [hji4] at H ⊢; exact H)
    have hji4w : (IntKind.i64.wrap (x3_1 - 1)) = ji4 := (i64_w _).trans hji4
    replace H := gd H; obtain ⟨c5b0, H⟩ := H
    replace H := gd H; obtain ⟨c6b0, H⟩ := H
    replace H := gi H; obtain ⟨c7b0, H⟩ | ⟨c7b0, H⟩ := H
    ·obtain rfl := Option.some.inj H
     obtain ⟨⟨ad303, e303, hx303_0⟩, p303, q303⟩ := pq (Kd.at_int HR0.out x3_1)
     cases e303
     obtain ⟨⟨ad304, e304, hx304_0⟩, p304, q304⟩ := pq (Kd.at_int HR0.out (ji4))
     obtain rfl : ad303 = ad304 := (by injection e304)
     go_wp2
     repeat (go_quiet (fail); try go_wp2)
     go_ret
     exact ⟨by first | rfl | (simp; done) | (simp only [← hji4] <;> (first | rfl | simp)) | (simp [*]; done), dw⟩
    have H' := am H
    clear H
    obtain ⟨⟨ad303, e303, hx303_0⟩, p303, q303⟩ := pq (Kd.at_int HR0.out x3_1)
    cases e303
    obtain ⟨⟨ad304, e304, hx304_0⟩, p304, q304⟩ := pq (Kd.at_int HR0.out (ji4))
    obtain rfl : ad303 = ad304 := (by injection e304)
    go_wp2
    repeat (go_quiet (fail); try go_wp2)
    go_roundg k1
    case measure => have := HK1.out; omega
    case rel => exact ⟨(wrap64 (x3_1 + 1)), rr, H', ⟨by have := HK1.out; omega⟩, dw⟩
   obtain rfl := Option.some.inj H
   go_wp2
   repeat (go_quiet (fail); try go_wp2)
   go_ret
   exact ⟨rr, dw⟩


/-! ### impl_GcdOf: function 144 -/
def impl_GcdOf.l0 : Nat → Int → Int → Option (Int)
 | 0, _, _ => none
 | k + 1, x0, x1 => if x0 = 0 then (some x1) else (impl_GcdOf.l0 k (Int.tmod x1 x0) x0)
def impl_GcdOf.f (k : Nat) (a0 : Int) (a1 : Int) : Option (Int) := (impl_allWithin.f k (([a0, a1] : List Int)) (-1000000) 1000000).bind fun t308 => (if t308 = true then (impl_GcdOf.l0 k (mx a0 (wrap64 (-a0))) (mx a1 (wrap64 (-a1)))) else (some 0))
set_option maxHeartbeats 8000000 in
set_option maxRecDepth 100000 in
theorem impl_GcdOf.calls (k : Nat) (a0 : Int) (a1 : Int) (r : Int) (w : World) (h : impl_GcdOf.f k a0 a1 = some r) :
  Calls Try.prog 144 #[.int .i64 a0, .int .i64 a1] w fun e w' => e = .returned (.int .i64 r) ∧ Below w.heap.size w w' := by
 have HB := am (Below.refl w.heap.size w)
 have H : ((impl_allWithin.f k (([a0, a1] : List Int)) (-1000000) 1000000).bind fun t308 => (if t308 = true then (impl_GcdOf.l0 k (mx a0 (wrap64 (-a0))) (mx a1 (wrap64 (-a1)))) else (some 0))) = some r := h
 clear h
 obtain ⟨y305, hy305⟩ : ∃ y_ : List Int, y_ = (([a0, a1] : List Int)) := ⟨_, rfl⟩
 replace H : ((impl_allWithin.f k y305 (-1000000) 1000000).bind fun t308 => (if t308 = true then (impl_GcdOf.l0 k (mx a0 (wrap64 (-a0))) (mx a1 (wrap64 (-a1)))) else (some 0))) = some r := by first | (rw [hy305]; with_reducible first | exact H | exact bs H) | (with_reducible first | exact bs H | exact H) | (rw [hy305]; exact H) | exact H
 have Ny305 := am hy305
 clear hy305
 replace H := ga H; obtain ⟨t308, A3, H⟩ := H
 replace H := gb H; obtain ⟨rfl, H⟩ | ⟨rfl, H⟩ := H
 ·obtain ⟨ji5, hji5⟩ : ∃ j_ : Int, (mx a0 (wrap64 (-a0))) = j_ := ⟨_, rfl⟩
  replace H : (impl_GcdOf.l0 k ji5 (mx a1 (wrap64 (-a1)))) = some r := by first | (rw [hji5] at H; exact H) | (simp only [hji5] at H ⊢; exact H)
  (try rw [hji5] at A3)
  have hji5_ : (if a0 < (wrap64 (-a0)) then (wrap64 (-a0)) else a0) = ji5 := hji5
  obtain ⟨ji6, hji6⟩ : ∃ j_ : Int, (mx a1 (wrap64 (-a1))) = j_ := ⟨_, rfl⟩
  replace H : (impl_GcdOf.l0 k ji5 ji6) = some r := by first | (rw [hji6] at H; exact H) | (simp only [hji6] at H ⊢; exact H)
  (try rw [hji6] at A3)
  have hji6_ : (if a1 < (wrap64 (-a1)) then (wrap64 (-a1)) else a1) = ji6 := hji6
  have H' := am H
  clear H
  go_enter Try.func144, Try.ntmps144
  go_wp2_with (first | ((with_reducible refine gate_dst (N := 7) rfl ?_); refine Kd.R_lit (Kd.int .i64) _ 3 ?hg (N := 7) ?hd (xs := ([a0, a1] : List Int)) (inner := [.int .i64 a0, .int .i64 a1]) (ok := fun _ => True) (okp := fun _ => True) ?hr ?hp (fun _ hk => hk) trivial (Below.refl _ _) (Nat.le_refl _) (by simp) ?_; (case hd => rfl); (case hg => rfl); (case hr => first | (go_simp; done) | (go_simp; rfl)); (case hp => exact (Reps.one (show Kd.M (Kd.int .i64) _ _ _ a0 [.int .i64 a0] from rfl) (Reps.one (show Kd.M (Kd.int .i64) _ _ _ a1 [.int .i64 a1] from rfl) (Reps.none _ _)))); intro v306 w7 ho8 hb hg_ hnew_; clear hg_ hnew_; (first | rw [← Ny305.out] at ho8 | (simp only [Int.reduceToNat] at ho8; rw [← Ny305.out] at ho8)); have HO307 := am (Kd.R_lower ho8 (below_size bw)); replace HB := am (below_step bw hb); clear hb ho8; obtain ⟨Ao9, co9, eo9⟩ := Kd.R_slice HO307.out; subst eo9) | ((with_reducible refine gate_callee (f := 112) rfl ?_); refine gl (some 8) Try.func112 #[.slice Ao9 y305.length co9, .int .i64 (-1000000), .int .i64 1000000] ?_; (with_reducible refine (impl_allWithin.calls k _ _ y305 (-1000000) 1000000 true _ ?side1 ?side2 A3.out).mono ?_); (case side1 => exact co (Kd.R_reads' HO307.out).2.2); (case side2 => exact (Kd.R_reads' HO307.out).2.1); rintro e w' ⟨rfl, ⟨nd, rfl⟩⟩; refine ⟨_, rfl, ?_⟩))
  go_loopg [0, 1] k (fun kq v0 v1 w' => ∃ (x0_1 : Int) (x1_1 : Int), v0 = .int .i64 x0_1 ∧ v1 = .int .i64 x1_1 ∧ Aside0 (impl_GcdOf.l0 kq x0_1 x1_1 = some r) ∧ Aside0 (kq ≤ k) ∧ Aside0 (Below w.heap.size w w'))
  case atStart => exact ⟨(ji5), (ji6), (by first | rfl | (simp; done) | (simp only [← hji5] <;> (first | rfl | simp)) | (simp [*]; done)), (by first | rfl | (simp; done) | (simp only [← hji6] <;> (first | rfl | simp)) | (simp [*]; done)), H', ⟨Nat.le_refl _⟩, ⟨bw⟩⟩
  case round =>
   clear H'
   obtain ⟨x0_1, x1_1, rfl, rfl, HA, HK1, HB⟩ := hrel
   cases gk with
   | zero => exact absurd HA.out (by simp [impl_GcdOf.l0])
   | succ k1 =>
    have H := HA.out
    clear HA
    simp only [impl_GcdOf.l0] at H
    by_cases c10 : x0_1 = 0
    ·rw [if_pos c10] at H
     have c10b0 : (x0_1 == 0) = true := beq_iff_eq.mpr c10
     have c10b1 : (x0_1 != 0) = false := bne_eq_false_iff_eq.mpr c10
     clear c10
     obtain rfl := Option.some.inj H
     go_wp2
     go_ret
     exact ⟨by first | rfl | (simp [errW_none, errW_some] <;> rfl) | (simp only [← hji5, ← hji6]; first | rfl | (simp [errW_none, errW_some] <;> rfl)) | (simp [*, errW_none, errW_some] <;> rfl), bw⟩
    rw [if_neg c10] at H
    have c10b0 : (x0_1 == 0) = false := beq_eq_false_iff_ne.mpr c10
    have c10b1 : (x0_1 != 0) = true := bne_iff_ne.mpr c10
    have H' := am H
    clear H
    go_wp2
    go_roundg k1
    case measure => have := HK1.out; omega
    case rel => exact ⟨(Int.tmod x1_1 x0_1), (x0_1), rr, rr, H', ⟨by have := HK1.out; omega⟩, ⟨bw⟩⟩
 obtain rfl := Option.some.inj H
 go_enter Try.func144, Try.ntmps144
 go_wp2_with (first | ((with_reducible refine gate_dst (N := 7) rfl ?_); refine Kd.R_lit (Kd.int .i64) _ 3 ?hg (N := 7) ?hd (xs := ([a0, a1] : List Int)) (inner := [.int .i64 a0, .int .i64 a1]) (ok := fun _ => True) (okp := fun _ => True) ?hr ?hp (fun _ hk => hk) trivial (Below.refl _ _) (Nat.le_refl _) (by simp) ?_; (case hd => rfl); (case hg => rfl); (case hr => first | (go_simp; done) | (go_simp; rfl)); (case hp => exact (Reps.one (show Kd.M (Kd.int .i64) _ _ _ a0 [.int .i64 a0] from rfl) (Reps.one (show Kd.M (Kd.int .i64) _ _ _ a1 [.int .i64 a1] from rfl) (Reps.none _ _)))); intro v306 w11 ho12 hb hg_ hnew_; clear hg_ hnew_; (first | rw [← Ny305.out] at ho12 | (simp only [Int.reduceToNat] at ho12; rw [← Ny305.out] at ho12)); have HO307 := am (Kd.R_lower ho12 (below_size bw)); replace HB := am (below_step bw hb); clear hb ho12; obtain ⟨Ao13, co13, eo13⟩ := Kd.R_slice HO307.out; subst eo13) | ((with_reducible refine gate_callee (f := 112) rfl ?_); refine gl (some 8) Try.func112 #[.slice Ao13 y305.length co13, .int .i64 (-1000000), .int .i64 1000000] ?_; (with_reducible refine (impl_allWithin.calls k _ _ y305 (-1000000) 1000000 false _ ?side1 ?side2 A3.out).mono ?_); (case side1 => exact co (Kd.R_reads' HO307.out).2.2); (case side2 => exact (Kd.R_reads' HO307.out).2.1); rintro e w' ⟨rfl, ⟨nd, rfl⟩⟩; refine ⟨_, rfl, ?_⟩))
 go_ret
 exact ⟨re, bw⟩


/-! ### impl_GcdOfList: function 114 -/
def impl_GcdOfList.l0 : Nat → Int → List Int → Int → Int → Option (Int)
 | 0, _, _, _, _ => none
 | k + 1, x3, x6, x7, x8 => if x8 < x7 then (if 0 ≤ x8 then (if x8 < (x6.length : Int) then ((impl_GcdOf.f k x3 (rd x6 x8)).bind fun t310 => (impl_GcdOfList.l0 k t310 x6 x7 (wrap64 (x8 + 1)))) else (none)) else (none)) else (some x3)
def impl_GcdOfList.f (k : Nat) (l0 : List Int) : Option (Int) := impl_GcdOfList.l0 k 0 l0 (l0.length : Int) 0
set_option maxHeartbeats 8000000 in
set_option maxRecDepth 100000 in
theorem impl_GcdOfList.calls (k : Nat) (A0 : Option Addr) (c0 : Nat) (l0 : List Int) (r : Int) (w : World) (hr0 : Kd.C (Kd.int .i64) w A0 l0.length l0) (hc0 : l0.length ≤ c0) (h : impl_GcdOfList.f k l0 = some r) :
  Calls Try.prog 114 #[.slice A0 l0.length c0] w fun e w' => e = .returned (.int .i64 r) ∧ Below w.heap.size w w' := by
 have HR0 := am hr0
 have HC0 := am hc0
 clear hr0 hc0
 have HB := am (Below.refl w.heap.size w)
 have H : (impl_GcdOfList.l0 k 0 l0 (l0.length : Int) 0) = some r := h
 clear h
 have H' := am H
 clear H
 go_enter Try.func114, Try.ntmps114
 go_wp2
 go_loopg [3, 8] k (fun kq v3 v8 w' => ∃ (x3_1 : Int) (x8_1 : Int), v3 = .int .i64 x3_1 ∧ v8 = .int .i64 x8_1 ∧ Aside0 (impl_GcdOfList.l0 kq x3_1 l0 (l0.length : Int) x8_1 = some r) ∧ Aside0 (kq ≤ k) ∧ Aside0 (Below w.heap.size w w'))
 case atStart => exact ⟨(0), (0), rr, rr, H', ⟨Nat.le_refl _⟩, ⟨bw⟩⟩
 case round =>
  clear H'
  obtain ⟨x3_1, x8_1, rfl, rfl, HA, HK1, HB⟩ := hrel
  cases gk with
  | zero => exact absurd HA.out (by simp [impl_GcdOfList.l0])
  | succ k1 =>
   have H := HA.out
   clear HA
   simp only [impl_GcdOfList.l0] at H
   replace H := gi H; obtain ⟨c2b0, H⟩ | ⟨c2b0, H⟩ := H
   ·replace H := gd H; obtain ⟨c3b0, H⟩ := H
    replace H := gd H; obtain ⟨c4b0, H⟩ := H
    replace H := ga H; obtain ⟨t310, A5, H⟩ := H
    have H' := am H
    clear H
    obtain ⟨⟨ad309, e309, hx309_0⟩, p309, q309⟩ := pq (Kd.at_int HR0.out x8_1)
    cases e309
    replace hx309_0 := hw HB hx309_0
    go_wp2_with (first | ((with_reducible refine gate_callee (f := 144) rfl ?_); refine gl (some 14) Try.func144 #[.int .i64 x3_1, .int .i64 (rd l0 x8_1)] ?_; (with_reducible refine (impl_GcdOf.calls k1 x3_1 (rd l0 x8_1) t310 _ A5.out).mono ?_); rintro e w6 ⟨rfl, hb⟩; refine ⟨_, rfl, ?_⟩; replace HB := am (below_step bw hb); clear hb))
    go_roundg k1
    case measure => have := HK1.out; omega
    case rel => exact ⟨(t310), (wrap64 (x8_1 + 1)), rr, rr, H', ⟨by have := HK1.out; omega⟩, ⟨bw⟩⟩
   obtain rfl := Option.some.inj H
   go_wp2
   go_ret
   exact ⟨re, bw⟩

end Go.Proofs.Ytlfdipnhlmjiaaa.C
