/- Contracts of functions of the program: spec_IsSemigroup, spec_l4Gaps, spec_Gaps, spec_FrobeniusOf, spec_HasNumber, spec_l8Gaps, spec_GapClash. -/
import Derived.Test.YtlfdipnhlmjiaaaC0
import Derived.Test.YtlfdipnhlmjiaaaC1
import Derived.Test.YtlfdipnhlmjiaaaC2
namespace Go.Proofs.Ytlfdipnhlmjiaaa.C
open Go.RowKit Go.Proofs.YtlfdipnhlmjiaaaW.PrintWords Go.Proofs.YtlfdipnhlmjiaaaW.PrintLast Go.Proofs.YtlfdipnhlmjiaaaW.PrintMore
attribute [local go_sem] max2_int min2_int max_two min_two max_three min_three max_four min_four
set_option linter.unusedVariables false
set_option linter.unusedSimpArgs false

/-! ### spec_IsSemigroup: function 58 -/
def spec_IsSemigroup.f (k : Nat) (l0_0 : List Int) : Option (Bool) := (spec_l3Gens.f k l0_0).bind fun t222 => (if t222 = true then (if (l0_0.length : Int) ≤ 12 then ((spec_IsAscending.f k l0_0).bind fun t223 => (if t223 = true then ((spec_GcdOfList.f k l0_0).bind fun t224 => (if t224 = 1 then ((spec_l3Minimal.f k l0_0).bind fun t225 => ((spec_l2Same.f k t225 l0_0).bind fun t228 => (if t228 = true then ((spec_l3Ends.f k l0_0).bind fun t229 => (some t229)) else (some false)))) else (some false))) else (some false))) else (some false)) else (some false))
def spec_IsSemigroup.T1 : Bool × List (List Nat × List Nat) := (true, [([], []), ([0], [0]), ([1], [1]), ([2, 2], [2]), ([3], [3]), ([4, 3], [3, 4]), ([5, 3], [3, 5]), ([6, 3], [3, 6]), ([3, 7], [3, 7]), ([8, 3], [8]), ([9], [9]), ([10, 9], [9, 10]), ([11, 9, 9], [9, 11]), ([9, 12], [9, 12]), ([13, 12], [13]), ([14], [14]), ([15, 14], [14, 15]), ([16, 14, 14], [14, 16]), ([17, 14], [14, 17]), ([14, 18], [14, 18]), ([19, 17], [19]), ([20], [20]), ([21, 20], [20, 21]), ([22, 20, 20], [20, 22]), ([20], [20]), ([24, 20], [20, 24]), ([23, 25, 23, 20], [20, 23, 25]), ([20, 26], [20, 26]), ([27, 26], [27]), ([28], [28]), ([29, 28], [28, 29]), ([30, 28, 28], [28, 30]), ([28, 31], [28, 31]), ([32, 31, 0, 1, 2, 3, 4, 5, 6, 7, 8, 9, 10, 11, 12, 13, 14, 15, 16, 17, 18, 19, 20, 21, 22, 23, 24, 25, 26, 27, 28, 29, 30, 31, 32], [32])])
def spec_IsSemigroup.B1 : List Nat := [0, 1, 3, 7, 15, 31, 63, 127, 255, 511, 1023, 2047, 4095, 8191, 16383, 32767, 65535, 131071, 262143, 524287, 1048575, 2097151, 4194303, 8388607, 2097151, 18874367, 67108863, 134217727, 268435455, 536870911, 1073741823, 2147483647, 4294967295, 8589934591]
theorem spec_IsSemigroup.tab1 : rtab .any (opsOf Try.f58 1) = spec_IsSemigroup.T1 := by kernel_rfl
theorem spec_IsSemigroup.bits1 : waitsOk spec_IsSemigroup.T1.2 spec_IsSemigroup.B1 = true := by kernel_rfl
set_option maxHeartbeats 8000000 in
set_option maxRecDepth 100000 in
theorem spec_IsSemigroup.calls (k : Nat) (A0_0 : Option Addr) (c0_0 : Nat) (l0_0 : List Int) (r : Bool) (w : World) (hr0_0 : Kd.C (Kd.int .i64) w A0_0 l0_0.length l0_0) (hc0_0 : l0_0.length ≤ c0_0) (h : spec_IsSemigroup.f k l0_0 = some r) :
  Calls Try.prog 58 #[.agg #[.slice A0_0 l0_0.length c0_0]] w fun e w' => e = .returned (.bool r) ∧ Below w.heap.size w w' := by
 have hu27 := Try.underlying27
 have HR0_0 := am hr0_0
 have HC0_0 := am hc0_0
 clear hr0_0 hc0_0
 have HB := am (Below.refl w.heap.size w)
 have H : ((spec_l3Gens.f k l0_0).bind fun t222 => (if t222 = true then (if (l0_0.length : Int) ≤ 12 then ((spec_IsAscending.f k l0_0).bind fun t223 => (if t223 = true then ((spec_GcdOfList.f k l0_0).bind fun t224 => (if t224 = 1 then ((spec_l3Minimal.f k l0_0).bind fun t225 => ((spec_l2Same.f k t225 l0_0).bind fun t228 => (if t228 = true then ((spec_l3Ends.f k l0_0).bind fun t229 => (some t229)) else (some false)))) else (some false))) else (some false))) else (some false)) else (some false))) = some r := h
 clear h
 replace H := ga H; obtain ⟨t222, A2, H⟩ := H
 replace H := gb H; obtain ⟨rfl, H⟩ | ⟨rfl, H⟩ := H
 ·replace H := gj H; obtain ⟨c4, H⟩ | ⟨c4, H⟩ := H
  ·have c4b0 : decide ((l0_0.length : Int) ≤ 12) = true := decide_eq_true c4
   have c4b1 : decide (l0_0.length ≤ 12) = true := decide_eq_true (by omega)
   clear c4
   replace H := ga H; obtain ⟨t223, A5, H⟩ := H
   replace H := gb H; obtain ⟨rfl, H⟩ | ⟨rfl, H⟩ := H
   ·replace H := ga H; obtain ⟨t224, A7, H⟩ := H
    by_cases c8 : t224 = 1
    ·rw [if_pos c8] at H
     have c8b0 : (t224 == 1) = true := beq_iff_eq.mpr c8
     have c8b1 : (t224 != 1) = false := bne_eq_false_iff_eq.mpr c8
     clear c8
     replace H := ga H; obtain ⟨t225, A9, H⟩ := H
     replace H := ga H; obtain ⟨t228, A10, H⟩ := H
     replace H := gb H; obtain ⟨rfl, H⟩ | ⟨rfl, H⟩ := H
     ·replace H := ga H; obtain ⟨t229, A12, H⟩ := H
      obtain rfl := Option.some.inj H
      go_enter Try.func58, Try.ntmps58
      try go_wp2_with (first | ((with_reducible refine gate_dst (N := 1) rfl ?_); (try (refine gate_guard (by rfl) ?_; dsimp only)); refine bx 1 #[.slice A0_0 l0_0.length c0_0] 27 ?_; intro gb221 hg w13 hbox hb; have BK221 := am (hbox); have GW221 := am (gs hg : w.heap.size ≤ gb221); have GE221 := GW221; replace HB := am (below_step bw hb); clear hb hbox hg))
      replace BK221 := bd BK221
      replace HB := am (below_drew1 HB.out)
      refine start_ (n := 34) (S := fun w' => w'.cell? ⟨gb221, 0, none⟩ = some (.slice A0_0 l0_0.length c0_0)) (ds := []) (yz 34 0) (by kernel_rfl) rfl rfl (bc BK221 0 _) (fun hHeld => ?_); refine with_tabW spec_IsSemigroup.tab1 spec_IsSemigroup.bits1 (fun HT_ HW_ => ?_)
      generalize w13.drew = w14 at BK221 HB hHeld ⊢
      refine pa 0 (some 3) (yz 34 1) HT_ ?_
      refine tK 1 (some 4) (yz 34 3) HT_ HW_ hHeld ?_
      refine oa 2 (some 5) (yz 34 7) HT_ (fun K hK => ?_)
      refine gm Try.func106 #[.slice A0_0 l0_0.length c0_0] ?_
      with_reducible refine (spec_l3Gens.calls k _ _ l0_0 true _ ?side1 ?side2 A2.out).mono ?_
      (case side1 => exact co (Kd.C_below HR0_0.out HB.out))
      (case side2 => exact HC0_0.out)
      rintro e w' ⟨rfl, ⟨nd, rfl⟩⟩
      refine ⟨_, rfl, ?_⟩
      refine hK.out _ _ (bc BK221 0 _) (fun hHeld => ?_)
      clear hK K
      refine nm (some 5) ?_
      refine pa 3 (some 6) (yz 34 15) HT_ ?_
      refine pa 4 (some 7) (yz 34 31) HT_ ?_
      refine tK 5 (some 8) (yz 34 63) HT_ HW_ hHeld ?_
      refine pa 6 (some 9) (yz 34 127) HT_ ?_
      refine pa 7 (some 10) (yz 34 255) HT_ ?_
      refine pa 8 (some 11) (yz 34 511) HT_ ?_
      refine pa 9 (some 12) (yz 34 1023) HT_ ?_
      refine pa 10 (some 13) (yz 34 2047) HT_ ?_
      refine tK 11 (some 14) (yz 34 4095) HT_ HW_ hHeld ?_
      refine oa 12 (some 15) (yz 34 8191) HT_ (fun K hK => ?_)
      refine gm Try.func107 #[.slice A0_0 l0_0.length c0_0] ?_
      with_reducible refine (spec_IsAscending.calls k _ _ l0_0 true _ ?side1 ?side2 A5.out).mono ?_
      (case side1 => exact co (Kd.C_below HR0_0.out bw))
      (case side2 => exact HC0_0.out)
      rintro e w' ⟨rfl, ⟨nd, rfl⟩⟩
      refine ⟨_, rfl, ?_⟩
      refine hK.out _ _ (bc BK221 0 _) (fun hHeld => ?_)
      clear hK K
      refine nm (some 15) ?_
      refine pa 13 (some 16) (yz 34 16383) HT_ ?_
      refine pa 14 (some 17) (yz 34 32767) HT_ ?_
      refine pa 15 (some 18) (yz 34 65535) HT_ ?_
      refine tK 16 (some 19) (yz 34 131071) HT_ HW_ hHeld ?_
      refine oa 17 (some 20) (yz 34 262143) HT_ (fun K hK => ?_)
      refine gm Try.func108 #[.slice A0_0 l0_0.length c0_0] ?_
      with_reducible refine (spec_GcdOfList.calls k _ _ l0_0 t224 _ ?side1 ?side2 A7.out).mono ?_
      (case side1 => exact co (Kd.C_below HR0_0.out bw))
      (case side2 => exact HC0_0.out)
      rintro e w' ⟨rfl, ⟨nd, rfl⟩⟩
      refine ⟨_, rfl, ?_⟩
      refine hK.out _ _ (bc BK221 0 _) (fun hHeld => ?_)
      clear hK K
      refine nm (some 20) ?_
      refine pa 18 (some 21) (yz 34 524287) HT_ ?_
      refine pa 19 (some 22) (yz 34 1048575) HT_ ?_
      refine pa 20 (some 23) (yz 34 2097151) HT_ ?_
      refine pa 21 (some 24) (yz 34 4194303) HT_ ?_
      refine pa 24 (some 27) (yz 34 20971519) HT_ ?_
      refine tK 22 (some 25) (yz 34 25165823) HT_ HW_ hHeld ?_
      refine tK 25 (some 28) (yz 34 58720255) HT_ HW_ hHeld ?_
      refine oa 23 (some 26) (yz 34 67108863) HT_ (fun K hK => ?_)
      refine gm Try.func110 #[.slice A0_0 l0_0.length c0_0] ?_
      with_reducible refine (spec_l3Minimal.calls k _ _ l0_0 t225 _ ?side1 ?side2 A9.out).mono ?_
      (case side1 => exact co (Kd.C_below HR0_0.out bw))
      (case side2 => exact HC0_0.out)
      rintro e w15 ⟨v226, rfl, ho0, hb⟩
      refine ⟨_, rfl, ?_⟩
      have HO227 := am (Kd.R_lower ho0 (below_size bw))
      replace BK221 := kb BK221 hb
      replace HB := am (below_step bw hb)
      clear hb ho0
      obtain ⟨Ao16, co16, eo16⟩ := Kd.R_slice HO227.out
      (first | subst eo16 | (injection eo16 with f1_ f2_ f3_; have f4_ := f1_.symm; have f5_ := f3_.symm; clear f1_ f2_ f3_; subst f4_; subst f5_))
      refine hK.out _ _ (bc BK221 0 _) (fun hHeld => ?_)
      clear hK K
      refine nm (some 26) ?_
      refine oa 26 (some 29) (yz 34 134217727) HT_ (fun K hK => ?_)
      refine gm Try.func109 #[.slice Ao16 t225.length co16, .slice A0_0 l0_0.length c0_0] ?_
      with_reducible refine (spec_l2Same.calls k _ _ t225 _ _ l0_0 true _ ?side1 ?side2 ?side3 ?side4 A10.out).mono ?_
      (case side1 => exact co (Kd.R_reads' HO227.out).2.2)
      (case side2 => exact (Kd.R_reads' HO227.out).2.1)
      (case side3 => exact co (Kd.C_below HR0_0.out HB.out))
      (case side4 => exact HC0_0.out)
      rintro e w' ⟨rfl, ⟨nd, rfl⟩⟩
      refine ⟨_, rfl, ?_⟩
      refine hK.out _ _ (bc BK221 0 _) (fun hHeld => ?_)
      clear hK K
      refine nm (some 29) ?_
      refine pa 27 (some 30) (yz 34 268435455) HT_ ?_
      refine pa 28 (some 31) (yz 34 536870911) HT_ ?_
      refine pa 29 (some 32) (yz 34 1073741823) HT_ ?_
      refine tK 30 (some 33) (yz 34 2147483647) HT_ HW_ hHeld ?_
      refine oa 31 (some 34) (yz 34 4294967295) HT_ (fun K hK => ?_)
      refine gm Try.func111 #[.slice A0_0 l0_0.length c0_0] ?_
      with_reducible refine (spec_l3Ends.calls k _ _ l0_0 t229 _ ?side1 ?side2 A12.out).mono ?_
      (case side1 => exact co (Kd.C_below HR0_0.out bw))
      (case side2 => exact HC0_0.out)
      rintro e w17 ⟨rfl, hb⟩
      refine ⟨_, rfl, ?_⟩
      replace HO227 := rK HO227 hb
      replace BK221 := kb BK221 hb
      replace HB := am (below_step bw hb)
      clear hb
      refine hK.out _ _ (bc BK221 0 _) (fun hHeld => ?_)
      clear hK K
      refine nm (some 34) ?_
      refine pa 32 (some 35) (yz 34 8589934591) HT_ ?_
      refine pa 33 (some 2) (yz 34 17179869183) HT_ ?_
      refine done_ (done_of HT_.out (by kernel_rfl)) ?_
      try go_wp2
      go_ret
      exact ⟨re, bw⟩
     obtain rfl := Option.some.inj H
     go_enter Try.func58, Try.ntmps58
     try go_wp2_with (first | ((with_reducible refine gate_dst (N := 1) rfl ?_); (try (refine gate_guard (by rfl) ?_; dsimp only)); refine bx 1 #[.slice A0_0 l0_0.length c0_0] 27 ?_; intro gb221 hg w18 hbox hb; have BK221 := am (hbox); have GW221 := am (gs hg : w.heap.size ≤ gb221); have GE221 := GW221; replace HB := am (below_step bw hb); clear hb hbox hg))
     replace BK221 := bd BK221
     replace HB := am (below_drew1 HB.out)
     refine start_ (n := 34) (S := fun w' => w'.cell? ⟨gb221, 0, none⟩ = some (.slice A0_0 l0_0.length c0_0)) (ds := []) (yz 34 0) (by kernel_rfl) rfl rfl (bc BK221 0 _) (fun hHeld => ?_); refine with_tabW spec_IsSemigroup.tab1 spec_IsSemigroup.bits1 (fun HT_ HW_ => ?_)
     generalize w18.drew = w19 at BK221 HB hHeld ⊢
     refine pa 0 (some 3) (yz 34 1) HT_ ?_
     refine tK 1 (some 4) (yz 34 3) HT_ HW_ hHeld ?_
     refine oa 2 (some 5) (yz 34 7) HT_ (fun K hK => ?_)
     refine gm Try.func106 #[.slice A0_0 l0_0.length c0_0] ?_
     with_reducible refine (spec_l3Gens.calls k _ _ l0_0 true _ ?side1 ?side2 A2.out).mono ?_
     (case side1 => exact co (Kd.C_below HR0_0.out HB.out))
     (case side2 => exact HC0_0.out)
     rintro e w' ⟨rfl, ⟨nd, rfl⟩⟩
     refine ⟨_, rfl, ?_⟩
     refine hK.out _ _ (bc BK221 0 _) (fun hHeld => ?_)
     clear hK K
     refine nm (some 5) ?_
     refine pa 3 (some 6) (yz 34 15) HT_ ?_
     refine pa 4 (some 7) (yz 34 31) HT_ ?_
     refine tK 5 (some 8) (yz 34 63) HT_ HW_ hHeld ?_
     refine pa 6 (some 9) (yz 34 127) HT_ ?_
     refine pa 7 (some 10) (yz 34 255) HT_ ?_
     refine pa 8 (some 11) (yz 34 511) HT_ ?_
     refine pa 9 (some 12) (yz 34 1023) HT_ ?_
     refine pa 10 (some 13) (yz 34 2047) HT_ ?_
     refine tK 11 (some 14) (yz 34 4095) HT_ HW_ hHeld ?_
     refine oa 12 (some 15) (yz 34 8191) HT_ (fun K hK => ?_)
     refine gm Try.func107 #[.slice A0_0 l0_0.length c0_0] ?_
     with_reducible refine (spec_IsAscending.calls k _ _ l0_0 true _ ?side1 ?side2 A5.out).mono ?_
     (case side1 => exact co (Kd.C_below HR0_0.out bw))
     (case side2 => exact HC0_0.out)
     rintro e w' ⟨rfl, ⟨nd, rfl⟩⟩
     refine ⟨_, rfl, ?_⟩
     refine hK.out _ _ (bc BK221 0 _) (fun hHeld => ?_)
     clear hK K
     refine nm (some 15) ?_
     refine pa 13 (some 16) (yz 34 16383) HT_ ?_
     refine pa 14 (some 17) (yz 34 32767) HT_ ?_
     refine pa 15 (some 18) (yz 34 65535) HT_ ?_
     refine tK 16 (some 19) (yz 34 131071) HT_ HW_ hHeld ?_
     refine oa 17 (some 20) (yz 34 262143) HT_ (fun K hK => ?_)
     refine gm Try.func108 #[.slice A0_0 l0_0.length c0_0] ?_
     with_reducible refine (spec_GcdOfList.calls k _ _ l0_0 t224 _ ?side1 ?side2 A7.out).mono ?_
     (case side1 => exact co (Kd.C_below HR0_0.out bw))
     (case side2 => exact HC0_0.out)
     rintro e w' ⟨rfl, ⟨nd, rfl⟩⟩
     refine ⟨_, rfl, ?_⟩
     refine hK.out _ _ (bc BK221 0 _) (fun hHeld => ?_)
     clear hK K
     refine nm (some 20) ?_
     refine pa 18 (some 21) (yz 34 524287) HT_ ?_
     refine pa 19 (some 22) (yz 34 1048575) HT_ ?_
     refine pa 20 (some 23) (yz 34 2097151) HT_ ?_
     refine pa 21 (some 24) (yz 34 4194303) HT_ ?_
     refine pa 24 (some 27) (yz 34 20971519) HT_ ?_
     refine tK 22 (some 25) (yz 34 25165823) HT_ HW_ hHeld ?_
     refine tK 25 (some 28) (yz 34 58720255) HT_ HW_ hHeld ?_
     refine oa 23 (some 26) (yz 34 67108863) HT_ (fun K hK => ?_)
     refine gm Try.func110 #[.slice A0_0 l0_0.length c0_0] ?_
     with_reducible refine (spec_l3Minimal.calls k _ _ l0_0 t225 _ ?side1 ?side2 A9.out).mono ?_
     (case side1 => exact co (Kd.C_below HR0_0.out bw))
     (case side2 => exact HC0_0.out)
     rintro e w20 ⟨v226, rfl, ho0, hb⟩
     refine ⟨_, rfl, ?_⟩
     have HO227 := am (Kd.R_lower ho0 (below_size bw))
     replace BK221 := kb BK221 hb
     replace HB := am (below_step bw hb)
     clear hb ho0
     obtain ⟨Ao21, co21, eo21⟩ := Kd.R_slice HO227.out
     (first | subst eo21 | (injection eo21 with f1_ f2_ f3_; have f4_ := f1_.symm; have f5_ := f3_.symm; clear f1_ f2_ f3_; subst f4_; subst f5_))
     refine hK.out _ _ (bc BK221 0 _) (fun hHeld => ?_)
     clear hK K
     refine nm (some 26) ?_
     refine oa 26 (some 29) (yz 34 134217727) HT_ (fun K hK => ?_)
     refine gm Try.func109 #[.slice Ao21 t225.length co21, .slice A0_0 l0_0.length c0_0] ?_
     with_reducible refine (spec_l2Same.calls k _ _ t225 _ _ l0_0 false _ ?side1 ?side2 ?side3 ?side4 A10.out).mono ?_
     (case side1 => exact co (Kd.R_reads' HO227.out).2.2)
     (case side2 => exact (Kd.R_reads' HO227.out).2.1)
     (case side3 => exact co (Kd.C_below HR0_0.out HB.out))
     (case side4 => exact HC0_0.out)
     rintro e w' ⟨rfl, ⟨nd, rfl⟩⟩
     refine ⟨_, rfl, ?_⟩
     refine hK.out _ _ (bc BK221 0 _) (fun hHeld => ?_)
     clear hK K
     refine nm (some 29) ?_
     refine pa 27 (some 30) (yz 34 268435455) HT_ ?_
     refine pa 28 (some 31) (yz 34 536870911) HT_ ?_
     refine pu 29 (some 32) (yz 34 1073741823) HT_ ?_
     refine pu 30 (some 33) (yz 34 2147483647) HT_ ?_
     refine pu 31 (some 34) (yz 34 4294967295) HT_ ?_
     refine pa 32 (some 35) (yz 34 8589934591) HT_ ?_
     refine pa 33 (some 2) (yz 34 17179869183) HT_ ?_
     refine done_ (done_of HT_.out (by kernel_rfl)) ?_
     try go_wp2
     go_ret
     exact ⟨re, bw⟩
    rw [if_neg c8] at H
    have c8b0 : (t224 == 1) = false := beq_eq_false_iff_ne.mpr c8
    have c8b1 : (t224 != 1) = true := bne_iff_ne.mpr c8
    obtain rfl := Option.some.inj H
    go_enter Try.func58, Try.ntmps58
    try go_wp2_with (first | ((with_reducible refine gate_dst (N := 1) rfl ?_); (try (refine gate_guard (by rfl) ?_; dsimp only)); refine bx 1 #[.slice A0_0 l0_0.length c0_0] 27 ?_; intro gb221 hg w22 hbox hb; have BK221 := am (hbox); have GW221 := am (gs hg : w.heap.size ≤ gb221); have GE221 := GW221; replace HB := am (below_step bw hb); clear hb hbox hg))
    replace BK221 := bd BK221
    replace HB := am (below_drew1 HB.out)
    refine start_ (n := 34) (S := fun w' => w'.cell? ⟨gb221, 0, none⟩ = some (.slice A0_0 l0_0.length c0_0)) (ds := []) (yz 34 0) (by kernel_rfl) rfl rfl (bc BK221 0 _) (fun hHeld => ?_); refine with_tabW spec_IsSemigroup.tab1 spec_IsSemigroup.bits1 (fun HT_ HW_ => ?_)
    generalize w22.drew = w23 at BK221 HB hHeld ⊢
    refine pa 0 (some 3) (yz 34 1) HT_ ?_
    refine tK 1 (some 4) (yz 34 3) HT_ HW_ hHeld ?_
    refine oa 2 (some 5) (yz 34 7) HT_ (fun K hK => ?_)
    refine gm Try.func106 #[.slice A0_0 l0_0.length c0_0] ?_
    with_reducible refine (spec_l3Gens.calls k _ _ l0_0 true _ ?side1 ?side2 A2.out).mono ?_
    (case side1 => exact co (Kd.C_below HR0_0.out HB.out))
    (case side2 => exact HC0_0.out)
    rintro e w' ⟨rfl, ⟨nd, rfl⟩⟩
    refine ⟨_, rfl, ?_⟩
    refine hK.out _ _ (bc BK221 0 _) (fun hHeld => ?_)
    clear hK K
    refine nm (some 5) ?_
    refine pa 3 (some 6) (yz 34 15) HT_ ?_
    refine pa 4 (some 7) (yz 34 31) HT_ ?_
    refine tK 5 (some 8) (yz 34 63) HT_ HW_ hHeld ?_
    refine pa 6 (some 9) (yz 34 127) HT_ ?_
    refine pa 7 (some 10) (yz 34 255) HT_ ?_
    refine pa 8 (some 11) (yz 34 511) HT_ ?_
    refine pa 9 (some 12) (yz 34 1023) HT_ ?_
    refine pa 10 (some 13) (yz 34 2047) HT_ ?_
    refine tK 11 (some 14) (yz 34 4095) HT_ HW_ hHeld ?_
    refine oa 12 (some 15) (yz 34 8191) HT_ (fun K hK => ?_)
    refine gm Try.func107 #[.slice A0_0 l0_0.length c0_0] ?_
    with_reducible refine (spec_IsAscending.calls k _ _ l0_0 true _ ?side1 ?side2 A5.out).mono ?_
    (case side1 => exact co (Kd.C_below HR0_0.out bw))
    (case side2 => exact HC0_0.out)
    rintro e w' ⟨rfl, ⟨nd, rfl⟩⟩
    refine ⟨_, rfl, ?_⟩
    refine hK.out _ _ (bc BK221 0 _) (fun hHeld => ?_)
    clear hK K
    refine nm (some 15) ?_
    refine pa 13 (some 16) (yz 34 16383) HT_ ?_
    refine pa 14 (some 17) (yz 34 32767) HT_ ?_
    refine pa 15 (some 18) (yz 34 65535) HT_ ?_
    refine tK 16 (some 19) (yz 34 131071) HT_ HW_ hHeld ?_
    refine oa 17 (some 20) (yz 34 262143) HT_ (fun K hK => ?_)
    refine gm Try.func108 #[.slice A0_0 l0_0.length c0_0] ?_
    with_reducible refine (spec_GcdOfList.calls k _ _ l0_0 t224 _ ?side1 ?side2 A7.out).mono ?_
    (case side1 => exact co (Kd.C_below HR0_0.out bw))
    (case side2 => exact HC0_0.out)
    rintro e w' ⟨rfl, ⟨nd, rfl⟩⟩
    refine ⟨_, rfl, ?_⟩
    refine hK.out _ _ (bc BK221 0 _) (fun hHeld => ?_)
    clear hK K
    refine nm (some 20) ?_
    refine pa 18 (some 21) (yz 34 524287) HT_ ?_
    refine pa 19 (some 22) (yz 34 1048575) HT_ ?_
    refine pa 20 (some 23) (yz 34 2097151) HT_ ?_
    refine pu 21 (some 24) (yz 34 4194303) HT_ ?_
    refine pu 22 (some 25) (yz 34 8388607) HT_ ?_
    refine pu 23 (some 26) (yz 34 16777215) HT_ ?_
    refine pu 24 (some 27) (yz 34 33554431) HT_ ?_
    refine pu 25 (some 28) (yz 34 67108863) HT_ ?_
    refine pu 26 (some 29) (yz 34 134217727) HT_ ?_
    refine pa 27 (some 30) (yz 34 268435455) HT_ ?_
    refine pa 28 (some 31) (yz 34 536870911) HT_ ?_
    refine pu 29 (some 32) (yz 34 1073741823) HT_ ?_
    refine pu 30 (some 33) (yz 34 2147483647) HT_ ?_
    refine pu 31 (some 34) (yz 34 4294967295) HT_ ?_
    refine pa 32 (some 35) (yz 34 8589934591) HT_ ?_
    refine pa 33 (some 2) (yz 34 17179869183) HT_ ?_
    refine done_ (done_of HT_.out (by kernel_rfl)) ?_
    try go_wp2
    go_ret
    exact ⟨re, bw⟩
   obtain rfl := Option.some.inj H
   go_enter Try.func58, Try.ntmps58
   try go_wp2_with (first | ((with_reducible refine gate_dst (N := 1) rfl ?_); (try (refine gate_guard (by rfl) ?_; dsimp only)); refine bx 1 #[.slice A0_0 l0_0.length c0_0] 27 ?_; intro gb221 hg w24 hbox hb; have BK221 := am (hbox); have GW221 := am (gs hg : w.heap.size ≤ gb221); have GE221 := GW221; replace HB := am (below_step bw hb); clear hb hbox hg))
   replace BK221 := bd BK221
   replace HB := am (below_drew1 HB.out)
   refine start_ (n := 34) (S := fun w' => w'.cell? ⟨gb221, 0, none⟩ = some (.slice A0_0 l0_0.length c0_0)) (ds := []) (yz 34 0) (by kernel_rfl) rfl rfl (bc BK221 0 _) (fun hHeld => ?_); refine with_tabW spec_IsSemigroup.tab1 spec_IsSemigroup.bits1 (fun HT_ HW_ => ?_)
   generalize w24.drew = w25 at BK221 HB hHeld ⊢
   refine pa 0 (some 3) (yz 34 1) HT_ ?_
   refine tK 1 (some 4) (yz 34 3) HT_ HW_ hHeld ?_
   refine oa 2 (some 5) (yz 34 7) HT_ (fun K hK => ?_)
   refine gm Try.func106 #[.slice A0_0 l0_0.length c0_0] ?_
   with_reducible refine (spec_l3Gens.calls k _ _ l0_0 true _ ?side1 ?side2 A2.out).mono ?_
   (case side1 => exact co (Kd.C_below HR0_0.out HB.out))
   (case side2 => exact HC0_0.out)
   rintro e w' ⟨rfl, ⟨nd, rfl⟩⟩
   refine ⟨_, rfl, ?_⟩
   refine hK.out _ _ (bc BK221 0 _) (fun hHeld => ?_)
   clear hK K
   refine nm (some 5) ?_
   refine pa 3 (some 6) (yz 34 15) HT_ ?_
   refine pa 4 (some 7) (yz 34 31) HT_ ?_
   refine tK 5 (some 8) (yz 34 63) HT_ HW_ hHeld ?_
   refine pa 6 (some 9) (yz 34 127) HT_ ?_
   refine pa 7 (some 10) (yz 34 255) HT_ ?_
   refine pa 8 (some 11) (yz 34 511) HT_ ?_
   refine pa 9 (some 12) (yz 34 1023) HT_ ?_
   refine pa 10 (some 13) (yz 34 2047) HT_ ?_
   refine tK 11 (some 14) (yz 34 4095) HT_ HW_ hHeld ?_
   refine oa 12 (some 15) (yz 34 8191) HT_ (fun K hK => ?_)
   refine gm Try.func107 #[.slice A0_0 l0_0.length c0_0] ?_
   with_reducible refine (spec_IsAscending.calls k _ _ l0_0 false _ ?side1 ?side2 A5.out).mono ?_
   (case side1 => exact co (Kd.C_below HR0_0.out bw))
   (case side2 => exact HC0_0.out)
   rintro e w' ⟨rfl, ⟨nd, rfl⟩⟩
   refine ⟨_, rfl, ?_⟩
   refine hK.out _ _ (bc BK221 0 _) (fun hHeld => ?_)
   clear hK K
   refine nm (some 15) ?_
   refine pa 13 (some 16) (yz 34 16383) HT_ ?_
   refine pa 14 (some 17) (yz 34 32767) HT_ ?_
   refine pu 15 (some 18) (yz 34 65535) HT_ ?_
   refine pu 16 (some 19) (yz 34 131071) HT_ ?_
   refine pu 17 (some 20) (yz 34 262143) HT_ ?_
   refine pu 18 (some 21) (yz 34 524287) HT_ ?_
   refine pa 19 (some 22) (yz 34 1048575) HT_ ?_
   refine pa 20 (some 23) (yz 34 2097151) HT_ ?_
   refine pu 21 (some 24) (yz 34 4194303) HT_ ?_
   refine pu 22 (some 25) (yz 34 8388607) HT_ ?_
   refine pu 23 (some 26) (yz 34 16777215) HT_ ?_
   refine pu 24 (some 27) (yz 34 33554431) HT_ ?_
   refine pu 25 (some 28) (yz 34 67108863) HT_ ?_
   refine pu 26 (some 29) (yz 34 134217727) HT_ ?_
   refine pa 27 (some 30) (yz 34 268435455) HT_ ?_
   refine pa 28 (some 31) (yz 34 536870911) HT_ ?_
   refine pu 29 (some 32) (yz 34 1073741823) HT_ ?_
   refine pu 30 (some 33) (yz 34 2147483647) HT_ ?_
   refine pu 31 (some 34) (yz 34 4294967295) HT_ ?_
   refine pa 32 (some 35) (yz 34 8589934591) HT_ ?_
   refine pa 33 (some 2) (yz 34 17179869183) HT_ ?_
   refine done_ (done_of HT_.out (by kernel_rfl)) ?_
   try go_wp2
   go_ret
   exact ⟨re, bw⟩
  have c4b0 : decide ((l0_0.length : Int) ≤ 12) = false := decide_eq_false c4
  have c4b1 : decide (l0_0.length ≤ 12) = false := decide_eq_false (by omega)
  clear c4
  obtain rfl := Option.some.inj H
  go_enter Try.func58, Try.ntmps58
  try go_wp2_with (first | ((with_reducible refine gate_dst (N := 1) rfl ?_); (try (refine gate_guard (by rfl) ?_; dsimp only)); refine bx 1 #[.slice A0_0 l0_0.length c0_0] 27 ?_; intro gb221 hg w26 hbox hb; have BK221 := am (hbox); have GW221 := am (gs hg : w.heap.size ≤ gb221); have GE221 := GW221; replace HB := am (below_step bw hb); clear hb hbox hg))
  replace BK221 := bd BK221
  replace HB := am (below_drew1 HB.out)
  refine start_ (n := 34) (S := fun w' => w'.cell? ⟨gb221, 0, none⟩ = some (.slice A0_0 l0_0.length c0_0)) (ds := []) (yz 34 0) (by kernel_rfl) rfl rfl (bc BK221 0 _) (fun hHeld => ?_); refine with_tabW spec_IsSemigroup.tab1 spec_IsSemigroup.bits1 (fun HT_ HW_ => ?_)
  generalize w26.drew = w27 at BK221 HB hHeld ⊢
  refine pa 0 (some 3) (yz 34 1) HT_ ?_
  refine tK 1 (some 4) (yz 34 3) HT_ HW_ hHeld ?_
  refine oa 2 (some 5) (yz 34 7) HT_ (fun K hK => ?_)
  refine gm Try.func106 #[.slice A0_0 l0_0.length c0_0] ?_
  with_reducible refine (spec_l3Gens.calls k _ _ l0_0 true _ ?side1 ?side2 A2.out).mono ?_
  (case side1 => exact co (Kd.C_below HR0_0.out HB.out))
  (case side2 => exact HC0_0.out)
  rintro e w' ⟨rfl, ⟨nd, rfl⟩⟩
  refine ⟨_, rfl, ?_⟩
  refine hK.out _ _ (bc BK221 0 _) (fun hHeld => ?_)
  clear hK K
  refine nm (some 5) ?_
  refine pa 3 (some 6) (yz 34 15) HT_ ?_
  refine pa 4 (some 7) (yz 34 31) HT_ ?_
  refine tK 5 (some 8) (yz 34 63) HT_ HW_ hHeld ?_
  refine pa 6 (some 9) (yz 34 127) HT_ ?_
  refine pa 7 (some 10) (yz 34 255) HT_ ?_
  refine pa 8 (some 11) (yz 34 511) HT_ ?_
  refine pa 9 (some 12) (yz 34 1023) HT_ ?_
  refine pu 10 (some 13) (yz 34 2047) HT_ ?_
  refine pu 11 (some 14) (yz 34 4095) HT_ ?_
  refine pu 12 (some 15) (yz 34 8191) HT_ ?_
  refine pa 13 (some 16) (yz 34 16383) HT_ ?_
  refine pa 14 (some 17) (yz 34 32767) HT_ ?_
  refine pu 15 (some 18) (yz 34 65535) HT_ ?_
  refine pu 16 (some 19) (yz 34 131071) HT_ ?_
  refine pu 17 (some 20) (yz 34 262143) HT_ ?_
  refine pu 18 (some 21) (yz 34 524287) HT_ ?_
  refine pa 19 (some 22) (yz 34 1048575) HT_ ?_
  refine pa 20 (some 23) (yz 34 2097151) HT_ ?_
  refine pu 21 (some 24) (yz 34 4194303) HT_ ?_
  refine pu 22 (some 25) (yz 34 8388607) HT_ ?_
  refine pu 23 (some 26) (yz 34 16777215) HT_ ?_
  refine pu 24 (some 27) (yz 34 33554431) HT_ ?_
  refine pu 25 (some 28) (yz 34 67108863) HT_ ?_
  refine pu 26 (some 29) (yz 34 134217727) HT_ ?_
  refine pa 27 (some 30) (yz 34 268435455) HT_ ?_
  refine pa 28 (some 31) (yz 34 536870911) HT_ ?_
  refine pu 29 (some 32) (yz 34 1073741823) HT_ ?_
  refine pu 30 (some 33) (yz 34 2147483647) HT_ ?_
  refine pu 31 (some 34) (yz 34 4294967295) HT_ ?_
  refine pa 32 (some 35) (yz 34 8589934591) HT_ ?_
  refine pa 33 (some 2) (yz 34 17179869183) HT_ ?_
  refine done_ (done_of HT_.out (by kernel_rfl)) ?_
  try go_wp2
  go_ret
  exact ⟨re, bw⟩
 obtain rfl := Option.some.inj H
 go_enter Try.func58, Try.ntmps58
 try go_wp2_with (first | ((with_reducible refine gate_dst (N := 1) rfl ?_); (try (refine gate_guard (by rfl) ?_; dsimp only)); refine bx 1 #[.slice A0_0 l0_0.length c0_0] 27 ?_; intro gb221 hg w28 hbox hb; have BK221 := am (hbox); have GW221 := am (gs hg : w.heap.size ≤ gb221); have GE221 := GW221; replace HB := am (below_step bw hb); clear hb hbox hg))
 replace BK221 := bd BK221
 replace HB := am (below_drew1 HB.out)
 refine start_ (n := 34) (S := fun w' => w'.cell? ⟨gb221, 0, none⟩ = some (.slice A0_0 l0_0.length c0_0)) (ds := []) (yz 34 0) (by kernel_rfl) rfl rfl (bc BK221 0 _) (fun hHeld => ?_); refine with_tabW spec_IsSemigroup.tab1 spec_IsSemigroup.bits1 (fun HT_ HW_ => ?_)
 generalize w28.drew = w29 at BK221 HB hHeld ⊢
 refine pa 0 (some 3) (yz 34 1) HT_ ?_
 refine tK 1 (some 4) (yz 34 3) HT_ HW_ hHeld ?_
 refine oa 2 (some 5) (yz 34 7) HT_ (fun K hK => ?_)
 refine gm Try.func106 #[.slice A0_0 l0_0.length c0_0] ?_
 with_reducible refine (spec_l3Gens.calls k _ _ l0_0 false _ ?side1 ?side2 A2.out).mono ?_
 (case side1 => exact co (Kd.C_below HR0_0.out HB.out))
 (case side2 => exact HC0_0.out)
 rintro e w' ⟨rfl, ⟨nd, rfl⟩⟩
 refine ⟨_, rfl, ?_⟩
 refine hK.out _ _ (bc BK221 0 _) (fun hHeld => ?_)
 clear hK K
 refine nm (some 5) ?_
 refine pa 3 (some 6) (yz 34 15) HT_ ?_
 refine pu 4 (some 7) (yz 34 31) HT_ ?_
 refine pu 5 (some 8) (yz 34 63) HT_ ?_
 refine pu 6 (some 9) (yz 34 127) HT_ ?_
 refine pu 7 (some 10) (yz 34 255) HT_ ?_
 refine pa 8 (some 11) (yz 34 511) HT_ ?_
 refine pa 9 (some 12) (yz 34 1023) HT_ ?_
 refine pu 10 (some 13) (yz 34 2047) HT_ ?_
 refine pu 11 (some 14) (yz 34 4095) HT_ ?_
 refine pu 12 (some 15) (yz 34 8191) HT_ ?_
 refine pa 13 (some 16) (yz 34 16383) HT_ ?_
 refine pa 14 (some 17) (yz 34 32767) HT_ ?_
 refine pu 15 (some 18) (yz 34 65535) HT_ ?_
 refine pu 16 (some 19) (yz 34 131071) HT_ ?_
 refine pu 17 (some 20) (yz 34 262143) HT_ ?_
 refine pu 18 (some 21) (yz 34 524287) HT_ ?_
 refine pa 19 (some 22) (yz 34 1048575) HT_ ?_
 refine pa 20 (some 23) (yz 34 2097151) HT_ ?_
 refine pu 21 (some 24) (yz 34 4194303) HT_ ?_
 refine pu 22 (some 25) (yz 34 8388607) HT_ ?_
 refine pu 23 (some 26) (yz 34 16777215) HT_ ?_
 refine pu 24 (some 27) (yz 34 33554431) HT_ ?_
 refine pu 25 (some 28) (yz 34 67108863) HT_ ?_
 refine pu 26 (some 29) (yz 34 134217727) HT_ ?_
 refine pa 27 (some 30) (yz 34 268435455) HT_ ?_
 refine pa 28 (some 31) (yz 34 536870911) HT_ ?_
 refine pu 29 (some 32) (yz 34 1073741823) HT_ ?_
 refine pu 30 (some 33) (yz 34 2147483647) HT_ ?_
 refine pu 31 (some 34) (yz 34 4294967295) HT_ ?_
 refine pa 32 (some 35) (yz 34 8589934591) HT_ ?_
 refine pa 33 (some 2) (yz 34 17179869183) HT_ ?_
 refine done_ (done_of HT_.out (by kernel_rfl)) ?_
 try go_wp2
 go_ret
 exact ⟨re, bw⟩


/-! ### spec_l4Gaps: function 78 -/
def spec_l4Gaps.l0 : Nat → List Int → List Bool → Int → Option (List Int)
 | 0, _, _, _ => none
 | k + 1, x3, x4, x5 => if x5 < 200 then (if 0 ≤ x5 then (if x5 < (x4.length : Int) then (if rdOf false x4 x5 = true then (spec_l4Gaps.l0 k x3 x4 (wrap64 (x5 + 1))) else (if x3.length < 17592186044416 then (spec_l4Gaps.l0 k (x3 ++ [x5]) x4 (wrap64 (x5 + 1))) else (none))) else (none)) else (none)) else (some x3)
def spec_l4Gaps.f (k : Nat) (l0_0 : List Int) : Option (List Int) := (spec_l3Table.f k l0_0 200).bind fun t234 => (spec_l4Gaps.l0 k (([] : List Int)) t234 1)
set_option maxHeartbeats 8000000 in
set_option maxRecDepth 100000 in
theorem spec_l4Gaps.calls (k : Nat) (A0_0 : Option Addr) (c0_0 : Nat) (l0_0 : List Int) (r : List Int) (w : World) (hr0_0 : Kd.C (Kd.int .i64) w A0_0 l0_0.length l0_0) (hc0_0 : l0_0.length ≤ c0_0) (h : spec_l4Gaps.f k l0_0 = some r) :
  Calls Try.prog 78 #[.agg #[.slice A0_0 l0_0.length c0_0]] w fun e w' => ∃ v0_ : Value, e = .returned (v0_) ∧ Kd.R (Kd.int .i64) 3 w' w.heap.size (fun _ => True) v0_ r ∧ Below w.heap.size w w' := by
 have hu27 := Try.underlying27
 have HR0_0 := am hr0_0
 have HC0_0 := am hc0_0
 clear hr0_0 hc0_0
 have HB := am (Below.refl w.heap.size w)
 have H : ((spec_l3Table.f k l0_0 200).bind fun t234 => (spec_l4Gaps.l0 k (([] : List Int)) t234 1)) = some r := h
 clear h
 obtain ⟨y231, hy231⟩ : ∃ y_ : List Int, y_ = (([] : List Int)) := ⟨_, rfl⟩
 replace H : ((spec_l3Table.f k l0_0 200).bind fun t234 => (spec_l4Gaps.l0 k y231 t234 1)) = some r := by first | (rw [hy231]; with_reducible first | exact H | exact bs H) | (with_reducible first | exact bs H | exact H) | (rw [hy231]; exact H) | exact H
 have Ny231 := am hy231
 clear hy231
 replace H := ga H; obtain ⟨t234, A2, H⟩ := H
 have H' := am H
 clear H
 go_enter Try.func78, Try.ntmps78
 go_wp2_with (first | ((with_reducible refine gate_dst (N := 1) rfl ?_); refine bx 1 #[.slice A0_0 l0_0.length c0_0] 27 ?_; intro gb230 hg w3 hbox hb; have BK230 := am (hbox); have GW230 := am (gs hg : w.heap.size ≤ gb230); have GE230 := GW230; replace HB := am (below_step bw hb); clear hb hbox hg) | ((with_reducible refine gate_dst (N := 6) rfl ?_); refine Kd.R_lit (Kd.int .i64) _ 3 ?hg (N := 6) ?hd (xs := ([] : List Int)) (inner := []) (ok := fun _ => True) (okp := fun _ => True) ?hr ?hp (fun _ hk => hk) trivial (Below.refl _ _) (Nat.le_refl _) (by simp) ?_; (case hd => rfl); (case hg => rfl); (case hr => first | (go_simp; done) | (go_simp; rfl)); (case hp => exact (Reps.none _ _)); intro v232 w4 ho5 hb hg_ hnew_; clear hg_ hnew_; (first | rw [← Ny231.out] at ho5 | (simp only [Int.reduceToNat] at ho5; rw [← Ny231.out] at ho5)); have HO233 := am (Kd.R_lower ho5 (below_size bw)); replace BK230 := kb BK230 hb; replace HB := am (below_step bw hb); clear hb ho5; have hcz6_0 := bc BK230 0 (.slice A0_0 l0_0.length c0_0); have hfz6_0 := blk_frozen BK230.out 0) | ((with_reducible refine gate_callee (f := 123) rfl ?_); refine gl (some 9) Try.func123 #[.slice A0_0 l0_0.length c0_0, .int .i64 200] ?_; (with_reducible refine (spec_l3Table.calls k _ _ l0_0 200 t234 _ ?side1 ?side2 A2.out).mono ?_); (case side1 => exact co (Kd.C_below HR0_0.out HB.out)); (case side2 => exact HC0_0.out); rintro e w7 ⟨v235, rfl, ho0, hb⟩; refine ⟨_, rfl, ?_⟩; replace HO233 := rK HO233 hb; have HO236 := am (Kd.R_lower ho0 (below_size bw)); replace BK230 := kb BK230 hb; replace HB := am (below_step bw hb); clear hb ho0))
 go_loopg [3, 5] k (fun kq v3 v5 w' => ∃ (x3_1 : List Int) (x5_1 : Int), v5 = .int .i64 x5_1 ∧ Aside0 (spec_l4Gaps.l0 kq x3_1 t234 x5_1 = some r) ∧ Aside0 (kq ≤ k) ∧ Aside0 (Kd.R (Kd.int .i64) 3 w' w.heap.size (fun _ => True) v3 x3_1) ∧ Aside0 (Kd.R Kd.bool 4 w' w.heap.size (fun _ => True) v235 t234) ∧ Aside0 (w'.heap[gb230]? = some (.cells #[(.slice A0_0 l0_0.length c0_0)] 27 (0, 0))) ∧ Aside0 (Below w.heap.size w w'))
 case atStart => exact ⟨(y231), (1), rr, H', ⟨Nat.le_refl _⟩, ⟨ro HO233.out⟩, ⟨ro HO236.out⟩, ⟨bo BK230.out⟩, ⟨bw⟩⟩
 case round =>
  clear H'
  try clear hcz6_0; try clear hfz6_0
  obtain ⟨x3_1, x5_1, rfl, HA, HK1, HO_3, HO_4, BK230, HB⟩ := hrel
  cases gk with
  | zero => exact absurd HA.out (by simp [spec_l4Gaps.l0])
  | succ k1 =>
   have H := HA.out
   clear HA
   simp only [spec_l4Gaps.l0] at H
   replace H := gi H; obtain ⟨c8b0, H⟩ | ⟨c8b0, H⟩ := H
   ·replace H := gd H; obtain ⟨c9b0, H⟩ := H
    replace H := gd H; obtain ⟨c10b0, H⟩ := H
    obtain ⟨bq11, hbq11⟩ : ∃ b_ : Bool, b_ = (rdOf false t234 x5_1) := ⟨_, rfl⟩
    replace H : (if bq11 = true then (spec_l4Gaps.l0 k1 x3_1 t234 (wrap64 (x5_1 + 1))) else (if x3_1.length < 17592186044416 then (spec_l4Gaps.l0 k1 (x3_1 ++ [x5_1]) t234 (wrap64 (x5_1 + 1))) else (none))) = some r := by rw [← hbq11] at H; exact H
    have Nbq11 := am hbq11
    clear hbq11
    replace H := gb H; obtain ⟨rfl, H⟩ | ⟨rfl, H⟩ := H
    ·have H' := am H
     clear H
     obtain ⟨Ao13, co13, eo13⟩ := Kd.R_slice HO_4.out
     subst eo13
     obtain ⟨⟨ad237, e237, hx237_0⟩, p237, q237⟩ := pq (Kd.at_bool (Kd.R_reads' HO_4.out).2.2 x5_1)
     (try rw [← Nbq11.out] at hx237_0)
     cases e237
     go_wp2
     go_roundg k1
     case measure => have := HK1.out; omega
     case rel => exact ⟨(x3_1), (wrap64 (x5_1 + 1)), rr, H', ⟨by have := HK1.out; omega⟩, ⟨ro HO_3.out⟩, ⟨ro HO_4.out⟩, ⟨bo BK230.out⟩, ⟨bw⟩⟩
    by_cases c14 : x3_1.length < 17592186044416
    rotate_left
    ·rw [if_neg c14] at H
     exact absurd H (by simp)
    rw [if_pos c14] at H
    have LMc14 := am c14
    clear c14
    obtain ⟨y238, hy238⟩ : ∃ y_ : List Int, y_ = (x3_1 ++ [x5_1]) := ⟨_, rfl⟩
    replace H : (spec_l4Gaps.l0 k1 y238 t234 (wrap64 (x5_1 + 1))) = some r := by first | (rw [hy238]; with_reducible first | exact H | exact bs H) | (with_reducible first | exact bs H | exact H) | (rw [hy238]; exact H) | exact H
    have Ny238 := am hy238
    clear hy238
    have H' := am H
    clear H
    obtain ⟨Ao15, co15, eo15⟩ := Kd.R_slice HO_4.out
    subst eo15
    obtain ⟨⟨ad237, e237, hx237_0⟩, p237, q237⟩ := pq (Kd.at_bool (Kd.R_reads' HO_4.out).2.2 x5_1)
    (try rw [← Nbq11.out] at hx237_0)
    cases e237
    go_wp2_with (first | ((with_reducible refine gate_builtin (b := .append) (xs := #[.tmp 19, .tmp 21]) rfl ?_); at_builtin; refine Kd.R_append (Kd.int .i64) (w0 := w) w.heap.size rfl (.tmp 19) (.tmp 21) 22 3 (.int .i64 0) 8 rfl Try.underlying22 info3 rfl (by decide) (by omega) u3 x3_1 x5_1 [.int .i64 x5_1] (fun _ => True) (fun _ => False) rfl rfl ?aP (fun _ hk => hk.elim) ?aF ?aO ?aB ?aS ?aL ?_; (case aP => exact rfl); (case aB => exact bw); (case aF => exact (fun _ _ => trivial)); (case aO => exact (ro HO_3.out)); (case aS => exact (below_size bw)); (case aL => have := LMc14.out; omega); intro v239 w16 ho hb hg hat; rw [← Ny238.out] at ho; replace HO_4 := am (Kd.R_over' (ro HO_4.out) (Kd.R_typed (ro HO_3.out)) (by decide) hg); replace BK230 := am (blk_grown (g := gb230) (o := .cells #[.slice A0_0 l0_0.length c0_0] 27 (0, 0)) (bo BK230.out) hg (Kd.R_ne HO_3.out BK230.out (by decide))); replace HB := am (hb); have HO240 := am (ho); clear HO_3 ho hb hg hat))
    go_roundg k1
    case measure => have := HK1.out; omega
    case rel => exact ⟨(y238), (wrap64 (x5_1 + 1)), rr, H', ⟨by have := HK1.out; omega⟩, ⟨ro HO240.out⟩, ⟨ro HO_4.out⟩, ⟨bo BK230.out⟩, ⟨bw⟩⟩
   obtain rfl := Option.some.inj H
   go_wp2
   go_ret
   exact ⟨_, re, ro HO_3.out, bw⟩


/-! ### spec_Gaps: function 117 -/
def spec_Gaps.f (k : Nat) (l0_0 : List Int) : Option (List Int) := (spec_IsSemigroup.f k l0_0).bind fun t242 => (if t242 = true then ((spec_l4Gaps.f k l0_0).bind fun t243 => (some t243)) else (some (([] : List Int))))
set_option maxHeartbeats 8000000 in
set_option maxRecDepth 100000 in
theorem spec_Gaps.calls (k : Nat) (A0_0 : Option Addr) (c0_0 : Nat) (l0_0 : List Int) (r : List Int) (w : World) (hr0_0 : Kd.C (Kd.int .i64) w A0_0 l0_0.length l0_0) (hc0_0 : l0_0.length ≤ c0_0) (h : spec_Gaps.f k l0_0 = some r) :
  Calls Try.prog 117 #[.agg #[.slice A0_0 l0_0.length c0_0]] w fun e w' => ∃ v0_ : Value, e = .returned (v0_) ∧ Kd.R (Kd.int .i64) 3 w' w.heap.size (fun _ => True) v0_ r ∧ Below w.heap.size w w' := by
 have hu27 := Try.underlying27
 have HR0_0 := am hr0_0
 have HC0_0 := am hc0_0
 clear hr0_0 hc0_0
 have HB := am (Below.refl w.heap.size w)
 have H : ((spec_IsSemigroup.f k l0_0).bind fun t242 => (if t242 = true then ((spec_l4Gaps.f k l0_0).bind fun t243 => (some t243)) else (some (([] : List Int))))) = some r := h
 clear h
 replace H := ga H; obtain ⟨t242, A2, H⟩ := H
 replace H := gb H; obtain ⟨rfl, H⟩ | ⟨rfl, H⟩ := H
 ·replace H := ga H; obtain ⟨t243, A4, H⟩ := H
  obtain rfl := Option.some.inj H
  go_enter Try.func117, Try.ntmps117
  go_wp2_with (first | ((with_reducible refine gate_dst (N := 1) rfl ?_); refine bx 1 #[.slice A0_0 l0_0.length c0_0] 27 ?_; intro gb241 hg w5 hbox hb; have BK241 := am (hbox); have GW241 := am (gs hg : w.heap.size ≤ gb241); have GE241 := GW241; replace HB := am (below_step bw hb); clear hb hbox hg; have hcz6_0 := bc BK241 0 (.slice A0_0 l0_0.length c0_0); have hfz6_0 := blk_frozen BK241.out 0) | ((with_reducible refine gate_callee (f := 58) rfl ?_); refine gl (some 4) Try.func58 #[.agg #[.slice A0_0 l0_0.length c0_0]] ?_; (with_reducible refine (spec_IsSemigroup.calls k _ _ l0_0 true _ ?side1 ?side2 A2.out).mono ?_); (case side1 => exact co (Kd.C_below HR0_0.out HB.out)); (case side2 => exact HC0_0.out); rintro e w7 ⟨rfl, hb⟩; refine ⟨_, rfl, ?_⟩; replace BK241 := kb BK241 hb; replace HB := am (below_step bw hb); clear hb; have hcz8_0 := bc BK241 0 (.slice A0_0 l0_0.length c0_0); have hfz8_0 := blk_frozen BK241.out 0) | ((with_reducible refine gate_callee (f := 78) rfl ?_); refine gl (some 8) Try.func78 #[.agg #[.slice A0_0 l0_0.length c0_0]] ?_; (with_reducible refine (spec_l4Gaps.calls k _ _ l0_0 t243 _ ?side1 ?side2 A4.out).mono ?_); (case side1 => exact co (Kd.C_below HR0_0.out HB.out)); (case side2 => exact HC0_0.out); rintro e w9 ⟨v244, rfl, ho0, hb⟩; refine ⟨_, rfl, ?_⟩; have HO245 := am (Kd.R_lower ho0 (below_size bw)); replace BK241 := kb BK241 hb; replace HB := am (below_step bw hb); clear hb ho0))
  go_ret
  exact ⟨_, re, ro HO245.out, bw⟩
 obtain ⟨y246, hy246⟩ : ∃ y_ : List Int, y_ = (([] : List Int)) := ⟨_, rfl⟩
 replace H : (some y246) = some r := by first | (rw [hy246]; with_reducible first | exact H | exact bs H) | (with_reducible first | exact bs H | exact H) | (rw [hy246]; exact H) | exact H
 have Ny246 := am hy246
 clear hy246
 obtain rfl := Option.some.inj H
 go_enter Try.func117, Try.ntmps117
 go_wp2_with (first | ((with_reducible refine gate_dst (N := 1) rfl ?_); refine bx 1 #[.slice A0_0 l0_0.length c0_0] 27 ?_; intro gb241 hg w10 hbox hb; have BK241 := am (hbox); have GW241 := am (gs hg : w.heap.size ≤ gb241); have GE241 := GW241; replace HB := am (below_step bw hb); clear hb hbox hg; have hcz11_0 := bc BK241 0 (.slice A0_0 l0_0.length c0_0); have hfz11_0 := blk_frozen BK241.out 0) | ((with_reducible refine gate_callee (f := 58) rfl ?_); refine gl (some 4) Try.func58 #[.agg #[.slice A0_0 l0_0.length c0_0]] ?_; (with_reducible refine (spec_IsSemigroup.calls k _ _ l0_0 false _ ?side1 ?side2 A2.out).mono ?_); (case side1 => exact co (Kd.C_below HR0_0.out HB.out)); (case side2 => exact HC0_0.out); rintro e w12 ⟨rfl, hb⟩; refine ⟨_, rfl, ?_⟩; replace BK241 := kb BK241 hb; replace HB := am (below_step bw hb); clear hb) | ((with_reducible refine gate_dst (N := 6) rfl ?_); refine Kd.R_lit (Kd.int .i64) _ 3 ?hg (N := 6) ?hd (xs := ([] : List Int)) (inner := []) (ok := fun _ => True) (okp := fun _ => True) ?hr ?hp (fun _ hk => hk) trivial (Below.refl _ _) (Nat.le_refl _) (by simp) ?_; (case hd => rfl); (case hg => rfl); (case hr => first | (go_simp; done) | (go_simp; rfl)); (case hp => exact (Reps.none _ _)); intro v247 w13 ho14 hb hg_ hnew_; clear hg_ hnew_; (first | rw [← Ny246.out] at ho14 | (simp only [Int.reduceToNat] at ho14; rw [← Ny246.out] at ho14)); have HO248 := am (Kd.R_lower ho14 (below_size bw)); replace BK241 := kb BK241 hb; replace HB := am (below_step bw hb); clear hb ho14))
 go_ret
 exact ⟨_, re, ro HO248.out, bw⟩


/-! ### spec_FrobeniusOf: function 65 -/
def spec_FrobeniusOf.f (k : Nat) (l0_0 : List Int) : Option (Int) := (spec_Gaps.f k l0_0).bind fun t250 => (if (t250.length : Int) = 0 then (some (-1)) else (if 0 ≤ (wrap64 ((t250.length : Int) - 1)) then (if (wrap64 ((t250.length : Int) - 1)) < (t250.length : Int) then (some (rd t250 (wrap64 ((t250.length : Int) - 1)))) else (none)) else (none)))
set_option maxHeartbeats 8000000 in
set_option maxRecDepth 100000 in
theorem spec_FrobeniusOf.calls (k : Nat) (A0_0 : Option Addr) (c0_0 : Nat) (l0_0 : List Int) (r : Int) (w : World) (hr0_0 : Kd.C (Kd.int .i64) w A0_0 l0_0.length l0_0) (hc0_0 : l0_0.length ≤ c0_0) (h : spec_FrobeniusOf.f k l0_0 = some r) :
  Calls Try.prog 65 #[.agg #[.slice A0_0 l0_0.length c0_0]] w fun e w' => e = .returned (.int .i64 r) ∧ Below w.heap.size w w' := by
 have hu27 := Try.underlying27
 have HR0_0 := am hr0_0
 have HC0_0 := am hc0_0
 clear hr0_0 hc0_0
 have HB := am (Below.refl w.heap.size w)
 have H : ((spec_Gaps.f k l0_0).bind fun t250 => (if (t250.length : Int) = 0 then (some (-1)) else (if 0 ≤ (wrap64 ((t250.length : Int) - 1)) then (if (wrap64 ((t250.length : Int) - 1)) < (t250.length : Int) then (some (rd t250 (wrap64 ((t250.length : Int) - 1)))) else (none)) else (none)))) = some r := h
 clear h
 replace H := ga H; obtain ⟨t250, A2, H⟩ := H
 by_cases c3 : (t250.length : Int) = 0
 ·rw [if_pos c3] at H
  have c3b0 : ((t250.length : Int) == 0) = true := beq_iff_eq.mpr c3
  have c3b1 : ((t250.length : Int) != 0) = false := bne_eq_false_iff_eq.mpr c3
  clear c3
  obtain rfl := Option.some.inj H
  go_enter Try.func65, Try.ntmps65
  go_wp2_with (first | ((with_reducible refine gate_dst (N := 1) rfl ?_); refine bx 1 #[.slice A0_0 l0_0.length c0_0] 27 ?_; intro gb249 hg w4 hbox hb; have BK249 := am (hbox); have GW249 := am (gs hg : w.heap.size ≤ gb249); have GE249 := GW249; replace HB := am (below_step bw hb); clear hb hbox hg; have hcz5_0 := bc BK249 0 (.slice A0_0 l0_0.length c0_0); have hfz5_0 := blk_frozen BK249.out 0) | ((with_reducible refine gate_callee (f := 117) rfl ?_); refine gl (some 5) Try.func117 #[.agg #[.slice A0_0 l0_0.length c0_0]] ?_; (with_reducible refine (spec_Gaps.calls k _ _ l0_0 t250 _ ?side1 ?side2 A2.out).mono ?_); (case side1 => exact co (Kd.C_below HR0_0.out HB.out)); (case side2 => exact HC0_0.out); rintro e w6 ⟨v251, rfl, ho0, hb⟩; refine ⟨_, rfl, ?_⟩; have HO252 := am (Kd.R_lower ho0 (below_size bw)); replace BK249 := kb BK249 hb; replace HB := am (below_step bw hb); clear hb ho0; obtain ⟨Ao7, co7, eo7⟩ := Kd.R_slice HO252.out; subst eo7))
  go_ret
  exact ⟨re, bw⟩
 rw [if_neg c3] at H
 have c3b0 : ((t250.length : Int) == 0) = false := beq_eq_false_iff_ne.mpr c3
 have c3b1 : ((t250.length : Int) != 0) = true := bne_iff_ne.mpr c3
 have c3b2 : ¬ (t250 = []) := fun h_ => c3 (by rw [h_]; rfl)
 obtain ⟨ji8, hji8⟩ : ∃ j_ : Int, (wrap64 ((t250.length : Int) - 1)) = j_ := ⟨_, rfl⟩
 replace H : (if 0 ≤ (ji8) then (if (ji8) < (t250.length : Int) then (some (rd t250 (ji8))) else (none)) else (none)) = some r := by first | (rw [hji8] at H; exact H) | (simp only [hji8] at H ⊢; exact H)
 (try rw [hji8] at A2)
 have hji8w : (IntKind.i64.wrap ((t250.length : Int) - 1)) = ji8 := (i64_w _).trans hji8
 replace H := gd H; obtain ⟨c9b0, H⟩ := H
 replace H := gd H; obtain ⟨c10b0, H⟩ := H
 obtain rfl := Option.some.inj H
 go_enter Try.func65, Try.ntmps65
 go_wp2_with (first | ((with_reducible refine gate_dst (N := 1) rfl ?_); refine bx 1 #[.slice A0_0 l0_0.length c0_0] 27 ?_; intro gb249 hg w11 hbox hb; have BK249 := am (hbox); have GW249 := am (gs hg : w.heap.size ≤ gb249); have GE249 := GW249; replace HB := am (below_step bw hb); clear hb hbox hg; have hcz12_0 := bc BK249 0 (.slice A0_0 l0_0.length c0_0); have hfz12_0 := blk_frozen BK249.out 0) | ((with_reducible refine gate_callee (f := 117) rfl ?_); refine gl (some 5) Try.func117 #[.agg #[.slice A0_0 l0_0.length c0_0]] ?_; (with_reducible refine (spec_Gaps.calls k _ _ l0_0 t250 _ ?side1 ?side2 A2.out).mono ?_); (case side1 => exact co (Kd.C_below HR0_0.out HB.out)); (case side2 => exact HC0_0.out); rintro e w13 ⟨v251, rfl, ho0, hb⟩; refine ⟨_, rfl, ?_⟩; have HO252 := am (Kd.R_lower ho0 (below_size bw)); replace BK249 := kb BK249 hb; replace HB := am (below_step bw hb); clear hb ho0; obtain ⟨Ao14, co14, eo14⟩ := Kd.R_slice HO252.out; subst eo14; have p253 : 0 ≤ ((ji8) : Int) := of_decide_eq_true (by first | (with_reducible assumption) | assumption); have q253 : (ji8) < (t250.length : Int) := of_decide_eq_true (by first | (with_reducible assumption) | assumption); obtain ⟨ad253, e253, hx253_0⟩ := Kd.at_int (Kd.R_reads' HO252.out).2.2 (ji8) p253 q253; cases e253; replace p253 := eq_true p253; replace q253 := eq_true q253))
 go_ret
 exact ⟨by first | rfl | (simp [errW_none, errW_some] <;> rfl) | (simp only [← hji8]; first | rfl | (simp [errW_none, errW_some] <;> rfl)) | (simp [*, errW_none, errW_some] <;> rfl), bw⟩


/-! ### spec_HasNumber: function 98 -/
def spec_HasNumber.l0 : Nat → List Int → Int → Int → Option (Bool)
 | 0, _, _, _ => none
 | k + 1, x0, x1, x5 => if x5 < (x0.length : Int) then (if 0 ≤ x5 then (if (rd x0 x5) = x1 then (some true) else (spec_HasNumber.l0 k x0 x1 (wrap64 (x5 + 1)))) else (none)) else (some false)
def spec_HasNumber.f (k : Nat) (l0 : List Int) (a1 : Int) : Option (Bool) := spec_HasNumber.l0 k l0 a1 0
set_option maxHeartbeats 8000000 in
set_option maxRecDepth 100000 in
theorem spec_HasNumber.calls (k : Nat) (A0 : Option Addr) (c0 : Nat) (l0 : List Int) (a1 : Int) (r : Bool) (w : World) (hr0 : Kd.C (Kd.int .i64) w A0 l0.length l0) (hc0 : l0.length ≤ c0) (h : spec_HasNumber.f k l0 a1 = some r) :
  Calls Try.prog 98 #[.slice A0 l0.length c0, .int .i64 a1] w fun e w' => e = .returned (.bool r) ∧ Drawn0 w w' := by
 have HR0 := am hr0
 have HC0 := am hc0
 clear hr0 hc0
 have H : (spec_HasNumber.l0 k l0 a1 0) = some r := h
 clear h
 have H' := am H
 clear H
 go_enter Try.func98, Try.ntmps98
 go_wp2
 go_loopg [5] k (fun kq v5 w' => ∃ (x5_1 : Int), v5 = .int .i64 x5_1 ∧ Aside0 (spec_HasNumber.l0 kq l0 a1 x5_1 = some r) ∧ Aside0 (kq ≤ k) ∧ Drawn0 w w')
 case atStart => exact ⟨(0), rr, H', ⟨Nat.le_refl _⟩, dw⟩
 case round =>
  clear H'
  obtain ⟨x5_1, rfl, HA, HK1, ⟨m1, rfl⟩⟩ := hrel
  cases gk with
  | zero => exact absurd HA.out (by simp [spec_HasNumber.l0])
  | succ k1 =>
   have H := HA.out
   clear HA
   simp only [spec_HasNumber.l0] at H
   replace H := gi H; obtain ⟨c3b0, H⟩ | ⟨c3b0, H⟩ := H
   ·replace H := gd H; obtain ⟨c4b0, H⟩ := H
    by_cases c5 : (rd l0 x5_1) = a1
    ·rw [if_pos c5] at H
     have c5b0 : ((rd l0 x5_1) == a1) = true := beq_iff_eq.mpr c5
     have c5b1 : ((rd l0 x5_1) != a1) = false := bne_eq_false_iff_eq.mpr c5
     clear c5
     obtain rfl := Option.some.inj H
     obtain ⟨⟨ad254, e254, hx254_0⟩, p254, q254⟩ := pq (Kd.at_int HR0.out x5_1)
     cases e254
     go_wp2
     go_ret
     exact ⟨rr, dw⟩
    rw [if_neg c5] at H
    have c5b0 : ((rd l0 x5_1) == a1) = false := beq_eq_false_iff_ne.mpr c5
    have c5b1 : ((rd l0 x5_1) != a1) = true := bne_iff_ne.mpr c5
    have H' := am H
    clear H
    obtain ⟨⟨ad254, e254, hx254_0⟩, p254, q254⟩ := pq (Kd.at_int HR0.out x5_1)
    cases e254
    go_wp2
    go_roundg k1
    case measure => have := HK1.out; omega
    case rel => exact ⟨(wrap64 (x5_1 + 1)), rr, H', ⟨by have := HK1.out; omega⟩, dw⟩
   obtain rfl := Option.some.inj H
   go_wp2
   go_ret
   exact ⟨rr, dw⟩


/-! ### spec_l8Gaps: function 125 -/
def spec_l8Gaps.l0 : Nat → List Int → Int → Option (Bool)
 | 0, _, _ => none
 | k + 1, x0, x3 => if x3 < (x0.length : Int) then (if 0 ≤ x3 then ((spec_l1In.f (rd x0 x3) 1 199).bind fun t256 => (if t256 = true then (spec_l8Gaps.l0 k x0 (wrap64 (x3 + 1))) else (some false))) else (none)) else ((spec_IsAscending.f k x0).bind fun t257 => (some t257))
def spec_l8Gaps.f (k : Nat) (l0 : List Int) : Option (Bool) := spec_l8Gaps.l0 k l0 0
set_option maxHeartbeats 8000000 in
set_option maxRecDepth 100000 in
theorem spec_l8Gaps.calls (k : Nat) (A0 : Option Addr) (c0 : Nat) (l0 : List Int) (r : Bool) (w : World) (hr0 : Kd.C (Kd.int .i64) w A0 l0.length l0) (hc0 : l0.length ≤ c0) (h : spec_l8Gaps.f k l0 = some r) :
  Calls Try.prog 125 #[.slice A0 l0.length c0] w fun e w' => e = .returned (.bool r) ∧ Drawn0 w w' := by
 have HR0 := am hr0
 have HC0 := am hc0
 clear hr0 hc0
 have H : (spec_l8Gaps.l0 k l0 0) = some r := h
 clear h
 have H' := am H
 clear H
 go_enter Try.func125, Try.ntmps125
 go_wp2
 go_loopg [3] k (fun kq v3 w' => ∃ (x3_1 : Int), v3 = .int .i64 x3_1 ∧ Aside0 (spec_l8Gaps.l0 kq l0 x3_1 = some r) ∧ Aside0 (kq ≤ k) ∧ Drawn0 w w')
 case atStart => exact ⟨(0), rr, H', ⟨Nat.le_refl _⟩, dw⟩
 case round =>
  clear H'
  obtain ⟨x3_1, rfl, HA, HK1, ⟨m1, rfl⟩⟩ := hrel
  cases gk with
  | zero => exact absurd HA.out (by simp [spec_l8Gaps.l0])
  | succ k1 =>
   have H := HA.out
   clear HA
   simp only [spec_l8Gaps.l0] at H
   replace H := gi H; obtain ⟨c2b0, H⟩ | ⟨c2b0, H⟩ := H
   ·replace H := gd H; obtain ⟨c3b0, H⟩ := H
    replace H := ga H; obtain ⟨t256, A4, H⟩ := H
    replace H := gb H; obtain ⟨rfl, H⟩ | ⟨rfl, H⟩ := H
    ·have H' := am H
     clear H
     obtain ⟨⟨ad255, e255, hx255_0⟩, p255, q255⟩ := pq (Kd.at_int HR0.out x3_1)
     cases e255
     go_wp2_with (first | ((with_reducible refine gate_callee (f := 59) rfl ?_); refine gl (some 14) Try.func59 #[.int .i64 (rd l0 x3_1), .int .i64 1, .int .i64 199] ?_; (with_reducible refine (spec_l1In.calls (rd l0 x3_1) 1 199 true _ A4.out).mono ?_); rintro e w' ⟨rfl, ⟨nd, rfl⟩⟩; refine ⟨_, rfl, ?_⟩))
     go_roundg k1
     case measure => have := HK1.out; omega
     case rel => exact ⟨(wrap64 (x3_1 + 1)), rr, H', ⟨by have := HK1.out; omega⟩, dw⟩
    obtain rfl := Option.some.inj H
    obtain ⟨⟨ad255, e255, hx255_0⟩, p255, q255⟩ := pq (Kd.at_int HR0.out x3_1)
    cases e255
    go_wp2_with (first | ((with_reducible refine gate_callee (f := 59) rfl ?_); refine gl (some 14) Try.func59 #[.int .i64 (rd l0 x3_1), .int .i64 1, .int .i64 199] ?_; (with_reducible refine (spec_l1In.calls (rd l0 x3_1) 1 199 false _ A4.out).mono ?_); rintro e w' ⟨rfl, ⟨nd, rfl⟩⟩; refine ⟨_, rfl, ?_⟩))
    go_ret
    exact ⟨rr, dw⟩
   replace H := ga H; obtain ⟨t257, A6, H⟩ := H
   obtain rfl := Option.some.inj H
   go_wp2_with (first | ((with_reducible refine gate_callee (f := 107) rfl ?_); refine gl (some 17) Try.func107 #[.slice A0 l0.length c0] ?_; (with_reducible refine (spec_IsAscending.calls k1 _ _ l0 t257 _ ?side1 ?side2 A6.out).mono ?_); (case side1 => exact co HR0.out); (case side2 => exact HC0.out); rintro e w' ⟨rfl, ⟨nd, rfl⟩⟩; refine ⟨_, rfl, ?_⟩))
   go_ret
   exact ⟨rr, dw⟩


/-! ### spec_GapClash: function 124 -/
mutual
def spec_GapClash.j0 : Nat → List Int → Bool → Option (Int × Int × Bool)
 | 0, _, _ => none
 | k + 1, x0, x16 => if x16 = true then (some (0, 0, false)) else (if 0 ≤ (wrap64 ((x0.length : Int) - 1)) then (if (wrap64 ((x0.length : Int) - 1)) < (x0.length : Int) then (if 0 ≤ (wrap64 ((wrap64 (2 * (rd x0 (wrap64 ((x0.length : Int) - 1))))) + 1)) then (if (wrap64 ((wrap64 (2 * (rd x0 (wrap64 ((x0.length : Int) - 1))))) + 1) : Int).toNat ≤ 281474976710656 then (spec_GapClash.l0 k x0 (rd x0 (wrap64 ((x0.length : Int) - 1))) (List.replicate (wrap64 ((wrap64 (2 * (rd x0 (wrap64 ((x0.length : Int) - 1))))) + 1) : Int).toNat false) 0) else (none)) else (none)) else (none)) else (none))
def spec_GapClash.l0 : Nat → List Int → Int → List Bool → Int → Option (Int × Int × Bool)
 | 0, _, _, _, _ => none
 | k + 1, x0, x4, x5, x6 => if x6 < (x0.length : Int) then (if 0 ≤ x6 then (if 0 ≤ (rd x0 x6) then (if (rd x0 x6) < (x5.length : Int) then (spec_GapClash.l0 k x0 x4 (x5.set ((rd x0 x6) : Int).toNat true) (wrap64 (x6 + 1))) else (none)) else (none)) else (none)) else (spec_GapClash.l1 k x4 x5 1)
def spec_GapClash.l1 : Nat → Int → List Bool → Int → Option (Int × Int × Bool)
 | 0, _, _, _ => none
 | k + 1, x4, x5, x7 => if x7 ≤ x4 then (spec_GapClash.l2 k x4 x5 x7 x7) else (some (0, 0, false))
def spec_GapClash.l2 : Nat → Int → List Bool → Int → Int → Option (Int × Int × Bool)
 | 0, _, _, _, _ => none
 | k + 1, x4, x5, x7, x8 => if (wrap64 (x7 + x8)) ≤ x4 then (if 0 ≤ x7 then (if x7 < (x5.length : Int) then (spec_GapClash.j4 k x4 x5 x7 x8 (!(rdOf false x5 x7))) else (none)) else (none)) else (spec_GapClash.j4 k x4 x5 x7 x8 false)
def spec_GapClash.j4 : Nat → Int → List Bool → Int → Int → Bool → Option (Int × Int × Bool)
 | 0, _, _, _, _, _ => none
 | k + 1, x4, x5, x7, x8, x57 => if x57 = true then (if 0 ≤ x8 then (if x8 < (x5.length : Int) then (if rdOf false x5 x8 = true then (spec_GapClash.l2 k x4 x5 x7 (wrap64 (x8 + 1))) else (if 0 ≤ (wrap64 (x7 + x8)) then (if (wrap64 (x7 + x8)) < (x5.length : Int) then (if rdOf false x5 (wrap64 (x7 + x8)) = true then (some (x7, x8, true)) else (spec_GapClash.l2 k x4 x5 x7 (wrap64 (x8 + 1)))) else (none)) else (none))) else (none)) else (none)) else (spec_GapClash.l1 k x4 x5 (wrap64 (x7 + 1)))
end
def spec_GapClash.f (k : Nat) (l0 : List Int) : Option (Int × Int × Bool) := (spec_l8Gaps.f k l0).bind fun t259 => (if t259 = true then (spec_GapClash.j0 k l0 ((l0.length : Int) == 0)) else (spec_GapClash.j0 k l0 true))
set_option maxHeartbeats 8000000 in
set_option maxRecDepth 100000 in
theorem spec_GapClash.calls (k : Nat) (A0 : Option Addr) (c0 : Nat) (l0 : List Int) (r1 : Int) (r2 : Int) (r3 : Bool) (w : World) (hr0 : Kd.C (Kd.int .i64) w A0 l0.length l0) (hc0 : l0.length ≤ c0) (h : spec_GapClash.f k l0 = some (r1, r2, r3)) :
  Calls Try.prog 124 #[.slice A0 l0.length c0] w fun e w' => e = .returned (.tuple #[.agg #[.int .i64 r1, .int .i64 r2], .bool r3]) ∧ Below w.heap.size w w' := by
 have hu94 := Try.underlying94
 have HR0 := am hr0
 have HC0 := am hc0
 clear hr0 hc0
 have HB := am (Below.refl w.heap.size w)
 have H : ((spec_l8Gaps.f k l0).bind fun t259 => (if t259 = true then (spec_GapClash.j0 k l0 ((l0.length : Int) == 0)) else (spec_GapClash.j0 k l0 true))) = some (r1, r2, r3) := h
 clear h
 have HC2 := am H
 clear H
 go_enter Try.func124, Try.ntmps124
 go_upto_region 1 with (first | ((with_reducible refine gate_dst (N := 2) rfl ?_); (try (refine gate_guard (by rfl) ?_; dsimp only)); refine bx 2 #[.int .i64 0, .int .i64 0] 94 ?_; intro gb258 hg w3 hbox hb; have BK258 := am (hbox); have GW258 := am (gs hg : w.heap.size ≤ gb258); have GE258 := GW258; replace HB := am (below_step bw hb); clear hb hbox hg))
 (try simp only [Act.put, List.setIfInBounds_toArray, List.set_cons_zero, List.set_cons_succ])
 go_cut [16] (fun v16 wc => ∃ (kq : Nat) (x16_1 : Bool), v16 = .bool x16_1 ∧ Aside0 (spec_GapClash.j0 kq l0 x16_1 = some (r1, r2, r3)) ∧ Aside0 (kq ≤ k) ∧ Aside0 (wc.heap[gb258]? = some (.cells #[.int .i64 0, .int .i64 0] 94 (0, 0))) ∧ Aside0 (Below w.heap.size w wc))
 case first =>
  have H := HC2.out
  clear HC2
  replace H := ga H; obtain ⟨t259, A4, H⟩ := H
  replace H := gb H; obtain ⟨rfl, H⟩ | ⟨rfl, H⟩ := H
  ·have H' := am H
   clear H
   go_wp2_with (first | ((with_reducible refine gate_callee (f := 125) rfl ?_); refine gl (some 10) Try.func125 #[.slice A0 l0.length c0] ?_; (with_reducible refine (spec_l8Gaps.calls k _ _ l0 true _ ?side1 ?side2 A4.out).mono ?_); (case side1 => exact co (Kd.C_below HR0.out HB.out)); (case side2 => exact HC0.out); rintro e w' ⟨rfl, ⟨nd, rfl⟩⟩; refine ⟨_, rfl, ?_⟩))
   go_meet
   case rel => exact ⟨_, (((l0.length : Int) == 0)), rr, H', ⟨om⟩, ⟨bo BK258.out⟩, ⟨bw⟩⟩
  have H' := am H
  clear H
  go_wp2_with (first | ((with_reducible refine gate_callee (f := 125) rfl ?_); refine gl (some 10) Try.func125 #[.slice A0 l0.length c0] ?_; (with_reducible refine (spec_l8Gaps.calls k _ _ l0 false _ ?side1 ?side2 A4.out).mono ?_); (case side1 => exact co (Kd.C_below HR0.out HB.out)); (case side2 => exact HC0.out); rintro e w' ⟨rfl, ⟨nd, rfl⟩⟩; refine ⟨_, rfl, ?_⟩))
  go_meet
  case rel => exact ⟨_, (true), rr, H', ⟨om⟩, ⟨bo BK258.out⟩, ⟨bw⟩⟩
 case rest =>
  clear HC2
  obtain ⟨kq, x16_1, rfl, HA, HJ1, BK258, HB⟩ := hcut
  cases kq with
  | zero => exact absurd HA.out (by simp [spec_GapClash.j0])
  | succ kj1 =>
   have H := HA.out
   clear HA
   simp only [spec_GapClash.j0] at H
   replace H := gb H; obtain ⟨rfl, H⟩ | ⟨rfl, H⟩ := H
   ·simp only [Option.some.injEq, Prod.mk.injEq] at H
    obtain ⟨rfl, rfl, rfl⟩ := H
    have hcz7_0 := bc BK258 0 (.int .i64 0)
    have hcz7_1 := bc BK258 1 (.int .i64 0)
    have hfz7_0 := blk_frozen BK258.out 0
    have hfz7_1 := blk_frozen BK258.out 1
    go_wp2
    refine bodyPost_ret (results_ct rfl _ _ gb258 94 #[.int .i64 0, .int .i64 0] (0, 0) _ rfl (by (with_reducible repeat (first | refine blk_drewN ?_ _ | refine blk_drew ?_ | refine blk_alloc ?_ _)); refine blk_put (cs := #[.int .i64 0, .int .i64 0]) ?_ 1 _ rfl; (with_reducible repeat (first | refine blk_drewN ?_ _ | refine blk_drew ?_ | refine blk_alloc ?_ _)); refine blk_put (cs := #[.int .i64 0, .int .i64 0]) ?_ 0 _ rfl; (with_reducible repeat (first | refine blk_drewN ?_ _ | refine blk_drew ?_ | refine blk_alloc ?_ _)); exact BK258.out) Try.underlying94 rfl (by kernel_rfl)) rfl ?_
    exact ⟨re, bw⟩
   obtain ⟨ji8, hji8⟩ : ∃ j_ : Int, (wrap64 ((l0.length : Int) - 1)) = j_ := ⟨_, rfl⟩
   replace H : (if 0 ≤ (ji8) then (if (ji8) < (l0.length : Int) then (if 0 ≤ (wrap64 ((wrap64 (2 * (rd l0 (ji8)))) + 1)) then (if (wrap64 ((wrap64 (2 * (rd l0 (ji8)))) + 1) : Int).toNat ≤ 281474976710656 then (spec_GapClash.l0 kj1 l0 (rd l0 (ji8)) (List.replicate (wrap64 ((wrap64 (2 * (rd l0 (ji8)))) + 1) : Int).toNat false) 0) else (none)) else (none)) else (none)) else (none)) = some (r1, r2, r3) := by first | (rw [hji8] at H; exact H) | (simp only [hji8] at H ⊢; exact H)
   have hji8w : (IntKind.i64.wrap ((l0.length : Int) - 1)) = ji8 := (i64_w _).trans hji8
   replace H := gd H; obtain ⟨c9b0, H⟩ := H
   replace H := gd H; obtain ⟨c10b0, H⟩ := H
   obtain ⟨ji11, hji11⟩ : ∃ j_ : Int, (wrap64 ((wrap64 (2 * (rd l0 (ji8)))) + 1)) = j_ := ⟨_, rfl⟩
   replace H : (if 0 ≤ (ji11) then (if (ji11 : Int).toNat ≤ 281474976710656 then (spec_GapClash.l0 kj1 l0 (rd l0 (ji8)) (List.replicate (ji11 : Int).toNat false) 0) else (none)) else (none)) = some (r1, r2, r3) := by first | (rw [hji11] at H; exact H) | (simp only [hji11] at H ⊢; exact H)
   have hji11w : (IntKind.i64.wrap ((wrap64 (2 * (rd l0 (ji8)))) + 1)) = ji11 := (i64_w _).trans hji11
   replace H := gp H; obtain ⟨c12, H⟩ := H
   have c12b0 := eq_true c12
   have c12b1 : decide (0 ≤ (ji11)) = true := decide_eq_true c12
   clear c12
   replace H := gp H; obtain ⟨c13, H⟩ := H
   have c13b0 := eq_true c13
   have c13b1 : decide ((ji11 : Int).toNat ≤ 281474976710656) = true := decide_eq_true c13
   clear c13
   obtain ⟨y261, hy261⟩ : ∃ y_ : List Bool, y_ = (List.replicate (ji11 : Int).toNat false) := ⟨_, rfl⟩
   replace H : (spec_GapClash.l0 kj1 l0 (rd l0 (ji8)) y261 0) = some (r1, r2, r3) := by first | (rw [hy261]; with_reducible first | exact H | exact bs H) | (with_reducible first | exact bs H | exact H) | (rw [hy261]; exact H) | exact H
   have Ny261 := am hy261
   clear hy261
   have H' := am H
   clear H
   obtain ⟨⟨ad260, e260, hx260_0⟩, p260, q260⟩ := pq (Kd.at_int HR0.out (ji8))
   cases e260
   replace hx260_0 := hw HB hx260_0
   go_wp2_with (first | ((with_reducible refine gate_dst (N := 27) rfl ?_); (try (refine gate_guard (by rfl) ?_; dsimp only)); refine Kd.R_make Kd.bool _ 4 rfl (N := 27) rfl 90 _ _ rfl ji11 rfl rfl Try.underlying90 (.bool false) 1 info4 rfl (by decide) (by omega) false (ok := fun _ => True) (okp := fun _ => True) rfl (fun _ hk => hk) trivial (of_decide_eq_true (by first | (with_reducible assumption) | assumption)) (Nat.le_trans (Nat.mul_le_mul_right _ (of_decide_eq_true (by first | (with_reducible assumption) | assumption) : ji11.toNat ≤ 281474976710656)) (by omega)) (Below.refl _ _) (Nat.le_refl _) ?_; intro v262 w14 ho15 hb hg_ hnew_; clear hg_ hnew_; (first | rw [← Ny261.out] at ho15 | (simp only [Int.reduceToNat] at ho15; rw [← Ny261.out] at ho15)); have HO263 := am (Kd.R_lower ho15 (below_size bw)); replace BK258 := kb BK258 hb; replace HB := am (below_step bw hb); clear hb ho15))
   go_loopg [6] kj1 (fun kq v6 w' => ∃ (x5_2 : List Bool) (x6_2 : Int), v6 = .int .i64 x6_2 ∧ Aside0 (spec_GapClash.l0 kq l0 (rd l0 (ji8)) x5_2 x6_2 = some (r1, r2, r3)) ∧ Aside0 (kq ≤ kj1) ∧ Aside0 (Kd.R Kd.bool 4 w' w.heap.size (fun _ => True) v262 x5_2) ∧ Aside0 (w'.heap[gb258]? = some (.cells #[.int .i64 0, .int .i64 0] 94 (0, 0))) ∧ Aside0 (Below w.heap.size w w'))
   case atStart => exact ⟨(y261), (0), rr, H', ⟨Nat.le_refl _⟩, ⟨ro HO263.out⟩, ⟨bo BK258.out⟩, ⟨bw⟩⟩
   case round =>
    clear H'
    try clear c9b0; try clear c10b0; try clear c12; try clear c12b0; try clear c12b1; try clear c13; try clear c13b0; try clear c13b1; try clear hcz7_0; try clear hcz7_1; try clear hfz7_0; try clear hfz7_1; try clear hx260_0; try clear p260; try clear q260
    obtain ⟨x5_2, x6_2, rfl, HA, HK2, HO_5, BK258, HB⟩ := hrel
    cases gk with
    | zero => exact absurd HA.out (by simp [spec_GapClash.l0])
    | succ k2 =>
     have H := HA.out
     clear HA
     simp only [spec_GapClash.l0] at H
     replace H := gi H; obtain ⟨c16b0, H⟩ | ⟨c16b0, H⟩ := H
     ·replace H := gd H; obtain ⟨c17b0, H⟩ := H
      replace H := gd H; obtain ⟨c18b0, H⟩ := H
      replace H := gd H; obtain ⟨c19b0, H⟩ := H
      obtain ⟨y265, hy265⟩ : ∃ y_ : List Bool, y_ = (x5_2.set ((rd l0 x6_2) : Int).toNat true) := ⟨_, rfl⟩
      replace H : (spec_GapClash.l0 k2 l0 (rd l0 (ji8)) y265 (wrap64 (x6_2 + 1))) = some (r1, r2, r3) := by first | (rw [hy265]; with_reducible first | exact H | exact bs H) | (with_reducible first | exact bs H | exact H) | (rw [hy265]; exact H) | exact H
      have Ny265 := am hy265
      clear hy265
      have H' := am H
      clear H
      obtain ⟨⟨ad264, e264, hx264_0⟩, p264, q264⟩ := pq (Kd.at_int HR0.out x6_2)
      obtain rfl : ad260 = ad264 := (by injection e264)
      replace hx264_0 := hw HB hx264_0
      have p20 : 0 ≤ ((rd l0 x6_2) : Int) := of_decide_eq_true (by first | (with_reducible assumption) | assumption)
      have q20 : ((rd l0 x6_2) : Int) < ((x5_2.length : Int) : Int) := of_decide_eq_true (by first | (with_reducible assumption) | assumption)
      obtain ⟨go20, co20, eo20, gb20, gl20, cl20, HG20⟩ := Kd.R_form HO_5.out (by omega)
      (first | cases eo20 | (injection eo20 with ea_ en_ ec_; (first | subst ea_ | (injection ea_ with ea_; subst ea_)); subst ec_; clear en_))
      have GB20 := am gb20
      have GG20 := am HG20
      clear gb20 gl20 HG20
      obtain ⟨hx20_0, hf20_0⟩ := Kd.R_celln false HO_5.out ((rd l0 x6_2) : Int) p20 q20
      replace p20 := eq_true p20
      replace q20 := eq_true q20
      have HP21 := Kd.R_putg HO_5.out ((rd l0 x6_2) : Int) true
      go_wp2_with (first | ((with_reducible refine gate_store (t := 4) (p := 39) rfl ?_); refine store_event (t := 4) (p := 39) (v := ?vo_w22) (w1 := (wr.setCell ⟨go20, ((rd l0 x6_2) : Int).toNat, none⟩ (.bool true))) ?hg ?ho ?hn ?hr ?_; (case ho => rfl); (case hg => rfl); (case hn => rfl); (case hr => first | (go_simp; done) | (go_simp; rfl)); intro w22 hw; have hg : wr.grownBy w22 (some go20) := (by rw [hw]; exact HP21.2); have hp_ : Kd.R Kd.bool 4 w22 w.heap.size (fun _ => True) (.slice (some ⟨go20, 0, none⟩) x5_2.length co20) y265 := (by rw [hw, Ny265.out]; exact HP21.1); clear HP21; replace BK258 := am (blk_grown (g := gb258) (o := .cells #[.int .i64 0, .int .i64 0] 94 (0, 0)) (bo BK258.out) hg (Kd.R_ne HO_5.out BK258.out (by decide))); replace HO_5 := am (hp_); replace HB := am ((by rw [hw]; exact below_set (HB.out) GB20.out : Below w.heap.size w w22)); clear hg hw hp_))
      go_roundg k2
      case measure => have := HJ1.out; have := HK2.out; omega
      case rel => exact ⟨(y265), (wrap64 (x6_2 + 1)), rr, H', ⟨by have := HJ1.out; have := HK2.out; omega⟩, ⟨ro HO_5.out⟩, ⟨bo BK258.out⟩, ⟨bw⟩⟩
     have H' := am H
     clear H
     go_wp2
     go_loopg [7] k2 (fun kq v7 w' => ∃ (x7_3 : Int) (x259000_3 : Int) (x259001_3 : Int), v7 = .int .i64 x7_3 ∧ Aside0 (spec_GapClash.l1 kq (rd l0 (ji8)) x5_2 x7_3 = some (r1, r2, r3)) ∧ Aside0 (kq ≤ k2) ∧ Aside0 (Kd.R Kd.bool 4 w' w.heap.size (fun _ => True) v262 x5_2) ∧ Aside0 (w'.heap[gb258]? = some (.cells #[.int .i64 x259000_3, .int .i64 x259001_3] 94 (0, 0))) ∧ Aside0 (Below w.heap.size w w'))
     case atStart => exact ⟨(1), (0), (0), rr, H', ⟨Nat.le_refl _⟩, ⟨ro HO_5.out⟩, ⟨bo BK258.out⟩, ⟨bw⟩⟩
     case round =>
      clear H'
      try clear c9b0; try clear c10b0; try clear c12; try clear c12b0; try clear c12b1; try clear c13; try clear c13b0; try clear c13b1; try clear c16b0; try clear c17b0; try clear c18b0; try clear c19b0; try clear p20; try clear q20; try clear hcz7_0; try clear hcz7_1; try clear hfz7_0; try clear hfz7_1; try clear hx20_0; try clear hx260_0; try clear hx264_0; try clear p260; try clear p264; try clear q260; try clear q264
      obtain ⟨x7_3, x259000_3, x259001_3, rfl, HA, HK3, HO_5, BK258, HB⟩ := hrel
      cases gk with
      | zero => exact absurd HA.out (by simp [spec_GapClash.l1])
      | succ k3 =>
       have H := HA.out
       clear HA
       simp only [spec_GapClash.l1] at H
       replace H := gi H; obtain ⟨c23b0, H⟩ | ⟨c23b0, H⟩ := H
       ·have H' := am H
        clear H
        go_wp2
        go_loopg [8] k3 (fun kq v8 w' => ∃ (x8_4 : Int) (x259000_4 : Int) (x259001_4 : Int), v8 = .int .i64 x8_4 ∧ Aside0 (spec_GapClash.l2 kq (rd l0 (ji8)) x5_2 x7_3 x8_4 = some (r1, r2, r3)) ∧ Aside0 (kq ≤ k3) ∧ Aside0 (Kd.R Kd.bool 4 w' w.heap.size (fun _ => True) v262 x5_2) ∧ Aside0 (w'.heap[gb258]? = some (.cells #[.int .i64 x259000_4, .int .i64 x259001_4] 94 (0, 0))) ∧ Aside0 (Below w.heap.size w w'))
        case atStart => exact ⟨(x7_3), (x259000_3), (x259001_3), rr, H', ⟨Nat.le_refl _⟩, ⟨ro HO_5.out⟩, ⟨bo BK258.out⟩, ⟨bw⟩⟩
        case round =>
         clear H'
         try clear c9b0; try clear c10b0; try clear c12; try clear c12b0; try clear c12b1; try clear c13; try clear c13b0; try clear c13b1; try clear c16b0; try clear c17b0; try clear c18b0; try clear c19b0; try clear p20; try clear q20; try clear c23b0; try clear hcz7_0; try clear hcz7_1; try clear hfz7_0; try clear hfz7_1; try clear hx20_0; try clear hx260_0; try clear hx264_0; try clear p260; try clear p264; try clear q260; try clear q264
         obtain ⟨x8_4, x259000_4, x259001_4, rfl, HA, HK4, HO_5, BK258, HB⟩ := hrel
         cases gk with
         | zero => exact absurd HA.out (by simp [spec_GapClash.l2])
         | succ k4 =>
          have H := HA.out
          clear HA
          simp only [spec_GapClash.l2] at H
          have HC24 := am H
          clear H
          go_upto_region 13 with (fail)
          go_cut [57] (fun v57 wc => ∃ (kq : Nat) (x57_23 : Bool), v57 = .bool x57_23 ∧ Aside0 (spec_GapClash.j4 kq (rd l0 (ji8)) x5_2 x7_3 x8_4 x57_23 = some (r1, r2, r3)) ∧ Aside0 (kq ≤ k4) ∧ Aside0 (Kd.R Kd.bool 4 wc w.heap.size (fun _ => True) v262 x5_2) ∧ Aside0 (wc.heap[gb258]? = some (.cells #[.int .i64 x259000_4, .int .i64 x259001_4] 94 (0, 0))) ∧ Aside0 (Below w.heap.size w wc))
          case first =>
           have H := HC24.out
           clear HC24
           replace H := gi H; obtain ⟨c25b0, H⟩ | ⟨c25b0, H⟩ := H
           ·(first | rw [c25b0] | (simp only [i64_w, i32_w]; rw [c25b0]) | skip)
            replace H := gd H; obtain ⟨c26b0, H⟩ := H
            replace H := gd H; obtain ⟨c27b0, H⟩ := H
            have H' := am H
            clear H
            obtain ⟨Ao28, co28, eo28⟩ := Kd.R_slice HO_5.out
            subst eo28
            obtain ⟨⟨ad266, e266, hx266_0⟩, p266, q266⟩ := pq (Kd.at_bool (Kd.R_reads' HO_5.out).2.2 x7_3)
            cases e266
            go_wp2
            go_meet
            case rel => exact ⟨_, (!(rdOf false x5_2 x7_3)), rr, H', ⟨by have := HJ1.out; have := HK2.out; have := HK3.out; have := HK4.out; first | omega | exact Nat.le_refl _⟩, ⟨ro HO_5.out⟩, ⟨bo BK258.out⟩, ⟨bw⟩⟩
           ·(first | rw [c25b0] | (simp only [i64_w, i32_w]; rw [c25b0]) | skip)
            have H' := am H
            clear H
            go_wp2
            go_meet
            case rel => exact ⟨_, (false), rr, H', ⟨by have := HJ1.out; have := HK2.out; have := HK3.out; have := HK4.out; first | omega | exact Nat.le_refl _⟩, ⟨ro HO_5.out⟩, ⟨bo BK258.out⟩, ⟨bw⟩⟩
          case rest =>
           clear HC24
           try clear c9b0; try clear c10b0; try clear c12; try clear c12b0; try clear c12b1; try clear c13; try clear c13b0; try clear c13b1; try clear c16b0; try clear c17b0; try clear c18b0; try clear c19b0; try clear p20; try clear q20; try clear c23b0; try clear c25b0; try clear c26b0; try clear c27b0; try clear hcz7_0; try clear hcz7_1; try clear hfz7_0; try clear hfz7_1; try clear hx20_0; try clear hx260_0; try clear hx264_0; try clear hx266_0; try clear p260; try clear p264; try clear p266; try clear q260; try clear q264; try clear q266
           obtain ⟨kq, x57_23, rfl, HA, HJ23, HO_5, BK258, HB⟩ := hcut
           cases kq with
           | zero => exact absurd HA.out (by simp [spec_GapClash.j4])
           | succ kj23 =>
            have H := HA.out
            clear HA
            simp only [spec_GapClash.j4] at H
            replace H := gb H; obtain ⟨rfl, H⟩ | ⟨rfl, H⟩ := H
            ·replace H := gd H; obtain ⟨c30b0, H⟩ := H
             replace H := gd H; obtain ⟨c31b0, H⟩ := H
             obtain ⟨bq32, hbq32⟩ : ∃ b_ : Bool, b_ = (rdOf false x5_2 x8_4) := ⟨_, rfl⟩
             replace H : (if bq32 = true then (spec_GapClash.l2 kj23 (rd l0 (ji8)) x5_2 x7_3 (wrap64 (x8_4 + 1))) else (if 0 ≤ (wrap64 (x7_3 + x8_4)) then (if (wrap64 (x7_3 + x8_4)) < (x5_2.length : Int) then (if rdOf false x5_2 (wrap64 (x7_3 + x8_4)) = true then (some (x7_3, x8_4, true)) else (spec_GapClash.l2 kj23 (rd l0 (ji8)) x5_2 x7_3 (wrap64 (x8_4 + 1)))) else (none)) else (none))) = some (r1, r2, r3) := by rw [← hbq32] at H; exact H
             have Nbq32 := am hbq32
             clear hbq32
             replace H := gb H; obtain ⟨rfl, H⟩ | ⟨rfl, H⟩ := H
             ·have H' := am H
              clear H
              obtain ⟨Ao34, co34, eo34⟩ := Kd.R_slice HO_5.out
              subst eo34
              obtain ⟨⟨ad267, e267, hx267_0⟩, p267, q267⟩ := pq (Kd.at_bool (Kd.R_reads' HO_5.out).2.2 x8_4)
              (try rw [← Nbq32.out] at hx267_0)
              cases e267
              go_wp2
              go_roundg kj23
              case measure => have := HJ1.out; have := HK2.out; have := HK3.out; have := HK4.out; have := HJ23.out; omega
              case rel => exact ⟨(wrap64 (x8_4 + 1)), (x259000_4), (x259001_4), rr, H', ⟨by have := HJ1.out; have := HK2.out; have := HK3.out; have := HK4.out; have := HJ23.out; omega⟩, ⟨ro HO_5.out⟩, ⟨bo BK258.out⟩, ⟨bw⟩⟩
             obtain ⟨ji35, hji35⟩ : ∃ j_ : Int, (wrap64 (x7_3 + x8_4)) = j_ := ⟨_, rfl⟩
             replace H : (if 0 ≤ (ji35) then (if (ji35) < (x5_2.length : Int) then (if rdOf false x5_2 (ji35) = true then (some (x7_3, x8_4, true)) else (spec_GapClash.l2 kj23 (rd l0 (ji8)) x5_2 x7_3 (wrap64 (x8_4 + 1)))) else (none)) else (none)) = some (r1, r2, r3) := by first | (rw [hji35] at H; exact H) | (simp only [hji35] at H ⊢; exact H)
             have hji35w : (IntKind.i64.wrap (x7_3 + x8_4)) = ji35 := (i64_w _).trans hji35
             replace H := gd H; obtain ⟨c36b0, H⟩ := H
             replace H := gd H; obtain ⟨c37b0, H⟩ := H
             obtain ⟨bq38, hbq38⟩ : ∃ b_ : Bool, b_ = (rdOf false x5_2 (ji35)) := ⟨_, rfl⟩
             replace H : (if bq38 = true then (some (x7_3, x8_4, true)) else (spec_GapClash.l2 kj23 (rd l0 (ji8)) x5_2 x7_3 (wrap64 (x8_4 + 1)))) = some (r1, r2, r3) := by rw [← hbq38] at H; exact H
             have Nbq38 := am hbq38
             clear hbq38
             replace H := gb H; obtain ⟨rfl, H⟩ | ⟨rfl, H⟩ := H
             ·simp only [Option.some.injEq, Prod.mk.injEq] at H
              obtain ⟨rfl, rfl, rfl⟩ := H
              obtain ⟨Ao40, co40, eo40⟩ := Kd.R_slice HO_5.out
              subst eo40
              obtain ⟨⟨ad267, e267, hx267_0⟩, p267, q267⟩ := pq (Kd.at_bool (Kd.R_reads' HO_5.out).2.2 x8_4)
              (try rw [← Nbq32.out] at hx267_0)
              (try rw [← Nbq38.out] at hx267_0)
              cases e267
              obtain ⟨⟨ad268, e268, hx268_0⟩, p268, q268⟩ := pq (Kd.at_bool (Kd.R_reads' HO_5.out).2.2 (ji35))
              (try rw [← Nbq32.out] at hx268_0)
              (try rw [← Nbq38.out] at hx268_0)
              obtain rfl : ad267 = ad268 := (by injection e268)
              have hcz41_0 := bc BK258 0 (.int .i64 x259000_4)
              have hcz41_1 := bc BK258 1 (.int .i64 x259001_4)
              have hfz41_0 := blk_frozen BK258.out 0
              have hfz41_1 := blk_frozen BK258.out 1
              go_wp2
              refine bodyPost_ret (results_ct rfl _ _ gb258 94 #[.int .i64 x7_3, .int .i64 x8_4] (0, 0) _ rfl (by (with_reducible repeat (first | refine blk_drewN ?_ _ | refine blk_drew ?_ | refine blk_alloc ?_ _)); refine blk_put (cs := #[.int .i64 x7_3, .int .i64 x259001_4]) ?_ 1 _ rfl; (with_reducible repeat (first | refine blk_drewN ?_ _ | refine blk_drew ?_ | refine blk_alloc ?_ _)); refine blk_put (cs := #[.int .i64 x259000_4, .int .i64 x259001_4]) ?_ 0 _ rfl; (with_reducible repeat (first | refine blk_drewN ?_ _ | refine blk_drew ?_ | refine blk_alloc ?_ _)); exact BK258.out) Try.underlying94 rfl (by kernel_rfl)) rfl ?_
              exact ⟨by first | rfl | (simp [errW_none, errW_some] <;> rfl) | (simp only [← hji8, ← hji11, ← hji35]; first | rfl | (simp [errW_none, errW_some] <;> rfl)) | (simp [*, errW_none, errW_some] <;> rfl), bw⟩
             have H' := am H
             clear H
             obtain ⟨Ao42, co42, eo42⟩ := Kd.R_slice HO_5.out
             subst eo42
             obtain ⟨⟨ad267, e267, hx267_0⟩, p267, q267⟩ := pq (Kd.at_bool (Kd.R_reads' HO_5.out).2.2 x8_4)
             (try rw [← Nbq32.out] at hx267_0)
             (try rw [← Nbq38.out] at hx267_0)
             cases e267
             obtain ⟨⟨ad268, e268, hx268_0⟩, p268, q268⟩ := pq (Kd.at_bool (Kd.R_reads' HO_5.out).2.2 (ji35))
             (try rw [← Nbq32.out] at hx268_0)
             (try rw [← Nbq38.out] at hx268_0)
             obtain rfl : ad267 = ad268 := (by injection e268)
             go_wp2
             go_roundg kj23
             case measure => have := HJ1.out; have := HK2.out; have := HK3.out; have := HK4.out; have := HJ23.out; omega
             case rel => exact ⟨(wrap64 (x8_4 + 1)), (x259000_4), (x259001_4), rr, H', ⟨by have := HJ1.out; have := HK2.out; have := HK3.out; have := HK4.out; have := HJ23.out; omega⟩, ⟨ro HO_5.out⟩, ⟨bo BK258.out⟩, ⟨bw⟩⟩
            have H' := am H
            clear H
            go_wp2
            go_roundg kj23
            case measure => have := HJ1.out; have := HK2.out; have := HK3.out; have := HK4.out; have := HJ23.out; omega
            case rel => exact ⟨(wrap64 (x7_3 + 1)), (x259000_4), (x259001_4), rr, H', ⟨by have := HJ1.out; have := HK2.out; have := HK3.out; have := HK4.out; have := HJ23.out; omega⟩, ⟨ro HO_5.out⟩, ⟨bo BK258.out⟩, ⟨bw⟩⟩
       simp only [Option.some.injEq, Prod.mk.injEq] at H
       obtain ⟨rfl, rfl, rfl⟩ := H
       have hcz43_0 := bc BK258 0 (.int .i64 x259000_3)
       have hcz43_1 := bc BK258 1 (.int .i64 x259001_3)
       have hfz43_0 := blk_frozen BK258.out 0
       have hfz43_1 := blk_frozen BK258.out 1
       go_wp2
       refine bodyPost_ret (results_ct rfl _ _ gb258 94 #[.int .i64 0, .int .i64 0] (0, 0) _ rfl (by (with_reducible repeat (first | refine blk_drewN ?_ _ | refine blk_drew ?_ | refine blk_alloc ?_ _)); refine blk_put (cs := #[.int .i64 0, .int .i64 x259001_3]) ?_ 1 _ rfl; (with_reducible repeat (first | refine blk_drewN ?_ _ | refine blk_drew ?_ | refine blk_alloc ?_ _)); refine blk_put (cs := #[.int .i64 x259000_3, .int .i64 x259001_3]) ?_ 0 _ rfl; (with_reducible repeat (first | refine blk_drewN ?_ _ | refine blk_drew ?_ | refine blk_alloc ?_ _)); exact BK258.out) Try.underlying94 rfl (by kernel_rfl)) rfl ?_
       exact ⟨by first | rfl | (simp [errW_none, errW_some] <;> rfl) | (simp only [← hji8, ← hji11]; first | rfl | (simp [errW_none, errW_some] <;> rfl)) | (simp [*, errW_none, errW_some] <;> rfl), bw⟩

end Go.Proofs.Ytlfdipnhlmjiaaa.C
