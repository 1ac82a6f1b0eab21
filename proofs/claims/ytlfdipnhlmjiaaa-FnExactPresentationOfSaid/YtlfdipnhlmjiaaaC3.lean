/- Contracts of functions of the program: spec_IsSemigroup. -/
import Derived.Test.YtlfdipnhlmjiaaaC0
import Derived.Test.YtlfdipnhlmjiaaaC1
import Derived.Test.YtlfdipnhlmjiaaaC2
namespace Go.Proofs.Ytlfdipnhlmjiaaa.C
open Go.RowKit Go.Proofs.YtlfdipnhlmjiaaaW.PrintWords Go.Proofs.YtlfdipnhlmjiaaaW.PrintLast Go.Proofs.YtlfdipnhlmjiaaaW.PrintMore
attribute [local go_sem] max2_int min2_int max_two min_two max_three min_three max_four min_four
set_option linter.unusedVariables false
set_option linter.unusedSimpArgs false

/-! ### spec_IsSemigroup: function 58 -/
def spec_IsSemigroup.f (k : Nat) (l0_0 : List Int) : Option (Bool) := (spec_l3Gens.f k l0_0).bind fun t222 => (if t222 = true then (if (l0_0.length : Int) ≤ 12 then ((spec_IsAscending.f k l0_0).bind fun t223 => (if t223 = true then ((spec_GcdOfList.f k l0_0).bind fun t224 => (if t224 = 1 then ((spec_l3Minimal.f k l0_0).bind fun t225 => ((spec_l2Same.f k t225 l0_0).bind fun t228 => (if t228 = true then ((spec_l3Ends.f k l0_0).bind fun t229 => (some t229)) else (some false)))) else (some false))) else (some false))) else (some false)) else (some false))
def spec_IsSemigroup.T1 : Bool × List (List Nat × List Nat) := (true, [([], []), ([0], [0]), ([1], [1]), ([2, 2], [2]), ([3], [3]), ([4, 3], [3, 4]), ([5, 3], [3, 5]), ([6, 3], [3, 6]), ([3, 7], [3, 7]), ([8, 3], [8]), ([9], [9]), ([10, 9], [9, 10]), ([11, 9, 9], [9, 11]), ([9, 12], [9, 12]), ([13, 12], [13]), ([14], [14]), ([15, 14], [14, 15]), ([16, 14, 14], [14, 16]), ([17, 14], [14, 17]), ([14, 18], [14, 18]), ([19, 17], [19]), ([20], [20]), ([21, 20], [20, 21]), ([22, 20, 20], [20, 22]), ([20], [20]), ([24, 20], [20, 24]), ([23, 25, 23, 20], [20, 23, 25]), ([20, 26], [20, 26]), ([27, 26], [27]), ([28], [28]), ([29, 28], [28, 29]), ([30, 28, 28], [28, 30]), ([28, 31], [28, 31]), ([32, 31, 0, 1, 2, 3, 4, 5, 6, 7, 8, 9, 10, 11, 12, 13, 14, 15, 16, 17, 18, 19, 20, 21, 22, 23, 24, 25, 26, 27, 28, 29, 30, 31, 32], [32])])
def spec_IsSemigroup.B1 : List Nat := [0, 1, 3, 7, 15, 31, 63, 127, 255, 511, 1023, 2047, 4095, 8191, 16383, 32767, 65535, 131071, 262143, 524287, 1048575, 2097151, 4194303, 8388607, 2097151, 18874367, 67108863, 134217727, 268435455, 536870911, 1073741823, 2147483647, 4294967295, 8589934591]
theorem spec_IsSemigroup.tab1 : rtab .any (opsOf Try.f58 1) = spec_IsSemigroup.T1 := by kernel_rfl
theorem spec_IsSemigroup.bits1 : waitsOk spec_IsSemigroup.T1.2 spec_IsSemigroup.B1 = true := by kernel_rfl
set_option maxHeartbeats 8000000 in
set_option maxRecDepth 100000 in
theorem spec_IsSemigroup.calls (k : Nat) (A0_0 : Option Addr) (c0_0 : Nat) (l0_0 : List Int) (r : Bool) (w : World) (hr0_0 : Kd.C (Kd.int .i64) w A0_0 l0_0.length l0_0) (hc0_0 : l0_0.length ≤ c0_0) (h : spec_IsSemigroup.f k l0_0 = some r) :
  Calls Try.prog 58 #[.agg #[.slice A0_0 l0_0.length c0_0]] w fun e w' => e = .returned (.bool r) ∧ Below w.heap.size w w' := by
 have hu27 := Try.underlying27
 have HR0_0 := am hr0_0
 have HC0_0 := am hc0_0
 clear hr0_0 hc0_0
 have HB := am (Below.refl w.heap.size w)
 have H : ((spec_l3Gens.f k l0_0).bind fun t222 => (if t222 = true then (if (l0_0.length : Int) ≤ 12 then ((spec_IsAscending.f k l0_0).bind fun t223 => (if t223 = true then ((spec_GcdOfList.f k l0_0).bind fun t224 => (if t224 = 1 then ((spec_l3Minimal.f k l0_0).bind fun t225 => ((spec_l2Same.f k t225 l0_0).bind fun t228 => (if t228 = true then ((spec_l3Ends.f k l0_0).bind fun t229 => (some t229)) else (some false)))) else (some false))) else (some false))) else (some false)) else (some false))) = some r := h
 clear h
 replace H := ga H; obtain ⟨t222, A2, H⟩ := H
 replace H := gb H; obtain ⟨rfl, H⟩ | ⟨rfl, H⟩ := H
 ·replace H := gj H; obtain ⟨c4, H⟩ | ⟨c4, H⟩ := H
  ·have c4b0 : decide ((l0_0.length : Int) ≤ 12) = true := decide_eq_true c4
   have c4b1 : decide (l0_0.length ≤ 12) = true := decide_eq_true (by omega)
   clear c4
   replace H := ga H; obtain ⟨t223, A5, H⟩ := H
   replace H := gb H; obtain ⟨rfl, H⟩ | ⟨rfl, H⟩ := H
   ·replace H := ga H; obtain ⟨t224, A7, H⟩ := H
    by_cases c8 : t224 = 1
    ·rw [if_pos c8] at H
     have c8b0 : (t224 == 1) = true := beq_iff_eq.mpr c8
     have c8b1 : (t224 != 1) = false := bne_eq_false_iff_eq.mpr c8
     clear c8
     replace H := ga H; obtain ⟨t225, A9, H⟩ := H
     replace H := ga H; obtain ⟨t228, A10, H⟩ := H
     replace H := gb H; obtain ⟨rfl, H⟩ | ⟨rfl, H⟩ := H
     ·replace H := ga H; obtain ⟨t229, A12, H⟩ := H
      obtain rfl := Option.some.inj H
      go_enter Try.func58, Try.ntmps58
      try go_wp2_with (first | ((with_reducible refine gate_dst (N := 1) rfl ?_); (try (refine gate_guard (by rfl) ?_; dsimp only)); refine bx 1 #[.slice A0_0 l0_0.length c0_0] 27 ?_; intro gb221 hg w13 hbox hb; have BK221 := am (hbox); have GW221 := am (gs hg : w.heap.size ≤ gb221); have GE221 := GW221; replace HB := am (below_step bw hb); clear hb hbox hg))
      replace BK221 := bd BK221
      replace HB := am (below_drew1 HB.out)
      refine start_ (n := 34) (S := fun w' => w'.cell? ⟨gb221, 0, none⟩ = some (.slice A0_0 l0_0.length c0_0)) (ds := []) (yz 34 0) (by kernel_rfl) rfl rfl (bc BK221 0 _) (fun hHeld => ?_); refine with_tabW spec_IsSemigroup.tab1 spec_IsSemigroup.bits1 (fun HT_ HW_ => ?_)
      generalize w13.drew = w14 at BK221 HB hHeld ⊢
      refine pa 0 (some 3) (yz 34 1) HT_ ?_
      refine tK 1 (some 4) (yz 34 3) HT_ HW_ hHeld ?_
      refine oa 2 (some 5) (yz 34 7) HT_ (fun K hK => ?_)
      refine gm Try.func106 #[.slice A0_0 l0_0.length c0_0] ?_
      with_reducible refine (spec_l3Gens.calls k _ _ l0_0 true _ ?side1 ?side2 A2.out).mono ?_
      (case side1 => exact co (Kd.C_below HR0_0.out HB.out))
      (case side2 => exact HC0_0.out)
      rintro e w' ⟨rfl, ⟨nd, rfl⟩⟩
      refine ⟨_, rfl, ?_⟩
      refine hK.out _ _ (bc BK221 0 _) (fun hHeld => ?_)
      clear hK K
      refine nm (some 5) ?_
      refine pa 3 (some 6) (yz 34 15) HT_ ?_
      refine pa 4 (some 7) (yz 34 31) HT_ ?_
      refine tK 5 (some 8) (yz 34 63) HT_ HW_ hHeld ?_
      refine pa 6 (some 9) (yz 34 127) HT_ ?_
      refine pa 7 (some 10) (yz 34 255) HT_ ?_
      refine pa 8 (some 11) (yz 34 511) HT_ ?_
      refine pa 9 (some 12) (yz 34 1023) HT_ ?_
      refine pa 10 (some 13) (yz 34 2047) HT_ ?_
      refine tK 11 (some 14) (yz 34 4095) HT_ HW_ hHeld ?_
      refine oa 12 (some 15) (yz 34 8191) HT_ (fun K hK => ?_)
      refine gm Try.func107 #[.slice A0_0 l0_0.length c0_0] ?_
      with_reducible refine (spec_IsAscending.calls k _ _ l0_0 true _ ?side1 ?side2 A5.out).mono ?_
      (case side1 => exact co (Kd.C_below HR0_0.out bw))
      (case side2 => exact HC0_0.out)
      rintro e w' ⟨rfl, ⟨nd, rfl⟩⟩
      refine ⟨_, rfl, ?_⟩
      refine hK.out _ _ (bc BK221 0 _) (fun hHeld => ?_)
      clear hK K
      refine nm (some 15) ?_
      refine pa 13 (some 16) (yz 34 16383) HT_ ?_
      refine pa 14 (some 17) (yz 34 32767) HT_ ?_
      refine pa 15 (some 18) (yz 34 65535) HT_ ?_
      refine tK 16 (some 19) (yz 34 131071) HT_ HW_ hHeld ?_
      refine oa 17 (some 20) (yz 34 262143) HT_ (fun K hK => ?_)
      refine gm Try.func108 #[.slice A0_0 l0_0.length c0_0] ?_
      with_reducible refine (spec_GcdOfList.calls k _ _ l0_0 t224 _ ?side1 ?side2 A7.out).mono ?_
      (case side1 => exact co (Kd.C_below HR0_0.out bw))
      (case side2 => exact HC0_0.out)
      rintro e w' ⟨rfl, ⟨nd, rfl⟩⟩
      refine ⟨_, rfl, ?_⟩
      refine hK.out _ _ (bc BK221 0 _) (fun hHeld => ?_)
      clear hK K
      refine nm (some 20) ?_
      refine pa 18 (some 21) (yz 34 524287) HT_ ?_
      refine pa 19 (some 22) (yz 34 1048575) HT_ ?_
      refine pa 20 (some 23) (yz 34 2097151) HT_ ?_
      refine pa 21 (some 24) (yz 34 4194303) HT_ ?_
      refine pa 24 (some 27) (yz 34 20971519) HT_ ?_
      refine tK 22 (some 25) (yz 34 25165823) HT_ HW_ hHeld ?_
      refine tK 25 (some 28) (yz 34 58720255) HT_ HW_ hHeld ?_
      refine oa 23 (some 26) (yz 34 67108863) HT_ (fun K hK => ?_)
      refine gm Try.func110 #[.slice A0_0 l0_0.length c0_0] ?_
      with_reducible refine (spec_l3Minimal.calls k _ _ l0_0 t225 _ ?side1 ?side2 A9.out).mono ?_
      (case side1 => exact co (Kd.C_below HR0_0.out bw))
      (case side2 => exact HC0_0.out)
      rintro e w15 ⟨v226, rfl, ho0, hb⟩
      refine ⟨_, rfl, ?_⟩
      have HO227 := am (Kd.R_lower ho0 (below_size bw))
      replace BK221 := kb BK221 hb
      replace HB := am (below_step bw hb)
      clear hb ho0
      obtain ⟨Ao16, co16, eo16⟩ := Kd.R_slice HO227.out
      (first | subst eo16 | (injection eo16 with f1_ f2_ f3_; have f4_ := f1_.symm; have f5_ := f3_.symm; clear f1_ f2_ f3_; subst f4_; subst f5_))
      refine hK.out _ _ (bc BK221 0 _) (fun hHeld => ?_)
      clear hK K
      refine nm (some 26) ?_
      refine oa 26 (some 29) (yz 34 134217727) HT_ (fun K hK => ?_)
      refine gm Try.func109 #[.slice Ao16 t225.length co16, .slice A0_0 l0_0.length c0_0] ?_
      with_reducible refine (spec_l2Same.calls k _ _ t225 _ _ l0_0 true _ ?side1 ?side2 ?side3 ?side4 A10.out).mono ?_
      (case side1 => exact co (Kd.R_reads' HO227.out).2.2)
      (case side2 => exact (Kd.R_reads' HO227.out).2.1)
      (case side3 => exact co (Kd.C_below HR0_0.out HB.out))
      (case side4 => exact HC0_0.out)
      rintro e w' ⟨rfl, ⟨nd, rfl⟩⟩
      refine ⟨_, rfl, ?_⟩
      refine hK.out _ _ (bc BK221 0 _) (fun hHeld => ?_)
      clear hK K
      refine nm (some 29) ?_
      refine pa 27 (some 30) (yz 34 268435455) HT_ ?_
      refine pa 28 (some 31) (yz 34 536870911) HT_ ?_
      refine pa 29 (some 32) (yz 34 1073741823) HT_ ?_
      refine tK 30 (some 33) (yz 34 2147483647) HT_ HW_ hHeld ?_
      refine oa 31 (some 34) (yz 34 4294967295) HT_ (fun K hK => ?_)
      refine gm Try.func111 #[.slice A0_0 l0_0.length c0_0] ?_
      with_reducible refine (spec_l3Ends.calls k _ _ l0_0 t229 _ ?side1 ?side2 A12.out).mono ?_
      (case side1 => exact co (Kd.C_below HR0_0.out bw))
      (case side2 => exact HC0_0.out)
      rintro e w17 ⟨rfl, hb⟩
      refine ⟨_, rfl, ?_⟩
      replace HO227 := rK HO227 hb
      replace BK221 := kb BK221 hb
      replace HB := am (below_step bw hb)
      clear hb
      refine hK.out _ _ (bc BK221 0 _) (fun hHeld => ?_)
      clear hK K
      refine nm (some 34) ?_
      refine pa 32 (some 35) (yz 34 8589934591) HT_ ?_
      refine pa 33 (some 2) (yz 34 17179869183) HT_ ?_
      refine done_ (done_of HT_.out (by kernel_rfl)) ?_
      try go_wp2
      go_ret
      exact ⟨re, bw⟩
     obtain rfl := Option.some.inj H
     go_enter Try.func58, Try.ntmps58
     try go_wp2_with (first | ((with_reducible refine gate_dst (N := 1) rfl ?_); (try (refine gate_guard (by rfl) ?_; dsimp only)); refine bx 1 #[.slice A0_0 l0_0.length c0_0] 27 ?_; intro gb221 hg w18 hbox hb; have BK221 := am (hbox); have GW221 := am (gs hg : w.heap.size ≤ gb221); have GE221 := GW221; replace HB := am (below_step bw hb); clear hb hbox hg))
     replace BK221 := bd BK221
     replace HB := am (below_drew1 HB.out)
     refine start_ (n := 34) (S := fun w' => w'.cell? ⟨gb221, 0, none⟩ = some (.slice A0_0 l0_0.length c0_0)) (ds := []) (yz 34 0) (by kernel_rfl) rfl rfl (bc BK221 0 _) (fun hHeld => ?_); refine with_tabW spec_IsSemigroup.tab1 spec_IsSemigroup.bits1 (fun HT_ HW_ => ?_)
     generalize w18.drew = w19 at BK221 HB hHeld ⊢
     refine pa 0 (some 3) (yz 34 1) HT_ ?_
     refine tK 1 (some 4) (yz 34 3) HT_ HW_ hHeld ?_
     refine oa 2 (some 5) (yz 34 7) HT_ (fun K hK => ?_)
     refine gm Try.func106 #[.slice A0_0 l0_0.length c0_0] ?_
     with_reducible refine (spec_l3Gens.calls k _ _ l0_0 true _ ?side1 ?side2 A2.out).mono ?_
     (case side1 => exact co (Kd.C_below HR0_0.out HB.out))
     (case side2 => exact HC0_0.out)
     rintro e w' ⟨rfl, ⟨nd, rfl⟩⟩
     refine ⟨_, rfl, ?_⟩
     refine hK.out _ _ (bc BK221 0 _) (fun hHeld => ?_)
     clear hK K
     refine nm (some 5) ?_
     refine pa 3 (some 6) (yz 34 15) HT_ ?_
     refine pa 4 (some 7) (yz 34 31) HT_ ?_
     refine tK 5 (some 8) (yz 34 63) HT_ HW_ hHeld ?_
     refine pa 6 (some 9) (yz 34 127) HT_ ?_
     refine pa 7 (some 10) (yz 34 255) HT_ ?_
     refine pa 8 (some 11) (yz 34 511) HT_ ?_
     refine pa 9 (some 12) (yz 34 1023) HT_ ?_
     refine pa 10 (some 13) (yz 34 2047) HT_ ?_
     refine tK 11 (some 14) (yz 34 4095) HT_ HW_ hHeld ?_
     refine oa 12 (some 15) (yz 34 8191) HT_ (fun K hK => ?_)
     refine gm Try.func107 #[.slice A0_0 l0_0.length c0_0] ?_
     with_reducible refine (spec_IsAscending.calls k _ _ l0_0 true _ ?side1 ?side2 A5.out).mono ?_
     (case side1 => exact co (Kd.C_below HR0_0.out bw))
     (case side2 => exact HC0_0.out)
     rintro e w' ⟨rfl, ⟨nd, rfl⟩⟩
     refine ⟨_, rfl, ?_⟩
     refine hK.out _ _ (bc BK221 0 _) (fun hHeld => ?_)
     clear hK K
     refine nm (some 15) ?_
     refine pa 13 (some 16) (yz 34 16383) HT_ ?_
     refine pa 14 (some 17) (yz 34 32767) HT_ ?_
     refine pa 15 (some 18) (yz 34 65535) HT_ ?_
     refine tK 16 (some 19) (yz 34 131071) HT_ HW_ hHeld ?_
     refine oa 17 (some 20) (yz 34 262143) HT_ (fun K hK => ?_)
     refine gm Try.func108 #[.slice A0_0 l0_0.length c0_0] ?_
     with_reducible refine (spec_GcdOfList.calls k _ _ l0_0 t224 _ ?side1 ?side2 A7.out).mono ?_
     (case side1 => exact co (Kd.C_below HR0_0.out bw))
     (case side2 => exact HC0_0.out)
     rintro e w' ⟨rfl, ⟨nd, rfl⟩⟩
     refine ⟨_, rfl, ?_⟩
     refine hK.out _ _ (bc BK221 0 _) (fun hHeld => ?_)
     clear hK K
     refine nm (some 20) ?_
     refine pa 18 (some 21) (yz 34 524287) HT_ ?_
     refine pa 19 (some 22) (yz 34 1048575) HT_ ?_
     refine pa 20 (some 23) (yz 34 2097151) HT_ ?_
     refine pa 21 (some 24) (yz 34 4194303) HT_ ?_
     refine pa 24 (some 27) (yz 34 20971519) HT_ ?_
     refine tK 22 (some 25) (yz 34 25165823) HT_ HW_ hHeld ?_
     refine tK 25 (some 28) (yz 34 58720255) HT_ HW_ hHeld ?_
     refine oa 23 (some 26) (yz 34 67108863) HT_ (fun K hK => ?_)
     refine gm Try.func110 #[.slice A0_0 l0_0.length c0_0] ?_
     with_reducible refine (spec_l3Minimal.calls k _ _ l0_0 t225 _ ?side1 ?side2 A9.out).mono ?_
     (case side1 => exact co (Kd.C_below HR0_0.out bw))
     (case side2 => exact HC0_0.out)
     rintro e w20 ⟨v226, rfl, ho0, hb⟩
     refine ⟨_, rfl, ?_⟩
     have HO227 := am (Kd.R_lower ho0 (below_size bw))
     replace BK221 := kb BK221 hb
     replace HB := am (below_step bw hb)
     clear hb ho0
     obtain ⟨Ao21, co21, eo21⟩ := Kd.R_slice HO227.out
     (first | subst eo21 | (injection eo21 with f1_ f2_ f3_; have f4_ := f1_.symm; have f5_ := f3_.symm; clear f1_ f2_ f3_; subst f4_; subst f5_))
     refine hK.out _ _ (bc BK221 0 _) (fun hHeld => ?_)
     clear hK K
     refine nm (some 26) ?_
     refine oa 26 (some 29) (yz 34 134217727) HT_ (fun K hK => ?_)
     refine gm Try.func109 #[.slice Ao21 t225.length co21, .slice A0_0 l0_0.length c0_0] ?_
     with_reducible refine (spec_l2Same.calls k _ _ t225 _ _ l0_0 false _ ?side1 ?side2 ?side3 ?side4 A10.out).mono ?_
     (case side1 => exact co (Kd.R_reads' HO227.out).2.2)
     (case side2 => exact (Kd.R_reads' HO227.out).2.1)
     (case side3 => exact co (Kd.C_below HR0_0.out HB.out))
     (case side4 => exact HC0_0.out)
     rintro e w' ⟨rfl, ⟨nd, rfl⟩⟩
     refine ⟨_, rfl, ?_⟩
     refine hK.out _ _ (bc BK221 0 _) (fun hHeld => ?_)
     clear hK K
     refine nm (some 29) ?_
     refine pa 27 (some 30) (yz 34 268435455) HT_ ?_
     refine pa 28 (some 31) (yz 34 536870911) HT_ ?_
     refine pu 29 (some 32) (yz 34 1073741823) HT_ ?_
     refine pu 30 (some 33) (yz 34 2147483647) HT_ ?_
     refine pu 31 (some 34) (yz 34 4294967295) HT_ ?_
     refine pa 32 (some 35) (yz 34 8589934591) HT_ ?_
     refine pa 33 (some 2) (yz 34 17179869183) HT_ ?_
     refine done_ (done_of HT_.out (by kernel_rfl)) ?_
     try go_wp2
     go_ret
     exact ⟨re, bw⟩
    rw [if_neg c8] at H
    have c8b0 : (t224 == 1) = false := beq_eq_false_iff_ne.mpr c8
    have c8b1 : (t224 != 1) = true := bne_iff_ne.mpr c8
    obtain rfl := Option.some.inj H
    go_enter Try.func58, Try.ntmps58
    try go_wp2_with (first | ((with_reducible refine gate_dst (N := 1) rfl ?_); (try (refine gate_guard (by rfl) ?_; dsimp only)); refine bx 1 #[.slice A0_0 l0_0.length c0_0] 27 ?_; intro gb221 hg w22 hbox hb; have BK221 := am (hbox); have GW221 := am (gs hg : w.heap.size ≤ gb221); have GE221 := GW221; replace HB := am (below_step bw hb); clear hb hbox hg))
    replace BK221 := bd BK221
    replace HB := am (below_drew1 HB.out)
    refine start_ (n := 34) (S := fun w' => w'.cell? ⟨gb221, 0, none⟩ = some (.slice A0_0 l0_0.length c0_0)) (ds := []) (yz 34 0) (by kernel_rfl) rfl rfl (bc BK221 0 _) (fun hHeld => ?_); refine with_tabW spec_IsSemigroup.tab1 spec_IsSemigroup.bits1 (fun HT_ HW_ => ?_)
    generalize w22.drew = w23 at BK221 HB hHeld ⊢
    refine pa 0 (some 3) (yz 34 1) HT_ ?_
    refine tK 1 (some 4) (yz 34 3) HT_ HW_ hHeld ?_
    refine oa 2 (some 5) (yz 34 7) HT_ (fun K hK => ?_)
    refine gm Try.func106 #[.slice A0_0 l0_0.length c0_0] ?_
    with_reducible refine (spec_l3Gens.calls k _ _ l0_0 true _ ?side1 ?side2 A2.out).mono ?_
    (case side1 => exact co (Kd.C_below HR0_0.out HB.out))
    (case side2 => exact HC0_0.out)
    rintro e w' ⟨rfl, ⟨nd, rfl⟩⟩
    refine ⟨_, rfl, ?_⟩
    refine hK.out _ _ (bc BK221 0 _) (fun hHeld => ?_)
    clear hK K
    refine nm (some 5) ?_
    refine pa 3 (some 6) (yz 34 15) HT_ ?_
    refine pa 4 (some 7) (yz 34 31) HT_ ?_
    refine tK 5 (some 8) (yz 34 63) HT_ HW_ hHeld ?_
    refine pa 6 (some 9) (yz 34 127) HT_ ?_
    refine pa 7 (some 10) (yz 34 255) HT_ ?_
    refine pa 8 (some 11) (yz 34 511) HT_ ?_
    refine pa 9 (some 12) (yz 34 1023) HT_ ?_
    refine pa 10 (some 13) (yz 34 2047) HT_ ?_
    refine tK 11 (some 14) (yz 34 4095) HT_ HW_ hHeld ?_
    refine oa 12 (some 15) (yz 34 8191) HT_ (fun K hK => ?_)
    refine gm Try.func107 #[.slice A0_0 l0_0.length c0_0] ?_
    with_reducible refine (spec_IsAscending.calls k _ _ l0_0 true _ ?side1 ?side2 A5.out).mono ?_
    (case side1 => exact co (Kd.C_below HR0_0.out bw))
    (case side2 => exact HC0_0.out)
    rintro e w' ⟨rfl, ⟨nd, rfl⟩⟩
    refine ⟨_, rfl, ?_⟩
    refine hK.out _ _ (bc BK221 0 _) (fun hHeld => ?_)
    clear hK K
    refine nm (some 15) ?_
    refine pa 13 (some 16) (yz 34 16383) HT_ ?_
    refine pa 14 (some 17) (yz 34 32767) HT_ ?_
    refine pa 15 (some 18) (yz 34 65535) HT_ ?_
    refine tK 16 (some 19) (yz 34 131071) HT_ HW_ hHeld ?_
    refine oa 17 (some 20) (yz 34 262143) HT_ (fun K hK => ?_)
    refine gm Try.func108 #[.slice A0_0 l0_0.length c0_0] ?_
    with_reducible refine (spec_GcdOfList.calls k _ _ l0_0 t224 _ ?side1 ?side2 A7.out).mono ?_
    (case side1 => exact co (Kd.C_below HR0_0.out bw))
    (case side2 => exact HC0_0.out)
    rintro e w' ⟨rfl, ⟨nd, rfl⟩⟩
    refine ⟨_, rfl, ?_⟩
    refine hK.out _ _ (bc BK221 0 _) (fun hHeld => ?_)
    clear hK K
    refine nm (some 20) ?_
    refine pa 18 (some 21) (yz 34 524287) HT_ ?_
    refine pa 19 (some 22) (yz 34 1048575) HT_ ?_
    refine pa 20 (some 23) (yz 34 2097151) HT_ ?_
    refine pu 21 (some 24) (yz 34 4194303) HT_ ?_
    refine pu 22 (some 25) (yz 34 8388607) HT_ ?_
    refine pu 23 (some 26) (yz 34 16777215) HT_ ?_
    refine pu 24 (some 27) (yz 34 33554431) HT_ ?_
    refine pu 25 (some 28) (yz 34 67108863) HT_ ?_
    refine pu 26 (some 29) (yz 34 134217727) HT_ ?_
    refine pa 27 (some 30) (yz 34 268435455) HT_ ?_
    refine pa 28 (some 31) (yz 34 536870911) HT_ ?_
    refine pu 29 (some 32) (yz 34 1073741823) HT_ ?_
    refine pu 30 (some 33) (yz 34 2147483647) HT_ ?_
    refine pu 31 (some 34) (yz 34 4294967295) HT_ ?_
    refine pa 32 (some 35) (yz 34 8589934591) HT_ ?_
    refine pa 33 (some 2) (yz 34 17179869183) HT_ ?_
    refine done_ (done_of HT_.out (by kernel_rfl)) ?_
    try go_wp2
    go_ret
    exact ⟨re, bw⟩
   obtain rfl := Option.some.inj H
   go_enter Try.func58, Try.ntmps58
   try go_wp2_with (first | ((with_reducible refine gate_dst (N := 1) rfl ?_); (try (refine gate_guard (by rfl) ?_; dsimp only)); refine bx 1 #[.slice A0_0 l0_0.length c0_0] 27 ?_; intro gb221 hg w24 hbox hb; have BK221 := am (hbox); have GW221 := am (gs hg : w.heap.size ≤ gb221); have GE221 := GW221; replace HB := am (below_step bw hb); clear hb hbox hg))
   replace BK221 := bd BK221
   replace HB := am (below_drew1 HB.out)
   refine start_ (n := 34) (S := fun w' => w'.cell? ⟨gb221, 0, none⟩ = some (.slice A0_0 l0_0.length c0_0)) (ds := []) (yz 34 0) (by kernel_rfl) rfl rfl (bc BK221 0 _) (fun hHeld => ?_); refine with_tabW spec_IsSemigroup.tab1 spec_IsSemigroup.bits1 (fun HT_ HW_ => ?_)
   generalize w24.drew = w25 at BK221 HB hHeld ⊢
   refine pa 0 (some 3) (yz 34 1) HT_ ?_
   refine tK 1 (some 4) (yz 34 3) HT_ HW_ hHeld ?_
   refine oa 2 (some 5) (yz 34 7) HT_ (fun K hK => ?_)
   refine gm Try.func106 #[.slice A0_0 l0_0.length c0_0] ?_
   with_reducible refine (spec_l3Gens.calls k _ _ l0_0 true _ ?side1 ?side2 A2.out).mono ?_
   (case side1 => exact co (Kd.C_below HR0_0.out HB.out))
   (case side2 => exact HC0_0.out)
   rintro e w' ⟨rfl, ⟨nd, rfl⟩⟩
   refine ⟨_, rfl, ?_⟩
   refine hK.out _ _ (bc BK221 0 _) (fun hHeld => ?_)
   clear hK K
   refine nm (some 5) ?_
   refine pa 3 (some 6) (yz 34 15) HT_ ?_
   refine pa 4 (some 7) (yz 34 31) HT_ ?_
   refine tK 5 (some 8) (yz 34 63) HT_ HW_ hHeld ?_
   refine pa 6 (some 9) (yz 34 127) HT_ ?_
   refine pa 7 (some 10) (yz 34 255) HT_ ?_
   refine pa 8 (some 11) (yz 34 511) HT_ ?_
   refine pa 9 (some 12) (yz 34 1023) HT_ ?_
   refine pa 10 (some 13) (yz 34 2047) HT_ ?_
   refine tK 11 (some 14) (yz 34 4095) HT_ HW_ hHeld ?_
   refine oa 12 (some 15) (yz 34 8191) HT_ (fun K hK => ?_)
   refine gm Try.func107 #[.slice A0_0 l0_0.length c0_0] ?_
   with_reducible refine (spec_IsAscending.calls k _ _ l0_0 false _ ?side1 ?side2 A5.out).mono ?_
   (case side1 => exact co (Kd.C_below HR0_0.out bw))
   (case side2 => exact HC0_0.out)
   rintro e w' ⟨rfl, ⟨nd, rfl⟩⟩
   refine ⟨_, rfl, ?_⟩
   refine hK.out _ _ (bc BK221 0 _) (fun hHeld => ?_)
   clear hK K
   refine nm (some 15) ?_
   refine pa 13 (some 16) (yz 34 16383) HT_ ?_
   refine pa 14 (some 17) (yz 34 32767) HT_ ?_
   refine pu 15 (some 18) (yz 34 65535) HT_ ?_
   refine pu 16 (some 19) (yz 34 131071) HT_ ?_
   refine pu 17 (some 20) (yz 34 262143) HT_ ?_
   refine pu 18 (some 21) (yz 34 524287) HT_ ?_
   refine pa 19 (some 22) (yz 34 1048575) HT_ ?_
   refine pa 20 (some 23) (yz 34 2097151) HT_ ?_
   refine pu 21 (some 24) (yz 34 4194303) HT_ ?_
   refine pu 22 (some 25) (yz 34 8388607) HT_ ?_
   refine pu 23 (some 26) (yz 34 16777215) HT_ ?_
   refine pu 24 (some 27) (yz 34 33554431) HT_ ?_
   refine pu 25 (some 28) (yz 34 67108863) HT_ ?_
   refine pu 26 (some 29) (yz 34 134217727) HT_ ?_
   refine pa 27 (some 30) (yz 34 268435455) HT_ ?_
   refine pa 28 (some 31) (yz 34 536870911) HT_ ?_
   refine pu 29 (some 32) (yz 34 1073741823) HT_ ?_
   refine pu 30 (some 33) (yz 34 2147483647) HT_ ?_
   refine pu 31 (some 34) (yz 34 4294967295) HT_ ?_
   refine pa 32 (some 35) (yz 34 8589934591) HT_ ?_
   refine pa 33 (some 2) (yz 34 17179869183) HT_ ?_
   refine done_ (done_of HT_.out (by kernel_rfl)) ?_
   try go_wp2
   go_ret
   exact ⟨re, bw⟩
  have c4b0 : decide ((l0_0.length : Int) ≤ 12) = false := decide_eq_false c4
  have c4b1 : decide (l0_0.length ≤ 12) = false := decide_eq_false (by omega)
  clear c4
  obtain rfl := Option.some.inj H
  go_enter Try.func58, Try.ntmps58
  try go_wp2_with (first | ((with_reducible refine gate_dst (N := 1) rfl ?_); (try (refine gate_guard (by rfl) ?_; dsimp only)); refine bx 1 #[.slice A0_0 l0_0.length c0_0] 27 ?_; intro gb221 hg w26 hbox hb; have BK221 := am (hbox); have GW221 := am (gs hg : w.heap.size ≤ gb221); have GE221 := GW221; replace HB := am (below_step bw hb); clear hb hbox hg))
  replace BK221 := bd BK221
  replace HB := am (below_drew1 HB.out)
  refine start_ (n := 34) (S := fun w' => w'.cell? ⟨gb221, 0, none⟩ = some (.slice A0_0 l0_0.length c0_0)) (ds := []) (yz 34 0) (by kernel_rfl) rfl rfl (bc BK221 0 _) (fun hHeld => ?_); refine with_tabW spec_IsSemigroup.tab1 spec_IsSemigroup.bits1 (fun HT_ HW_ => ?_)
  generalize w26.drew = w27 at BK221 HB hHeld ⊢
  refine pa 0 (some 3) (yz 34 1) HT_ ?_
  refine tK 1 (some 4) (yz 34 3) HT_ HW_ hHeld ?_
  refine oa 2 (some 5) (yz 34 7) HT_ (fun K hK => ?_)
  refine gm Try.func106 #[.slice A0_0 l0_0.length c0_0] ?_
  with_reducible refine (spec_l3Gens.calls k _ _ l0_0 true _ ?side1 ?side2 A2.out).mono ?_
  (case side1 => exact co (Kd.C_below HR0_0.out HB.out))
  (case side2 => exact HC0_0.out)
  rintro e w' ⟨rfl, ⟨nd, rfl⟩⟩
  refine ⟨_, rfl, ?_⟩
  refine hK.out _ _ (bc BK221 0 _) (fun hHeld => ?_)
  clear hK K
  refine nm (some 5) ?_
  refine pa 3 (some 6) (yz 34 15) HT_ ?_
  refine pa 4 (some 7) (yz 34 31) HT_ ?_
  refine tK 5 (some 8) (yz 34 63) HT_ HW_ hHeld ?_
  refine pa 6 (some 9) (yz 34 127) HT_ ?_
  refine pa 7 (some 10) (yz 34 255) HT_ ?_
  refine pa 8 (some 11) (yz 34 511) HT_ ?_
  refine pa 9 (some 12) (yz 34 1023) HT_ ?_
  refine pu 10 (some 13) (yz 34 2047) HT_ ?_
  refine pu 11 (some 14) (yz 34 4095) HT_ ?_
  refine pu 12 (some 15) (yz 34 8191) HT_ ?_
  refine pa 13 (some 16) (yz 34 16383) HT_ ?_
  refine pa 14 (some 17) (yz 34 32767) HT_ ?_
  refine pu 15 (some 18) (yz 34 65535) HT_ ?_
  refine pu 16 (some 19) (yz 34 131071) HT_ ?_
  refine pu 17 (some 20) (yz 34 262143) HT_ ?_
  refine pu 18 (some 21) (yz 34 524287) HT_ ?_
  refine pa 19 (some 22) (yz 34 1048575) HT_ ?_
  refine pa 20 (some 23) (yz 34 2097151) HT_ ?_
  refine pu 21 (some 24) (yz 34 4194303) HT_ ?_
  refine pu 22 (some 25) (yz 34 8388607) HT_ ?_
  refine pu 23 (some 26) (yz 34 16777215) HT_ ?_
  refine pu 24 (some 27) (yz 34 33554431) HT_ ?_
  refine pu 25 (some 28) (yz 34 67108863) HT_ ?_
  refine pu 26 (some 29) (yz 34 134217727) HT_ ?_
  refine pa 27 (some 30) (yz 34 268435455) HT_ ?_
  refine pa 28 (some 31) (yz 34 536870911) HT_ ?_
  refine pu 29 (some 32) (yz 34 1073741823) HT_ ?_
  refine pu 30 (some 33) (yz 34 2147483647) HT_ ?_
  refine pu 31 (some 34) (yz 34 4294967295) HT_ ?_
  refine pa 32 (some 35) (yz 34 8589934591) HT_ ?_
  refine pa 33 (some 2) (yz 34 17179869183) HT_ ?_
  refine done_ (done_of HT_.out (by kernel_rfl)) ?_
  try go_wp2
  go_ret
  exact ⟨re, bw⟩
 obtain rfl := Option.some.inj H
 go_enter Try.func58, Try.ntmps58
 try go_wp2_with (first | ((with_reducible refine gate_dst (N := 1) rfl ?_); (try (refine gate_guard (by rfl) ?_; dsimp only)); refine bx 1 #[.slice A0_0 l0_0.length c0_0] 27 ?_; intro gb221 hg w28 hbox hb; have BK221 := am (hbox); have GW221 := am (gs hg : w.heap.size ≤ gb221); have GE221 := GW221; replace HB := am (below_step bw hb); clear hb hbox hg))
 replace BK221 := bd BK221
 replace HB := am (below_drew1 HB.out)
 refine start_ (n := 34) (S := fun w' => w'.cell? ⟨gb221, 0, none⟩ = some (.slice A0_0 l0_0.length c0_0)) (ds := []) (yz 34 0) (by kernel_rfl) rfl rfl (bc BK221 0 _) (fun hHeld => ?_); refine with_tabW spec_IsSemigroup.tab1 spec_IsSemigroup.bits1 (fun HT_ HW_ => ?_)
 generalize w28.drew = w29 at BK221 HB hHeld ⊢
 refine pa 0 (some 3) (yz 34 1) HT_ ?_
 refine tK 1 (some 4) (yz 34 3) HT_ HW_ hHeld ?_
 refine oa 2 (some 5) (yz 34 7) HT_ (fun K hK => ?_)
 refine gm Try.func106 #[.slice A0_0 l0_0.length c0_0] ?_
 with_reducible refine (spec_l3Gens.calls k _ _ l0_0 false _ ?side1 ?side2 A2.out).mono ?_
 (case side1 => exact co (Kd.C_below HR0_0.out HB.out))
 (case side2 => exact HC0_0.out)
 rintro e w' ⟨rfl, ⟨nd, rfl⟩⟩
 refine ⟨_, rfl, ?_⟩
 refine hK.out _ _ (bc BK221 0 _) (fun hHeld => ?_)
 clear hK K
 refine nm (some 5) ?_
 refine pa 3 (some 6) (yz 34 15) HT_ ?_
 refine pu 4 (some 7) (yz 34 31) HT_ ?_
 refine pu 5 (some 8) (yz 34 63) HT_ ?_
 refine pu 6 (some 9) (yz 34 127) HT_ ?_
 refine pu 7 (some 10) (yz 34 255) HT_ ?_
 refine pa 8 (some 11) (yz 34 511) HT_ ?_
 refine pa 9 (some 12) (yz 34 1023) HT_ ?_
 refine pu 10 (some 13) (yz 34 2047) HT_ ?_
 refine pu 11 (some 14) (yz 34 4095) HT_ ?_
 refine pu 12 (some 15) (yz 34 8191) HT_ ?_
 refine pa 13 (some 16) (yz 34 16383) HT_ ?_
 refine pa 14 (some 17) (yz 34 32767) HT_ ?_
 refine pu 15 (some 18) (yz 34 65535) HT_ ?_
 refine pu 16 (some 19) (yz 34 131071) HT_ ?_
 refine pu 17 (some 20) (yz 34 262143) HT_ ?_
 refine pu 18 (some 21) (yz 34 524287) HT_ ?_
 refine pa 19 (some 22) (yz 34 1048575) HT_ ?_
 refine pa 20 (some 23) (yz 34 2097151) HT_ ?_
 refine pu 21 (some 24) (yz 34 4194303) HT_ ?_
 refine pu 22 (some 25) (yz 34 8388607) HT_ ?_
 refine pu 23 (some 26) (yz 34 16777215) HT_ ?_
 refine pu 24 (some 27) (yz 34 33554431) HT_ ?_
 refine pu 25 (some 28) (yz 34 67108863) HT_ ?_
 refine pu 26 (some 29) (yz 34 134217727) HT_ ?_
 refine pa 27 (some 30) (yz 34 268435455) HT_ ?_
 refine pa 28 (some 31) (yz 34 536870911) HT_ ?_
 refine pu 29 (some 32) (yz 34 1073741823) HT_ ?_
 refine pu 30 (some 33) (yz 34 2147483647) HT_ ?_
 refine pu 31 (some 34) (yz 34 4294967295) HT_ ?_
 refine pa 32 (some 35) (yz 34 8589934591) HT_ ?_
 refine pa 33 (some 2) (yz 34 17179869183) HT_ ?_
 refine done_ (done_of HT_.out (by kernel_rfl)) ?_
 try go_wp2
 go_ret
 exact ⟨re, bw⟩

end Go.Proofs.Ytlfdipnhlmjiaaa.C
