/- Contracts of functions of the program: impl_Contains, spec_Contains. -/
import Derived.Test.YtkfplkdchkmgbaaC0
import Derived.Test.YtkfplkdchkmgbaaC3
import Derived.Test.YtkfplkdchkmgbaaC7
import Derived.Test.YtkfplkdchkmgbaaC9
namespace Go.Proofs.Ytkfplkdchkmgbaa.C
open Go.RowKit Go.Proofs.YtkfplkdchkmgbaaW.PrintWords Go.Proofs.YtkfplkdchkmgbaaW.PrintLast Go.Proofs.YtkfplkdchkmgbaaW.PrintMore
attribute [local go_sem] max2_int min2_int max_two min_two max_three min_three max_four min_four
set_option linter.unusedVariables false
set_option linter.unusedSimpArgs false

/-! ### impl_Contains: function 32 -/
def impl_Contains.f (k : Nat) (l0_0 : List Int) (a1 : Int) : Option (Bool) := if a1 < 0 then (some false) else ((impl_IsSemigroup.f k l0_0).bind fun t609 => (if t609 = true then (if a1 ≥ 200 then (some true) else (if 0 < (l0_0.length : Int) then ((impl_leasts.f k l0_0 (rd l0_0 0)).bind fun t611 => (if (rd l0_0 0) = 0 then (none) else (if 0 ≤ (Int.tmod a1 (rd l0_0 0)) then (if (Int.tmod a1 (rd l0_0 0)) < (t611.length : Int) then (some (decide ((rd t611 (Int.tmod a1 (rd l0_0 0))) ≤ a1))) else (none)) else (none)))) else (none))) else (some false)))
def impl_Contains.T3 : Bool × List (List Nat × List Nat) := (true, [([], []), ([0], [0]), ([1], [1]), ([2], [2]), ([3, 2], [2, 3]), ([2], [2]), ([5, 2], [2, 5]), ([6, 2], [2, 6]), ([7, 2], [2, 7]), ([4, 8, 2, 2], [2, 4, 8]), ([2], [2]), ([2], [2]), ([11, 2], [2, 11]), ([12, 2], [2, 12]), ([13, 2], [2, 13]), ([10, 14, 2], [2, 10, 14]), ([9, 15, 2], [2, 9, 15]), ([16, 2], [2, 16]), ([2], [2]), ([17, 18, 2], [2, 17, 18]), ([2, 19], [2, 19]), ([20, 9, 0, 1, 2, 3, 4, 5, 6, 7, 8, 9, 10, 11, 12, 13, 14, 15, 16, 17, 18, 19, 20], [20])])
def impl_Contains.B3 : List Nat := [0, 1, 3, 7, 15, 7, 39, 103, 231, 511, 7, 7, 2055, 6151, 14343, 31751, 65535, 131071, 7, 524287, 1048575, 2097151]
theorem impl_Contains.tab3 : rtab .any (opsOf Try.f32 3) = impl_Contains.T3 := by kernel_rfl
theorem impl_Contains.bits3 : waitsOk impl_Contains.T3.2 impl_Contains.B3 = true := by kernel_rfl
set_option maxHeartbeats 8000000 in
set_option maxRecDepth 100000 in
theorem impl_Contains.calls (k : Nat) (A0_0 : Option Addr) (c0_0 : Nat) (l0_0 : List Int) (a1 : Int) (r : Bool) (w : World) (hr0_0 : Kd.C (Kd.int .i64) w A0_0 l0_0.length l0_0) (hc0_0 : l0_0.length ≤ c0_0) (h : impl_Contains.f k l0_0 a1 = some r) :
  Calls Try.prog 32 #[.agg #[.slice A0_0 l0_0.length c0_0], .int .i64 a1] w fun e w' => e = .returned (.bool r) ∧ Below w.heap.size w w' := by
 have hu26 := Try.underlying26
 have HR0_0 := am hr0_0
 have HC0_0 := am hc0_0
 clear hr0_0 hc0_0
 have HB := am (Below.refl w.heap.size w)
 have H : (if a1 < 0 then (some false) else ((impl_IsSemigroup.f k l0_0).bind fun t609 => (if t609 = true then (if a1 ≥ 200 then (some true) else (if 0 < (l0_0.length : Int) then ((impl_leasts.f k l0_0 (rd l0_0 0)).bind fun t611 => (if (rd l0_0 0) = 0 then (none) else (if 0 ≤ (Int.tmod a1 (rd l0_0 0)) then (if (Int.tmod a1 (rd l0_0 0)) < (t611.length : Int) then (some (decide ((rd t611 (Int.tmod a1 (rd l0_0 0))) ≤ a1))) else (none)) else (none)))) else (none))) else (some false)))) = some r := h
 clear h
 replace H := gi H; obtain ⟨c3b0, H⟩ | ⟨c3b0, H⟩ := H
 ·obtain rfl := Option.some.inj H
  go_enter Try.func32, Try.ntmps32
  go_wp2_with (first | ((with_reducible refine gate_dst (N := 2) rfl ?_); refine bx 2 #[.slice A0_0 l0_0.length c0_0] 26 ?_; intro gb608 hg w4 hbox hb; have BK608 := am (hbox); have GW608 := am (gs hg : w.heap.size ≤ gb608); have GE608 := GW608; replace HB := am (below_step bw hb); clear hb hbox hg))
  go_ret
  exact ⟨re, bw⟩
 ·replace H := ga H; obtain ⟨t609, A5, H⟩ := H
  replace H := gb H; obtain ⟨rfl, H⟩ | ⟨rfl, H⟩ := H
  ·replace H := gj H; obtain ⟨c7, H⟩ | ⟨c7, H⟩ := H
   ·have c7b0 : decide (200 ≤ a1) = true := decide_eq_true c7
    clear c7
    obtain rfl := Option.some.inj H
    go_enter Try.func32, Try.ntmps32
    try go_wp2_with (first | ((with_reducible refine gate_dst (N := 2) rfl ?_); refine bx 2 #[.slice A0_0 l0_0.length c0_0] 26 ?_; intro gb608 hg w8 hbox hb; have BK608 := am (hbox); have GW608 := am (gs hg : w.heap.size ≤ gb608); have GE608 := GW608; replace HB := am (below_step bw hb); clear hb hbox hg; have hcz9_0 := bc BK608 0 (.slice A0_0 l0_0.length c0_0); have hfz9_0 := blk_frozen BK608.out 0) | (go_at_call 151; (with_reducible refine (impl_IsSemigroup.calls k _ _ l0_0 true _ ?side1 ?side2 A5.out).mono ?_); (case side1 => exact co (Kd.C_below HR0_0.out HB.out)); (case side2 => exact HC0_0.out); rintro e w10 ⟨rfl, hb⟩; replace BK608 := kb BK608 hb; replace HB := am (below_step bw hb); clear hb))
    replace BK608 := am (blk_drew BK608.out)
    replace HB := am (below_drew1 HB.out)
    refine start_ (n := 22) (S := fun w' => True) (ds := []) (yz 22 0) (by kernel_rfl) rfl rfl trivial (fun hHeld => ?_); refine with_tabW impl_Contains.tab3 impl_Contains.bits3 (fun HT_ HW_ => ?_)
    generalize w10.drew = w11 at BK608 HB hHeld ⊢
    refine pa 0 (some 12) (yz 22 1) HT_ ?_
    refine pa 1 (some 13) (yz 22 3) HT_ ?_
    refine pa 2 (some 14) (yz 22 7) HT_ ?_
    refine pu 3 (some 15) (yz 22 15) HT_ ?_
    refine pu 4 (some 16) (yz 22 31) HT_ ?_
    refine pu 5 (some 17) (yz 22 63) HT_ ?_
    refine pu 6 (some 18) (yz 22 127) HT_ ?_
    refine pu 7 (some 19) (yz 22 255) HT_ ?_
    refine pu 8 (some 20) (yz 22 511) HT_ ?_
    refine pu 9 (some 21) (yz 22 1023) HT_ ?_
    refine pu 10 (some 22) (yz 22 2047) HT_ ?_
    refine pu 11 (some 23) (yz 22 4095) HT_ ?_
    refine pu 12 (some 24) (yz 22 8191) HT_ ?_
    refine pu 13 (some 25) (yz 22 16383) HT_ ?_
    refine pu 14 (some 26) (yz 22 32767) HT_ ?_
    refine pu 15 (some 27) (yz 22 65535) HT_ ?_
    refine pu 16 (some 28) (yz 22 131071) HT_ ?_
    refine pu 17 (some 29) (yz 22 262143) HT_ ?_
    refine pu 18 (some 30) (yz 22 524287) HT_ ?_
    refine pu 19 (some 31) (yz 22 1048575) HT_ ?_
    refine pa 20 (some 32) (yz 22 2097151) HT_ ?_
    refine pa 21 (some 4) (yz 22 4194303) HT_ ?_
    refine done_ (done_of HT_.out (by kernel_rfl)) ?_
    try go_wp2
    go_ret
    exact ⟨re, bw⟩
   ·have c7b0 : decide (200 ≤ a1) = false := decide_eq_false c7
    clear c7
    replace H := gp H; obtain ⟨c12, H⟩ := H
    have c12b0 : decide (0 < (l0_0.length : Int)) = true := decide_eq_true c12
    have c12b1 : decide (0 < l0_0.length) = true := decide_eq_true (by omega)
    clear c12
    replace H := ga H; obtain ⟨t611, A13, H⟩ := H
    by_cases c14 : (rd l0_0 0) = 0
    ·rw [if_pos c14] at H
     exact absurd H (by simp)
    ·rw [if_neg c14] at H
     have c14b0 : ((rd l0_0 0) == 0) = false := beq_eq_false_iff_ne.mpr c14
     have c14b1 : ((rd l0_0 0) != 0) = true := bne_iff_ne.mpr c14
     obtain ⟨ji15, hji15⟩ : ∃ j_ : Int, (Int.tmod a1 (rd l0_0 0)) = j_ := ⟨_, rfl⟩
     replace H : (if 0 ≤ (ji15) then (if (ji15) < (t611.length : Int) then (some (decide ((rd t611 (ji15)) ≤ a1))) else (none)) else (none)) = some r := by first | (rw [hji15] at H; exact H) | (simp only [hji15] at H ⊢; exact H)
     (try rw [hji15] at A5)
     (try rw [hji15] at A13)
     replace H := gd H; obtain ⟨c16b0, H⟩ := H
     replace H := gd H; obtain ⟨c17b0, H⟩ := H
     obtain rfl := Option.some.inj H
     go_enter Try.func32, Try.ntmps32
     try go_wp2_with (first | ((with_reducible refine gate_dst (N := 2) rfl ?_); refine bx 2 #[.slice A0_0 l0_0.length c0_0] 26 ?_; intro gb608 hg w18 hbox hb; have BK608 := am (hbox); have GW608 := am (gs hg : w.heap.size ≤ gb608); have GE608 := GW608; replace HB := am (below_step bw hb); clear hb hbox hg; have hcz19_0 := bc BK608 0 (.slice A0_0 l0_0.length c0_0); have hfz19_0 := blk_frozen BK608.out 0) | (go_at_call 151; (with_reducible refine (impl_IsSemigroup.calls k _ _ l0_0 true _ ?side1 ?side2 A5.out).mono ?_); (case side1 => exact co (Kd.C_below HR0_0.out HB.out)); (case side2 => exact HC0_0.out); rintro e w20 ⟨rfl, hb⟩; replace BK608 := kb BK608 hb; replace HB := am (below_step bw hb); clear hb))
     replace BK608 := am (blk_drew BK608.out)
     replace HB := am (below_drew1 HB.out)
     have p610 : 0 ≤ (0 : Int) := (by omega)
     have q610 : 0 < (l0_0.length : Int) := of_decide_eq_true (by first | (with_reducible assumption) | assumption)
     obtain ⟨ad610, e610, hx610_0⟩ := Kd.at_int HR0_0.out 0 p610 q610
     have hw610_0 := hx610_0
     (try rw [show ((0 : Int)).toNat = 0 from rfl] at hw610_0)
     (try rw [show 0 * 1 = 0 from rfl] at hw610_0)
     (try rw [Addr.add_zero'] at hw610_0)
     cases e610
     have qi610 : (0 < l0_0.length) = True := eq_true (by omega)
     (try rw [show ((0 : Int)).toNat = 0 from rfl] at hx610_0)
     (try rw [Addr.add_zero'] at hx610_0)
     replace hx610_0 := (HB.out.cell (World.block_lt_of_cell? w _ hx610_0)).trans hx610_0
     replace p610 := eq_true p610
     replace q610 := eq_true q610
     have p614 : 0 ≤ (0 : Int) := (by omega)
     have q614 : 0 < (l0_0.length : Int) := of_decide_eq_true (by first | (with_reducible assumption) | assumption)
     obtain ⟨ad614, e614, hx614_0⟩ := Kd.at_int HR0_0.out 0 p614 q614
     have hw614_0 := hx614_0
     (try rw [show ((0 : Int)).toNat = 0 from rfl] at hw614_0)
     (try rw [show 0 * 1 = 0 from rfl] at hw614_0)
     (try rw [Addr.add_zero'] at hw614_0)
     obtain rfl : ad610 = ad614 := (by injection e614)
     have qi614 : (0 < l0_0.length) = True := eq_true (by omega)
     (try rw [show ((0 : Int)).toNat = 0 from rfl] at hx614_0)
     (try rw [Addr.add_zero'] at hx614_0)
     replace hx614_0 := (HB.out.cell (World.block_lt_of_cell? w _ hx614_0)).trans hx614_0
     replace p614 := eq_true p614
     replace q614 := eq_true q614
     refine start_ (n := 22) (S := fun w' => w'.cell? ⟨gb608, 0, none⟩ = some (.slice (some ad610) l0_0.length c0_0) ∧ w'.cell? ad610 = some (.int .i64 (rd l0_0 0)) ∧ w'.cell? ad610 = some (.int .i64 (rd l0_0 0))) (ds := []) (yz 22 0) (by kernel_rfl) rfl rfl ⟨(blk_cell BK608.out 0).trans rfl, ((HB.out.cell (World.block_lt_of_cell? w _ hw610_0)).trans hw610_0), ((HB.out.cell (World.block_lt_of_cell? w _ hw614_0)).trans hw614_0)⟩ (fun hHeld => ?_); refine with_tabW impl_Contains.tab3 impl_Contains.bits3 (fun HT_ HW_ => ?_)
     generalize w20.drew = w21 at BK608 HB hx610_0 hx614_0 hHeld ⊢
     refine pa 0 (some 12) (yz 22 1) HT_ ?_
     refine pa 1 (some 13) (yz 22 3) HT_ ?_
     refine pa 2 (some 14) (yz 22 7) HT_ ?_
     refine pa 3 (some 15) (yz 22 15) HT_ ?_
     refine pa 5 (some 17) (yz 22 47) HT_ ?_
     refine pa 10 (some 22) (yz 22 1071) HT_ ?_
     refine pa 11 (some 23) (yz 22 3119) HT_ ?_
     refine pa 18 (some 30) (yz 22 265263) HT_ ?_
     refine take_ (i := 4) (N := some 16) (v := ?_) (a' := ?_) (yz 22 265279) rfl rfl (take_ofW HT_.out HW_.out (by kernel_rfl)) (fun _ _ _ h => h) (Or.inl ⟨by rfl, ?_⟩) hHeld ?_ ?_
     rotate_left
     ·rintro w' ⟨s0, s1, s2⟩
      go_simp
      with_reducible rfl
     rotate_left
     ·simp only [Act.put, qa, qb, qc, i64_w, i32_w]
      rfl
     refine take_ (i := 6) (N := some 18) (v := ?_) (a' := ?_) (yz 22 265343) rfl rfl (take_ofW HT_.out HW_.out (by kernel_rfl)) (fun _ _ _ h => h) (Or.inl ⟨by rfl, ?_⟩) hHeld ?_ ?_
     rotate_left
     ·rintro w' ⟨s0, s1, s2⟩
      go_simp
      with_reducible rfl
     rotate_left
     ·simp only [Act.put, qa, qb, qc, i64_w, i32_w]
      rfl
     refine pa 7 (some 19) (yz 22 265471) HT_ ?_
     refine take_ (i := 8) (N := some 20) (v := ?_) (a' := ?_) (yz 22 265727) rfl rfl (take_ofW HT_.out HW_.out (by kernel_rfl)) (fun _ _ _ h => h) (Or.inl ⟨by rfl, ?_⟩) hHeld ?_ ?_
     rotate_left
     ·rintro w' ⟨s0, s1, s2⟩
      go_simp
      with_reducible rfl
     rotate_left
     ·simp only [Act.put, qa, qb, qc, i64_w, i32_w]
      rfl
     refine take_ (i := 12) (N := some 24) (v := ?_) (a' := ?_) (yz 22 269823) rfl rfl (take_ofW HT_.out HW_.out (by kernel_rfl)) (fun _ _ _ h => h) (Or.inl ⟨by rfl, ?_⟩) hHeld ?_ ?_
     rotate_left
     ·rintro w' ⟨s0, s1, s2⟩
      go_simp
      with_reducible rfl
     rotate_left
     ·simp only [Act.put, qa, qb, qc, i64_w, i32_w]
      rfl
     refine pa 13 (some 25) (yz 22 278015) HT_ ?_
     refine take_ (i := 14) (N := some 26) (v := ?_) (a' := ?_) (yz 22 294399) rfl rfl (take_ofW HT_.out HW_.out (by kernel_rfl)) (fun _ _ _ h => h) (Or.inl ⟨by rfl, ?_⟩) hHeld ?_ ?_
     rotate_left
     ·rintro w' ⟨s0, s1, s2⟩
      go_simp
      with_reducible rfl
     rotate_left
     ·simp only [Act.put, qa, qb, qc, i64_w, i32_w]
      rfl
     refine pa 15 (some 27) (yz 22 327167) HT_ ?_
     refine oa 9 (some 21) (yz 22 327679) HT_ (fun K hK => ?_)
     refine gm Try.func159 #[.slice (some ad610) l0_0.length c0_0, .int .i64 (rd l0_0 0)] ?_
     with_reducible refine (impl_leasts.calls k _ _ l0_0 (rd l0_0 0) t611 _ ?side1 ?side2 A13.out).mono ?_
     (case side1 => exact co (Kd.C_below HR0_0.out HB.out))
     (case side2 => exact HC0_0.out)
     rintro e w22 ⟨v612, rfl, ho0, hb⟩
     refine ⟨_, rfl, ?_⟩
     have HO613 := am (Kd.R_lower ho0 (below_size bw))
     replace BK608 := kb BK608 hb
     replace HB := am (below_step bw hb)
     clear hb ho0
     obtain ⟨Ao23, co23, eo23⟩ := Kd.R_slice HO613.out
     (first | subst eo23 | (injection eo23 with f1_ f2_ f3_; have f4_ := f1_.symm; have f5_ := f3_.symm; clear f1_ f2_ f3_; subst f4_; subst f5_))
     obtain ⟨⟨ad615, e615, hx615_0⟩, p615, q615⟩ := pq (Kd.at_int (Kd.R_reads' HO613.out).2.2 (ji15))
     cases e615
     refine hK.out _ _ ⟨(blk_cell BK608.out 0).trans rfl, ((HB.out.cell (World.block_lt_of_cell? w _ hw610_0)).trans hw610_0), ((HB.out.cell (World.block_lt_of_cell? w _ hw614_0)).trans hw614_0)⟩ (fun hHeld => ?_)
     clear hK K
     refine norm_ (a' := ?_) ?_ ?_
     rotate_left
     ·show Act.put _ (some 21) _ = _
      simp only [Act.put, qa, qb, qc, i64_w, i32_w]
      rfl
     refine pa 16 (some 28) (yz 22 393215) HT_ ?_
     refine oa 17 (some 29) (yz 22 524287) HT_ (fun K hK => ?_)
     refine value_ (w1 := ?_) (v := ?_) (by rfl) rfl ?_ ?_
     rotate_left 2
     ·go_simp
      constructor
      ·rfl
      ·rfl
     refine hK.out _ _ hHeld (fun hHeld => ?_)
     clear hK K
     refine norm_ (a' := ?_) ?_ ?_
     rotate_left
     ·show Act.put _ (some 29) _ = _
      simp only [Act.put, qa, qb, qc, i64_w, i32_w]
      rfl
     refine pa 19 (some 31) (yz 22 1048575) HT_ ?_
     refine pa 20 (some 32) (yz 22 2097151) HT_ ?_
     refine pa 21 (some 4) (yz 22 4194303) HT_ ?_
     refine done_ (done_of HT_.out (by kernel_rfl)) ?_
     try go_wp2
     go_ret
     exact ⟨by first | rfl | (simp [errW_none, errW_some] <;> rfl) | (simp only [← hji15]; first | rfl | (simp [errW_none, errW_some] <;> rfl)) | (simp [*, errW_none, errW_some] <;> rfl), bw⟩
  ·obtain rfl := Option.some.inj H
   go_enter Try.func32, Try.ntmps32
   go_wp2_with (first | ((with_reducible refine gate_dst (N := 2) rfl ?_); refine bx 2 #[.slice A0_0 l0_0.length c0_0] 26 ?_; intro gb608 hg w24 hbox hb; have BK608 := am (hbox); have GW608 := am (gs hg : w.heap.size ≤ gb608); have GE608 := GW608; replace HB := am (below_step bw hb); clear hb hbox hg; have hcz25_0 := bc BK608 0 (.slice A0_0 l0_0.length c0_0); have hfz25_0 := blk_frozen BK608.out 0) | (go_at_call 151; (with_reducible refine (impl_IsSemigroup.calls k _ _ l0_0 false _ ?side1 ?side2 A5.out).mono ?_); (case side1 => exact co (Kd.C_below HR0_0.out HB.out)); (case side2 => exact HC0_0.out); rintro e w26 ⟨rfl, hb⟩; replace BK608 := kb BK608 hb; replace HB := am (below_step bw hb); clear hb))
   go_ret
   exact ⟨re, bw⟩


/-! ### spec_Contains: function 33 -/
def spec_Contains.f (k : Nat) (l0_0 : List Int) (a1 : Int) : Option (Bool) := (spec_IsSemigroup.f k l0_0).bind fun t617 => (if t617 = true then ((spec_l3Has.f k l0_0 a1).bind fun t618 => (some t618)) else (some false))
set_option maxHeartbeats 8000000 in
set_option maxRecDepth 100000 in
theorem spec_Contains.calls (k : Nat) (A0_0 : Option Addr) (c0_0 : Nat) (l0_0 : List Int) (a1 : Int) (r : Bool) (w : World) (hr0_0 : Kd.C (Kd.int .i64) w A0_0 l0_0.length l0_0) (hc0_0 : l0_0.length ≤ c0_0) (h : spec_Contains.f k l0_0 a1 = some r) :
  Calls Try.prog 33 #[.agg #[.slice A0_0 l0_0.length c0_0], .int .i64 a1] w fun e w' => e = .returned (.bool r) ∧ Below w.heap.size w w' := by
 have hu26 := Try.underlying26
 have HR0_0 := am hr0_0
 have HC0_0 := am hc0_0
 clear hr0_0 hc0_0
 have HB := am (Below.refl w.heap.size w)
 have H : ((spec_IsSemigroup.f k l0_0).bind fun t617 => (if t617 = true then ((spec_l3Has.f k l0_0 a1).bind fun t618 => (some t618)) else (some false))) = some r := h
 clear h
 replace H := ga H; obtain ⟨t617, A3, H⟩ := H
 replace H := gb H; obtain ⟨rfl, H⟩ | ⟨rfl, H⟩ := H
 ·replace H := ga H; obtain ⟨t618, A5, H⟩ := H
  obtain rfl := Option.some.inj H
  go_enter Try.func33, Try.ntmps33
  go_wp2_with (first | ((with_reducible refine gate_dst (N := 2) rfl ?_); refine bx 2 #[.slice A0_0 l0_0.length c0_0] 26 ?_; intro gb616 hg w6 hbox hb; have BK616 := am (hbox); have GW616 := am (gs hg : w.heap.size ≤ gb616); have GE616 := GW616; replace HB := am (below_step bw hb); clear hb hbox hg; have hcz7_0 := bc BK616 0 (.slice A0_0 l0_0.length c0_0); have hfz7_0 := blk_frozen BK616.out 0) | ((with_reducible refine gate_callee (f := 23) rfl ?_); refine gl (some 6) Try.func23 #[.agg #[.slice A0_0 l0_0.length c0_0]] ?_; (with_reducible refine (spec_IsSemigroup.calls k _ _ l0_0 true _ ?side1 ?side2 A3.out).mono ?_); (case side1 => exact co (Kd.C_below HR0_0.out HB.out)); (case side2 => exact HC0_0.out); rintro e w8 ⟨rfl, hb⟩; refine ⟨_, rfl, ?_⟩; replace BK616 := kb BK616 hb; replace HB := am (below_step bw hb); clear hb; have hcz9_0 := bc BK616 0 (.slice A0_0 l0_0.length c0_0); have hfz9_0 := blk_frozen BK616.out 0) | (go_at_call 154; (with_reducible refine (spec_l3Has.calls k _ _ l0_0 a1 t618 _ ?side1 ?side2 A5.out).mono ?_); (case side1 => exact co (Kd.C_below HR0_0.out HB.out)); (case side2 => exact HC0_0.out); rintro e w10 ⟨rfl, hb⟩; replace BK616 := kb BK616 hb; replace HB := am (below_step bw hb); clear hb))
  go_ret
  exact ⟨re, bw⟩
 ·obtain rfl := Option.some.inj H
  go_enter Try.func33, Try.ntmps33
  go_wp2_with (first | ((with_reducible refine gate_dst (N := 2) rfl ?_); refine bx 2 #[.slice A0_0 l0_0.length c0_0] 26 ?_; intro gb616 hg w11 hbox hb; have BK616 := am (hbox); have GW616 := am (gs hg : w.heap.size ≤ gb616); have GE616 := GW616; replace HB := am (below_step bw hb); clear hb hbox hg; have hcz12_0 := bc BK616 0 (.slice A0_0 l0_0.length c0_0); have hfz12_0 := blk_frozen BK616.out 0) | ((with_reducible refine gate_callee (f := 23) rfl ?_); refine gl (some 6) Try.func23 #[.agg #[.slice A0_0 l0_0.length c0_0]] ?_; (with_reducible refine (spec_IsSemigroup.calls k _ _ l0_0 false _ ?side1 ?side2 A3.out).mono ?_); (case side1 => exact co (Kd.C_below HR0_0.out HB.out)); (case side2 => exact HC0_0.out); rintro e w13 ⟨rfl, hb⟩; refine ⟨_, rfl, ?_⟩; replace BK616 := kb BK616 hb; replace HB := am (below_step bw hb); clear hb))
  go_ret
  exact ⟨re, bw⟩

end Go.Proofs.Ytkfplkdchkmgbaa.C
