/- Contracts of functions of the program: spec_EqualSemigroup, impl_Contains, spec_Contains, slices_Equal_int_int, impl_gapList, impl_GapClash, impl_FromGaps. -/
import Derived.Test.YtkfplkdchkmgbaaC0
import Derived.Test.YtkfplkdchkmgbaaC1
import Derived.Test.YtkfplkdchkmgbaaC3
import Derived.Test.YtkfplkdchkmgbaaC6
namespace Go.Proofs.Ytkfplkdchkmgbaa.C
open Go.RowKit Go.Proofs.YtkfplkdchkmgbaaW.PrintWords Go.Proofs.YtkfplkdchkmgbaaW.PrintLast Go.Proofs.YtkfplkdchkmgbaaW.PrintMore
attribute [local go_sem] max2_int min2_int max_two min_two max_three min_three max_four min_four
set_option linter.unusedVariables false
set_option linter.unusedSimpArgs false

/-! ### spec_EqualSemigroup: function 22 -/
def spec_EqualSemigroup.f (k : Nat) (l0_0 : List Int) (l1_0 : List Int) : Option (Bool) := (spec_l2Same.f k l0_0 l1_0).bind fun t105 => (some t105)
set_option maxHeartbeats 8000000 in
set_option maxRecDepth 100000 in
theorem spec_EqualSemigroup.calls (k : Nat) (A0_0 : Option Addr) (c0_0 : Nat) (l0_0 : List Int) (A1_0 : Option Addr) (c1_0 : Nat) (l1_0 : List Int) (r : Bool) (w : World) (hr0_0 : Kd.C (Kd.int .i64) w A0_0 l0_0.length l0_0) (hc0_0 : l0_0.length ≤ c0_0) (hr1_0 : Kd.C (Kd.int .i64) w A1_0 l1_0.length l1_0) (hc1_0 : l1_0.length ≤ c1_0) (h : spec_EqualSemigroup.f k l0_0 l1_0 = some r) :
  Calls Try.prog 22 #[.agg #[.slice A0_0 l0_0.length c0_0], .agg #[.slice A1_0 l1_0.length c1_0]] w fun e w' => e = .returned (.bool r) ∧ Below w.heap.size w w' := by
 have hu26 := Try.underlying26
 have HR0_0 := am hr0_0
 have HC0_0 := am hc0_0
 clear hr0_0 hc0_0
 have HR1_0 := am hr1_0
 have HC1_0 := am hc1_0
 clear hr1_0 hc1_0
 have HB := am (Below.refl w.heap.size w)
 have H : ((spec_l2Same.f k l0_0 l1_0).bind fun t105 => (some t105)) = some r := h
 clear h
 replace H := ga H; obtain ⟨t105, A3, H⟩ := H
 obtain rfl := Option.some.inj H
 go_enter Try.func22, Try.ntmps22
 go_wp2_with (first | ((with_reducible refine gate_dst (N := 2) rfl ?_); refine bx 2 #[.slice A0_0 l0_0.length c0_0] 26 ?_; intro gb103 hg w4 hbox hb; have BK103 := am (hbox); have GW103 := am (gs hg : w.heap.size ≤ gb103); have GE103 := GW103; replace HB := am (below_step bw hb); clear hb hbox hg) | ((with_reducible refine gate_dst (N := 3) rfl ?_); refine bx 3 #[.slice A1_0 l1_0.length c1_0] 26 ?_; intro gb104 hg w5 hbox hb; have BK104 := am (hbox); have GW104 := am (gs hg : w.heap.size ≤ gb104); have GE104 := GW104; replace HB := am (below_step bw hb); have NB103_104 := nl hg BK103; have NB104_103 := ns NB103_104; replace BK103 := kb BK103 hb; clear hb hbox hg; have hnb6 := NB103_104.out; have hnc6 := NB104_103.out; have hcz7_0 := bc BK103 0 (.slice A0_0 l0_0.length c0_0); have hfz7_0 := blk_frozen BK103.out 0; have hcz8_0 := bc BK104 0 (.slice A1_0 l1_0.length c1_0); have hfz8_0 := blk_frozen BK104.out 0) | ((with_reducible refine gate_callee (f := 143) rfl ?_); refine gl (some 9) Try.func143 #[.slice A0_0 l0_0.length c0_0, .slice A1_0 l1_0.length c1_0] ?_; (with_reducible refine (spec_l2Same.calls k _ _ l0_0 _ _ l1_0 t105 _ ?side1 ?side2 ?side3 ?side4 A3.out).mono ?_); (case side1 => exact co (Kd.C_below HR0_0.out HB.out)); (case side2 => exact HC0_0.out); (case side3 => exact co (Kd.C_below HR1_0.out HB.out)); (case side4 => exact HC1_0.out); rintro e w' ⟨rfl, ⟨nd, rfl⟩⟩; refine ⟨_, rfl, ?_⟩))
 go_ret
 exact ⟨re, bw⟩


/-! ### impl_Contains: function 32 -/
def impl_Contains.f (k : Nat) (l0_0 : List Int) (a1 : Int) : Option (Bool) := if a1 < 0 then (some false) else ((impl_IsSemigroup.f k l0_0).bind fun t152 => (if t152 = true then (if a1 ≥ 200 then (some true) else (if 0 < (l0_0.length : Int) then ((impl_leasts.f k l0_0 (rd l0_0 0)).bind fun t154 => (if (rd l0_0 0) = 0 then (none) else (if 0 ≤ (Int.tmod a1 (rd l0_0 0)) then (if (Int.tmod a1 (rd l0_0 0)) < (t154.length : Int) then (some (decide ((rd t154 (Int.tmod a1 (rd l0_0 0))) ≤ a1))) else (none)) else (none)))) else (none))) else (some false)))
def impl_Contains.T3 : Bool × List (List Nat × List Nat) := (true, [([], []), ([0], [0]), ([1], [1]), ([2], [2]), ([3, 2], [2, 3]), ([2], [2]), ([5, 2], [2, 5]), ([6, 2], [2, 6]), ([7, 2], [2, 7]), ([4, 8, 2, 2], [2, 4, 8]), ([2], [2]), ([2], [2]), ([11, 2], [2, 11]), ([12, 2], [2, 12]), ([13, 2], [2, 13]), ([10, 14, 2], [2, 10, 14]), ([9, 15, 2], [2, 9, 15]), ([16, 2], [2, 16]), ([2], [2]), ([17, 18, 2], [2, 17, 18]), ([2, 19], [2, 19]), ([20, 9, 0, 1, 2, 3, 4, 5, 6, 7, 8, 9, 10, 11, 12, 13, 14, 15, 16, 17, 18, 19, 20], [20])])
def impl_Contains.B3 : List Nat := [0, 1, 3, 7, 15, 7, 39, 103, 231, 511, 7, 7, 2055, 6151, 14343, 31751, 65535, 131071, 7, 524287, 1048575, 2097151]
theorem impl_Contains.tab3 : rtab .any (opsOf Try.f32 3) = impl_Contains.T3 := by kernel_rfl
theorem impl_Contains.bits3 : waitsOk impl_Contains.T3.2 impl_Contains.B3 = true := by kernel_rfl
set_option maxHeartbeats 8000000 in
set_option maxRecDepth 100000 in
theorem impl_Contains.calls (k : Nat) (A0_0 : Option Addr) (c0_0 : Nat) (l0_0 : List Int) (a1 : Int) (r : Bool) (w : World) (hr0_0 : Kd.C (Kd.int .i64) w A0_0 l0_0.length l0_0) (hc0_0 : l0_0.length ≤ c0_0) (h : impl_Contains.f k l0_0 a1 = some r) :
  Calls Try.prog 32 #[.agg #[.slice A0_0 l0_0.length c0_0], .int .i64 a1] w fun e w' => e = .returned (.bool r) ∧ Below w.heap.size w w' := by
 have hu26 := Try.underlying26
 have HR0_0 := am hr0_0
 have HC0_0 := am hc0_0
 clear hr0_0 hc0_0
 have HB := am (Below.refl w.heap.size w)
 have H : (if a1 < 0 then (some false) else ((impl_IsSemigroup.f k l0_0).bind fun t152 => (if t152 = true then (if a1 ≥ 200 then (some true) else (if 0 < (l0_0.length : Int) then ((impl_leasts.f k l0_0 (rd l0_0 0)).bind fun t154 => (if (rd l0_0 0) = 0 then (none) else (if 0 ≤ (Int.tmod a1 (rd l0_0 0)) then (if (Int.tmod a1 (rd l0_0 0)) < (t154.length : Int) then (some (decide ((rd t154 (Int.tmod a1 (rd l0_0 0))) ≤ a1))) else (none)) else (none)))) else (none))) else (some false)))) = some r := h
 clear h
 replace H := gi H; obtain ⟨c3b0, H⟩ | ⟨c3b0, H⟩ := H
 ·obtain rfl := Option.some.inj H
  go_enter Try.func32, Try.ntmps32
  go_wp2_with (first | ((with_reducible refine gate_dst (N := 2) rfl ?_); refine bx 2 #[.slice A0_0 l0_0.length c0_0] 26 ?_; intro gb151 hg w4 hbox hb; have BK151 := am (hbox); have GW151 := am (gs hg : w.heap.size ≤ gb151); have GE151 := GW151; replace HB := am (below_step bw hb); clear hb hbox hg))
  go_ret
  exact ⟨re, bw⟩
 replace H := ga H; obtain ⟨t152, A5, H⟩ := H
 replace H := gb H; obtain ⟨rfl, H⟩ | ⟨rfl, H⟩ := H
 ·replace H := gj H; obtain ⟨c7, H⟩ | ⟨c7, H⟩ := H
  ·have c7b0 : decide (200 ≤ a1) = true := decide_eq_true c7
   clear c7
   obtain rfl := Option.some.inj H
   go_enter Try.func32, Try.ntmps32
   try go_wp2_with (first | ((with_reducible refine gate_dst (N := 2) rfl ?_); refine bx 2 #[.slice A0_0 l0_0.length c0_0] 26 ?_; intro gb151 hg w8 hbox hb; have BK151 := am (hbox); have GW151 := am (gs hg : w.heap.size ≤ gb151); have GE151 := GW151; replace HB := am (below_step bw hb); clear hb hbox hg; have hcz9_0 := bc BK151 0 (.slice A0_0 l0_0.length c0_0); have hfz9_0 := blk_frozen BK151.out 0) | (go_at_call 151; (with_reducible refine (impl_IsSemigroup.calls k _ _ l0_0 true _ ?side1 ?side2 A5.out).mono ?_); (case side1 => exact co (Kd.C_below HR0_0.out HB.out)); (case side2 => exact HC0_0.out); rintro e w10 ⟨rfl, hb⟩; replace BK151 := kb BK151 hb; replace HB := am (below_step bw hb); clear hb))
   replace BK151 := bd BK151
   replace HB := am (below_drew1 HB.out)
   refine start_ (n := 22) (S := fun w' => True) (ds := []) (yz 22 0) (by kernel_rfl) rfl rfl trivial (fun hHeld => ?_); refine with_tabW impl_Contains.tab3 impl_Contains.bits3 (fun HT_ HW_ => ?_)
   generalize w10.drew = w11 at BK151 HB hHeld ⊢
   refine pa 0 (some 12) (yz 22 1) HT_ ?_
   refine pa 1 (some 13) (yz 22 3) HT_ ?_
   refine pa 2 (some 14) (yz 22 7) HT_ ?_
   refine pu 3 (some 15) (yz 22 15) HT_ ?_
   refine pu 4 (some 16) (yz 22 31) HT_ ?_
   refine pu 5 (some 17) (yz 22 63) HT_ ?_
   refine pu 6 (some 18) (yz 22 127) HT_ ?_
   refine pu 7 (some 19) (yz 22 255) HT_ ?_
   refine pu 8 (some 20) (yz 22 511) HT_ ?_
   refine pu 9 (some 21) (yz 22 1023) HT_ ?_
   refine pu 10 (some 22) (yz 22 2047) HT_ ?_
   refine pu 11 (some 23) (yz 22 4095) HT_ ?_
   refine pu 12 (some 24) (yz 22 8191) HT_ ?_
   refine pu 13 (some 25) (yz 22 16383) HT_ ?_
   refine pu 14 (some 26) (yz 22 32767) HT_ ?_
   refine pu 15 (some 27) (yz 22 65535) HT_ ?_
   refine pu 16 (some 28) (yz 22 131071) HT_ ?_
   refine pu 17 (some 29) (yz 22 262143) HT_ ?_
   refine pu 18 (some 30) (yz 22 524287) HT_ ?_
   refine pu 19 (some 31) (yz 22 1048575) HT_ ?_
   refine pa 20 (some 32) (yz 22 2097151) HT_ ?_
   refine pa 21 (some 4) (yz 22 4194303) HT_ ?_
   refine done_ (done_of HT_.out (by kernel_rfl)) ?_
   try go_wp2
   go_ret
   exact ⟨re, bw⟩
  have c7b0 : decide (200 ≤ a1) = false := decide_eq_false c7
  clear c7
  replace H := gp H; obtain ⟨c12, H⟩ := H
  have c12b0 : decide (0 < (l0_0.length : Int)) = true := decide_eq_true c12
  have c12b1 : decide (0 < l0_0.length) = true := decide_eq_true (by omega)
  clear c12
  replace H := ga H; obtain ⟨t154, A13, H⟩ := H
  by_cases c14 : (rd l0_0 0) = 0
  ·rw [if_pos c14] at H
   exact absurd H (by simp)
  rw [if_neg c14] at H
  have c14b0 : ((rd l0_0 0) == 0) = false := beq_eq_false_iff_ne.mpr c14
  have c14b1 : ((rd l0_0 0) != 0) = true := bne_iff_ne.mpr c14
  obtain ⟨ji15, hji15⟩ : ∃ j_ : Int, (Int.tmod a1 (rd l0_0 0)) = j_ := ⟨_, rfl⟩
  replace H : (if 0 ≤ (ji15) then (if (ji15) < (t154.length : Int) then (some (decide ((rd t154 (ji15)) ≤ a1))) else (none)) else (none)) = some r := by first | (rw [hji15] at H; exact H) | (simp only [hji15] at H ⊢; exact H)
  (try rw [hji15] at A5)
  (try rw [hji15] at A13)
  replace H := gd H; obtain ⟨c16b0, H⟩ := H
  replace H := gd H; obtain ⟨c17b0, H⟩ := H
  obtain rfl := Option.some.inj H
  go_enter Try.func32, Try.ntmps32
  try go_wp2_with (first | ((with_reducible refine gate_dst (N := 2) rfl ?_); refine bx 2 #[.slice A0_0 l0_0.length c0_0] 26 ?_; intro gb151 hg w18 hbox hb; have BK151 := am (hbox); have GW151 := am (gs hg : w.heap.size ≤ gb151); have GE151 := GW151; replace HB := am (below_step bw hb); clear hb hbox hg; have hcz19_0 := bc BK151 0 (.slice A0_0 l0_0.length c0_0); have hfz19_0 := blk_frozen BK151.out 0) | (go_at_call 151; (with_reducible refine (impl_IsSemigroup.calls k _ _ l0_0 true _ ?side1 ?side2 A5.out).mono ?_); (case side1 => exact co (Kd.C_below HR0_0.out HB.out)); (case side2 => exact HC0_0.out); rintro e w20 ⟨rfl, hb⟩; replace BK151 := kb BK151 hb; replace HB := am (below_step bw hb); clear hb))
  replace BK151 := bd BK151
  replace HB := am (below_drew1 HB.out)
  have p153 : 0 ≤ (0 : Int) := (by omega)
  have q153 : 0 < (l0_0.length : Int) := of_decide_eq_true (by first | (with_reducible assumption) | assumption)
  obtain ⟨ad153, e153, hx153_0⟩ := Kd.at_int HR0_0.out 0 p153 q153
  have hw153_0 := hx153_0
  (try rw [show ((0 : Int)).toNat = 0 from rfl] at hw153_0)
  (try rw [show 0 * 1 = 0 from rfl] at hw153_0)
  (try rw [Addr.add_zero'] at hw153_0)
  cases e153
  have qi153 : (0 < l0_0.length) = True := eq_true (by omega)
  (try rw [show ((0 : Int)).toNat = 0 from rfl] at hx153_0)
  (try rw [Addr.add_zero'] at hx153_0)
  replace hx153_0 := hw HB hx153_0
  replace p153 := eq_true p153
  replace q153 := eq_true q153
  have p157 : 0 ≤ (0 : Int) := (by omega)
  have q157 : 0 < (l0_0.length : Int) := of_decide_eq_true (by first | (with_reducible assumption) | assumption)
  obtain ⟨ad157, e157, hx157_0⟩ := Kd.at_int HR0_0.out 0 p157 q157
  have hw157_0 := hx157_0
  (try rw [show ((0 : Int)).toNat = 0 from rfl] at hw157_0)
  (try rw [show 0 * 1 = 0 from rfl] at hw157_0)
  (try rw [Addr.add_zero'] at hw157_0)
  obtain rfl : ad153 = ad157 := (by injection e157)
  have qi157 : (0 < l0_0.length) = True := eq_true (by omega)
  (try rw [show ((0 : Int)).toNat = 0 from rfl] at hx157_0)
  (try rw [Addr.add_zero'] at hx157_0)
  replace hx157_0 := hw HB hx157_0
  replace p157 := eq_true p157
  replace q157 := eq_true q157
  refine start_ (n := 22) (S := fun w' => w'.cell? ⟨gb151, 0, none⟩ = some (.slice (some ad153) l0_0.length c0_0) ∧ w'.cell? ad153 = some (.int .i64 (rd l0_0 0)) ∧ w'.cell? ad153 = some (.int .i64 (rd l0_0 0))) (ds := []) (yz 22 0) (by kernel_rfl) rfl rfl ⟨bc BK151 0 _, ((HB.out.cell (World.block_lt_of_cell? w _ hw153_0)).trans hw153_0), ((HB.out.cell (World.block_lt_of_cell? w _ hw157_0)).trans hw157_0)⟩ (fun hHeld => ?_); refine with_tabW impl_Contains.tab3 impl_Contains.bits3 (fun HT_ HW_ => ?_)
  generalize w20.drew = w21 at BK151 HB hx153_0 hx157_0 hHeld ⊢
  refine pa 0 (some 12) (yz 22 1) HT_ ?_
  refine pa 1 (some 13) (yz 22 3) HT_ ?_
  refine pa 2 (some 14) (yz 22 7) HT_ ?_
  refine pa 3 (some 15) (yz 22 15) HT_ ?_
  refine pa 5 (some 17) (yz 22 47) HT_ ?_
  refine pa 10 (some 22) (yz 22 1071) HT_ ?_
  refine pa 11 (some 23) (yz 22 3119) HT_ ?_
  refine pa 18 (some 30) (yz 22 265263) HT_ ?_
  refine tk 4 (some 16) (yz 22 265279) HT_ HW_ hHeld ?_
  refine tk 6 (some 18) (yz 22 265343) HT_ HW_ hHeld ?_
  refine pa 7 (some 19) (yz 22 265471) HT_ ?_
  refine tk 8 (some 20) (yz 22 265727) HT_ HW_ hHeld ?_
  refine tk 12 (some 24) (yz 22 269823) HT_ HW_ hHeld ?_
  refine pa 13 (some 25) (yz 22 278015) HT_ ?_
  refine tk 14 (some 26) (yz 22 294399) HT_ HW_ hHeld ?_
  refine pa 15 (some 27) (yz 22 327167) HT_ ?_
  refine oa 9 (some 21) (yz 22 327679) HT_ (fun K hK => ?_)
  refine gm Try.func159 #[.slice (some ad153) l0_0.length c0_0, .int .i64 (rd l0_0 0)] ?_
  with_reducible refine (impl_leasts.calls k _ _ l0_0 (rd l0_0 0) t154 _ ?side1 ?side2 A13.out).mono ?_
  (case side1 => exact co (Kd.C_below HR0_0.out HB.out))
  (case side2 => exact HC0_0.out)
  rintro e w22 ⟨v155, rfl, ho0, hb⟩
  refine ⟨_, rfl, ?_⟩
  have HO156 := am (Kd.R_lower ho0 (below_size bw))
  replace BK151 := kb BK151 hb
  replace HB := am (below_step bw hb)
  clear hb ho0
  obtain ⟨Ao23, co23, eo23⟩ := Kd.R_slice HO156.out
  (first | subst eo23 | (injection eo23 with f1_ f2_ f3_; have f4_ := f1_.symm; have f5_ := f3_.symm; clear f1_ f2_ f3_; subst f4_; subst f5_))
  obtain ⟨⟨ad158, e158, hx158_0⟩, p158, q158⟩ := pq (Kd.at_int (Kd.R_reads' HO156.out).2.2 (ji15))
  cases e158
  refine hK.out _ _ ⟨bc BK151 0 _, ((HB.out.cell (World.block_lt_of_cell? w _ hw153_0)).trans hw153_0), ((HB.out.cell (World.block_lt_of_cell? w _ hw157_0)).trans hw157_0)⟩ (fun hHeld => ?_)
  clear hK K
  refine nm (some 21) ?_
  refine pa 16 (some 28) (yz 22 393215) HT_ ?_
  refine oa 17 (some 29) (yz 22 524287) HT_ (fun K hK => ?_)
  refine value_ (w1 := ?_) (v := ?_) (by rfl) rfl ?_ ?_
  rotate_left 2
  ·go_simp
   constructor
   ·rfl
   rfl
  refine hK.out _ _ hHeld (fun hHeld => ?_)
  clear hK K
  refine nm (some 29) ?_
  refine pa 19 (some 31) (yz 22 1048575) HT_ ?_
  refine pa 20 (some 32) (yz 22 2097151) HT_ ?_
  refine pa 21 (some 4) (yz 22 4194303) HT_ ?_
  refine done_ (done_of HT_.out (by kernel_rfl)) ?_
  try go_wp2
  go_ret
  exact ⟨by first | rfl | (simp [errW_none, errW_some] <;> rfl) | (simp only [← hji15]; first | rfl | (simp [errW_none, errW_some] <;> rfl)) | (simp [*, errW_none, errW_some] <;> rfl), bw⟩
 obtain rfl := Option.some.inj H
 go_enter Try.func32, Try.ntmps32
 go_wp2_with (first | ((with_reducible refine gate_dst (N := 2) rfl ?_); refine bx 2 #[.slice A0_0 l0_0.length c0_0] 26 ?_; intro gb151 hg w24 hbox hb; have BK151 := am (hbox); have GW151 := am (gs hg : w.heap.size ≤ gb151); have GE151 := GW151; replace HB := am (below_step bw hb); clear hb hbox hg; have hcz25_0 := bc BK151 0 (.slice A0_0 l0_0.length c0_0); have hfz25_0 := blk_frozen BK151.out 0) | (go_at_call 151; (with_reducible refine (impl_IsSemigroup.calls k _ _ l0_0 false _ ?side1 ?side2 A5.out).mono ?_); (case side1 => exact co (Kd.C_below HR0_0.out HB.out)); (case side2 => exact HC0_0.out); rintro e w26 ⟨rfl, hb⟩; replace BK151 := kb BK151 hb; replace HB := am (below_step bw hb); clear hb))
 go_ret
 exact ⟨re, bw⟩


/-! ### spec_Contains: function 33 -/
def spec_Contains.f (k : Nat) (l0_0 : List Int) (a1 : Int) : Option (Bool) := (spec_IsSemigroup.f k l0_0).bind fun t270 => (if t270 = true then ((spec_l3Has.f k l0_0 a1).bind fun t271 => (some t271)) else (some false))
set_option maxHeartbeats 8000000 in
set_option maxRecDepth 100000 in
theorem spec_Contains.calls (k : Nat) (A0_0 : Option Addr) (c0_0 : Nat) (l0_0 : List Int) (a1 : Int) (r : Bool) (w : World) (hr0_0 : Kd.C (Kd.int .i64) w A0_0 l0_0.length l0_0) (hc0_0 : l0_0.length ≤ c0_0) (h : spec_Contains.f k l0_0 a1 = some r) :
  Calls Try.prog 33 #[.agg #[.slice A0_0 l0_0.length c0_0], .int .i64 a1] w fun e w' => e = .returned (.bool r) ∧ Below w.heap.size w w' := by
 have hu26 := Try.underlying26
 have HR0_0 := am hr0_0
 have HC0_0 := am hc0_0
 clear hr0_0 hc0_0
 have HB := am (Below.refl w.heap.size w)
 have H : ((spec_IsSemigroup.f k l0_0).bind fun t270 => (if t270 = true then ((spec_l3Has.f k l0_0 a1).bind fun t271 => (some t271)) else (some false))) = some r := h
 clear h
 replace H := ga H; obtain ⟨t270, A3, H⟩ := H
 replace H := gb H; obtain ⟨rfl, H⟩ | ⟨rfl, H⟩ := H
 ·replace H := ga H; obtain ⟨t271, A5, H⟩ := H
  obtain rfl := Option.some.inj H
  go_enter Try.func33, Try.ntmps33
  go_wp2_with (first | ((with_reducible refine gate_dst (N := 2) rfl ?_); refine bx 2 #[.slice A0_0 l0_0.length c0_0] 26 ?_; intro gb269 hg w6 hbox hb; have BK269 := am (hbox); have GW269 := am (gs hg : w.heap.size ≤ gb269); have GE269 := GW269; replace HB := am (below_step bw hb); clear hb hbox hg; have hcz7_0 := bc BK269 0 (.slice A0_0 l0_0.length c0_0); have hfz7_0 := blk_frozen BK269.out 0) | ((with_reducible refine gate_callee (f := 23) rfl ?_); refine gl (some 6) Try.func23 #[.agg #[.slice A0_0 l0_0.length c0_0]] ?_; (with_reducible refine (spec_IsSemigroup.calls k _ _ l0_0 true _ ?side1 ?side2 A3.out).mono ?_); (case side1 => exact co (Kd.C_below HR0_0.out HB.out)); (case side2 => exact HC0_0.out); rintro e w8 ⟨rfl, hb⟩; refine ⟨_, rfl, ?_⟩; replace BK269 := kb BK269 hb; replace HB := am (below_step bw hb); clear hb; have hcz9_0 := bc BK269 0 (.slice A0_0 l0_0.length c0_0); have hfz9_0 := blk_frozen BK269.out 0) | (go_at_call 154; (with_reducible refine (spec_l3Has.calls k _ _ l0_0 a1 t271 _ ?side1 ?side2 A5.out).mono ?_); (case side1 => exact co (Kd.C_below HR0_0.out HB.out)); (case side2 => exact HC0_0.out); rintro e w10 ⟨rfl, hb⟩; replace BK269 := kb BK269 hb; replace HB := am (below_step bw hb); clear hb))
  go_ret
  exact ⟨re, bw⟩
 obtain rfl := Option.some.inj H
 go_enter Try.func33, Try.ntmps33
 go_wp2_with (first | ((with_reducible refine gate_dst (N := 2) rfl ?_); refine bx 2 #[.slice A0_0 l0_0.length c0_0] 26 ?_; intro gb269 hg w11 hbox hb; have BK269 := am (hbox); have GW269 := am (gs hg : w.heap.size ≤ gb269); have GE269 := GW269; replace HB := am (below_step bw hb); clear hb hbox hg; have hcz12_0 := bc BK269 0 (.slice A0_0 l0_0.length c0_0); have hfz12_0 := blk_frozen BK269.out 0) | ((with_reducible refine gate_callee (f := 23) rfl ?_); refine gl (some 6) Try.func23 #[.agg #[.slice A0_0 l0_0.length c0_0]] ?_; (with_reducible refine (spec_IsSemigroup.calls k _ _ l0_0 false _ ?side1 ?side2 A3.out).mono ?_); (case side1 => exact co (Kd.C_below HR0_0.out HB.out)); (case side2 => exact HC0_0.out); rintro e w13 ⟨rfl, hb⟩; refine ⟨_, rfl, ?_⟩; replace BK269 := kb BK269 hb; replace HB := am (below_step bw hb); clear hb))
 go_ret
 exact ⟨re, bw⟩


/-! ### slices_Equal_int_int: function 137 -/
def slices_Equal_int_int.l0 : Nat → List Int → List Int → Int → Int → Option (Bool)
 | 0, _, _, _, _ => none
 | k + 1, x0, x1, x12, x13 => if x13 < x12 then (if 0 ≤ x13 then (if x13 < (x0.length : Int) then (if x13 < (x1.length : Int) then (if (rd x0 x13) = (rd x1 x13) then (slices_Equal_int_int.l0 k x0 x1 x12 (wrap64 (x13 + 1))) else (some false)) else (none)) else (none)) else (none)) else (some true)
def slices_Equal_int_int.f (k : Nat) (l0 : List Int) (l1 : List Int) : Option (Bool) := if (l0.length : Int) = (l1.length : Int) then (slices_Equal_int_int.l0 k l0 l1 (l0.length : Int) 0) else (some false)
set_option maxHeartbeats 8000000 in
set_option maxRecDepth 100000 in
theorem slices_Equal_int_int.calls (k : Nat) (A0 : Option Addr) (c0 : Nat) (l0 : List Int) (A1 : Option Addr) (c1 : Nat) (l1 : List Int) (r : Bool) (w : World) (hr0 : Kd.C (Kd.int .i64) w A0 l0.length l0) (hc0 : l0.length ≤ c0) (hr1 : Kd.C (Kd.int .i64) w A1 l1.length l1) (hc1 : l1.length ≤ c1) (h : slices_Equal_int_int.f k l0 l1 = some r) :
  Calls Try.prog 137 #[.slice A0 l0.length c0, .slice A1 l1.length c1] w fun e w' => e = .returned (.bool r) ∧ Drawn0 w w' := by
 have HR0 := am hr0
 have HC0 := am hc0
 clear hr0 hc0
 have HR1 := am hr1
 have HC1 := am hc1
 clear hr1 hc1
 have H : (if (l0.length : Int) = (l1.length : Int) then (slices_Equal_int_int.l0 k l0 l1 (l0.length : Int) 0) else (some false)) = some r := h
 clear h
 by_cases c3 : (l0.length : Int) = (l1.length : Int)
 ·rw [if_pos c3] at H
  have c3b0 : ((l0.length : Int) == (l1.length : Int)) = true := beq_iff_eq.mpr c3
  have c3b1 : ((l0.length : Int) != (l1.length : Int)) = false := bne_eq_false_iff_eq.mpr c3
  have c3b2 : (l0.length == l1.length) = true := by first | simpa using c3 | (simp at c3 ⊢; omega)
  clear c3
  have H' := am H
  clear H
  go_enter Try.func137, Try.ntmps137
  go_wp2
  repeat (go_quiet (fail); try go_wp2)
  go_loopg [13] k (fun kq v13 w' => ∃ (x13_1 : Int), v13 = .int .i64 x13_1 ∧ Aside0 (slices_Equal_int_int.l0 kq l0 l1 (l0.length : Int) x13_1 = some r) ∧ Aside0 (kq ≤ k) ∧ Drawn0 w w')
  case atStart => exact ⟨(0), rr, H', ⟨Nat.le_refl _⟩, dw⟩
  case round =>
   clear H'
   try clear c1; try clear c3; try clear c3b0; try clear c3b1; try clear c3b2
   obtain ⟨x13_1, rfl, HA, HK1, ⟨m1, rfl⟩⟩ := hrel
   cases gk with
   | zero => exact absurd HA.out (by simp [slices_Equal_int_int.l0])
   | succ k1 =>
    have H := HA.out
    clear HA
    simp only [slices_Equal_int_int.l0] at H
    replace H := gi H; obtain ⟨c4b0, H⟩ | ⟨c4b0, H⟩ := H
    ·replace H := gd H; obtain ⟨c5b0, H⟩ := H
     replace H := gd H; obtain ⟨c6b0, H⟩ := H
     replace H := gd H; obtain ⟨c7b0, H⟩ := H
     by_cases c8 : (rd l0 x13_1) = (rd l1 x13_1)
     ·rw [if_pos c8] at H
      have c8b0 : ((rd l0 x13_1) == (rd l1 x13_1)) = true := beq_iff_eq.mpr c8
      have c8b1 : ((rd l0 x13_1) != (rd l1 x13_1)) = false := bne_eq_false_iff_eq.mpr c8
      clear c8
      have H' := am H
      clear H
      obtain ⟨⟨ad577, e577, hx577_0⟩, p577, q577⟩ := pq (Kd.at_int HR0.out x13_1)
      cases e577
      obtain ⟨⟨ad578, e578, hx578_0⟩, p578, q578⟩ := pq (Kd.at_int HR1.out x13_1)
      cases e578
      go_wp2
      repeat (go_quiet (fail); try go_wp2)
      go_roundg k1
      case measure => have := HK1.out; omega
      case rel => exact ⟨(wrap64 (x13_1 + 1)), rr, H', ⟨by have := HK1.out; omega⟩, dw⟩
     rw [if_neg c8] at H
     have c8b0 : ((rd l0 x13_1) == (rd l1 x13_1)) = false := beq_eq_false_iff_ne.mpr c8
     have c8b1 : ((rd l0 x13_1) != (rd l1 x13_1)) = true := bne_iff_ne.mpr c8
     obtain rfl := Option.some.inj H
     obtain ⟨⟨ad577, e577, hx577_0⟩, p577, q577⟩ := pq (Kd.at_int HR0.out x13_1)
     cases e577
     obtain ⟨⟨ad578, e578, hx578_0⟩, p578, q578⟩ := pq (Kd.at_int HR1.out x13_1)
     cases e578
     go_wp2
     repeat (go_quiet (fail); try go_wp2)
     go_ret
     exact ⟨rr, dw⟩
    obtain rfl := Option.some.inj H
    go_wp2
    repeat (go_quiet (fail); try go_wp2)
    go_ret
    exact ⟨rr, dw⟩
 rw [if_neg c3] at H
 have c3b0 : ((l0.length : Int) == (l1.length : Int)) = false := beq_eq_false_iff_ne.mpr c3
 have c3b1 : ((l0.length : Int) != (l1.length : Int)) = true := bne_iff_ne.mpr c3
 have c3b2 : (l0.length == l1.length) = false := by first | simpa using c3 | (simp at c3 ⊢; omega)
 obtain rfl := Option.some.inj H
 go_enter Try.func137, Try.ntmps137
 go_wp2
 repeat (go_quiet (fail); try go_wp2)
 go_ret
 exact ⟨rr, dw⟩


/-! ### impl_gapList: function 221 -/
def impl_gapList.f (k : Nat) (l0 : List Int) : Option (Bool) := (impl_IsAscending.f k l0).bind fun t579 => (if t579 = true then ((impl_allWithin.f k l0 1 199).bind fun t580 => (some t580)) else (some false))
set_option maxHeartbeats 8000000 in
set_option maxRecDepth 100000 in
theorem impl_gapList.calls (k : Nat) (A0 : Option Addr) (c0 : Nat) (l0 : List Int) (r : Bool) (w : World) (hr0 : Kd.C (Kd.int .i64) w A0 l0.length l0) (hc0 : l0.length ≤ c0) (h : impl_gapList.f k l0 = some r) :
  Calls Try.prog 221 #[.slice A0 l0.length c0] w fun e w' => e = .returned (.bool r) ∧ Drawn0 w w' := by
 have HR0 := am hr0
 have HC0 := am hc0
 clear hr0 hc0
 have H : ((impl_IsAscending.f k l0).bind fun t579 => (if t579 = true then ((impl_allWithin.f k l0 1 199).bind fun t580 => (some t580)) else (some false))) = some r := h
 clear h
 replace H := ga H; obtain ⟨t579, A2, H⟩ := H
 replace H := gb H; obtain ⟨rfl, H⟩ | ⟨rfl, H⟩ := H
 ·replace H := ga H; obtain ⟨t580, A4, H⟩ := H
  obtain rfl := Option.some.inj H
  go_enter Try.func221, Try.ntmps221
  go_wp2_with (first | ((with_reducible refine gate_callee (f := 216) rfl ?_); refine gl (some 4) Try.func216 #[.slice A0 l0.length c0] ?_; (with_reducible refine (impl_IsAscending.calls k _ _ l0 true _ ?side1 ?side2 A2.out).mono ?_); (case side1 => exact co HR0.out); (case side2 => exact HC0.out); rintro e w' ⟨rfl, ⟨nd, rfl⟩⟩; refine ⟨_, rfl, ?_⟩) | (go_at_call 135; (with_reducible refine (impl_allWithin.calls k _ _ l0 1 199 t580 _ ?side1 ?side2 A4.out).mono ?_); (case side1 => exact co HR0.out); (case side2 => exact HC0.out); rintro e w' ⟨rfl, ⟨nd, rfl⟩⟩))
  go_ret
  exact ⟨rr, dw⟩
 obtain rfl := Option.some.inj H
 go_enter Try.func221, Try.ntmps221
 go_wp2_with (first | ((with_reducible refine gate_callee (f := 216) rfl ?_); refine gl (some 4) Try.func216 #[.slice A0 l0.length c0] ?_; (with_reducible refine (impl_IsAscending.calls k _ _ l0 false _ ?side1 ?side2 A2.out).mono ?_); (case side1 => exact co HR0.out); (case side2 => exact HC0.out); rintro e w' ⟨rfl, ⟨nd, rfl⟩⟩; refine ⟨_, rfl, ?_⟩))
 go_ret
 exact ⟨rr, dw⟩


/-! ### impl_GapClash: function 220 -/
mutual
def impl_GapClash.j0 : Nat → List Int → Bool → Option (Int × Int × Bool)
 | 0, _, _ => none
 | k + 1, x0, x17 => if x17 = true then (some (0, 0, false)) else (if 201 ≤ 281474976710656 then (impl_GapClash.l0 k x0 (List.replicate 201 false) x0 (x0.length : Int) 0) else (none))
def impl_GapClash.l0 : Nat → List Int → List Bool → List Int → Int → Int → Option (Int × Int × Bool)
 | 0, _, _, _, _, _ => none
 | k + 1, x0, x4, x20, x21, x22 => if x22 < x21 then (if 0 ≤ x22 then (if x22 < (x20.length : Int) then (if 0 ≤ (rd x20 x22) then (if (rd x20 x22) < (x4.length : Int) then (impl_GapClash.l0 k x0 (x4.set ((rd x20 x22) : Int).toNat true) x20 x21 (wrap64 (x22 + 1))) else (none)) else (none)) else (none)) else (none)) else (if 0 ≤ (wrap64 ((x0.length : Int) - 1)) then (if (wrap64 ((x0.length : Int) - 1)) < (x0.length : Int) then (impl_GapClash.l1 k x4 (rd x0 (wrap64 ((x0.length : Int) - 1))) 1) else (none)) else (none))
def impl_GapClash.l1 : Nat → List Bool → Int → Int → Option (Int × Int × Bool)
 | 0, _, _, _ => none
 | k + 1, x4, x7, x8 => if x8 ≤ x7 then (impl_GapClash.l2 k x4 x7 x8 x8) else (some (0, 0, false))
def impl_GapClash.l2 : Nat → List Bool → Int → Int → Int → Option (Int × Int × Bool)
 | 0, _, _, _, _ => none
 | k + 1, x4, x7, x8, x9 => if (wrap64 (x8 + x9)) ≤ x7 then (if 0 ≤ x8 then (if x8 < (x4.length : Int) then (if rdOf false x4 x8 = true then (impl_GapClash.l2 k x4 x7 x8 (wrap64 (x9 + 1))) else (if 0 ≤ x9 then (if x9 < (x4.length : Int) then (if rdOf false x4 x9 = true then (impl_GapClash.l2 k x4 x7 x8 (wrap64 (x9 + 1))) else (if 0 ≤ (wrap64 (x8 + x9)) then (if (wrap64 (x8 + x9)) < (x4.length : Int) then (if rdOf false x4 (wrap64 (x8 + x9)) = true then (some (x8, x9, true)) else (impl_GapClash.l2 k x4 x7 x8 (wrap64 (x9 + 1)))) else (none)) else (none))) else (none)) else (none))) else (none)) else (none)) else (impl_GapClash.l1 k x4 x7 (wrap64 (x8 + 1)))
end
def impl_GapClash.f (k : Nat) (l0 : List Int) : Option (Int × Int × Bool) := (impl_gapList.f k l0).bind fun t582 => (if t582 = true then (impl_GapClash.j0 k l0 ((l0.length : Int) == 0)) else (impl_GapClash.j0 k l0 true))
set_option maxHeartbeats 8000000 in
set_option maxRecDepth 100000 in
theorem impl_GapClash.calls (k : Nat) (A0 : Option Addr) (c0 : Nat) (l0 : List Int) (r1 : Int) (r2 : Int) (r3 : Bool) (w : World) (hr0 : Kd.C (Kd.int .i64) w A0 l0.length l0) (hc0 : l0.length ≤ c0) (h : impl_GapClash.f k l0 = some (r1, r2, r3)) :
  Calls Try.prog 220 #[.slice A0 l0.length c0] w fun e w' => e = .returned (.tuple #[.agg #[.int .i64 r1, .int .i64 r2], .bool r3]) ∧ Below w.heap.size w w' := by
 have hu33 := Try.underlying33
 have HR0 := am hr0
 have HC0 := am hc0
 clear hr0 hc0
 have HB := am (Below.refl w.heap.size w)
 have H : ((impl_gapList.f k l0).bind fun t582 => (if t582 = true then (impl_GapClash.j0 k l0 ((l0.length : Int) == 0)) else (impl_GapClash.j0 k l0 true))) = some (r1, r2, r3) := h
 clear h
 have HC2 := am H
 clear H
 go_enter Try.func220, Try.ntmps220
 go_upto_region 1 with (first | ((with_reducible refine gate_dst (N := 2) rfl ?_); (try (refine gate_guard (by rfl) ?_; dsimp only)); refine bx 2 #[.int .i64 0, .int .i64 0] 33 ?_; intro gb581 hg w3 hbox hb; have BK581 := am (hbox); have GW581 := am (gs hg : w.heap.size ≤ gb581); have GE581 := GW581; replace HB := am (below_step bw hb); clear hb hbox hg))
 (try simp only [Act.put, List.setIfInBounds_toArray, List.set_cons_zero, List.set_cons_succ])
 go_cut [17] (fun v17 wc => ∃ (kq : Nat) (x17_1 : Bool), v17 = .bool x17_1 ∧ Aside0 (impl_GapClash.j0 kq l0 x17_1 = some (r1, r2, r3)) ∧ Aside0 (kq ≤ k) ∧ Aside0 (wc.heap[gb581]? = some (.cells #[.int .i64 0, .int .i64 0] 33 (0, 0))) ∧ Aside0 (Below w.heap.size w wc))
 case first =>
  have H := HC2.out
  clear HC2
  replace H := ga H; obtain ⟨t582, A4, H⟩ := H
  replace H := gb H; obtain ⟨rfl, H⟩ | ⟨rfl, H⟩ := H
  ·have H' := am H
   clear H
   go_wp2_with (first | ((with_reducible refine gate_callee (f := 221) rfl ?_); refine gl (some 11) Try.func221 #[.slice A0 l0.length c0] ?_; (with_reducible refine (impl_gapList.calls k _ _ l0 true _ ?side1 ?side2 A4.out).mono ?_); (case side1 => exact co (Kd.C_below HR0.out HB.out)); (case side2 => exact HC0.out); rintro e w' ⟨rfl, ⟨nd, rfl⟩⟩; refine ⟨_, rfl, ?_⟩))
   go_meet
   case rel => exact ⟨_, (((l0.length : Int) == 0)), rr, H', ⟨om⟩, ⟨bo BK581.out⟩, ⟨bw⟩⟩
  have H' := am H
  clear H
  go_wp2_with (first | ((with_reducible refine gate_callee (f := 221) rfl ?_); refine gl (some 11) Try.func221 #[.slice A0 l0.length c0] ?_; (with_reducible refine (impl_gapList.calls k _ _ l0 false _ ?side1 ?side2 A4.out).mono ?_); (case side1 => exact co (Kd.C_below HR0.out HB.out)); (case side2 => exact HC0.out); rintro e w' ⟨rfl, ⟨nd, rfl⟩⟩; refine ⟨_, rfl, ?_⟩))
  go_meet
  case rel => exact ⟨_, (true), rr, H', ⟨om⟩, ⟨bo BK581.out⟩, ⟨bw⟩⟩
 case rest =>
  clear HC2
  obtain ⟨kq, x17_1, rfl, HA, HJ1, BK581, HB⟩ := hcut
  cases kq with
  | zero => exact absurd HA.out (by simp [impl_GapClash.j0])
  | succ kj1 =>
   have H := HA.out
   clear HA
   simp only [impl_GapClash.j0] at H
   replace H := gb H; obtain ⟨rfl, H⟩ | ⟨rfl, H⟩ := H
   ·simp only [Option.some.injEq, Prod.mk.injEq] at H
    obtain ⟨rfl, rfl, rfl⟩ := H
    have hcz7_0 := bc BK581 0 (.int .i64 0)
    have hcz7_1 := bc BK581 1 (.int .i64 0)
    have hfz7_0 := blk_frozen BK581.out 0
    have hfz7_1 := blk_frozen BK581.out 1
    go_wp2
    refine bodyPost_ret (results_ct rfl _ _ gb581 33 #[.int .i64 0, .int .i64 0] (0, 0) _ rfl (by (with_reducible repeat (first | refine blk_drewN ?_ _ | refine blk_drew ?_ | refine blk_alloc ?_ _)); refine blk_put (cs := #[.int .i64 0, .int .i64 0]) ?_ 1 _ rfl; (with_reducible repeat (first | refine blk_drewN ?_ _ | refine blk_drew ?_ | refine blk_alloc ?_ _)); refine blk_put (cs := #[.int .i64 0, .int .i64 0]) ?_ 0 _ rfl; (with_reducible repeat (first | refine blk_drewN ?_ _ | refine blk_drew ?_ | refine blk_alloc ?_ _)); exact BK581.out) Try.underlying33 rfl (by kernel_rfl)) rfl ?_
    exact ⟨re, bw⟩
   replace H := gp H; obtain ⟨c8, H⟩ := H
   have c8b0 := eq_true c8
   have c8b1 : decide (201 ≤ 281474976710656) = true := decide_eq_true c8
   clear c8
   obtain ⟨y583, hy583⟩ : ∃ y_ : List Bool, y_ = (List.replicate 201 false) := ⟨_, rfl⟩
   replace H : (impl_GapClash.l0 kj1 l0 y583 l0 (l0.length : Int) 0) = some (r1, r2, r3) := by first | (rw [hy583]; with_reducible first | exact H | exact bs H) | (with_reducible first | exact bs H | exact H) | (rw [hy583]; exact H) | exact H
   have Ny583 := am hy583
   clear hy583
   have H' := am H
   clear H
   go_wp2_with (first | ((with_reducible refine gate_dst (N := 19) rfl ?_); (try (refine gate_guard (by rfl) ?_; dsimp only)); refine Kd.R_make Kd.bool _ 4 rfl (N := 19) rfl 109 _ _ rfl 201 rfl rfl Try.underlying109 (.bool false) 1 info4 rfl (by decide) (by omega) false (ok := fun _ => True) (okp := fun _ => True) rfl (fun _ hk => hk) trivial (by omega) (by omega) (Below.refl _ _) (Nat.le_refl _) ?_; intro v584 w9 ho10 hb hg_ hnew_; clear hg_ hnew_; (first | rw [← Ny583.out] at ho10 | (simp only [Int.reduceToNat] at ho10; rw [← Ny583.out] at ho10)); have HO585 := am (Kd.R_lower ho10 (below_size bw)); replace BK581 := kb BK581 hb; replace HB := am (below_step bw hb); clear hb ho10))
   go_loopg [22] kj1 (fun kq v22 w' => ∃ (x4_2 : List Bool) (x22_2 : Int), v22 = .int .i64 x22_2 ∧ Aside0 (impl_GapClash.l0 kq l0 x4_2 l0 (l0.length : Int) x22_2 = some (r1, r2, r3)) ∧ Aside0 (kq ≤ kj1) ∧ Aside0 (Kd.R Kd.bool 4 w' w.heap.size (fun _ => True) v584 x4_2) ∧ Aside0 (w'.heap[gb581]? = some (.cells #[.int .i64 0, .int .i64 0] 33 (0, 0))) ∧ Aside0 (Below w.heap.size w w'))
   case atStart => exact ⟨(y583), (0), rr, H', ⟨Nat.le_refl _⟩, ⟨ro HO585.out⟩, ⟨bo BK581.out⟩, ⟨bw⟩⟩
   case round =>
    clear H'
    try clear c8; try clear c8b0; try clear c8b1; try clear hcz7_0; try clear hcz7_1; try clear hfz7_0; try clear hfz7_1
    obtain ⟨x4_2, x22_2, rfl, HA, HK2, HO_4, BK581, HB⟩ := hrel
    cases gk with
    | zero => exact absurd HA.out (by simp [impl_GapClash.l0])
    | succ k2 =>
     have H := HA.out
     clear HA
     simp only [impl_GapClash.l0] at H
     replace H := gi H; obtain ⟨c11b0, H⟩ | ⟨c11b0, H⟩ := H
     ·replace H := gd H; obtain ⟨c12b0, H⟩ := H
      replace H := gd H; obtain ⟨c13b0, H⟩ := H
      replace H := gd H; obtain ⟨c14b0, H⟩ := H
      replace H := gd H; obtain ⟨c15b0, H⟩ := H
      obtain ⟨y587, hy587⟩ : ∃ y_ : List Bool, y_ = (x4_2.set ((rd l0 x22_2) : Int).toNat true) := ⟨_, rfl⟩
      replace H : (impl_GapClash.l0 k2 l0 y587 l0 (l0.length : Int) (wrap64 (x22_2 + 1))) = some (r1, r2, r3) := by first | (rw [hy587]; with_reducible first | exact H | exact bs H) | (with_reducible first | exact bs H | exact H) | (rw [hy587]; exact H) | exact H
      have Ny587 := am hy587
      clear hy587
      have H' := am H
      clear H
      obtain ⟨⟨ad586, e586, hx586_0⟩, p586, q586⟩ := pq (Kd.at_int HR0.out x22_2)
      cases e586
      replace hx586_0 := hw HB hx586_0
      have p16 : 0 ≤ ((rd l0 x22_2) : Int) := of_decide_eq_true (by first | (with_reducible assumption) | assumption)
      have q16 : ((rd l0 x22_2) : Int) < ((x4_2.length : Int) : Int) := of_decide_eq_true (by first | (with_reducible assumption) | assumption)
      obtain ⟨go16, co16, eo16, gb16, gl16, cl16, HG16⟩ := Kd.R_form HO_4.out (by omega)
      (first | cases eo16 | (injection eo16 with ea_ en_ ec_; (first | subst ea_ | (injection ea_ with ea_; subst ea_)); subst ec_; clear en_))
      have GB16 := am gb16
      have GG16 := am HG16
      clear gb16 gl16 HG16
      obtain ⟨hx16_0, hf16_0⟩ := Kd.R_celln false HO_4.out ((rd l0 x22_2) : Int) p16 q16
      replace p16 := eq_true p16
      replace q16 := eq_true q16
      have HP17 := Kd.R_putg HO_4.out ((rd l0 x22_2) : Int) true
      go_wp2_with (first | ((with_reducible refine gate_store (t := 4) (p := 28) rfl ?_); refine store_event (t := 4) (p := 28) (v := ?vo_w18) (w1 := (wr.setCell ⟨go16, ((rd l0 x22_2) : Int).toNat, none⟩ (.bool true))) ?hg ?ho ?hn ?hr ?_; (case ho => rfl); (case hg => rfl); (case hn => rfl); (case hr => first | (go_simp; done) | (go_simp; rfl)); intro w18 hw; have hg : wr.grownBy w18 (some go16) := (by rw [hw]; exact HP17.2); have hp_ : Kd.R Kd.bool 4 w18 w.heap.size (fun _ => True) (.slice (some ⟨go16, 0, none⟩) x4_2.length co16) y587 := (by rw [hw, Ny587.out]; exact HP17.1); clear HP17; replace BK581 := am (blk_grown (g := gb581) (o := .cells #[.int .i64 0, .int .i64 0] 33 (0, 0)) (bo BK581.out) hg (Kd.R_ne HO_4.out BK581.out (by decide))); replace HO_4 := am (hp_); replace HB := am ((by rw [hw]; exact below_set (HB.out) GB16.out : Below w.heap.size w w18)); clear hg hw hp_))
      go_roundg k2
      case measure => have := HJ1.out; have := HK2.out; omega
      case rel => exact ⟨(y587), (wrap64 (x22_2 + 1)), rr, H', ⟨by have := HJ1.out; have := HK2.out; omega⟩, ⟨ro HO_4.out⟩, ⟨bo BK581.out⟩, ⟨bw⟩⟩
     obtain ⟨ji19, hji19⟩ : ∃ j_ : Int, (wrap64 ((l0.length : Int) - 1)) = j_ := ⟨_, rfl⟩
     replace H : (if 0 ≤ (ji19) then (if (ji19) < (l0.length : Int) then (impl_GapClash.l1 k2 x4_2 (rd l0 (ji19)) 1) else (none)) else (none)) = some (r1, r2, r3) := by first | (rw [hji19] at H; exact H) | (simp only [hji19] at H ⊢; exact H)
     have hji19w : (IntKind.i64.wrap ((l0.length : Int) - 1)) = ji19 := (i64_w _).trans hji19
     replace H := gd H; obtain ⟨c20b0, H⟩ := H
     replace H := gd H; obtain ⟨c21b0, H⟩ := H
     have H' := am H
     clear H
     obtain ⟨⟨ad588, e588, hx588_0⟩, p588, q588⟩ := pq (Kd.at_int HR0.out (ji19))
     cases e588
     replace hx588_0 := hw HB hx588_0
     go_wp2
     go_loopg [8] k2 (fun kq v8 w' => ∃ (x8_3 : Int) (x582000_3 : Int) (x582001_3 : Int), v8 = .int .i64 x8_3 ∧ Aside0 (impl_GapClash.l1 kq x4_2 (rd l0 (ji19)) x8_3 = some (r1, r2, r3)) ∧ Aside0 (kq ≤ k2) ∧ Aside0 (Kd.R Kd.bool 4 w' w.heap.size (fun _ => True) v584 x4_2) ∧ Aside0 (w'.heap[gb581]? = some (.cells #[.int .i64 x582000_3, .int .i64 x582001_3] 33 (0, 0))) ∧ Aside0 (Below w.heap.size w w'))
     case atStart => exact ⟨(1), (0), (0), rr, H', ⟨Nat.le_refl _⟩, ⟨ro HO_4.out⟩, ⟨bo BK581.out⟩, ⟨bw⟩⟩
     case round =>
      clear H'
      try clear c8; try clear c8b0; try clear c8b1; try clear c11b0; try clear c12b0; try clear c13b0; try clear c14b0; try clear c15b0; try clear p16; try clear q16; try clear c20b0; try clear c21b0; try clear hcz7_0; try clear hcz7_1; try clear hfz7_0; try clear hfz7_1; try clear hx16_0; try clear hx586_0; try clear hx588_0; try clear p586; try clear p588; try clear q586; try clear q588
      obtain ⟨x8_3, x582000_3, x582001_3, rfl, HA, HK3, HO_4, BK581, HB⟩ := hrel
      cases gk with
      | zero => exact absurd HA.out (by simp [impl_GapClash.l1])
      | succ k3 =>
       have H := HA.out
       clear HA
       simp only [impl_GapClash.l1] at H
       replace H := gi H; obtain ⟨c22b0, H⟩ | ⟨c22b0, H⟩ := H
       ·have H' := am H
        clear H
        go_wp2
        go_loopg [9] k3 (fun kq v9 w' => ∃ (x9_4 : Int) (x582000_4 : Int) (x582001_4 : Int), v9 = .int .i64 x9_4 ∧ Aside0 (impl_GapClash.l2 kq x4_2 (rd l0 (ji19)) x8_3 x9_4 = some (r1, r2, r3)) ∧ Aside0 (kq ≤ k3) ∧ Aside0 (Kd.R Kd.bool 4 w' w.heap.size (fun _ => True) v584 x4_2) ∧ Aside0 (w'.heap[gb581]? = some (.cells #[.int .i64 x582000_4, .int .i64 x582001_4] 33 (0, 0))) ∧ Aside0 (Below w.heap.size w w'))
        case atStart => exact ⟨(x8_3), (x582000_3), (x582001_3), rr, H', ⟨Nat.le_refl _⟩, ⟨ro HO_4.out⟩, ⟨bo BK581.out⟩, ⟨bw⟩⟩
        case round =>
         clear H'
         try clear c8; try clear c8b0; try clear c8b1; try clear c11b0; try clear c12b0; try clear c13b0; try clear c14b0; try clear c15b0; try clear p16; try clear q16; try clear c20b0; try clear c21b0; try clear c22b0; try clear hcz7_0; try clear hcz7_1; try clear hfz7_0; try clear hfz7_1; try clear hx16_0; try clear hx586_0; try clear hx588_0; try clear p586; try clear p588; try clear q586; try clear q588
         obtain ⟨x9_4, x582000_4, x582001_4, rfl, HA, HK4, HO_4, BK581, HB⟩ := hrel
         cases gk with
         | zero => exact absurd HA.out (by simp [impl_GapClash.l2])
         | succ k4 =>
          have H := HA.out
          clear HA
          simp only [impl_GapClash.l2] at H
          replace H := gi H; obtain ⟨c23b0, H⟩ | ⟨c23b0, H⟩ := H
          ·replace H := gd H; obtain ⟨c24b0, H⟩ := H
           replace H := gd H; obtain ⟨c25b0, H⟩ := H
           obtain ⟨bq26, hbq26⟩ : ∃ b_ : Bool, b_ = (rdOf false x4_2 x8_3) := ⟨_, rfl⟩
           replace H : (if bq26 = true then (impl_GapClash.l2 k4 x4_2 (rd l0 (ji19)) x8_3 (wrap64 (x9_4 + 1))) else (if 0 ≤ x9_4 then (if x9_4 < (x4_2.length : Int) then (if rdOf false x4_2 x9_4 = true then (impl_GapClash.l2 k4 x4_2 (rd l0 (ji19)) x8_3 (wrap64 (x9_4 + 1))) else (if 0 ≤ (wrap64 (x8_3 + x9_4)) then (if (wrap64 (x8_3 + x9_4)) < (x4_2.length : Int) then (if rdOf false x4_2 (wrap64 (x8_3 + x9_4)) = true then (some (x8_3, x9_4, true)) else (impl_GapClash.l2 k4 x4_2 (rd l0 (ji19)) x8_3 (wrap64 (x9_4 + 1)))) else (none)) else (none))) else (none)) else (none))) = some (r1, r2, r3) := by rw [← hbq26] at H; exact H
           have Nbq26 := am hbq26
           clear hbq26
           replace H := gb H; obtain ⟨rfl, H⟩ | ⟨rfl, H⟩ := H
           ·have H' := am H
            clear H
            obtain ⟨Ao28, co28, eo28⟩ := Kd.R_slice HO_4.out
            subst eo28
            obtain ⟨⟨ad589, e589, hx589_0⟩, p589, q589⟩ := pq (Kd.at_bool (Kd.R_reads' HO_4.out).2.2 x8_3)
            (try rw [← Nbq26.out] at hx589_0)
            cases e589
            go_wp2
            go_roundg k4
            case measure => have := HJ1.out; have := HK2.out; have := HK3.out; have := HK4.out; omega
            case rel => exact ⟨(wrap64 (x9_4 + 1)), (x582000_4), (x582001_4), rr, H', ⟨by have := HJ1.out; have := HK2.out; have := HK3.out; have := HK4.out; omega⟩, ⟨ro HO_4.out⟩, ⟨bo BK581.out⟩, ⟨bw⟩⟩
           replace H := gd H; obtain ⟨c29b0, H⟩ := H
           replace H := gd H; obtain ⟨c30b0, H⟩ := H
           obtain ⟨bq31, hbq31⟩ : ∃ b_ : Bool, b_ = (rdOf false x4_2 x9_4) := ⟨_, rfl⟩
           replace H : (if bq31 = true then (impl_GapClash.l2 k4 x4_2 (rd l0 (ji19)) x8_3 (wrap64 (x9_4 + 1))) else (if 0 ≤ (wrap64 (x8_3 + x9_4)) then (if (wrap64 (x8_3 + x9_4)) < (x4_2.length : Int) then (if rdOf false x4_2 (wrap64 (x8_3 + x9_4)) = true then (some (x8_3, x9_4, true)) else (impl_GapClash.l2 k4 x4_2 (rd l0 (ji19)) x8_3 (wrap64 (x9_4 + 1)))) else (none)) else (none))) = some (r1, r2, r3) := by rw [← hbq31] at H; exact H
           have Nbq31 := am hbq31
           clear hbq31
           replace H := gb H; obtain ⟨rfl, H⟩ | ⟨rfl, H⟩ := H
           ·have H' := am H
            clear H
            obtain ⟨Ao33, co33, eo33⟩ := Kd.R_slice HO_4.out
            subst eo33
            obtain ⟨⟨ad589, e589, hx589_0⟩, p589, q589⟩ := pq (Kd.at_bool (Kd.R_reads' HO_4.out).2.2 x8_3)
            (try rw [← Nbq26.out] at hx589_0)
            (try rw [← Nbq31.out] at hx589_0)
            cases e589
            obtain ⟨⟨ad590, e590, hx590_0⟩, p590, q590⟩ := pq (Kd.at_bool (Kd.R_reads' HO_4.out).2.2 x9_4)
            (try rw [← Nbq26.out] at hx590_0)
            (try rw [← Nbq31.out] at hx590_0)
            obtain rfl : ad589 = ad590 := (by injection e590)
            go_wp2
            go_roundg k4
            case measure => have := HJ1.out; have := HK2.out; have := HK3.out; have := HK4.out; omega
            case rel => exact ⟨(wrap64 (x9_4 + 1)), (x582000_4), (x582001_4), rr, H', ⟨by have := HJ1.out; have := HK2.out; have := HK3.out; have := HK4.out; omega⟩, ⟨ro HO_4.out⟩, ⟨bo BK581.out⟩, ⟨bw⟩⟩
           obtain ⟨ji34, hji34⟩ : ∃ j_ : Int, (wrap64 (x8_3 + x9_4)) = j_ := ⟨_, rfl⟩
           replace H : (if 0 ≤ (ji34) then (if (ji34) < (x4_2.length : Int) then (if rdOf false x4_2 (ji34) = true then (some (x8_3, x9_4, true)) else (impl_GapClash.l2 k4 x4_2 (rd l0 (ji19)) x8_3 (wrap64 (x9_4 + 1)))) else (none)) else (none)) = some (r1, r2, r3) := by first | (rw [hji34] at H; exact H) | (simp only [hji34] at H ⊢; exact H)
           (try rw [hji34] at c23b0)
           have hji34w : (IntKind.i64.wrap (x8_3 + x9_4)) = ji34 := (i64_w _).trans hji34
           replace H := gd H; obtain ⟨c35b0, H⟩ := H
           replace H := gd H; obtain ⟨c36b0, H⟩ := H
           obtain ⟨bq37, hbq37⟩ : ∃ b_ : Bool, b_ = (rdOf false x4_2 (ji34)) := ⟨_, rfl⟩
           replace H : (if bq37 = true then (some (x8_3, x9_4, true)) else (impl_GapClash.l2 k4 x4_2 (rd l0 (ji19)) x8_3 (wrap64 (x9_4 + 1)))) = some (r1, r2, r3) := by rw [← hbq37] at H; exact H
           have Nbq37 := am hbq37
           clear hbq37
           replace H := gb H; obtain ⟨rfl, H⟩ | ⟨rfl, H⟩ := H
           ·simp only [Option.some.injEq, Prod.mk.injEq] at H
            obtain ⟨rfl, rfl, rfl⟩ := H
            obtain ⟨Ao39, co39, eo39⟩ := Kd.R_slice HO_4.out
            subst eo39
            obtain ⟨⟨ad589, e589, hx589_0⟩, p589, q589⟩ := pq (Kd.at_bool (Kd.R_reads' HO_4.out).2.2 x8_3)
            (try rw [← Nbq26.out] at hx589_0)
            (try rw [← Nbq31.out] at hx589_0)
            (try rw [← Nbq37.out] at hx589_0)
            cases e589
            obtain ⟨⟨ad590, e590, hx590_0⟩, p590, q590⟩ := pq (Kd.at_bool (Kd.R_reads' HO_4.out).2.2 x9_4)
            (try rw [← Nbq26.out] at hx590_0)
            (try rw [← Nbq31.out] at hx590_0)
            (try rw [← Nbq37.out] at hx590_0)
            obtain rfl : ad589 = ad590 := (by injection e590)
            obtain ⟨⟨ad591, e591, hx591_0⟩, p591, q591⟩ := pq (Kd.at_bool (Kd.R_reads' HO_4.out).2.2 (ji34))
            (try rw [← Nbq26.out] at hx591_0)
            (try rw [← Nbq31.out] at hx591_0)
            (try rw [← Nbq37.out] at hx591_0)
            obtain rfl : ad589 = ad591 := (by injection e591)
            have hcz40_0 := bc BK581 0 (.int .i64 x582000_4)
            have hcz40_1 := bc BK581 1 (.int .i64 x582001_4)
            have hfz40_0 := blk_frozen BK581.out 0
            have hfz40_1 := blk_frozen BK581.out 1
            go_wp2
            refine bodyPost_ret (results_ct rfl _ _ gb581 33 #[.int .i64 x8_3, .int .i64 x9_4] (0, 0) _ rfl (by (with_reducible repeat (first | refine blk_drewN ?_ _ | refine blk_drew ?_ | refine blk_alloc ?_ _)); refine blk_put (cs := #[.int .i64 x8_3, .int .i64 x582001_4]) ?_ 1 _ rfl; (with_reducible repeat (first | refine blk_drewN ?_ _ | refine blk_drew ?_ | refine blk_alloc ?_ _)); refine blk_put (cs := #[.int .i64 x582000_4, .int .i64 x582001_4]) ?_ 0 _ rfl; (with_reducible repeat (first | refine blk_drewN ?_ _ | refine blk_drew ?_ | refine blk_alloc ?_ _)); exact BK581.out) Try.underlying33 rfl (by kernel_rfl)) rfl ?_
            exact ⟨by first | rfl | (simp [errW_none, errW_some] <;> rfl) | (simp only [← hji19, ← hji34]; first | rfl | (simp [errW_none, errW_some] <;> rfl)) | (simp [*, errW_none, errW_some] <;> rfl), bw⟩
           have H' := am H
           clear H
           obtain ⟨Ao41, co41, eo41⟩ := Kd.R_slice HO_4.out
           subst eo41
           obtain ⟨⟨ad589, e589, hx589_0⟩, p589, q589⟩ := pq (Kd.at_bool (Kd.R_reads' HO_4.out).2.2 x8_3)
           (try rw [← Nbq26.out] at hx589_0)
           (try rw [← Nbq31.out] at hx589_0)
           (try rw [← Nbq37.out] at hx589_0)
           cases e589
           obtain ⟨⟨ad590, e590, hx590_0⟩, p590, q590⟩ := pq (Kd.at_bool (Kd.R_reads' HO_4.out).2.2 x9_4)
           (try rw [← Nbq26.out] at hx590_0)
           (try rw [← Nbq31.out] at hx590_0)
           (try rw [← Nbq37.out] at hx590_0)
           obtain rfl : ad589 = ad590 := (by injection e590)
           obtain ⟨⟨ad591, e591, hx591_0⟩, p591, q591⟩ := pq (Kd.at_bool (Kd.R_reads' HO_4.out).2.2 (ji34))
           (try rw [← Nbq26.out] at hx591_0)
           (try rw [← Nbq31.out] at hx591_0)
           (try rw [← Nbq37.out] at hx591_0)
           obtain rfl : ad589 = ad591 := (by injection e591)
           go_wp2
           go_roundg k4
           case measure => have := HJ1.out; have := HK2.out; have := HK3.out; have := HK4.out; omega
           case rel => exact ⟨(wrap64 (x9_4 + 1)), (x582000_4), (x582001_4), rr, H', ⟨by have := HJ1.out; have := HK2.out; have := HK3.out; have := HK4.out; omega⟩, ⟨ro HO_4.out⟩, ⟨bo BK581.out⟩, ⟨bw⟩⟩
          have H' := am H
          clear H
          go_wp2
          go_roundg k4
          case measure => have := HJ1.out; have := HK2.out; have := HK3.out; have := HK4.out; omega
          case rel => exact ⟨(wrap64 (x8_3 + 1)), (x582000_4), (x582001_4), rr, H', ⟨by have := HJ1.out; have := HK2.out; have := HK3.out; have := HK4.out; omega⟩, ⟨ro HO_4.out⟩, ⟨bo BK581.out⟩, ⟨bw⟩⟩
       simp only [Option.some.injEq, Prod.mk.injEq] at H
       obtain ⟨rfl, rfl, rfl⟩ := H
       have hcz42_0 := bc BK581 0 (.int .i64 x582000_3)
       have hcz42_1 := bc BK581 1 (.int .i64 x582001_3)
       have hfz42_0 := blk_frozen BK581.out 0
       have hfz42_1 := blk_frozen BK581.out 1
       go_wp2
       refine bodyPost_ret (results_ct rfl _ _ gb581 33 #[.int .i64 0, .int .i64 0] (0, 0) _ rfl (by (with_reducible repeat (first | refine blk_drewN ?_ _ | refine blk_drew ?_ | refine blk_alloc ?_ _)); refine blk_put (cs := #[.int .i64 0, .int .i64 x582001_3]) ?_ 1 _ rfl; (with_reducible repeat (first | refine blk_drewN ?_ _ | refine blk_drew ?_ | refine blk_alloc ?_ _)); refine blk_put (cs := #[.int .i64 x582000_3, .int .i64 x582001_3]) ?_ 0 _ rfl; (with_reducible repeat (first | refine blk_drewN ?_ _ | refine blk_drew ?_ | refine blk_alloc ?_ _)); exact BK581.out) Try.underlying33 rfl (by kernel_rfl)) rfl ?_
       exact ⟨by first | rfl | (simp [errW_none, errW_some] <;> rfl) | (simp only [← hji19]; first | rfl | (simp [errW_none, errW_some] <;> rfl)) | (simp [*, errW_none, errW_some] <;> rfl), bw⟩


/-! ### impl_FromGaps: function 153 -/
mutual
def impl_FromGaps.j0 : Nat → List Int → Bool → Option (List Int × Bool)
 | 0, _, _ => none
 | k + 1, x0, x23 => if x23 = true then (some (([] : List Int), false)) else (if 401 ≤ 281474976710656 then (impl_FromGaps.l0 k x0 (List.replicate 401 false) x0 (x0.length : Int) 0) else (none))
def impl_FromGaps.l0 : Nat → List Int → List Bool → List Int → Int → Int → Option (List Int × Bool)
 | 0, _, _, _, _, _ => none
 | k + 1, x0, x6, x26, x27, x28 => if x28 < x27 then (if 0 ≤ x28 then (if x28 < (x26.length : Int) then (if 0 ≤ (rd x26 x28) then (if (rd x26 x28) < (x6.length : Int) then (impl_FromGaps.l0 k x0 (x6.set ((rd x26 x28) : Int).toNat true) x26 x27 (wrap64 (x28 + 1))) else (none)) else (none)) else (none)) else (none)) else (impl_FromGaps.l1 k x0 x6 1 ([] : List Int))
def impl_FromGaps.l1 : Nat → List Int → List Bool → Int → List Int → Option (List Int × Bool)
 | 0, _, _, _, _ => none
 | k + 1, x0, x6, x10, x604000 => if x10 < (x6.length : Int) then (if 0 ≤ x10 then (impl_FromGaps.l2 k x0 x6 x10 (rdOf false x6 x10) 1 x604000) else (none)) else ((impl_IsSemigroup.f k x604000).bind fun t610 => (if t610 = true then ((impl_Gaps.f k x604000).bind fun t611 => ((slices_Equal_int_int.f k t611 x0).bind fun t614 => (if t614 = true then (some (x604000, true)) else (some (([] : List Int), false))))) else (some (([] : List Int), false))))
def impl_FromGaps.l2 : Nat → List Int → List Bool → Int → Bool → Int → List Int → Option (List Int × Bool)
 | 0, _, _, _, _, _, _ => none
 | k + 1, x0, x6, x10, x11, x12, x604000 => if (wrap64 (2 * x12)) ≤ x10 then (if x11 = true then (impl_FromGaps.l1 k x0 x6 (wrap64 (x10 + 1)) x604000) else (if 0 ≤ x12 then (if x12 < (x6.length : Int) then (if rdOf false x6 x12 = true then (impl_FromGaps.l2 k x0 x6 x10 false (wrap64 (x12 + 1)) x604000) else (if 0 ≤ (wrap64 (x10 - x12)) then (if (wrap64 (x10 - x12)) < (x6.length : Int) then (impl_FromGaps.l2 k x0 x6 x10 (!(rdOf false x6 (wrap64 (x10 - x12)))) (wrap64 (x12 + 1)) x604000) else (none)) else (none))) else (none)) else (none))) else (if x11 = true then (impl_FromGaps.l1 k x0 x6 (wrap64 (x10 + 1)) x604000) else (if x604000.length < 17592186044416 then (impl_FromGaps.l1 k x0 x6 (wrap64 (x10 + 1)) (x604000 ++ [x10])) else (none)))
end
def impl_FromGaps.f (k : Nat) (l0 : List Int) : Option (List Int × Bool) := (impl_GapClash.f k l0).bind fun bt593 => (if bt593.2.2 = true then (impl_FromGaps.j0 k l0 true) else ((impl_gapList.f k l0).bind fun t597 => (impl_FromGaps.j0 k l0 (!t597))))
set_option maxHeartbeats 8000000 in
set_option maxRecDepth 100000 in
theorem impl_FromGaps.calls (k : Nat) (A0 : Option Addr) (c0 : Nat) (l0 : List Int) (r1 : List Int) (r2 : Bool) (w : World) (hr0 : Kd.C (Kd.int .i64) w A0 l0.length l0) (hc0 : l0.length ≤ c0) (h : impl_FromGaps.f k l0 = some (r1, r2)) :
  Calls Try.prog 153 #[.slice A0 l0.length c0] w fun e w' => ∃ v0_ : Value, e = .returned (.tuple #[.agg #[v0_], .bool r2]) ∧ Kd.R (Kd.int .i64) 3 w' w.heap.size (fun _ => True) v0_ r1 ∧ Below w.heap.size w w' := by
 have hu26 := Try.underlying26
 have hu33 := Try.underlying33
 have HR0 := am hr0
 have HC0 := am hc0
 clear hr0 hc0
 have HB := am (Below.refl w.heap.size w)
 have H : ((impl_GapClash.f k l0).bind fun bt593 => (if bt593.2.2 = true then (impl_FromGaps.j0 k l0 true) else ((impl_gapList.f k l0).bind fun t597 => (impl_FromGaps.j0 k l0 (!t597))))) = some (r1, r2) := h
 clear h
 replace H := ga H; obtain ⟨⟨t593, t594, t595⟩, A2, H⟩ := H
 replace H : (if t595 = true then (impl_FromGaps.j0 k l0 true) else ((impl_gapList.f k l0).bind fun t597 => (impl_FromGaps.j0 k l0 (!t597)))) = some (r1, r2) := H
 have HC3 := am H
 clear H
 go_enter Try.func153, Try.ntmps153
 go_upto_region 2 with (first | ((with_reducible refine gate_dst (N := 2) rfl ?_); refine bx 2 #[.slice none 0 0] 26 ?_; intro gb592 hg w4 hbox hb; have BK592 := am (hbox); have GW592 := am (gs hg : w.heap.size ≤ gb592); have GE592 := GW592; replace HB := am (below_step bw hb); clear hb hbox hg) | ((with_reducible refine gate_callee (f := 220) rfl ?_); refine gl (some 15) Try.func220 #[.slice A0 l0.length c0] ?_; (with_reducible refine (impl_GapClash.calls k _ _ l0 t593 t594 t595 _ ?side1 ?side2 A2.out).mono ?_); (case side1 => exact co (Kd.C_below HR0.out HB.out)); (case side2 => exact HC0.out); rintro e w5 ⟨rfl, hb⟩; refine ⟨_, rfl, ?_⟩; replace BK592 := kb BK592 hb; replace HB := am (below_step bw hb); clear hb) | ((with_reducible refine gate_dst (N := 4) rfl ?_); refine bx 4 #[.int .i64 0, .int .i64 0] 33 ?_; intro gb596 hg w6 hbox hb; have BK596 := am (hbox); have GW596 := am (gs hg : w.heap.size ≤ gb596); have GE596 := GW596; replace HB := am (below_step bw hb); have NB592_596 := nl hg BK592; have NB596_592 := ns NB592_596; replace BK592 := kb BK592 hb; clear hb hbox hg; have hnb7 := NB596_592.out; have hnc7 := NB592_596.out; have hcz8_0 := bc BK596 0 (.int .i64 0); have hcz8_1 := bc BK596 1 (.int .i64 0); have hfz8_0 := blk_frozen BK596.out 0; have hfz8_1 := blk_frozen BK596.out 1))
 (try simp only [Act.put, List.setIfInBounds_toArray, List.set_cons_zero, List.set_cons_succ])
 go_cut [23] (fun v23 wc => ∃ (kq : Nat) (x23_2 : Bool), v23 = .bool x23_2 ∧ Aside0 (impl_FromGaps.j0 kq l0 x23_2 = some (r1, r2)) ∧ Aside0 (kq ≤ k) ∧ Aside0 (wc.heap[gb592]? = some (.cells #[(.slice none 0 0)] 26 (0, 0))) ∧ Aside0 (wc.heap[gb596]? = some (.cells #[.int .i64 t593, .int .i64 t594] 33 (0, 0))) ∧ Aside0 (Below w.heap.size w wc))
 case first =>
  have H := HC3.out
  clear HC3
  replace H := gb H; obtain ⟨rfl, H⟩ | ⟨rfl, H⟩ := H
  ·have H' := am H
   clear H
   go_wp2
   go_meet
   case rel => exact ⟨_, (true), rr, H', ⟨om⟩, ⟨bf BK592.out⟩, ⟨by (with_reducible repeat (first | refine blk_drewN ?_ _ | refine blk_drew ?_ | refine blk_alloc ?_ _)); refine blk_put (cs := #[.int .i64 t593, .int .i64 0]) ?_ 1 _ rfl; (with_reducible repeat (first | refine blk_drewN ?_ _ | refine blk_drew ?_ | refine blk_alloc ?_ _)); refine blk_put (cs := #[.int .i64 0, .int .i64 0]) ?_ 0 _ rfl; (with_reducible repeat (first | refine blk_drewN ?_ _ | refine blk_drew ?_ | refine blk_alloc ?_ _)); exact BK596.out⟩, ⟨bw⟩⟩
  replace H := ga H; obtain ⟨t597, A10, H⟩ := H
  have H' := am H
  clear H
  go_wp2_with (first | (go_at_call 221; (with_reducible refine (impl_gapList.calls k _ _ l0 t597 _ ?side1 ?side2 A10.out).mono ?_); (case side1 => exact Kd.C_below HR0.out bw); (case side2 => exact HC0.out); rintro e w' ⟨rfl, ⟨nd, rfl⟩⟩))
  go_meet
  case rel => exact ⟨_, (!t597), rr, H', ⟨om⟩, ⟨bf BK592.out⟩, ⟨by (with_reducible repeat (first | refine blk_drewN ?_ _ | refine blk_drew ?_ | refine blk_alloc ?_ _)); refine blk_put (cs := #[.int .i64 t593, .int .i64 0]) ?_ 1 _ rfl; (with_reducible repeat (first | refine blk_drewN ?_ _ | refine blk_drew ?_ | refine blk_alloc ?_ _)); refine blk_put (cs := #[.int .i64 0, .int .i64 0]) ?_ 0 _ rfl; (with_reducible repeat (first | refine blk_drewN ?_ _ | refine blk_drew ?_ | refine blk_alloc ?_ _)); exact BK596.out⟩, ⟨bw⟩⟩
 case rest =>
  clear HC3
  try clear hcz8_0; try clear hcz8_1; try clear hfz8_0; try clear hfz8_1
  obtain ⟨kq, x23_2, rfl, HA, HJ2, BK592, BK596, HB⟩ := hcut
  cases kq with
  | zero => exact absurd HA.out (by simp [impl_FromGaps.j0])
  | succ kj2 =>
   have H := HA.out
   clear HA
   simp only [impl_FromGaps.j0] at H
   replace H := gb H; obtain ⟨rfl, H⟩ | ⟨rfl, H⟩ := H
   ·simp only [Option.some.injEq, Prod.mk.injEq] at H
    obtain ⟨rfl, rfl⟩ := H
    have hnb12 := NB592_596.out
    have hnc12 := NB596_592.out
    have hcz13_0 := bc BK592 0 (.slice none 0 0)
    have hfz13_0 := blk_frozen BK592.out 0
    go_wp2
    refine bodyPost_ret (results_ct rfl _ _ gb592 26 #[.slice none 0 0] (0, 0) _ rfl (by (with_reducible repeat (first | refine blk_drewN ?_ _ | refine blk_drew ?_ | refine blk_alloc ?_ _)); refine blk_put (cs := #[.slice none 0 0]) ?_ 0 _ rfl; (with_reducible repeat (first | refine blk_drewN ?_ _ | refine blk_drew ?_ | refine blk_alloc ?_ _)); exact BK592.out) Try.underlying26 rfl (by kernel_rfl)) rfl ?_
    exact ⟨_, re, by first | exact Kd.R_nil _ _ _ _ _ | exact Kd.N_nil _ _ _ _ _ | exact Kd.V_nil _ _ _ _ _ | exact Kd.Q_nil _ _ _ _ _ | exact Kd.S_nil _ _ _ _ _, bw⟩
   replace H := gp H; obtain ⟨c14, H⟩ := H
   have c14b0 := eq_true c14
   have c14b1 : decide (401 ≤ 281474976710656) = true := decide_eq_true c14
   clear c14
   obtain ⟨y598, hy598⟩ : ∃ y_ : List Bool, y_ = (List.replicate 401 false) := ⟨_, rfl⟩
   replace H : (impl_FromGaps.l0 kj2 l0 y598 l0 (l0.length : Int) 0) = some (r1, r2) := by first | (rw [hy598]; with_reducible first | exact H | exact bs H) | (with_reducible first | exact bs H | exact H) | (rw [hy598]; exact H) | exact H
   have Ny598 := am hy598
   clear hy598
   have H' := am H
   clear H
   go_wp2_with (first | ((with_reducible refine gate_dst (N := 25) rfl ?_); refine Kd.R_make Kd.bool _ 4 rfl (N := 25) rfl 109 _ _ rfl 401 rfl rfl Try.underlying109 (.bool false) 1 info4 rfl (by decide) (by omega) false (ok := fun _ => True) (okp := fun _ => True) rfl (fun _ hk => hk) trivial (by omega) (by omega) (Below.refl _ _) (Nat.le_refl _) ?_; intro v599 w15 ho16 hb hg_ hnew_; clear hg_ hnew_; (first | rw [← Ny598.out] at ho16 | (simp only [Int.reduceToNat] at ho16; rw [← Ny598.out] at ho16)); have HO600 := am (Kd.R_lower ho16 (below_size bw)); replace BK592 := kb BK592 hb; replace BK596 := kb BK596 hb; replace HB := am (below_step bw hb); clear hb ho16))
   go_loopg [28] kj2 (fun kq v28 w' => ∃ (x6_2 : List Bool) (x28_2 : Int), v28 = .int .i64 x28_2 ∧ Aside0 (impl_FromGaps.l0 kq l0 x6_2 l0 (l0.length : Int) x28_2 = some (r1, r2)) ∧ Aside0 (kq ≤ kj2) ∧ Aside0 (Kd.R Kd.bool 4 w' w.heap.size (fun _ => True) v599 x6_2) ∧ Aside0 (w'.heap[gb592]? = some (.cells #[(.slice none 0 0)] 26 (0, 0))) ∧ Aside0 (w'.heap[gb596]? = some (.cells #[.int .i64 t593, .int .i64 t594] 33 (0, 0))) ∧ Aside0 (Below w.heap.size w w'))
   case atStart => exact ⟨(y598), (0), rr, H', ⟨Nat.le_refl _⟩, ⟨ro HO600.out⟩, ⟨bo BK592.out⟩, ⟨bo BK596.out⟩, ⟨bw⟩⟩
   case round =>
    clear H'
    try clear c14; try clear c14b0; try clear c14b1; try clear hcz13_0; try clear hcz8_0; try clear hcz8_1; try clear hfz13_0; try clear hfz8_0; try clear hfz8_1
    obtain ⟨x6_2, x28_2, rfl, HA, HK2, HO_6, BK592, BK596, HB⟩ := hrel
    cases gk with
    | zero => exact absurd HA.out (by simp [impl_FromGaps.l0])
    | succ k2 =>
     have H := HA.out
     clear HA
     simp only [impl_FromGaps.l0] at H
     replace H := gi H; obtain ⟨c17b0, H⟩ | ⟨c17b0, H⟩ := H
     ·replace H := gd H; obtain ⟨c18b0, H⟩ := H
      replace H := gd H; obtain ⟨c19b0, H⟩ := H
      replace H := gd H; obtain ⟨c20b0, H⟩ := H
      replace H := gd H; obtain ⟨c21b0, H⟩ := H
      obtain ⟨y602, hy602⟩ : ∃ y_ : List Bool, y_ = (x6_2.set ((rd l0 x28_2) : Int).toNat true) := ⟨_, rfl⟩
      replace H : (impl_FromGaps.l0 k2 l0 y602 l0 (l0.length : Int) (wrap64 (x28_2 + 1))) = some (r1, r2) := by first | (rw [hy602]; with_reducible first | exact H | exact bs H) | (with_reducible first | exact bs H | exact H) | (rw [hy602]; exact H) | exact H
      have Ny602 := am hy602
      clear hy602
      have H' := am H
      clear H
      obtain ⟨⟨ad601, e601, hx601_0⟩, p601, q601⟩ := pq (Kd.at_int HR0.out x28_2)
      cases e601
      replace hx601_0 := hw HB hx601_0
      have p22 : 0 ≤ ((rd l0 x28_2) : Int) := of_decide_eq_true (by first | (with_reducible assumption) | assumption)
      have q22 : ((rd l0 x28_2) : Int) < ((x6_2.length : Int) : Int) := of_decide_eq_true (by first | (with_reducible assumption) | assumption)
      obtain ⟨go22, co22, eo22, gb22, gl22, cl22, HG22⟩ := Kd.R_form HO_6.out (by omega)
      (first | cases eo22 | (injection eo22 with ea_ en_ ec_; (first | subst ea_ | (injection ea_ with ea_; subst ea_)); subst ec_; clear en_))
      have GB22 := am gb22
      have GG22 := am HG22
      clear gb22 gl22 HG22
      obtain ⟨hx22_0, hf22_0⟩ := Kd.R_celln false HO_6.out ((rd l0 x28_2) : Int) p22 q22
      replace p22 := eq_true p22
      replace q22 := eq_true q22
      have HP23 := Kd.R_putg HO_6.out ((rd l0 x28_2) : Int) true
      go_wp2_with (first | ((with_reducible refine gate_store (t := 4) (p := 34) rfl ?_); refine store_event (t := 4) (p := 34) (v := ?vo_w24) (w1 := (wr.setCell ⟨go22, ((rd l0 x28_2) : Int).toNat, none⟩ (.bool true))) ?hg ?ho ?hn ?hr ?_; (case ho => rfl); (case hg => rfl); (case hn => rfl); (case hr => first | (go_simp; done) | (go_simp; rfl)); intro w24 hw; have hg : wr.grownBy w24 (some go22) := (by rw [hw]; exact HP23.2); have hp_ : Kd.R Kd.bool 4 w24 w.heap.size (fun _ => True) (.slice (some ⟨go22, 0, none⟩) x6_2.length co22) y602 := (by rw [hw, Ny602.out]; exact HP23.1); clear HP23; replace BK592 := am (blk_grown (g := gb592) (o := .cells #[.slice none 0 0] 26 (0, 0)) (bo BK592.out) hg (Kd.R_ne HO_6.out BK592.out (by decide))); replace BK596 := am (blk_grown (g := gb596) (o := .cells #[.int .i64 t593, .int .i64 t594] 33 (0, 0)) (bo BK596.out) hg (Kd.R_ne HO_6.out BK596.out (by decide))); replace HO_6 := am (hp_); replace HB := am ((by rw [hw]; exact below_set (HB.out) GB22.out : Below w.heap.size w w24)); clear hg hw hp_))
      go_roundg k2
      case measure => have := HJ2.out; have := HK2.out; omega
      case rel => exact ⟨(y602), (wrap64 (x28_2 + 1)), rr, H', ⟨by have := HJ2.out; have := HK2.out; omega⟩, ⟨ro HO_6.out⟩, ⟨bo BK592.out⟩, ⟨bo BK596.out⟩, ⟨bw⟩⟩
     have H' := am H
     clear H
     go_wp2_with (first | ((with_reducible refine gate_dst (N := 9) rfl ?_); refine bx 9 #[.slice none 0 0] 26 ?_; intro gb603 hg w25 hbox hb; replace HO_6 := rK HO_6 hb; have BK603 := am (hbox); have GW603 := am (gs hg : w.heap.size ≤ gb603); have GE603 := GW603; replace HB := am (below_step bw hb); have NB592_603 := nl hg BK592; have NB603_592 := ns NB592_603; replace BK592 := kb BK592 hb; have NB596_603 := nl hg BK596; have NB603_596 := ns NB596_603; replace BK596 := kb BK596 hb; clear hb hbox hg; have hnb26 := NB603_592.out; have hnc26 := NB592_603.out; have hnb27 := NB603_596.out; have hnc27 := NB596_603.out; have hcz28_0 := bc BK603 0 (.slice none 0 0); have hfz28_0 := blk_frozen BK603.out 0))
     go_loopg [10] k2 (fun kq v10 w' => ∃ (x10_3 : Int) (x604000_3 : List Int) (u604000 : Value), v10 = .int .i64 x10_3 ∧ Aside0 (impl_FromGaps.l1 kq l0 x6_2 x10_3 x604000_3 = some (r1, r2)) ∧ Aside0 (kq ≤ k2) ∧ Aside0 (Kd.R Kd.bool 4 w' w.heap.size (fun _ => True) v599 x6_2) ∧ Aside0 (Kd.R (Kd.int .i64) 3 w' w.heap.size (fun _ => True) u604000 x604000_3) ∧ Aside0 (w'.heap[gb592]? = some (.cells #[(.slice none 0 0)] 26 (0, 0))) ∧ Aside0 (w'.heap[gb596]? = some (.cells #[.int .i64 t593, .int .i64 t594] 33 (0, 0))) ∧ Aside0 (w'.heap[gb603]? = some (.cells #[u604000] 26 (0, 0))) ∧ Aside0 (Below w.heap.size w w'))
     case atStart => exact ⟨(1), (([] : List Int)), (.slice none 0 0), rr, H', ⟨Nat.le_refl _⟩, ⟨by (with_reducible repeat (first | apply Kd.R_alloc | apply Kd.R_drewN | apply Kd.R_drew)); exact Kd.R_mono (Kd.R_far (p := ⟨gb603, 0, none⟩) (Kd.R_types HO_6.out BK603.out (by decide)) (fun _ hk => hk.2) (.slice none 0 0)) (fun _ hk => trivial)⟩, ⟨by first | exact Kd.R_nil _ _ _ _ _ | exact Kd.N_nil _ _ _ _ _ | exact Kd.V_nil _ _ _ _ _ | exact Kd.Q_nil _ _ _ _ _ | exact Kd.S_nil _ _ _ _ _⟩, ⟨bf BK592.out⟩, ⟨bf BK596.out⟩, ⟨by (with_reducible repeat (first | refine blk_drewN ?_ _ | refine blk_drew ?_ | refine blk_alloc ?_ _)); refine blk_put (cs := #[.slice none 0 0]) ?_ 0 _ rfl; (with_reducible repeat (first | refine blk_drewN ?_ _ | refine blk_drew ?_ | refine blk_alloc ?_ _)); exact BK603.out⟩, ⟨bw⟩⟩
     case round =>
      clear H'
      try clear c14; try clear c14b0; try clear c14b1; try clear c17b0; try clear c18b0; try clear c19b0; try clear c20b0; try clear c21b0; try clear p22; try clear q22; try clear hcz13_0; try clear hcz28_0; try clear hcz8_0; try clear hcz8_1; try clear hfz13_0; try clear hfz28_0; try clear hfz8_0; try clear hfz8_1; try clear hx22_0; try clear hx601_0; try clear p601; try clear q601
      obtain ⟨x10_3, x604000_3, u604000, rfl, HA, HK3, HO_6, HO_604000, BK592, BK596, BK603, HB⟩ := hrel
      cases gk with
      | zero => exact absurd HA.out (by simp [impl_FromGaps.l1])
      | succ k3 =>
       have H := HA.out
       clear HA
       simp only [impl_FromGaps.l1] at H
       replace H := gi H; obtain ⟨c29b0, H⟩ | ⟨c29b0, H⟩ := H
       ·replace H := gd H; obtain ⟨c30b0, H⟩ := H
        have H' := am H
        clear H
        obtain ⟨Ao31, co31, eo31⟩ := Kd.R_slice HO_6.out
        subst eo31
        obtain ⟨⟨ad604, e604, hx604_0⟩, p604, q604⟩ := pq (Kd.at_bool (Kd.R_reads' HO_6.out).2.2 x10_3)
        cases e604
        go_wp2
        go_loopg [11, 12] k3 (fun kq v11 v12 w' => ∃ (x11_4 : Bool) (x12_4 : Int), v11 = .bool x11_4 ∧ v12 = .int .i64 x12_4 ∧ Aside0 (impl_FromGaps.l2 kq l0 x6_2 x10_3 x11_4 x12_4 x604000_3 = some (r1, r2)) ∧ Aside0 (kq ≤ k3) ∧ Aside0 (Kd.R Kd.bool 4 w' w.heap.size (fun _ => True) (.slice (some ad604) x6_2.length co31) x6_2) ∧ Aside0 (Kd.R (Kd.int .i64) 3 w' w.heap.size (fun _ => True) u604000 x604000_3) ∧ Aside0 (w'.heap[gb592]? = some (.cells #[(.slice none 0 0)] 26 (0, 0))) ∧ Aside0 (w'.heap[gb596]? = some (.cells #[.int .i64 t593, .int .i64 t594] 33 (0, 0))) ∧ Aside0 (w'.heap[gb603]? = some (.cells #[u604000] 26 (0, 0))) ∧ Aside0 (Below w.heap.size w w'))
        case atStart => exact ⟨(rdOf false x6_2 x10_3), (1), rr, rr, H', ⟨Nat.le_refl _⟩, ⟨ro HO_6.out⟩, ⟨ro HO_604000.out⟩, ⟨bo BK592.out⟩, ⟨bo BK596.out⟩, ⟨bo BK603.out⟩, ⟨bw⟩⟩
        case round =>
         clear H'
         try clear c14; try clear c14b0; try clear c14b1; try clear c17b0; try clear c18b0; try clear c19b0; try clear c20b0; try clear c21b0; try clear p22; try clear q22; try clear c29b0; try clear c30b0; try clear hcz13_0; try clear hcz28_0; try clear hcz8_0; try clear hcz8_1; try clear hfz13_0; try clear hfz28_0; try clear hfz8_0; try clear hfz8_1; try clear hx22_0; try clear hx601_0; try clear hx604_0; try clear p601; try clear p604; try clear q601; try clear q604
         obtain ⟨x11_4, x12_4, rfl, rfl, HA, HK4, HO_6, HO_604000, BK592, BK596, BK603, HB⟩ := hrel
         cases gk with
         | zero => exact absurd HA.out (by simp [impl_FromGaps.l2])
         | succ k4 =>
          have H := HA.out
          clear HA
          simp only [impl_FromGaps.l2] at H
          replace H := gi H; obtain ⟨c32b0, H⟩ | ⟨c32b0, H⟩ := H
          ·replace H := gb H; obtain ⟨rfl, H⟩ | ⟨rfl, H⟩ := H
           ·have H' := am H
            clear H
            go_wp2
            go_roundg k4
            case measure => have := HJ2.out; have := HK2.out; have := HK3.out; have := HK4.out; omega
            case rel => exact ⟨(wrap64 (x10_3 + 1)), (x604000_3), (u604000), rr, H', ⟨by have := HJ2.out; have := HK2.out; have := HK3.out; have := HK4.out; omega⟩, ⟨ro HO_6.out⟩, ⟨ro HO_604000.out⟩, ⟨bo BK592.out⟩, ⟨bo BK596.out⟩, ⟨bo BK603.out⟩, ⟨bw⟩⟩
           replace H := gd H; obtain ⟨c34b0, H⟩ := H
           replace H := gd H; obtain ⟨c35b0, H⟩ := H
           obtain ⟨bq36, hbq36⟩ : ∃ b_ : Bool, b_ = (rdOf false x6_2 x12_4) := ⟨_, rfl⟩
           replace H : (if bq36 = true then (impl_FromGaps.l2 k4 l0 x6_2 x10_3 false (wrap64 (x12_4 + 1)) x604000_3) else (if 0 ≤ (wrap64 (x10_3 - x12_4)) then (if (wrap64 (x10_3 - x12_4)) < (x6_2.length : Int) then (impl_FromGaps.l2 k4 l0 x6_2 x10_3 (!(rdOf false x6_2 (wrap64 (x10_3 - x12_4)))) (wrap64 (x12_4 + 1)) x604000_3) else (none)) else (none))) = some (r1, r2) := by rw [← hbq36] at H; exact H
           have Nbq36 := am hbq36
           clear hbq36
           replace H := gb H; obtain ⟨rfl, H⟩ | ⟨rfl, H⟩ := H
           ·have H' := am H
            clear H
            obtain ⟨⟨ad605, e605, hx605_0⟩, p605, q605⟩ := pq (Kd.at_bool (Kd.R_reads' HO_6.out).2.2 x12_4)
            (try rw [← Nbq36.out] at hx605_0)
            obtain rfl : ad604 = ad605 := (by injection e605)
            go_wp2
            go_roundg k4
            case measure => have := HJ2.out; have := HK2.out; have := HK3.out; have := HK4.out; omega
            case rel => exact ⟨(false), (wrap64 (x12_4 + 1)), rr, rr, H', ⟨by have := HJ2.out; have := HK2.out; have := HK3.out; have := HK4.out; omega⟩, ⟨ro HO_6.out⟩, ⟨ro HO_604000.out⟩, ⟨bo BK592.out⟩, ⟨bo BK596.out⟩, ⟨bo BK603.out⟩, ⟨bw⟩⟩
           obtain ⟨ji38, hji38⟩ : ∃ j_ : Int, (wrap64 (x10_3 - x12_4)) = j_ := ⟨_, rfl⟩
           replace H : (if 0 ≤ (ji38) then (if (ji38) < (x6_2.length : Int) then (impl_FromGaps.l2 k4 l0 x6_2 x10_3 (!(rdOf false x6_2 (ji38))) (wrap64 (x12_4 + 1)) x604000_3) else (none)) else (none)) = some (r1, r2) := by first | (rw [hji38] at H; exact H) | (simp only [hji38] at H ⊢; exact H)
           have hji38w : (IntKind.i64.wrap (x10_3 - x12_4)) = ji38 := (i64_w _).trans hji38
           replace H := gd H; obtain ⟨c39b0, H⟩ := H
           replace H := gd H; obtain ⟨c40b0, H⟩ := H
           have H' := am H
           clear H
           obtain ⟨⟨ad605, e605, hx605_0⟩, p605, q605⟩ := pq (Kd.at_bool (Kd.R_reads' HO_6.out).2.2 x12_4)
           (try rw [← Nbq36.out] at hx605_0)
           obtain rfl : ad604 = ad605 := (by injection e605)
           obtain ⟨⟨ad606, e606, hx606_0⟩, p606, q606⟩ := pq (Kd.at_bool (Kd.R_reads' HO_6.out).2.2 (ji38))
           (try rw [← Nbq36.out] at hx606_0)
           obtain rfl : ad604 = ad606 := (by injection e606)
           go_wp2
           go_roundg k4
           case measure => have := HJ2.out; have := HK2.out; have := HK3.out; have := HK4.out; omega
           case rel => exact ⟨(!(rdOf false x6_2 (ji38))), (wrap64 (x12_4 + 1)), (by first | rfl | (simp; done) | (simp only [← hji38] <;> (first | rfl | simp)) | (simp [*]; done)), rr, H', ⟨by have := HJ2.out; have := HK2.out; have := HK3.out; have := HK4.out; omega⟩, ⟨ro HO_6.out⟩, ⟨ro HO_604000.out⟩, ⟨bo BK592.out⟩, ⟨bo BK596.out⟩, ⟨bo BK603.out⟩, ⟨bw⟩⟩
          replace H := gb H; obtain ⟨rfl, H⟩ | ⟨rfl, H⟩ := H
          ·have H' := am H
           clear H
           go_wp2
           go_roundg k4
           case measure => have := HJ2.out; have := HK2.out; have := HK3.out; have := HK4.out; omega
           case rel => exact ⟨(wrap64 (x10_3 + 1)), (x604000_3), (u604000), rr, H', ⟨by have := HJ2.out; have := HK2.out; have := HK3.out; have := HK4.out; omega⟩, ⟨ro HO_6.out⟩, ⟨ro HO_604000.out⟩, ⟨bo BK592.out⟩, ⟨bo BK596.out⟩, ⟨bo BK603.out⟩, ⟨bw⟩⟩
          by_cases c42 : x604000_3.length < 17592186044416
          rotate_left
          ·rw [if_neg c42] at H
           exact absurd H (by simp)
          rw [if_pos c42] at H
          have LMc42 := am c42
          clear c42
          obtain ⟨y607, hy607⟩ : ∃ y_ : List Int, y_ = (x604000_3 ++ [x10_3]) := ⟨_, rfl⟩
          replace H : (impl_FromGaps.l1 k4 l0 x6_2 (wrap64 (x10_3 + 1)) y607) = some (r1, r2) := by first | (rw [hy607]; with_reducible first | exact H | exact bs H) | (with_reducible first | exact bs H | exact H) | (rw [hy607]; exact H) | exact H
          have Ny607 := am hy607
          clear hy607
          have H' := am H
          clear H
          have hnb43 := NB603_592.out
          have hnc43 := NB592_603.out
          have hnb44 := NB603_596.out
          have hnc44 := NB596_603.out
          have hcz45_0 := bc BK603 0 (u604000)
          have hfz45_0 := blk_frozen BK603.out 0
          go_wp2_with (first | ((with_reducible refine gate_builtin (b := .append) (xs := #[.tmp 74, .tmp 76]) rfl ?_); at_builtin; refine Kd.R_append (Kd.int .i64) (w0 := w) w.heap.size rfl (.tmp 74) (.tmp 76) 24 3 (.int .i64 0) 8 rfl Try.underlying24 info3 rfl (by decide) (by omega) u604000 x604000_3 x10_3 [.int .i64 x10_3] (fun _ => True) (fun _ => False) rfl rfl ?aP (fun _ hk => hk.elim) ?aF ?aO ?aB ?aS ?aL ?_; (case aP => exact rfl); (case aB => exact bw); (case aF => exact (fun _ _ => trivial)); (case aO => exact (ro HO_604000.out)); (case aS => exact (below_size bw)); (case aL => have := LMc42.out; omega); intro v608 w46 ho hb hg hat; rw [← Ny607.out] at ho; replace HO_6 := am (Kd.R_over' (ro HO_6.out) (Kd.R_typed (ro HO_604000.out)) (by decide) hg); replace BK592 := am (blk_grown (g := gb592) (o := .cells #[.slice none 0 0] 26 (0, 0)) (bo BK592.out) hg (Kd.R_ne HO_604000.out BK592.out (by decide))); replace BK596 := am (blk_grown (g := gb596) (o := .cells #[.int .i64 t593, .int .i64 t594] 33 (0, 0)) (bo BK596.out) hg (Kd.R_ne HO_604000.out BK596.out (by decide))); replace BK603 := am (blk_grown (g := gb603) (o := .cells #[u604000] 26 (0, 0)) (bo BK603.out) hg (Kd.R_ne HO_604000.out BK603.out (by decide))); replace HB := am (hb); have HO609 := am (ho); clear HO_604000 ho hb hg hat; obtain ⟨Ao47, co47, eo47⟩ := Kd.R_slice HO609.out; subst eo47; have hcz48_0 := bc BK603 0 (u604000); have hfz48_0 := blk_frozen BK603.out 0))
          go_roundg k4
          case measure => have := HJ2.out; have := HK2.out; have := HK3.out; have := HK4.out; omega
          case rel => exact ⟨(wrap64 (x10_3 + 1)), (y607), (.slice Ao47 y607.length co47), rr, H', ⟨by have := HJ2.out; have := HK2.out; have := HK3.out; have := HK4.out; omega⟩, ⟨by (with_reducible repeat (first | apply Kd.R_alloc | apply Kd.R_drewN | apply Kd.R_drew)); exact Kd.R_mono (Kd.R_far (p := ⟨gb603, 0, none⟩) (Kd.R_types HO_6.out BK603.out (by decide)) (fun _ hk => hk.2) (.slice Ao47 y607.length co47)) (fun _ hk => trivial)⟩, ⟨by (with_reducible repeat (first | apply Kd.R_alloc | apply Kd.R_drewN | apply Kd.R_drew)); exact Kd.R_mono (Kd.R_far (p := ⟨gb603, 0, none⟩) (Kd.R_types HO609.out BK603.out (by decide)) (fun _ hk => hk.2) (.slice Ao47 y607.length co47)) (fun _ hk => trivial)⟩, ⟨bf BK592.out⟩, ⟨bf BK596.out⟩, ⟨by (with_reducible repeat (first | refine blk_drewN ?_ _ | refine blk_drew ?_ | refine blk_alloc ?_ _)); refine blk_put (cs := #[u604000]) ?_ 0 _ rfl; (with_reducible repeat (first | refine blk_drewN ?_ _ | refine blk_drew ?_ | refine blk_alloc ?_ _)); exact BK603.out⟩, ⟨bw⟩⟩
       replace H := ga H; obtain ⟨t610, A49, H⟩ := H
       replace H := gb H; obtain ⟨rfl, H⟩ | ⟨rfl, H⟩ := H
       ·replace H := ga H; obtain ⟨t611, A51, H⟩ := H
        replace H := ga H; obtain ⟨t614, A52, H⟩ := H
        replace H := gb H; obtain ⟨rfl, H⟩ | ⟨rfl, H⟩ := H
        ·simp only [Option.some.injEq, Prod.mk.injEq] at H
         obtain ⟨rfl, rfl⟩ := H
         obtain ⟨Ao54, co54, eo54⟩ := Kd.R_slice HO_6.out
         subst eo54
         have hnb55 := NB603_592.out
         have hnc55 := NB592_603.out
         have hnb56 := NB603_596.out
         have hnc56 := NB596_603.out
         have hcz57_0 := bc BK603 0 (u604000)
         have hfz57_0 := blk_frozen BK603.out 0
         obtain ⟨Ao58, co58, eo58⟩ := Kd.R_slice HO_604000.out
         subst eo58
         go_wp2_with (first | ((with_reducible refine gate_callee (f := 151) rfl ?_); refine gl (some 80) Try.func151 #[.agg #[.slice Ao58 x604000_3.length co58]] ?_; (with_reducible refine (impl_IsSemigroup.calls k3 _ _ x604000_3 true _ ?side1 ?side2 A49.out).mono ?_); (case side1 => exact co (Kd.R_reads' HO_604000.out).2.2); (case side2 => exact (Kd.R_reads' HO_604000.out).2.1); rintro e w59 ⟨rfl, hb⟩; refine ⟨_, rfl, ?_⟩; replace HO_6 := rK HO_6 hb; replace HO_604000 := rK HO_604000 hb; replace BK592 := kb BK592 hb; replace BK596 := kb BK596 hb; replace BK603 := kb BK603 hb; replace HB := am (below_step bw hb); clear hb; have hcz60_0 := bc BK603 0 (.slice Ao58 x604000_3.length co58); have hfz60_0 := blk_frozen BK603.out 0) | (go_at_call 90; (with_reducible refine (impl_Gaps.calls k3 _ _ x604000_3 t611 _ ?side1 ?side2 A51.out).mono ?_); (case side1 => exact co (Kd.R_reads' HO_604000.out).2.2); (case side2 => exact (Kd.R_reads' HO_604000.out).2.1); rintro e w61 ⟨v612, rfl, ho0, hb⟩; replace HO_6 := rK HO_6 hb; have HO613 := am (Kd.R_lower (Kd.R_new' ho0 (Kd.R_lt (ro HO_604000.out))) (below_size bw)); replace HO_604000 := am (Kd.R_elder' (ro HO_604000.out) (Kd.R_base ho0) hb); replace BK592 := kb BK592 hb; replace BK596 := kb BK596 hb; replace BK603 := kb BK603 hb; replace HB := am (below_step bw hb); clear hb ho0; obtain ⟨Ao62, co62, eo62⟩ := Kd.R_slice HO613.out; subst eo62) | (go_at_call 137; (with_reducible refine (slices_Equal_int_int.calls k3 _ _ t611 _ _ l0 true _ ?side1 ?side2 ?side3 ?side4 A52.out).mono ?_); (case side1 => exact co (Kd.R_reads' HO613.out).2.2); (case side2 => exact (Kd.R_reads' HO613.out).2.1); (case side3 => exact co (Kd.C_below HR0.out HB.out)); (case side4 => exact HC0.out); rintro e w' ⟨rfl, ⟨nd, rfl⟩⟩; (try (rw [drewN_self w61]; generalize hq_ : World.drewN w61 _ = w61; have n0_ : Aside0 (Kd.R (Kd.int .i64) 3 w61 w.heap.size (fun k_ => nb k_ Ao58 x604000_3 co58) (.slice Ao62 t611.length co62) t611) := ⟨by rw [← hq_]; exact (by (with_reducible repeat (first | apply Kd.R_alloc | apply Kd.R_drewN | apply Kd.R_drew)); exact Kd.R_mono HO613.out (fun _ hk => hk.2))⟩; have n1_ : Aside0 (Kd.R Kd.bool 4 w61 w.heap.size (fun _ => True) (.slice Ao54 x6_2.length co54) x6_2) := ⟨by rw [← hq_]; exact (ro HO_6.out)⟩; have n2_ : Aside0 (Kd.R (Kd.int .i64) 3 w61 w.heap.size (fun k_ => nb k_ Ao62 t611 co62) (.slice Ao58 x604000_3.length co58) x604000_3) := ⟨by rw [← hq_]; exact (by (with_reducible repeat (first | apply Kd.R_alloc | apply Kd.R_drewN | apply Kd.R_drew)); exact Kd.R_mono HO_604000.out (fun _ hk => hk.2))⟩; have n3_ : Aside0 (w61.heap[gb592]? = some (.cells #[.slice none 0 0] 26 (0, 0))) := ⟨by rw [← hq_]; exact (bo BK592.out)⟩; have n4_ : Aside0 (w61.heap[gb596]? = some (.cells #[.int .i64 t593, .int .i64 t594] 33 (0, 0))) := ⟨by rw [← hq_]; exact (bo BK596.out)⟩; have n5_ : Aside0 (w61.heap[gb603]? = some (.cells #[.slice Ao58 x604000_3.length co58] 26 (0, 0))) := ⟨by rw [← hq_]; exact (bo BK603.out)⟩; have n6_ : Aside0 (Below w.heap.size w w61) := ⟨by rw [← hq_]; exact bw⟩; clear HO613 HO_6 HO_604000 BK592 BK596 BK603 HB hq_; have HO613 := n0_; have HO_6 := n1_; have HO_604000 := n2_; have BK592 := n3_; have BK596 := n4_; have BK603 := n5_; have HB := n6_; clear n0_ n1_ n2_ n3_ n4_ n5_ n6_)); have hcz63_0 := bc BK603 0 (.slice Ao58 x604000_3.length co58); have hfz63_0 := blk_frozen BK603.out 0; have hnb64 := NB592_596.out; have hnc64 := NB596_592.out; have hcz65_0 := bc BK592 0 (.slice none 0 0); have hfz65_0 := blk_frozen BK592.out 0))
         refine bodyPost_ret (results_ct rfl _ _ gb592 26 #[.slice Ao58 x604000_3.length co58] (0, 0) _ rfl (by (with_reducible repeat (first | refine blk_drewN ?_ _ | refine blk_drew ?_ | refine blk_alloc ?_ _)); refine blk_put (cs := #[.slice none 0 0]) ?_ 0 _ rfl; (with_reducible repeat (first | refine blk_drewN ?_ _ | refine blk_drew ?_ | refine blk_alloc ?_ _)); exact BK592.out) Try.underlying26 rfl (by kernel_rfl)) rfl ?_
         exact ⟨_, re, by (with_reducible repeat (first | apply Kd.R_alloc | apply Kd.R_drewN | apply Kd.R_drew)); exact Kd.R_mono (Kd.R_far (p := ⟨gb592, 0, none⟩) (Kd.R_types HO_604000.out BK592.out (by decide)) (fun _ hk => hk.2) (.slice Ao58 x604000_3.length co58)) (fun _ hk => trivial), bw⟩
        simp only [Option.some.injEq, Prod.mk.injEq] at H
        obtain ⟨rfl, rfl⟩ := H
        obtain ⟨Ao66, co66, eo66⟩ := Kd.R_slice HO_6.out
        subst eo66
        have hnb67 := NB603_592.out
        have hnc67 := NB592_603.out
        have hnb68 := NB603_596.out
        have hnc68 := NB596_603.out
        have hcz69_0 := bc BK603 0 (u604000)
        have hfz69_0 := blk_frozen BK603.out 0
        obtain ⟨Ao70, co70, eo70⟩ := Kd.R_slice HO_604000.out
        subst eo70
        go_wp2_with (first | ((with_reducible refine gate_callee (f := 151) rfl ?_); refine gl (some 80) Try.func151 #[.agg #[.slice Ao70 x604000_3.length co70]] ?_; (with_reducible refine (impl_IsSemigroup.calls k3 _ _ x604000_3 true _ ?side1 ?side2 A49.out).mono ?_); (case side1 => exact co (Kd.R_reads' HO_604000.out).2.2); (case side2 => exact (Kd.R_reads' HO_604000.out).2.1); rintro e w71 ⟨rfl, hb⟩; refine ⟨_, rfl, ?_⟩; replace HO_6 := rK HO_6 hb; replace HO_604000 := rK HO_604000 hb; replace BK592 := kb BK592 hb; replace BK596 := kb BK596 hb; replace BK603 := kb BK603 hb; replace HB := am (below_step bw hb); clear hb; have hcz72_0 := bc BK603 0 (.slice Ao70 x604000_3.length co70); have hfz72_0 := blk_frozen BK603.out 0) | (go_at_call 90; (with_reducible refine (impl_Gaps.calls k3 _ _ x604000_3 t611 _ ?side1 ?side2 A51.out).mono ?_); (case side1 => exact co (Kd.R_reads' HO_604000.out).2.2); (case side2 => exact (Kd.R_reads' HO_604000.out).2.1); rintro e w73 ⟨v612, rfl, ho0, hb⟩; replace HO_6 := rK HO_6 hb; have HO613 := am (Kd.R_lower (Kd.R_new' ho0 (Kd.R_lt (ro HO_604000.out))) (below_size bw)); replace HO_604000 := am (Kd.R_elder' (ro HO_604000.out) (Kd.R_base ho0) hb); replace BK592 := kb BK592 hb; replace BK596 := kb BK596 hb; replace BK603 := kb BK603 hb; replace HB := am (below_step bw hb); clear hb ho0; obtain ⟨Ao74, co74, eo74⟩ := Kd.R_slice HO613.out; subst eo74) | (go_at_call 137; (with_reducible refine (slices_Equal_int_int.calls k3 _ _ t611 _ _ l0 false _ ?side1 ?side2 ?side3 ?side4 A52.out).mono ?_); (case side1 => exact co (Kd.R_reads' HO613.out).2.2); (case side2 => exact (Kd.R_reads' HO613.out).2.1); (case side3 => exact co (Kd.C_below HR0.out HB.out)); (case side4 => exact HC0.out); rintro e w' ⟨rfl, ⟨nd, rfl⟩⟩; (try (rw [drewN_self w73]; generalize hq_ : World.drewN w73 _ = w73; have n0_ : Aside0 (Kd.R (Kd.int .i64) 3 w73 w.heap.size (fun k_ => nb k_ Ao70 x604000_3 co70) (.slice Ao74 t611.length co74) t611) := ⟨by rw [← hq_]; exact (by (with_reducible repeat (first | apply Kd.R_alloc | apply Kd.R_drewN | apply Kd.R_drew)); exact Kd.R_mono HO613.out (fun _ hk => hk.2))⟩; have n1_ : Aside0 (Kd.R Kd.bool 4 w73 w.heap.size (fun _ => True) (.slice Ao66 x6_2.length co66) x6_2) := ⟨by rw [← hq_]; exact (ro HO_6.out)⟩; have n2_ : Aside0 (Kd.R (Kd.int .i64) 3 w73 w.heap.size (fun k_ => nb k_ Ao74 t611 co74) (.slice Ao70 x604000_3.length co70) x604000_3) := ⟨by rw [← hq_]; exact (by (with_reducible repeat (first | apply Kd.R_alloc | apply Kd.R_drewN | apply Kd.R_drew)); exact Kd.R_mono HO_604000.out (fun _ hk => hk.2))⟩; have n3_ : Aside0 (w73.heap[gb592]? = some (.cells #[.slice none 0 0] 26 (0, 0))) := ⟨by rw [← hq_]; exact (bo BK592.out)⟩; have n4_ : Aside0 (w73.heap[gb596]? = some (.cells #[.int .i64 t593, .int .i64 t594] 33 (0, 0))) := ⟨by rw [← hq_]; exact (bo BK596.out)⟩; have n5_ : Aside0 (w73.heap[gb603]? = some (.cells #[.slice Ao70 x604000_3.length co70] 26 (0, 0))) := ⟨by rw [← hq_]; exact (bo BK603.out)⟩; have n6_ : Aside0 (Below w.heap.size w w73) := ⟨by rw [← hq_]; exact bw⟩; clear HO613 HO_6 HO_604000 BK592 BK596 BK603 HB hq_; have HO613 := n0_; have HO_6 := n1_; have HO_604000 := n2_; have BK592 := n3_; have BK596 := n4_; have BK603 := n5_; have HB := n6_; clear n0_ n1_ n2_ n3_ n4_ n5_ n6_)); have hnb75 := NB592_596.out; have hnc75 := NB596_592.out; have hcz76_0 := bc BK592 0 (.slice none 0 0); have hfz76_0 := blk_frozen BK592.out 0))
        refine bodyPost_ret (results_ct rfl _ _ gb592 26 #[.slice none 0 0] (0, 0) _ rfl (by (with_reducible repeat (first | refine blk_drewN ?_ _ | refine blk_drew ?_ | refine blk_alloc ?_ _)); refine blk_put (cs := #[.slice none 0 0]) ?_ 0 _ rfl; (with_reducible repeat (first | refine blk_drewN ?_ _ | refine blk_drew ?_ | refine blk_alloc ?_ _)); exact BK592.out) Try.underlying26 rfl (by kernel_rfl)) rfl ?_
        exact ⟨_, re, by first | exact Kd.R_nil _ _ _ _ _ | exact Kd.N_nil _ _ _ _ _ | exact Kd.V_nil _ _ _ _ _ | exact Kd.Q_nil _ _ _ _ _ | exact Kd.S_nil _ _ _ _ _, bw⟩
       simp only [Option.some.injEq, Prod.mk.injEq] at H
       obtain ⟨rfl, rfl⟩ := H
       obtain ⟨Ao77, co77, eo77⟩ := Kd.R_slice HO_6.out
       subst eo77
       have hnb78 := NB603_592.out
       have hnc78 := NB592_603.out
       have hnb79 := NB603_596.out
       have hnc79 := NB596_603.out
       have hcz80_0 := bc BK603 0 (u604000)
       have hfz80_0 := blk_frozen BK603.out 0
       obtain ⟨Ao81, co81, eo81⟩ := Kd.R_slice HO_604000.out
       subst eo81
       go_wp2_with (first | ((with_reducible refine gate_callee (f := 151) rfl ?_); refine gl (some 80) Try.func151 #[.agg #[.slice Ao81 x604000_3.length co81]] ?_; (with_reducible refine (impl_IsSemigroup.calls k3 _ _ x604000_3 false _ ?side1 ?side2 A49.out).mono ?_); (case side1 => exact co (Kd.R_reads' HO_604000.out).2.2); (case side2 => exact (Kd.R_reads' HO_604000.out).2.1); rintro e w82 ⟨rfl, hb⟩; refine ⟨_, rfl, ?_⟩; replace HO_6 := rK HO_6 hb; replace HO_604000 := rK HO_604000 hb; replace BK592 := kb BK592 hb; replace BK596 := kb BK596 hb; replace BK603 := kb BK603 hb; replace HB := am (below_step bw hb); clear hb; have hnb83 := NB592_596.out; have hnc83 := NB596_592.out; have hcz84_0 := bc BK592 0 (.slice none 0 0); have hfz84_0 := blk_frozen BK592.out 0))
       refine bodyPost_ret (results_ct rfl _ _ gb592 26 #[.slice none 0 0] (0, 0) _ rfl (by (with_reducible repeat (first | refine blk_drewN ?_ _ | refine blk_drew ?_ | refine blk_alloc ?_ _)); refine blk_put (cs := #[.slice none 0 0]) ?_ 0 _ rfl; (with_reducible repeat (first | refine blk_drewN ?_ _ | refine blk_drew ?_ | refine blk_alloc ?_ _)); exact BK592.out) Try.underlying26 rfl (by kernel_rfl)) rfl ?_
       exact ⟨_, re, by first | exact Kd.R_nil _ _ _ _ _ | exact Kd.N_nil _ _ _ _ _ | exact Kd.V_nil _ _ _ _ _ | exact Kd.Q_nil _ _ _ _ _ | exact Kd.S_nil _ _ _ _ _, bw⟩

end Go.Proofs.Ytkfplkdchkmgbaa.C
