/- Contracts of functions of the program: spec_l3Minimal, spec_l3Ends, spec_IsSemigroup, spec_GenusOf, spec_HasNumber, spec_Gaps, spec_PseudoFrobenius, spec_l3Has. -/
import Derived.Test.YtlhcpbpcdicleaaC0
import Derived.Test.YtlhcpbpcdicleaaC2
import Derived.Test.YtlhcpbpcdicleaaC4
namespace Go.Proofs.Ytlhcpbpcdicleaa.C
open Go.RowKit Go.Proofs.YtlhcpbpcdicleaaW.PrintWords Go.Proofs.YtlhcpbpcdicleaaW.PrintLast Go.Proofs.YtlhcpbpcdicleaaW.PrintMore
attribute [local go_sem] max2_int min2_int max_two min_two max_three min_three max_four min_four
set_option linter.unusedVariables false
set_option linter.unusedSimpArgs false
set_option maxHeartbeats 8000000
set_option maxRecDepth 100000

/-! ### spec_l3Minimal: function 49 -/
def spec_l3Minimal.l0 : Nat → List Int → List Int → Int → Option (List Int)
 | 0, _, _, _ => none
 | k + 1, x3, x4, x5 => if x5 < (x4.length : Int) then (if x5 = 0 then (if 0 ≤ x5 then (if x3.length < 17592186044416 then (spec_l3Minimal.l0 k (x3 ++ [rd x4 x5]) x4 (wrap64 (x5 + 1))) else (none)) else (none)) else (if 0 ≤ x5 then (if x5 ≤ (x4.length : Int) then ((spec_l3Table.f k (x4.take (x5 : Int).toNat) (rd x4 x5)).bind fun t328 => (if 0 ≤ (rd x4 x5) then (if (rd x4 x5) < (t328.length : Int) then (if (rdOf false t328 (rd x4 x5) = true) then (spec_l3Minimal.l0 k x3 x4 (wrap64 (x5 + 1))) else (if x3.length < 17592186044416 then (spec_l3Minimal.l0 k (x3 ++ [rd x4 x5]) x4 (wrap64 (x5 + 1))) else (none))) else (none)) else (none))) else (none)) else (none))) else (some x3)
def spec_l3Minimal.f (k : Nat) (l0 : List Int) : Option (List Int) := (spec_SortList.f k l0).bind fun t316 => (spec_l3Minimal.l0 k (([] : List Int)) t316 0)
def spec_l3Minimal.T6 : Bool × List (List Nat × List Nat) := (true, [([], []), ([0], [0]), ([1], [1]), ([2], [2]), ([2], [2]), ([3, 4, 2], [2, 3, 4]), ([2], [2]), ([2], [2]), ([6, 7, 2], [2, 6, 7]), ([8, 2], [2, 8]), ([5, 9, 2, 2], [2, 5, 9]), ([2], [2]), ([2], [2]), ([11, 12, 2], [2, 11, 12]), ([13, 2], [2, 13]), ([10, 14, 2], [2, 10, 14]), ([15, 2], [2, 15]), ([16, 2], [2, 16]), ([2, 17], [2, 17])])
def spec_l3Minimal.B6 : List Nat := [0, 1, 3, 7, 7, 31, 7, 7, 199, 455, 1023, 7, 7, 6151, 14343, 32767, 65535, 131071, 262143]
theorem spec_l3Minimal.tab6 : rtab .any (opsOf Try.f49 6) = spec_l3Minimal.T6 := by kernel_rfl
theorem spec_l3Minimal.bits6 : waitsOk spec_l3Minimal.T6.2 spec_l3Minimal.B6 = true := by kernel_rfl
theorem spec_l3Minimal.calls (k : Nat) (A0 : Option Addr) (c0 : Nat) (l0 : List Int) (r : List Int) (w : World) (hr0 : Kd.C (Kd.int .i64) w A0 l0.length l0) (hc0 : l0.length ≤ c0) (h : spec_l3Minimal.f k l0 = some r) :
  Calls Try.prog 49 #[.slice A0 l0.length c0] w fun e w' => ∃ v0_ : Value, e = .returned (v0_) ∧ Kd.R (Kd.int .i64) 3 w' w.heap.size (fun _ => True) v0_ r ∧ Below w.heap.size w w' := by
 have HR0 := am hr0
 have HC0 := am hc0
 clear hr0 hc0
 have HB := am (Below.refl w.heap.size w)
 unfold spec_l3Minimal.f at h
 have H := h
 clear h
 obtain ⟨y313, hy313⟩ : ∃ y_ : List Int, y_ = (([] : List Int)) := ⟨_, rfl⟩
 replace H : ((spec_SortList.f k l0).bind fun t316 => (spec_l3Minimal.l0 k y313 t316 0)) = some r := by first | (rw [hy313]; with_reducible first | exact H | exact bs H) | (with_reducible first | exact bs H | exact H) | (rw [hy313]; exact H) | exact H
 have Ny313 := am hy313
 clear hy313
 replace H := ga H; obtain ⟨t316, A2, H⟩ := H
 have H' := am H
 clear H
 go_enter Try.func49, Try.ntmps49
 go_wp2_with (first | ((with_reducible refine gate_dst (N := 6) rfl ?_); refine Kd.R_lit (Kd.int .i64) _ 3 ?hg (N := 6) ?hd (xs := ([] : List Int)) (inner := []) (ok := fun _ => True) (okp := fun _ => True) ?hr ?hp (fun _ hk => hk) trivial (Below.refl _ _) (Nat.le_refl _) (by simp) ?_; (case hd => rfl); (case hg => rfl); (case hr => first | (go_simp; done) | (go_simp; rfl)); (case hp => exact (Reps.none _ _)); intro v314 w3 ho4 hb hg_ hnew_; clear hg_ hnew_; (first | rw [← Ny313.out] at ho4 | (simp only [Int.reduceToNat] at ho4; rw [← Ny313.out] at ho4)); have HO315 := am (Kd.R_lower ho4 (below_size bw)); replace HB := am (below_step bw hb); clear hb ho4) | ((with_reducible refine gate_callee (f := 24) rfl ?_); refine gl (some 8) Try.func24 #[.slice A0 l0.length c0] ?_; (with_reducible refine (spec_SortList.calls k _ _ l0 t316 _ ?side1 ?side2 A2.out).mono ?_); (case side1 => exact co (Kd.C_below HR0.out HB.out)); (case side2 => exact HC0.out); rintro e w5 ⟨v317, rfl, ho0, hb⟩; refine ⟨_, rfl, ?_⟩; have HO318 := am (Kd.R_lower (Kd.R_new' ho0 (Kd.R_lt (ro HO315.out))) (below_size bw)); replace HO315 := am (Kd.R_elder' (ro HO315.out) (Kd.R_base ho0) hb); replace HB := am (below_step bw hb); clear hb ho0))
 go_loopg [3, 5] k (fun kq v3 v5 w' => ∃ (x3_1 : List Int) (x5_1 : Int), v5 = .int .i64 x5_1 ∧ Aside0 (spec_l3Minimal.l0 kq x3_1 t316 x5_1 = some r) ∧ Aside0 (kq ≤ k) ∧ Aside0 (Kd.R (Kd.int .i64) 3 w' w.heap.size (fun k_ => some k_ ≠ (v317 : Value).ownBlock) v3 x3_1) ∧ Aside0 (Kd.R (Kd.int .i64) 3 w' w.heap.size (fun k_ => some k_ ≠ (v3 : Value).ownBlock) v317 t316) ∧ Aside0 (Below w.heap.size w w'))
 case atStart => exact ⟨(y313), (0), rr, H', ⟨Nat.le_refl _⟩, ⟨rM HO315.out (fun _ hk => hk.2)⟩, ⟨rM HO318.out (fun _ hk => hk.2)⟩, ⟨bw⟩⟩
 case round =>
  clear H'
  obtain ⟨x3_1, x5_1, rfl, HA, HK1, HO_3, HO_4, HB⟩ := hrel
  cases gk with
  | zero => exact absurd HA.out (by simp [spec_l3Minimal.l0])
  | succ k1 =>
   have H := HA.out
   clear HA
   simp only [spec_l3Minimal.l0] at H
   replace H := gi H; obtain ⟨c6b0, H⟩ | ⟨c6b0, H⟩ := H
   ·by_cases c7 : x5_1 = 0
    ·rw [if_pos c7] at H
     have c7b0 : (x5_1 == 0) = true := beq_iff_eq.mpr c7
     have c7b1 : (x5_1 != 0) = false := bne_eq_false_iff_eq.mpr c7
     clear c7
     replace H := gd H; obtain ⟨c8b0, H⟩ := H
     by_cases c9 : x3_1.length < 17592186044416
     rotate_left
     ·rw [if_neg c9] at H
      exact absurd H (by simp)
     rw [if_pos c9] at H
     have LMc9 := am c9
     clear c9
     obtain ⟨y320, hy320⟩ : ∃ y_ : List Int, y_ = (x3_1 ++ [rd t316 x5_1]) := ⟨_, rfl⟩
     replace H : (spec_l3Minimal.l0 k1 y320 t316 (wrap64 (x5_1 + 1))) = some r := by first | (rw [hy320]; with_reducible first | exact H | exact bs H) | (with_reducible first | exact bs H | exact H) | (rw [hy320]; exact H) | exact H
     have Ny320 := am hy320
     clear hy320
     have H' := am H
     clear H
     obtain ⟨Ao10, co10, eo10⟩ := Kd.R_slice HO_4.out
     subst eo10
     try go_wp2
     replace HO_3 := am (Kd.R_drew HO_3.out)
     replace HO_4 := am (Kd.R_drew HO_4.out)
     replace HB := am (below_drew1 HB.out)
     refine start_ (n := 19) (S := fun w' => True) (ds := []) (yz 19 0) (by kernel_rfl) rfl rfl trivial (fun hHeld => ?_); refine with_tabW spec_l3Minimal.tab6 spec_l3Minimal.bits6 (fun HT_ HW_ => ?_)
     generalize wr.drew = w11 at HO_3 HO_4 HB hHeld ⊢
     refine pa 0 (some 15) (yz 19 1) HT_ ?_
     refine pa 1 (some 16) (yz 19 3) HT_ ?_
     refine pa 2 (some 17) (yz 19 7) HT_ ?_
     refine pu 3 (some 18) (yz 19 15) HT_ ?_
     refine pu 4 (some 19) (yz 19 31) HT_ ?_
     refine pu 5 (some 20) (yz 19 63) HT_ ?_
     refine pu 6 (some 21) (yz 19 127) HT_ ?_
     refine pu 7 (some 22) (yz 19 255) HT_ ?_
     refine pu 8 (some 23) (yz 19 511) HT_ ?_
     refine pu 9 (some 24) (yz 19 1023) HT_ ?_
     refine pu 10 (some 25) (yz 19 2047) HT_ ?_
     refine pu 11 (some 26) (yz 19 4095) HT_ ?_
     refine pu 12 (some 27) (yz 19 8191) HT_ ?_
     refine pu 13 (some 28) (yz 19 16383) HT_ ?_
     refine pu 14 (some 29) (yz 19 32767) HT_ ?_
     refine pu 15 (some 30) (yz 19 65535) HT_ ?_
     refine pu 16 (some 31) (yz 19 131071) HT_ ?_
     refine pu 17 (some 32) (yz 19 262143) HT_ ?_
     refine pa 18 (some 33) (yz 19 524287) HT_ ?_
     refine done_ (done_of HT_.out (by kernel_rfl)) ?_
     obtain ⟨⟨ad319, e319, hx319_0⟩, p319, q319⟩ := pq (Kd.at_int (Kd.R_reads' HO_4.out).2.2 x5_1)
     cases e319
     try go_wp2_with (first | ((with_reducible refine gate_builtin (b := .append) (xs := #[.tmp 34, .tmp 39]) rfl ?_); at_builtin; refine Kd.R_append (Kd.int .i64) (w0 := w) w.heap.size rfl (.tmp 34) (.tmp 39) 22 3 (.int .i64 0) 8 rfl Try.underlying22 info3 rfl (by decide) (by omega) u3 x3_1 (rd t316 x5_1) [.int .i64 (rd t316 x5_1)] (fun k_ => some k_ ≠ (.slice (some ad319) t316.length co10 : Value).ownBlock) (fun _ => False) rfl rfl ?aP (fun _ hk => hk.elim) ?aF ?aO ?aB ?aS ?aL ?_; (case aP => exact rfl); (case aB => exact bw); (case aF => exact (fun k_ hk => Kd.fresh' (Kd.R_lt (ro HO_4.out)) k_ hk)); (case aO => exact (ro HO_3.out)); (case aS => exact (below_size bw)); (case aL => have := LMc9.out; omega); intro v321 w12 ho hb hg hat; rw [← Ny320.out] at ho; replace HO_4 := am (Kd.R_after (ok := (fun _ => True)) (rM HO_4.out (fun _ hk => ⟨trivial, by first | exact hk | exact (by intro a n m c x h; cases a <;> exact h : ∀ (a : Option Addr) (n m c x : Nat), some x ≠ (Value.slice a n c).ownBlock → some x ≠ (Value.slice a m c).ownBlock) _ _ _ _ _ hk⟩)) hg hat); replace HB := am (hb); have HO322 := am (ho); clear HO_3 ho hb hg hat))
     go_roundg k1
     case measure => have := HK1.out; omega
     case rel => exact ⟨(y320), (wrap64 (x5_1 + 1)), rr, H', ⟨by have := HK1.out; omega⟩, ⟨ro HO322.out⟩, ⟨rM HO_4.out (fun _ hk => hk.2)⟩, ⟨bw⟩⟩
    rw [if_neg c7] at H
    have c7b0 : (x5_1 == 0) = false := beq_eq_false_iff_ne.mpr c7
    have c7b1 : (x5_1 != 0) = true := bne_iff_ne.mpr c7
    replace H := gp H; obtain ⟨c13, H⟩ := H
    have c13b0 := eq_true c13
    have c13b1 : decide (0 ≤ x5_1) = true := decide_eq_true c13
    clear c13
    replace H := gp H; obtain ⟨c14, H⟩ := H
    have c14b0 := eq_true c14
    have c14b1 : decide (x5_1 ≤ (t316.length : Int)) = true := decide_eq_true c14
    clear c14
    obtain ⟨y323, hy323⟩ : ∃ y_ : List Int, y_ = (t316.take (x5_1 : Int).toNat) := ⟨_, rfl⟩
    replace H : ((spec_l3Table.f k1 y323 (rd t316 x5_1)).bind fun t328 => (if 0 ≤ (rd t316 x5_1) then (if (rd t316 x5_1) < (t328.length : Int) then (if (rdOf false t328 (rd t316 x5_1) = true) then (spec_l3Minimal.l0 k1 x3_1 t316 (wrap64 (x5_1 + 1))) else (if x3_1.length < 17592186044416 then (spec_l3Minimal.l0 k1 (x3_1 ++ [rd t316 x5_1]) t316 (wrap64 (x5_1 + 1))) else (none))) else (none)) else (none))) = some r := by first | (rw [hy323]; with_reducible first | exact H | exact bs H) | (with_reducible first | exact bs H | exact H) | (rw [hy323]; exact H) | exact H
    have Ny323 := am hy323
    clear hy323
    replace H := ga H; obtain ⟨t328, A15, H⟩ := H
    replace H := gd H; obtain ⟨c16b0, H⟩ := H
    replace H := gd H; obtain ⟨c17b0, H⟩ := H
    obtain ⟨bq18, hbq18⟩ : ∃ b_ : Bool, b_ = (rdOf false t328 (rd t316 x5_1)) := ⟨_, rfl⟩
    replace H : (if (bq18 = true) then (spec_l3Minimal.l0 k1 x3_1 t316 (wrap64 (x5_1 + 1))) else (if x3_1.length < 17592186044416 then (spec_l3Minimal.l0 k1 (x3_1 ++ [rd t316 x5_1]) t316 (wrap64 (x5_1 + 1))) else (none))) = some r := by rw [← hbq18] at H; exact H
    have Nbq18 := am hbq18
    clear hbq18
    by_cases c19 : (bq18 = true)
    ·subst c19
     have H1 : (spec_l3Minimal.l0 k1 x3_1 t316 (wrap64 (x5_1 + 1))) = some r := by rw [if_pos rfl] at H; exact H
     clear H
     have H := H1
     clear H1
     have H' := am H
     clear H
     obtain ⟨Ao20, co20, eo20⟩ := Kd.R_slice HO_4.out
     subst eo20
     try go_wp2
     replace HO_3 := am (Kd.R_drew HO_3.out)
     replace HO_4 := am (Kd.R_drew HO_4.out)
     replace HB := am (below_drew1 HB.out)
     have q22 : (x5_1 : Int) ≤ ((t316.length : Int) : Int) := od
     obtain ⟨i022, hi022, _, hsz22, _⟩ := info_parts info3
     have hroom22 : t316.length ≤ co20 := (Kd.R_reads' HO_4.out).2.1
     have hC22 : Kd.C (Kd.int .i64) _ Ao20 t316.length t316 := (Kd.R_reads' HO_4.out).2.2
     have hcut22 := cut_to (P := Try.prog) 22 3 .i64 Try.underlying22 hi022 Ao20 t316.length co20 x5_1 (od) q22 hroom22
     have hr22 := Kd.C_take (m := (x5_1 : Int).toNat) hC22 (by omega)
     have hy22 : y323.length = (x5_1 : Int).toNat := (by rw [Ny323.out, List.length_take]; omega)
     rw [← Ny323.out] at hr22
     rw [← hy22] at hcut22
     have HR326 := am hr22
     have HC326 := am (show y323.length ≤ co20 from by omega)
     clear hr22 hC22 hroom22 hi022 hsz22
     have KY22 := am hy22
     clear hy22
     have KL22 := am (show (x5_1 : Int).toNat ≤ t316.length from by omega)
     replace q22 := eq_true q22
     obtain ⟨⟨ad327, e327, hx327_0⟩, p327, q327⟩ := pq (Kd.at_int (Kd.R_reads' HO_4.out).2.2 x5_1)
     cases e327
     obtain ⟨⟨ad331, e331, hx331_0⟩, p331, q331⟩ := pq (Kd.at_int (Kd.R_reads' HO_4.out).2.2 x5_1)
     obtain rfl : ad327 = ad331 := (by injection e331)
     refine start_ (n := 19) (S := fun w' => w'.cell? (ad327.add (x5_1).toNat) = some (.int .i64 (rd t316 x5_1)) ∧ w'.cell? (ad327.add (x5_1).toNat) = some (.int .i64 (rd t316 x5_1))) (ds := []) (yz 19 0) (by kernel_rfl) rfl rfl ⟨hx327_0, hx331_0⟩ (fun hHeld => ?_); refine with_tabW spec_l3Minimal.tab6 spec_l3Minimal.bits6 (fun HT_ HW_ => ?_)
     generalize wr.drew = w21 at HO_3 HO_4 HB HR326 hx327_0 hx331_0 hHeld ⊢
     refine pa 0 (some 15) (yz 19 1) HT_ ?_
     refine pa 1 (some 16) (yz 19 3) HT_ ?_
     refine pa 2 (some 17) (yz 19 7) HT_ ?_
     refine pa 3 (some 18) (yz 19 15) HT_ ?_
     refine pa 4 (some 19) (yz 19 31) HT_ ?_
     refine pa 5 (some 20) (yz 19 63) HT_ ?_
     refine pa 6 (some 21) (yz 19 127) HT_ ?_
     refine pa 7 (some 22) (yz 19 255) HT_ ?_
     refine pa 8 (some 23) (yz 19 511) HT_ ?_
     refine pa 11 (some 26) (yz 19 2559) HT_ ?_
     refine pa 12 (some 27) (yz 19 6655) HT_ ?_
     refine pa 13 (some 28) (yz 19 14847) HT_ ?_
     refine tk 9 (some 24) (yz 19 15359) HT_ HW_ hHeld ?_
     refine tk 14 (some 29) (yz 19 31743) HT_ HW_ hHeld ?_
     refine oa 10 (some 25) (yz 19 32767) HT_ (fun K hK => ?_)
     refine gm Try.func53 #[.slice (some ad327) y323.length co20, .int .i64 (rd t316 x5_1)] ?_
     with_reducible refine (spec_l3Table.calls k1 _ _ y323 (rd t316 x5_1) t328 _ ?side1 ?side2 A15.out).mono ?_
     (case side1 => exact co HR326.out)
     (case side2 => exact HC326.out)
     rintro e w23 ⟨v329, rfl, ho0, hb⟩
     have HS0_ := (hb.cell (World.block_lt_of_cell? _ _ (hHeld.1))).trans (hHeld.1)
     have HS1_ := (hb.cell (World.block_lt_of_cell? _ _ (hHeld.2))).trans (hHeld.2)
     refine ⟨_, rfl, ?_⟩
     replace HO_3 := rK HO_3 hb
     replace HO_4 := rK HO_4 hb
     have HO330 := am (Kd.R_lower ho0 (below_size bw))
     replace HR326 := am (Kd.C_below (co HR326.out) hb)
     replace HB := am (below_step bw hb)
     clear hb ho0
     obtain ⟨Ao24, co24, eo24⟩ := Kd.R_slice HO330.out
     (first | subst eo24 | (injection eo24 with f1_ f2_ f3_; have f4_ := f1_.symm; have f5_ := f3_.symm; clear f1_ f2_ f3_; subst f4_; subst f5_))
     obtain ⟨⟨ad332, e332, hx332_0⟩, p332, q332⟩ := pq (Kd.at_bool (Kd.R_reads' HO330.out).2.2 (rd t316 x5_1))
     (try rw [← Nbq18.out] at hx332_0)
     cases e332
     refine hK.out _ _ ⟨HS0_, HS1_⟩ (fun hHeld => ?_)
     clear hK K
     refine nm (some 25) ?_
     refine pa 15 (some 30) (yz 19 65535) HT_ ?_
     refine oa 16 (some 31) (yz 19 131071) HT_ (fun K hK => ?_)
     refine value_ (w1 := ?_) (v := ?_) (by rfl) rfl ?_ ?_
     rotate_left 2
     ·go_simp
      constructor
      ·rfl
      rfl
     refine hK.out _ _ hHeld (fun hHeld => ?_)
     clear hK K
     refine nm (some 31) ?_
     refine pa 17 (some 32) (yz 19 262143) HT_ ?_
     refine pa 18 (some 33) (yz 19 524287) HT_ ?_
     refine done_ (done_of HT_.out (by kernel_rfl)) ?_
     try go_wp2
     go_roundg k1
     case measure => have := HK1.out; omega
     case rel => exact ⟨(x3_1), (wrap64 (x5_1 + 1)), rr, H', ⟨by have := HK1.out; omega⟩, ⟨ro HO_3.out⟩, ⟨ro HO_4.out⟩, ⟨bw⟩⟩
    replace c19 := Bool.eq_false_iff.mpr c19
    subst c19
    have H1 : (if x3_1.length < 17592186044416 then (spec_l3Minimal.l0 k1 (x3_1 ++ [rd t316 x5_1]) t316 (wrap64 (x5_1 + 1))) else (none)) = some r := by rw [if_neg (show ¬ (false = true) by decide)] at H; exact H
    clear H
    have H := H1
    clear H1
    by_cases c25 : x3_1.length < 17592186044416
    rotate_left
    ·rw [if_neg c25] at H
     exact absurd H (by simp)
    rw [if_pos c25] at H
    have LMc25 := am c25
    clear c25
    obtain ⟨y334, hy334⟩ : ∃ y_ : List Int, y_ = (x3_1 ++ [rd t316 x5_1]) := ⟨_, rfl⟩
    replace H : (spec_l3Minimal.l0 k1 y334 t316 (wrap64 (x5_1 + 1))) = some r := by first | (rw [hy334]; with_reducible first | exact H | exact bs H) | (with_reducible first | exact bs H | exact H) | (rw [hy334]; exact H) | exact H
    have Ny334 := am hy334
    clear hy334
    have H' := am H
    clear H
    obtain ⟨Ao26, co26, eo26⟩ := Kd.R_slice HO_4.out
    subst eo26
    try go_wp2
    replace HO_3 := am (Kd.R_drew HO_3.out)
    replace HO_4 := am (Kd.R_drew HO_4.out)
    replace HB := am (below_drew1 HB.out)
    have q28 : (x5_1 : Int) ≤ ((t316.length : Int) : Int) := od
    obtain ⟨i028, hi028, _, hsz28, _⟩ := info_parts info3
    have hroom28 : t316.length ≤ co26 := (Kd.R_reads' HO_4.out).2.1
    have hC28 : Kd.C (Kd.int .i64) _ Ao26 t316.length t316 := (Kd.R_reads' HO_4.out).2.2
    have hcut28 := cut_to (P := Try.prog) 22 3 .i64 Try.underlying22 hi028 Ao26 t316.length co26 x5_1 (od) q28 hroom28
    have hr28 := Kd.C_take (m := (x5_1 : Int).toNat) hC28 (by omega)
    have hy28 : y323.length = (x5_1 : Int).toNat := (by rw [Ny323.out, List.length_take]; omega)
    rw [← Ny323.out] at hr28
    rw [← hy28] at hcut28
    have HR326 := am hr28
    have HC326 := am (show y323.length ≤ co26 from by omega)
    clear hr28 hC28 hroom28 hi028 hsz28
    have KY28 := am hy28
    clear hy28
    have KL28 := am (show (x5_1 : Int).toNat ≤ t316.length from by omega)
    replace q28 := eq_true q28
    obtain ⟨⟨ad327, e327, hx327_0⟩, p327, q327⟩ := pq (Kd.at_int (Kd.R_reads' HO_4.out).2.2 x5_1)
    cases e327
    obtain ⟨⟨ad331, e331, hx331_0⟩, p331, q331⟩ := pq (Kd.at_int (Kd.R_reads' HO_4.out).2.2 x5_1)
    obtain rfl : ad327 = ad331 := (by injection e331)
    refine start_ (n := 19) (S := fun w' => w'.cell? (ad327.add (x5_1).toNat) = some (.int .i64 (rd t316 x5_1)) ∧ w'.cell? (ad327.add (x5_1).toNat) = some (.int .i64 (rd t316 x5_1))) (ds := []) (yz 19 0) (by kernel_rfl) rfl rfl ⟨hx327_0, hx331_0⟩ (fun hHeld => ?_); refine with_tabW spec_l3Minimal.tab6 spec_l3Minimal.bits6 (fun HT_ HW_ => ?_)
    generalize wr.drew = w27 at HO_3 HO_4 HB HR326 hx327_0 hx331_0 hHeld ⊢
    refine pa 0 (some 15) (yz 19 1) HT_ ?_
    refine pa 1 (some 16) (yz 19 3) HT_ ?_
    refine pa 2 (some 17) (yz 19 7) HT_ ?_
    refine pa 3 (some 18) (yz 19 15) HT_ ?_
    refine pa 4 (some 19) (yz 19 31) HT_ ?_
    refine pa 5 (some 20) (yz 19 63) HT_ ?_
    refine pa 6 (some 21) (yz 19 127) HT_ ?_
    refine pa 7 (some 22) (yz 19 255) HT_ ?_
    refine pa 8 (some 23) (yz 19 511) HT_ ?_
    refine pa 11 (some 26) (yz 19 2559) HT_ ?_
    refine pa 12 (some 27) (yz 19 6655) HT_ ?_
    refine pa 13 (some 28) (yz 19 14847) HT_ ?_
    refine tk 9 (some 24) (yz 19 15359) HT_ HW_ hHeld ?_
    refine tk 14 (some 29) (yz 19 31743) HT_ HW_ hHeld ?_
    refine oa 10 (some 25) (yz 19 32767) HT_ (fun K hK => ?_)
    refine gm Try.func53 #[.slice (some ad327) y323.length co26, .int .i64 (rd t316 x5_1)] ?_
    with_reducible refine (spec_l3Table.calls k1 _ _ y323 (rd t316 x5_1) t328 _ ?side1 ?side2 A15.out).mono ?_
    (case side1 => exact co HR326.out)
    (case side2 => exact HC326.out)
    rintro e w29 ⟨v329, rfl, ho0, hb⟩
    have HS0_ := (hb.cell (World.block_lt_of_cell? _ _ (hHeld.1))).trans (hHeld.1)
    have HS1_ := (hb.cell (World.block_lt_of_cell? _ _ (hHeld.2))).trans (hHeld.2)
    refine ⟨_, rfl, ?_⟩
    replace HO_3 := rK HO_3 hb
    replace HO_4 := rK HO_4 hb
    have HO330 := am (Kd.R_lower ho0 (below_size bw))
    replace HR326 := am (Kd.C_below (co HR326.out) hb)
    replace HB := am (below_step bw hb)
    clear hb ho0
    obtain ⟨Ao30, co30, eo30⟩ := Kd.R_slice HO330.out
    (first | subst eo30 | (injection eo30 with f1_ f2_ f3_; have f4_ := f1_.symm; have f5_ := f3_.symm; clear f1_ f2_ f3_; subst f4_; subst f5_))
    obtain ⟨⟨ad332, e332, hx332_0⟩, p332, q332⟩ := pq (Kd.at_bool (Kd.R_reads' HO330.out).2.2 (rd t316 x5_1))
    (try rw [← Nbq18.out] at hx332_0)
    cases e332
    refine hK.out _ _ ⟨HS0_, HS1_⟩ (fun hHeld => ?_)
    clear hK K
    refine nm (some 25) ?_
    refine pa 15 (some 30) (yz 19 65535) HT_ ?_
    refine oa 16 (some 31) (yz 19 131071) HT_ (fun K hK => ?_)
    refine value_ (w1 := ?_) (v := ?_) (by rfl) rfl ?_ ?_
    rotate_left 2
    ·go_simp
     constructor
     ·rfl
     rfl
    refine hK.out _ _ hHeld (fun hHeld => ?_)
    clear hK K
    refine nm (some 31) ?_
    refine pa 17 (some 32) (yz 19 262143) HT_ ?_
    refine pa 18 (some 33) (yz 19 524287) HT_ ?_
    refine done_ (done_of HT_.out (by kernel_rfl)) ?_
    obtain ⟨⟨ad333, e333, hx333_0⟩, p333, q333⟩ := pq (Kd.at_int (Kd.R_reads' HO_4.out).2.2 x5_1)
    obtain rfl : ad327 = ad333 := (by injection e333)
    try go_wp2_with (first | ((with_reducible refine gate_builtin (b := .append) (xs := #[.tmp 34, .tmp 39]) rfl ?_); at_builtin; refine Kd.R_append (Kd.int .i64) (w0 := w) w.heap.size rfl (.tmp 34) (.tmp 39) 22 3 (.int .i64 0) 8 rfl Try.underlying22 info3 rfl (by decide) (by omega) u3 x3_1 (rd t316 x5_1) [.int .i64 (rd t316 x5_1)] (fun k_ => some k_ ≠ (.slice (some ad327) t316.length co26 : Value).ownBlock) (fun _ => False) rfl rfl ?aP (fun _ hk => hk.elim) ?aF ?aO ?aB ?aS ?aL ?_; (case aP => exact rfl); (case aB => exact bw); (case aF => exact (fun k_ hk => Kd.fresh' (Kd.R_lt (ro HO_4.out)) k_ hk)); (case aO => exact (ro HO_3.out)); (case aS => exact (below_size bw)); (case aL => have := LMc25.out; omega); intro v335 w31 ho hb hg hat; rw [← Ny334.out] at ho; replace HO330 := am (Kd.R_over' (ro HO330.out) (Kd.R_typed (ro HO_3.out)) (by decide) hg); replace HB := am (hb); replace HR326 := am ((show Kd.C (Kd.int .i64) w31 (some ad327) y323.length y323 from by rw [Ny323.out]; exact Kd.C_take (m := (x5_1 : Int).toNat) ((Kd.R_reads' (Kd.R_after (ok := (fun _ => True)) (rM HO_4.out (fun _ hk => ⟨trivial, by first | exact hk | exact (by intro a n m c x h; cases a <;> exact h : ∀ (a : Option Addr) (n m c x : Nat), some x ≠ (Value.slice a n c).ownBlock → some x ≠ (Value.slice a m c).ownBlock) _ _ _ _ _ hk⟩)) hg hat)).2.2) KL28.out)); replace HO_4 := am (Kd.R_after (ok := (fun _ => True)) (rM HO_4.out (fun _ hk => ⟨trivial, by first | exact hk | exact (by intro a n m c x h; cases a <;> exact h : ∀ (a : Option Addr) (n m c x : Nat), some x ≠ (Value.slice a n c).ownBlock → some x ≠ (Value.slice a m c).ownBlock) _ _ _ _ _ hk⟩)) hg hat); have HO336 := am (ho); clear HO_3 ho hb hg hat))
    go_roundg k1
    case measure => have := HK1.out; omega
    case rel => exact ⟨(y334), (wrap64 (x5_1 + 1)), rr, H', ⟨by have := HK1.out; omega⟩, ⟨ro HO336.out⟩, ⟨rM HO_4.out (fun _ hk => hk.2)⟩, ⟨bw⟩⟩
   obtain rfl := Option.some.inj H
   obtain ⟨Ao32, co32, eo32⟩ := Kd.R_slice HO_4.out
   subst eo32
   go_wp2
   go_ret
   exact ⟨_, re, rM HO_3.out (fun _ hk => trivial), bw⟩


/-! ### spec_l3Ends: function 50 -/
def spec_l3Ends.l0 : Nat → List Int → List Bool → Int → Option (Bool)
 | 0, _, _, _ => none
 | k + 1, x0, x3, x4 => if 0 < (x0.length : Int) then (if x4 < (wrap64 (200 + (rd x0 0))) then (if 0 ≤ x4 then (if x4 < (x3.length : Int) then (if rdOf false x3 x4 = true then (spec_l3Ends.l0 k x0 x3 (wrap64 (x4 + 1))) else (some false)) else (none)) else (none)) else (some true)) else (none)
def spec_l3Ends.f (k : Nat) (l0 : List Int) : Option (Bool) := (spec_l3Table.f k l0 260).bind fun t337 => (spec_l3Ends.l0 k l0 t337 200)
theorem spec_l3Ends.calls (k : Nat) (A0 : Option Addr) (c0 : Nat) (l0 : List Int) (r : Bool) (w : World) (hr0 : Kd.C (Kd.int .i64) w A0 l0.length l0) (hc0 : l0.length ≤ c0) (h : spec_l3Ends.f k l0 = some r) :
  Calls Try.prog 50 #[.slice A0 l0.length c0] w fun e w' => e = .returned (.bool r) ∧ Below w.heap.size w w' := by
 have HR0 := am hr0
 have HC0 := am hc0
 clear hr0 hc0
 have HB := am (Below.refl w.heap.size w)
 unfold spec_l3Ends.f at h
 have H := h
 clear h
 replace H := ga H; obtain ⟨t337, A2, H⟩ := H
 have H' := am H
 clear H
 go_enter Try.func50, Try.ntmps50
 go_wp2_with (first | ((with_reducible refine gate_callee (f := 53) rfl ?_); refine gl (some 6) Try.func53 #[.slice A0 l0.length c0, .int .i64 260] ?_; (with_reducible refine (spec_l3Table.calls k _ _ l0 260 t337 _ ?side1 ?side2 A2.out).mono ?_); (case side1 => exact co HR0.out); (case side2 => exact HC0.out); rintro e w3 ⟨v338, rfl, ho0, hb⟩; refine ⟨_, rfl, ?_⟩; have HO339 := am (Kd.R_lower ho0 (below_size bw)); replace HB := am (below_step bw hb); clear hb ho0))
 go_loopg [4] k (fun kq v4 w' => ∃ (x4_1 : Int), v4 = .int .i64 x4_1 ∧ Aside0 (spec_l3Ends.l0 kq l0 t337 x4_1 = some r) ∧ Aside0 (kq ≤ k) ∧ Aside0 (Kd.R Kd.bool 4 w' w.heap.size (fun _ => True) v338 t337) ∧ Aside0 (Below w.heap.size w w'))
 case atStart => exact ⟨(200), rr, H', ⟨Nat.le_refl _⟩, ⟨ro HO339.out⟩, ⟨bw⟩⟩
 case round =>
  clear H'
  obtain ⟨x4_1, rfl, HA, HK1, HO_3, HB⟩ := hrel
  cases gk with
  | zero => exact absurd HA.out (by simp [spec_l3Ends.l0])
  | succ k1 =>
   have H := HA.out
   clear HA
   simp only [spec_l3Ends.l0] at H
   replace H := gp H; obtain ⟨c4, H⟩ := H
   have c4b0 : decide (0 < (l0.length : Int)) = true := decide_eq_true c4
   have c4b1 : decide (0 < l0.length) = true := decide_eq_true (by omega)
   clear c4
   replace H := gi H; obtain ⟨c5b0, H⟩ | ⟨c5b0, H⟩ := H
   ·replace H := gd H; obtain ⟨c6b0, H⟩ := H
    replace H := gd H; obtain ⟨c7b0, H⟩ := H
    obtain ⟨bq8, hbq8⟩ : ∃ b_ : Bool, b_ = (rdOf false t337 x4_1) := ⟨_, rfl⟩
    replace H : (if bq8 = true then (spec_l3Ends.l0 k1 l0 t337 (wrap64 (x4_1 + 1))) else (some false)) = some r := by rw [← hbq8] at H; exact H
    have Nbq8 := am hbq8
    clear hbq8
    replace H := gb H; obtain ⟨rfl, H⟩ | ⟨rfl, H⟩ := H
    ·have H' := am H
     clear H
     have p340 : 0 ≤ (0 : Int) := (by omega)
     have q340 : 0 < (l0.length : Int) := od
     obtain ⟨ad340, e340, hx340_0⟩ := Kd.at_int HR0.out 0 p340 q340
     cases e340
     have qi340 : (0 < l0.length) = True := eq_true (by omega)
     (try rw [show ((0 : Int)).toNat = 0 from rfl] at hx340_0)
     (try rw [Addr.add_zero'] at hx340_0)
     replace hx340_0 := hw HB hx340_0
     replace p340 := eq_true p340
     replace q340 := eq_true q340
     obtain ⟨Ao10, co10, eo10⟩ := Kd.R_slice HO_3.out
     subst eo10
     obtain ⟨⟨ad341, e341, hx341_0⟩, p341, q341⟩ := pq (Kd.at_bool (Kd.R_reads' HO_3.out).2.2 x4_1)
     (try rw [← Nbq8.out] at hx341_0)
     cases e341
     go_wp2
     go_roundg k1
     case measure => have := HK1.out; omega
     case rel => exact ⟨(wrap64 (x4_1 + 1)), rr, H', ⟨by have := HK1.out; omega⟩, ⟨ro HO_3.out⟩, ⟨bw⟩⟩
    obtain rfl := Option.some.inj H
    have p340 : 0 ≤ (0 : Int) := (by omega)
    have q340 : 0 < (l0.length : Int) := od
    obtain ⟨ad340, e340, hx340_0⟩ := Kd.at_int HR0.out 0 p340 q340
    cases e340
    have qi340 : (0 < l0.length) = True := eq_true (by omega)
    (try rw [show ((0 : Int)).toNat = 0 from rfl] at hx340_0)
    (try rw [Addr.add_zero'] at hx340_0)
    replace hx340_0 := hw HB hx340_0
    replace p340 := eq_true p340
    replace q340 := eq_true q340
    obtain ⟨Ao11, co11, eo11⟩ := Kd.R_slice HO_3.out
    subst eo11
    obtain ⟨⟨ad341, e341, hx341_0⟩, p341, q341⟩ := pq (Kd.at_bool (Kd.R_reads' HO_3.out).2.2 x4_1)
    (try rw [← Nbq8.out] at hx341_0)
    cases e341
    go_wp2
    go_ret
    exact ⟨re, bw⟩
   obtain rfl := Option.some.inj H
   have p340 : 0 ≤ (0 : Int) := (by omega)
   have q340 : 0 < (l0.length : Int) := od
   obtain ⟨ad340, e340, hx340_0⟩ := Kd.at_int HR0.out 0 p340 q340
   cases e340
   have qi340 : (0 < l0.length) = True := eq_true (by omega)
   (try rw [show ((0 : Int)).toNat = 0 from rfl] at hx340_0)
   (try rw [Addr.add_zero'] at hx340_0)
   replace hx340_0 := hw HB hx340_0
   replace p340 := eq_true p340
   replace q340 := eq_true q340
   go_wp2
   go_ret
   exact ⟨re, bw⟩


/-! ### spec_IsSemigroup: function 21 -/
def spec_IsSemigroup.f (k : Nat) (l0_0 : List Int) : Option (Bool) := (spec_l3Gens.f k l0_0).bind fun t343 => (if t343 = true then (if (l0_0.length : Int) ≤ 12 then ((spec_IsAscending.f k l0_0).bind fun t344 => (if t344 = true then ((spec_GcdOfList.f k l0_0).bind fun t345 => (if t345 = 1 then ((spec_l3Minimal.f k l0_0).bind fun t346 => ((spec_l2Same.f k t346 l0_0).bind fun t349 => (if t349 = true then ((spec_l3Ends.f k l0_0).bind fun t350 => (some t350)) else (some false)))) else (some false))) else (some false))) else (some false)) else (some false))
def spec_IsSemigroup.T1 : Bool × List (List Nat × List Nat) := (true, [([], []), ([0], [0]), ([1], [1]), ([2, 2], [2]), ([3], [3]), ([4, 3], [3, 4]), ([5, 3], [3, 5]), ([6, 3], [3, 6]), ([3, 7], [3, 7]), ([8, 3], [8]), ([9], [9]), ([10, 9], [9, 10]), ([11, 9, 9], [9, 11]), ([9, 12], [9, 12]), ([13, 12], [13]), ([14], [14]), ([15, 14], [14, 15]), ([16, 14, 14], [14, 16]), ([17, 14], [14, 17]), ([14, 18], [14, 18]), ([19, 17], [19]), ([20], [20]), ([21, 20], [20, 21]), ([22, 20, 20], [20, 22]), ([20], [20]), ([24, 20], [20, 24]), ([23, 25, 23, 20], [20, 23, 25]), ([20, 26], [20, 26]), ([27, 26], [27]), ([28], [28]), ([29, 28], [28, 29]), ([30, 28, 28], [28, 30]), ([28, 31], [28, 31]), ([32, 31, 0, 1, 2, 3, 4, 5, 6, 7, 8, 9, 10, 11, 12, 13, 14, 15, 16, 17, 18, 19, 20, 21, 22, 23, 24, 25, 26, 27, 28, 29, 30, 31, 32], [32])])
def spec_IsSemigroup.B1 : List Nat := [0, 1, 3, 7, 15, 31, 63, 127, 255, 511, 1023, 2047, 4095, 8191, 16383, 32767, 65535, 131071, 262143, 524287, 1048575, 2097151, 4194303, 8388607, 2097151, 18874367, 67108863, 134217727, 268435455, 536870911, 1073741823, 2147483647, 4294967295, 8589934591]
theorem spec_IsSemigroup.tab1 : rtab .any (opsOf Try.f21 1) = spec_IsSemigroup.T1 := by kernel_rfl
theorem spec_IsSemigroup.bits1 : waitsOk spec_IsSemigroup.T1.2 spec_IsSemigroup.B1 = true := by kernel_rfl
theorem spec_IsSemigroup.calls (k : Nat) (A0_0 : Option Addr) (c0_0 : Nat) (l0_0 : List Int) (r : Bool) (w : World) (hr0_0 : Kd.C (Kd.int .i64) w A0_0 l0_0.length l0_0) (hc0_0 : l0_0.length ≤ c0_0) (h : spec_IsSemigroup.f k l0_0 = some r) :
  Calls Try.prog 21 #[.agg #[.slice A0_0 l0_0.length c0_0]] w fun e w' => e = .returned (.bool r) ∧ Below w.heap.size w w' := by
 have hu26 := Try.underlying26
 have HR0_0 := am hr0_0
 have HC0_0 := am hc0_0
 clear hr0_0 hc0_0
 have HB := am (Below.refl w.heap.size w)
 unfold spec_IsSemigroup.f at h
 have H := h
 clear h
 replace H := ga H; obtain ⟨t343, A2, H⟩ := H
 replace H := gb H; obtain ⟨rfl, H⟩ | ⟨rfl, H⟩ := H
 ·replace H := gj H; obtain ⟨c4, H⟩ | ⟨c4, H⟩ := H
  ·have c4b0 : decide ((l0_0.length : Int) ≤ 12) = true := decide_eq_true c4
   have c4b1 : decide (l0_0.length ≤ 12) = true := decide_eq_true (by omega)
   clear c4
   replace H := ga H; obtain ⟨t344, A5, H⟩ := H
   replace H := gb H; obtain ⟨rfl, H⟩ | ⟨rfl, H⟩ := H
   ·replace H := ga H; obtain ⟨t345, A7, H⟩ := H
    by_cases c8 : t345 = 1
    ·rw [if_pos c8] at H
     have c8b0 : (t345 == 1) = true := beq_iff_eq.mpr c8
     have c8b1 : (t345 != 1) = false := bne_eq_false_iff_eq.mpr c8
     clear c8
     replace H := ga H; obtain ⟨t346, A9, H⟩ := H
     replace H := ga H; obtain ⟨t349, A10, H⟩ := H
     replace H := gb H; obtain ⟨rfl, H⟩ | ⟨rfl, H⟩ := H
     ·replace H := ga H; obtain ⟨t350, A12, H⟩ := H
      obtain rfl := Option.some.inj H
      go_enter Try.func21, Try.ntmps21
      try go_wp2_with (first | ((with_reducible refine gate_dst (N := 1) rfl ?_); (try (refine gate_guard (by rfl) ?_; dsimp only)); refine bx 1 #[.slice A0_0 l0_0.length c0_0] 26 ?_; intro gb342 hg w13 hbox hb; have BK342 := am (hbox); have GW342 := am (gs hg : w.heap.size ≤ gb342); have GE342 := GW342; replace HB := am (below_step bw hb); clear hb hbox hg))
      replace BK342 := bd BK342
      replace HB := am (below_drew1 HB.out)
      refine start_ (n := 34) (S := fun w' => w'.cell? ⟨gb342, 0, none⟩ = some (.slice A0_0 l0_0.length c0_0)) (ds := []) (yz 34 0) (by kernel_rfl) rfl rfl (bc BK342 0 _) (fun hHeld => ?_); refine with_tabW spec_IsSemigroup.tab1 spec_IsSemigroup.bits1 (fun HT_ HW_ => ?_)
      generalize w13.drew = w14 at BK342 HB hHeld ⊢
      refine pa 0 (some 3) (yz 34 1) HT_ ?_
      refine tK 1 (some 4) (yz 34 3) HT_ HW_ hHeld ?_
      refine oa 2 (some 5) (yz 34 7) HT_ (fun K hK => ?_)
      refine gm Try.func45 #[.slice A0_0 l0_0.length c0_0] ?_
      with_reducible refine (spec_l3Gens.calls k _ _ l0_0 true _ ?side1 ?side2 A2.out).mono ?_
      (case side1 => exact co (Kd.C_below HR0_0.out HB.out))
      (case side2 => exact HC0_0.out)
      rintro e w' ⟨rfl, ⟨nd, rfl⟩⟩
      refine ⟨_, rfl, ?_⟩
      refine hK.out _ _ (bc BK342 0 _) (fun hHeld => ?_)
      clear hK K
      refine nm (some 5) ?_
      refine pa 3 (some 6) (yz 34 15) HT_ ?_
      refine pa 4 (some 7) (yz 34 31) HT_ ?_
      refine tK 5 (some 8) (yz 34 63) HT_ HW_ hHeld ?_
      refine pa 6 (some 9) (yz 34 127) HT_ ?_
      refine pa 7 (some 10) (yz 34 255) HT_ ?_
      refine pa 8 (some 11) (yz 34 511) HT_ ?_
      refine pa 9 (some 12) (yz 34 1023) HT_ ?_
      refine pa 10 (some 13) (yz 34 2047) HT_ ?_
      refine tK 11 (some 14) (yz 34 4095) HT_ HW_ hHeld ?_
      refine oa 12 (some 15) (yz 34 8191) HT_ (fun K hK => ?_)
      refine gm Try.func46 #[.slice A0_0 l0_0.length c0_0] ?_
      with_reducible refine (spec_IsAscending.calls k _ _ l0_0 true _ ?side1 ?side2 A5.out).mono ?_
      (case side1 => exact co (Kd.C_below HR0_0.out bw))
      (case side2 => exact HC0_0.out)
      rintro e w' ⟨rfl, ⟨nd, rfl⟩⟩
      refine ⟨_, rfl, ?_⟩
      refine hK.out _ _ (bc BK342 0 _) (fun hHeld => ?_)
      clear hK K
      refine nm (some 15) ?_
      refine pa 13 (some 16) (yz 34 16383) HT_ ?_
      refine pa 14 (some 17) (yz 34 32767) HT_ ?_
      refine pa 15 (some 18) (yz 34 65535) HT_ ?_
      refine tK 16 (some 19) (yz 34 131071) HT_ HW_ hHeld ?_
      refine oa 17 (some 20) (yz 34 262143) HT_ (fun K hK => ?_)
      refine gm Try.func47 #[.slice A0_0 l0_0.length c0_0] ?_
      with_reducible refine (spec_GcdOfList.calls k _ _ l0_0 t345 _ ?side1 ?side2 A7.out).mono ?_
      (case side1 => exact co (Kd.C_below HR0_0.out bw))
      (case side2 => exact HC0_0.out)
      rintro e w' ⟨rfl, ⟨nd, rfl⟩⟩
      refine ⟨_, rfl, ?_⟩
      refine hK.out _ _ (bc BK342 0 _) (fun hHeld => ?_)
      clear hK K
      refine nm (some 20) ?_
      refine pa 18 (some 21) (yz 34 524287) HT_ ?_
      refine pa 19 (some 22) (yz 34 1048575) HT_ ?_
      refine pa 20 (some 23) (yz 34 2097151) HT_ ?_
      refine pa 21 (some 24) (yz 34 4194303) HT_ ?_
      refine pa 24 (some 27) (yz 34 20971519) HT_ ?_
      refine tK 22 (some 25) (yz 34 25165823) HT_ HW_ hHeld ?_
      refine tK 25 (some 28) (yz 34 58720255) HT_ HW_ hHeld ?_
      refine oa 23 (some 26) (yz 34 67108863) HT_ (fun K hK => ?_)
      refine gm Try.func49 #[.slice A0_0 l0_0.length c0_0] ?_
      with_reducible refine (spec_l3Minimal.calls k _ _ l0_0 t346 _ ?side1 ?side2 A9.out).mono ?_
      (case side1 => exact co (Kd.C_below HR0_0.out bw))
      (case side2 => exact HC0_0.out)
      rintro e w15 ⟨v347, rfl, ho0, hb⟩
      refine ⟨_, rfl, ?_⟩
      have HO348 := am (Kd.R_lower ho0 (below_size bw))
      replace BK342 := kb BK342 hb
      replace HB := am (below_step bw hb)
      clear hb ho0
      obtain ⟨Ao16, co16, eo16⟩ := Kd.R_slice HO348.out
      (first | subst eo16 | (injection eo16 with f1_ f2_ f3_; have f4_ := f1_.symm; have f5_ := f3_.symm; clear f1_ f2_ f3_; subst f4_; subst f5_))
      refine hK.out _ _ (bc BK342 0 _) (fun hHeld => ?_)
      clear hK K
      refine nm (some 26) ?_
      refine oa 26 (some 29) (yz 34 134217727) HT_ (fun K hK => ?_)
      refine gm Try.func48 #[.slice Ao16 t346.length co16, .slice A0_0 l0_0.length c0_0] ?_
      with_reducible refine (spec_l2Same.calls k _ _ t346 _ _ l0_0 true _ ?side1 ?side2 ?side3 ?side4 A10.out).mono ?_
      (case side1 => exact co (Kd.R_reads' HO348.out).2.2)
      (case side2 => exact (Kd.R_reads' HO348.out).2.1)
      (case side3 => exact co (Kd.C_below HR0_0.out HB.out))
      (case side4 => exact HC0_0.out)
      rintro e w' ⟨rfl, ⟨nd, rfl⟩⟩
      refine ⟨_, rfl, ?_⟩
      refine hK.out _ _ (bc BK342 0 _) (fun hHeld => ?_)
      clear hK K
      refine nm (some 29) ?_
      refine pa 27 (some 30) (yz 34 268435455) HT_ ?_
      refine pa 28 (some 31) (yz 34 536870911) HT_ ?_
      refine pa 29 (some 32) (yz 34 1073741823) HT_ ?_
      refine tK 30 (some 33) (yz 34 2147483647) HT_ HW_ hHeld ?_
      refine oa 31 (some 34) (yz 34 4294967295) HT_ (fun K hK => ?_)
      refine gm Try.func50 #[.slice A0_0 l0_0.length c0_0] ?_
      with_reducible refine (spec_l3Ends.calls k _ _ l0_0 t350 _ ?side1 ?side2 A12.out).mono ?_
      (case side1 => exact co (Kd.C_below HR0_0.out bw))
      (case side2 => exact HC0_0.out)
      rintro e w17 ⟨rfl, hb⟩
      refine ⟨_, rfl, ?_⟩
      replace HO348 := rK HO348 hb
      replace BK342 := kb BK342 hb
      replace HB := am (below_step bw hb)
      clear hb
      refine hK.out _ _ (bc BK342 0 _) (fun hHeld => ?_)
      clear hK K
      refine nm (some 34) ?_
      refine pa 32 (some 35) (yz 34 8589934591) HT_ ?_
      refine pa 33 (some 2) (yz 34 17179869183) HT_ ?_
      refine done_ (done_of HT_.out (by kernel_rfl)) ?_
      try go_wp2
      go_ret
      exact ⟨re, bw⟩
     obtain rfl := Option.some.inj H
     go_enter Try.func21, Try.ntmps21
     try go_wp2_with (first | ((with_reducible refine gate_dst (N := 1) rfl ?_); (try (refine gate_guard (by rfl) ?_; dsimp only)); refine bx 1 #[.slice A0_0 l0_0.length c0_0] 26 ?_; intro gb342 hg w18 hbox hb; have BK342 := am (hbox); have GW342 := am (gs hg : w.heap.size ≤ gb342); have GE342 := GW342; replace HB := am (below_step bw hb); clear hb hbox hg))
     replace BK342 := bd BK342
     replace HB := am (below_drew1 HB.out)
     refine start_ (n := 34) (S := fun w' => w'.cell? ⟨gb342, 0, none⟩ = some (.slice A0_0 l0_0.length c0_0)) (ds := []) (yz 34 0) (by kernel_rfl) rfl rfl (bc BK342 0 _) (fun hHeld => ?_); refine with_tabW spec_IsSemigroup.tab1 spec_IsSemigroup.bits1 (fun HT_ HW_ => ?_)
     generalize w18.drew = w19 at BK342 HB hHeld ⊢
     refine pa 0 (some 3) (yz 34 1) HT_ ?_
     refine tK 1 (some 4) (yz 34 3) HT_ HW_ hHeld ?_
     refine oa 2 (some 5) (yz 34 7) HT_ (fun K hK => ?_)
     refine gm Try.func45 #[.slice A0_0 l0_0.length c0_0] ?_
     with_reducible refine (spec_l3Gens.calls k _ _ l0_0 true _ ?side1 ?side2 A2.out).mono ?_
     (case side1 => exact co (Kd.C_below HR0_0.out HB.out))
     (case side2 => exact HC0_0.out)
     rintro e w' ⟨rfl, ⟨nd, rfl⟩⟩
     refine ⟨_, rfl, ?_⟩
     refine hK.out _ _ (bc BK342 0 _) (fun hHeld => ?_)
     clear hK K
     refine nm (some 5) ?_
     refine pa 3 (some 6) (yz 34 15) HT_ ?_
     refine pa 4 (some 7) (yz 34 31) HT_ ?_
     refine tK 5 (some 8) (yz 34 63) HT_ HW_ hHeld ?_
     refine pa 6 (some 9) (yz 34 127) HT_ ?_
     refine pa 7 (some 10) (yz 34 255) HT_ ?_
     refine pa 8 (some 11) (yz 34 511) HT_ ?_
     refine pa 9 (some 12) (yz 34 1023) HT_ ?_
     refine pa 10 (some 13) (yz 34 2047) HT_ ?_
     refine tK 11 (some 14) (yz 34 4095) HT_ HW_ hHeld ?_
     refine oa 12 (some 15) (yz 34 8191) HT_ (fun K hK => ?_)
     refine gm Try.func46 #[.slice A0_0 l0_0.length c0_0] ?_
     with_reducible refine (spec_IsAscending.calls k _ _ l0_0 true _ ?side1 ?side2 A5.out).mono ?_
     (case side1 => exact co (Kd.C_below HR0_0.out bw))
     (case side2 => exact HC0_0.out)
     rintro e w' ⟨rfl, ⟨nd, rfl⟩⟩
     refine ⟨_, rfl, ?_⟩
     refine hK.out _ _ (bc BK342 0 _) (fun hHeld => ?_)
     clear hK K
     refine nm (some 15) ?_
     refine pa 13 (some 16) (yz 34 16383) HT_ ?_
     refine pa 14 (some 17) (yz 34 32767) HT_ ?_
     refine pa 15 (some 18) (yz 34 65535) HT_ ?_
     refine tK 16 (some 19) (yz 34 131071) HT_ HW_ hHeld ?_
     refine oa 17 (some 20) (yz 34 262143) HT_ (fun K hK => ?_)
     refine gm Try.func47 #[.slice A0_0 l0_0.length c0_0] ?_
     with_reducible refine (spec_GcdOfList.calls k _ _ l0_0 t345 _ ?side1 ?side2 A7.out).mono ?_
     (case side1 => exact co (Kd.C_below HR0_0.out bw))
     (case side2 => exact HC0_0.out)
     rintro e w' ⟨rfl, ⟨nd, rfl⟩⟩
     refine ⟨_, rfl, ?_⟩
     refine hK.out _ _ (bc BK342 0 _) (fun hHeld => ?_)
     clear hK K
     refine nm (some 20) ?_
     refine pa 18 (some 21) (yz 34 524287) HT_ ?_
     refine pa 19 (some 22) (yz 34 1048575) HT_ ?_
     refine pa 20 (some 23) (yz 34 2097151) HT_ ?_
     refine pa 21 (some 24) (yz 34 4194303) HT_ ?_
     refine pa 24 (some 27) (yz 34 20971519) HT_ ?_
     refine tK 22 (some 25) (yz 34 25165823) HT_ HW_ hHeld ?_
     refine tK 25 (some 28) (yz 34 58720255) HT_ HW_ hHeld ?_
     refine oa 23 (some 26) (yz 34 67108863) HT_ (fun K hK => ?_)
     refine gm Try.func49 #[.slice A0_0 l0_0.length c0_0] ?_
     with_reducible refine (spec_l3Minimal.calls k _ _ l0_0 t346 _ ?side1 ?side2 A9.out).mono ?_
     (case side1 => exact co (Kd.C_below HR0_0.out bw))
     (case side2 => exact HC0_0.out)
     rintro e w20 ⟨v347, rfl, ho0, hb⟩
     refine ⟨_, rfl, ?_⟩
     have HO348 := am (Kd.R_lower ho0 (below_size bw))
     replace BK342 := kb BK342 hb
     replace HB := am (below_step bw hb)
     clear hb ho0
     obtain ⟨Ao21, co21, eo21⟩ := Kd.R_slice HO348.out
     (first | subst eo21 | (injection eo21 with f1_ f2_ f3_; have f4_ := f1_.symm; have f5_ := f3_.symm; clear f1_ f2_ f3_; subst f4_; subst f5_))
     refine hK.out _ _ (bc BK342 0 _) (fun hHeld => ?_)
     clear hK K
     refine nm (some 26) ?_
     refine oa 26 (some 29) (yz 34 134217727) HT_ (fun K hK => ?_)
     refine gm Try.func48 #[.slice Ao21 t346.length co21, .slice A0_0 l0_0.length c0_0] ?_
     with_reducible refine (spec_l2Same.calls k _ _ t346 _ _ l0_0 false _ ?side1 ?side2 ?side3 ?side4 A10.out).mono ?_
     (case side1 => exact co (Kd.R_reads' HO348.out).2.2)
     (case side2 => exact (Kd.R_reads' HO348.out).2.1)
     (case side3 => exact co (Kd.C_below HR0_0.out HB.out))
     (case side4 => exact HC0_0.out)
     rintro e w' ⟨rfl, ⟨nd, rfl⟩⟩
     refine ⟨_, rfl, ?_⟩
     refine hK.out _ _ (bc BK342 0 _) (fun hHeld => ?_)
     clear hK K
     refine nm (some 29) ?_
     refine pa 27 (some 30) (yz 34 268435455) HT_ ?_
     refine pa 28 (some 31) (yz 34 536870911) HT_ ?_
     refine pu 29 (some 32) (yz 34 1073741823) HT_ ?_
     refine pu 30 (some 33) (yz 34 2147483647) HT_ ?_
     refine pu 31 (some 34) (yz 34 4294967295) HT_ ?_
     refine pa 32 (some 35) (yz 34 8589934591) HT_ ?_
     refine pa 33 (some 2) (yz 34 17179869183) HT_ ?_
     refine done_ (done_of HT_.out (by kernel_rfl)) ?_
     try go_wp2
     go_ret
     exact ⟨re, bw⟩
    rw [if_neg c8] at H
    have c8b0 : (t345 == 1) = false := beq_eq_false_iff_ne.mpr c8
    have c8b1 : (t345 != 1) = true := bne_iff_ne.mpr c8
    obtain rfl := Option.some.inj H
    go_enter Try.func21, Try.ntmps21
    try go_wp2_with (first | ((with_reducible refine gate_dst (N := 1) rfl ?_); (try (refine gate_guard (by rfl) ?_; dsimp only)); refine bx 1 #[.slice A0_0 l0_0.length c0_0] 26 ?_; intro gb342 hg w22 hbox hb; have BK342 := am (hbox); have GW342 := am (gs hg : w.heap.size ≤ gb342); have GE342 := GW342; replace HB := am (below_step bw hb); clear hb hbox hg))
    replace BK342 := bd BK342
    replace HB := am (below_drew1 HB.out)
    refine start_ (n := 34) (S := fun w' => w'.cell? ⟨gb342, 0, none⟩ = some (.slice A0_0 l0_0.length c0_0)) (ds := []) (yz 34 0) (by kernel_rfl) rfl rfl (bc BK342 0 _) (fun hHeld => ?_); refine with_tabW spec_IsSemigroup.tab1 spec_IsSemigroup.bits1 (fun HT_ HW_ => ?_)
    generalize w22.drew = w23 at BK342 HB hHeld ⊢
    refine pa 0 (some 3) (yz 34 1) HT_ ?_
    refine tK 1 (some 4) (yz 34 3) HT_ HW_ hHeld ?_
    refine oa 2 (some 5) (yz 34 7) HT_ (fun K hK => ?_)
    refine gm Try.func45 #[.slice A0_0 l0_0.length c0_0] ?_
    with_reducible refine (spec_l3Gens.calls k _ _ l0_0 true _ ?side1 ?side2 A2.out).mono ?_
    (case side1 => exact co (Kd.C_below HR0_0.out HB.out))
    (case side2 => exact HC0_0.out)
    rintro e w' ⟨rfl, ⟨nd, rfl⟩⟩
    refine ⟨_, rfl, ?_⟩
    refine hK.out _ _ (bc BK342 0 _) (fun hHeld => ?_)
    clear hK K
    refine nm (some 5) ?_
    refine pa 3 (some 6) (yz 34 15) HT_ ?_
    refine pa 4 (some 7) (yz 34 31) HT_ ?_
    refine tK 5 (some 8) (yz 34 63) HT_ HW_ hHeld ?_
    refine pa 6 (some 9) (yz 34 127) HT_ ?_
    refine pa 7 (some 10) (yz 34 255) HT_ ?_
    refine pa 8 (some 11) (yz 34 511) HT_ ?_
    refine pa 9 (some 12) (yz 34 1023) HT_ ?_
    refine pa 10 (some 13) (yz 34 2047) HT_ ?_
    refine tK 11 (some 14) (yz 34 4095) HT_ HW_ hHeld ?_
    refine oa 12 (some 15) (yz 34 8191) HT_ (fun K hK => ?_)
    refine gm Try.func46 #[.slice A0_0 l0_0.length c0_0] ?_
    with_reducible refine (spec_IsAscending.calls k _ _ l0_0 true _ ?side1 ?side2 A5.out).mono ?_
    (case side1 => exact co (Kd.C_below HR0_0.out bw))
    (case side2 => exact HC0_0.out)
    rintro e w' ⟨rfl, ⟨nd, rfl⟩⟩
    refine ⟨_, rfl, ?_⟩
    refine hK.out _ _ (bc BK342 0 _) (fun hHeld => ?_)
    clear hK K
    refine nm (some 15) ?_
    refine pa 13 (some 16) (yz 34 16383) HT_ ?_
    refine pa 14 (some 17) (yz 34 32767) HT_ ?_
    refine pa 15 (some 18) (yz 34 65535) HT_ ?_
    refine tK 16 (some 19) (yz 34 131071) HT_ HW_ hHeld ?_
    refine oa 17 (some 20) (yz 34 262143) HT_ (fun K hK => ?_)
    refine gm Try.func47 #[.slice A0_0 l0_0.length c0_0] ?_
    with_reducible refine (spec_GcdOfList.calls k _ _ l0_0 t345 _ ?side1 ?side2 A7.out).mono ?_
    (case side1 => exact co (Kd.C_below HR0_0.out bw))
    (case side2 => exact HC0_0.out)
    rintro e w' ⟨rfl, ⟨nd, rfl⟩⟩
    refine ⟨_, rfl, ?_⟩
    refine hK.out _ _ (bc BK342 0 _) (fun hHeld => ?_)
    clear hK K
    refine nm (some 20) ?_
    refine pa 18 (some 21) (yz 34 524287) HT_ ?_
    refine pa 19 (some 22) (yz 34 1048575) HT_ ?_
    refine pa 20 (some 23) (yz 34 2097151) HT_ ?_
    refine pu 21 (some 24) (yz 34 4194303) HT_ ?_
    refine pu 22 (some 25) (yz 34 8388607) HT_ ?_
    refine pu 23 (some 26) (yz 34 16777215) HT_ ?_
    refine pu 24 (some 27) (yz 34 33554431) HT_ ?_
    refine pu 25 (some 28) (yz 34 67108863) HT_ ?_
    refine pu 26 (some 29) (yz 34 134217727) HT_ ?_
    refine pa 27 (some 30) (yz 34 268435455) HT_ ?_
    refine pa 28 (some 31) (yz 34 536870911) HT_ ?_
    refine pu 29 (some 32) (yz 34 1073741823) HT_ ?_
    refine pu 30 (some 33) (yz 34 2147483647) HT_ ?_
    refine pu 31 (some 34) (yz 34 4294967295) HT_ ?_
    refine pa 32 (some 35) (yz 34 8589934591) HT_ ?_
    refine pa 33 (some 2) (yz 34 17179869183) HT_ ?_
    refine done_ (done_of HT_.out (by kernel_rfl)) ?_
    try go_wp2
    go_ret
    exact ⟨re, bw⟩
   obtain rfl := Option.some.inj H
   go_enter Try.func21, Try.ntmps21
   try go_wp2_with (first | ((with_reducible refine gate_dst (N := 1) rfl ?_); (try (refine gate_guard (by rfl) ?_; dsimp only)); refine bx 1 #[.slice A0_0 l0_0.length c0_0] 26 ?_; intro gb342 hg w24 hbox hb; have BK342 := am (hbox); have GW342 := am (gs hg : w.heap.size ≤ gb342); have GE342 := GW342; replace HB := am (below_step bw hb); clear hb hbox hg))
   replace BK342 := bd BK342
   replace HB := am (below_drew1 HB.out)
   refine start_ (n := 34) (S := fun w' => w'.cell? ⟨gb342, 0, none⟩ = some (.slice A0_0 l0_0.length c0_0)) (ds := []) (yz 34 0) (by kernel_rfl) rfl rfl (bc BK342 0 _) (fun hHeld => ?_); refine with_tabW spec_IsSemigroup.tab1 spec_IsSemigroup.bits1 (fun HT_ HW_ => ?_)
   generalize w24.drew = w25 at BK342 HB hHeld ⊢
   refine pa 0 (some 3) (yz 34 1) HT_ ?_
   refine tK 1 (some 4) (yz 34 3) HT_ HW_ hHeld ?_
   refine oa 2 (some 5) (yz 34 7) HT_ (fun K hK => ?_)
   refine gm Try.func45 #[.slice A0_0 l0_0.length c0_0] ?_
   with_reducible refine (spec_l3Gens.calls k _ _ l0_0 true _ ?side1 ?side2 A2.out).mono ?_
   (case side1 => exact co (Kd.C_below HR0_0.out HB.out))
   (case side2 => exact HC0_0.out)
   rintro e w' ⟨rfl, ⟨nd, rfl⟩⟩
   refine ⟨_, rfl, ?_⟩
   refine hK.out _ _ (bc BK342 0 _) (fun hHeld => ?_)
   clear hK K
   refine nm (some 5) ?_
   refine pa 3 (some 6) (yz 34 15) HT_ ?_
   refine pa 4 (some 7) (yz 34 31) HT_ ?_
   refine tK 5 (some 8) (yz 34 63) HT_ HW_ hHeld ?_
   refine pa 6 (some 9) (yz 34 127) HT_ ?_
   refine pa 7 (some 10) (yz 34 255) HT_ ?_
   refine pa 8 (some 11) (yz 34 511) HT_ ?_
   refine pa 9 (some 12) (yz 34 1023) HT_ ?_
   refine pa 10 (some 13) (yz 34 2047) HT_ ?_
   refine tK 11 (some 14) (yz 34 4095) HT_ HW_ hHeld ?_
   refine oa 12 (some 15) (yz 34 8191) HT_ (fun K hK => ?_)
   refine gm Try.func46 #[.slice A0_0 l0_0.length c0_0] ?_
   with_reducible refine (spec_IsAscending.calls k _ _ l0_0 false _ ?side1 ?side2 A5.out).mono ?_
   (case side1 => exact co (Kd.C_below HR0_0.out bw))
   (case side2 => exact HC0_0.out)
   rintro e w' ⟨rfl, ⟨nd, rfl⟩⟩
   refine ⟨_, rfl, ?_⟩
   refine hK.out _ _ (bc BK342 0 _) (fun hHeld => ?_)
   clear hK K
   refine nm (some 15) ?_
   refine pa 13 (some 16) (yz 34 16383) HT_ ?_
   refine pa 14 (some 17) (yz 34 32767) HT_ ?_
   refine pu 15 (some 18) (yz 34 65535) HT_ ?_
   refine pu 16 (some 19) (yz 34 131071) HT_ ?_
   refine pu 17 (some 20) (yz 34 262143) HT_ ?_
   refine pu 18 (some 21) (yz 34 524287) HT_ ?_
   refine pa 19 (some 22) (yz 34 1048575) HT_ ?_
   refine pa 20 (some 23) (yz 34 2097151) HT_ ?_
   refine pu 21 (some 24) (yz 34 4194303) HT_ ?_
   refine pu 22 (some 25) (yz 34 8388607) HT_ ?_
   refine pu 23 (some 26) (yz 34 16777215) HT_ ?_
   refine pu 24 (some 27) (yz 34 33554431) HT_ ?_
   refine pu 25 (some 28) (yz 34 67108863) HT_ ?_
   refine pu 26 (some 29) (yz 34 134217727) HT_ ?_
   refine pa 27 (some 30) (yz 34 268435455) HT_ ?_
   refine pa 28 (some 31) (yz 34 536870911) HT_ ?_
   refine pu 29 (some 32) (yz 34 1073741823) HT_ ?_
   refine pu 30 (some 33) (yz 34 2147483647) HT_ ?_
   refine pu 31 (some 34) (yz 34 4294967295) HT_ ?_
   refine pa 32 (some 35) (yz 34 8589934591) HT_ ?_
   refine pa 33 (some 2) (yz 34 17179869183) HT_ ?_
   refine done_ (done_of HT_.out (by kernel_rfl)) ?_
   try go_wp2
   go_ret
   exact ⟨re, bw⟩
  have c4b0 : decide ((l0_0.length : Int) ≤ 12) = false := decide_eq_false c4
  have c4b1 : decide (l0_0.length ≤ 12) = false := decide_eq_false (by omega)
  clear c4
  obtain rfl := Option.some.inj H
  go_enter Try.func21, Try.ntmps21
  try go_wp2_with (first | ((with_reducible refine gate_dst (N := 1) rfl ?_); (try (refine gate_guard (by rfl) ?_; dsimp only)); refine bx 1 #[.slice A0_0 l0_0.length c0_0] 26 ?_; intro gb342 hg w26 hbox hb; have BK342 := am (hbox); have GW342 := am (gs hg : w.heap.size ≤ gb342); have GE342 := GW342; replace HB := am (below_step bw hb); clear hb hbox hg))
  replace BK342 := bd BK342
  replace HB := am (below_drew1 HB.out)
  refine start_ (n := 34) (S := fun w' => w'.cell? ⟨gb342, 0, none⟩ = some (.slice A0_0 l0_0.length c0_0)) (ds := []) (yz 34 0) (by kernel_rfl) rfl rfl (bc BK342 0 _) (fun hHeld => ?_); refine with_tabW spec_IsSemigroup.tab1 spec_IsSemigroup.bits1 (fun HT_ HW_ => ?_)
  generalize w26.drew = w27 at BK342 HB hHeld ⊢
  refine pa 0 (some 3) (yz 34 1) HT_ ?_
  refine tK 1 (some 4) (yz 34 3) HT_ HW_ hHeld ?_
  refine oa 2 (some 5) (yz 34 7) HT_ (fun K hK => ?_)
  refine gm Try.func45 #[.slice A0_0 l0_0.length c0_0] ?_
  with_reducible refine (spec_l3Gens.calls k _ _ l0_0 true _ ?side1 ?side2 A2.out).mono ?_
  (case side1 => exact co (Kd.C_below HR0_0.out HB.out))
  (case side2 => exact HC0_0.out)
  rintro e w' ⟨rfl, ⟨nd, rfl⟩⟩
  refine ⟨_, rfl, ?_⟩
  refine hK.out _ _ (bc BK342 0 _) (fun hHeld => ?_)
  clear hK K
  refine nm (some 5) ?_
  refine pa 3 (some 6) (yz 34 15) HT_ ?_
  refine pa 4 (some 7) (yz 34 31) HT_ ?_
  refine tK 5 (some 8) (yz 34 63) HT_ HW_ hHeld ?_
  refine pa 6 (some 9) (yz 34 127) HT_ ?_
  refine pa 7 (some 10) (yz 34 255) HT_ ?_
  refine pa 8 (some 11) (yz 34 511) HT_ ?_
  refine pa 9 (some 12) (yz 34 1023) HT_ ?_
  refine pu 10 (some 13) (yz 34 2047) HT_ ?_
  refine pu 11 (some 14) (yz 34 4095) HT_ ?_
  refine pu 12 (some 15) (yz 34 8191) HT_ ?_
  refine pa 13 (some 16) (yz 34 16383) HT_ ?_
  refine pa 14 (some 17) (yz 34 32767) HT_ ?_
  refine pu 15 (some 18) (yz 34 65535) HT_ ?_
  refine pu 16 (some 19) (yz 34 131071) HT_ ?_
  refine pu 17 (some 20) (yz 34 262143) HT_ ?_
  refine pu 18 (some 21) (yz 34 524287) HT_ ?_
  refine pa 19 (some 22) (yz 34 1048575) HT_ ?_
  refine pa 20 (some 23) (yz 34 2097151) HT_ ?_
  refine pu 21 (some 24) (yz 34 4194303) HT_ ?_
  refine pu 22 (some 25) (yz 34 8388607) HT_ ?_
  refine pu 23 (some 26) (yz 34 16777215) HT_ ?_
  refine pu 24 (some 27) (yz 34 33554431) HT_ ?_
  refine pu 25 (some 28) (yz 34 67108863) HT_ ?_
  refine pu 26 (some 29) (yz 34 134217727) HT_ ?_
  refine pa 27 (some 30) (yz 34 268435455) HT_ ?_
  refine pa 28 (some 31) (yz 34 536870911) HT_ ?_
  refine pu 29 (some 32) (yz 34 1073741823) HT_ ?_
  refine pu 30 (some 33) (yz 34 2147483647) HT_ ?_
  refine pu 31 (some 34) (yz 34 4294967295) HT_ ?_
  refine pa 32 (some 35) (yz 34 8589934591) HT_ ?_
  refine pa 33 (some 2) (yz 34 17179869183) HT_ ?_
  refine done_ (done_of HT_.out (by kernel_rfl)) ?_
  try go_wp2
  go_ret
  exact ⟨re, bw⟩
 obtain rfl := Option.some.inj H
 go_enter Try.func21, Try.ntmps21
 try go_wp2_with (first | ((with_reducible refine gate_dst (N := 1) rfl ?_); (try (refine gate_guard (by rfl) ?_; dsimp only)); refine bx 1 #[.slice A0_0 l0_0.length c0_0] 26 ?_; intro gb342 hg w28 hbox hb; have BK342 := am (hbox); have GW342 := am (gs hg : w.heap.size ≤ gb342); have GE342 := GW342; replace HB := am (below_step bw hb); clear hb hbox hg))
 replace BK342 := bd BK342
 replace HB := am (below_drew1 HB.out)
 refine start_ (n := 34) (S := fun w' => w'.cell? ⟨gb342, 0, none⟩ = some (.slice A0_0 l0_0.length c0_0)) (ds := []) (yz 34 0) (by kernel_rfl) rfl rfl (bc BK342 0 _) (fun hHeld => ?_); refine with_tabW spec_IsSemigroup.tab1 spec_IsSemigroup.bits1 (fun HT_ HW_ => ?_)
 generalize w28.drew = w29 at BK342 HB hHeld ⊢
 refine pa 0 (some 3) (yz 34 1) HT_ ?_
 refine tK 1 (some 4) (yz 34 3) HT_ HW_ hHeld ?_
 refine oa 2 (some 5) (yz 34 7) HT_ (fun K hK => ?_)
 refine gm Try.func45 #[.slice A0_0 l0_0.length c0_0] ?_
 with_reducible refine (spec_l3Gens.calls k _ _ l0_0 false _ ?side1 ?side2 A2.out).mono ?_
 (case side1 => exact co (Kd.C_below HR0_0.out HB.out))
 (case side2 => exact HC0_0.out)
 rintro e w' ⟨rfl, ⟨nd, rfl⟩⟩
 refine ⟨_, rfl, ?_⟩
 refine hK.out _ _ (bc BK342 0 _) (fun hHeld => ?_)
 clear hK K
 refine nm (some 5) ?_
 refine pa 3 (some 6) (yz 34 15) HT_ ?_
 refine pu 4 (some 7) (yz 34 31) HT_ ?_
 refine pu 5 (some 8) (yz 34 63) HT_ ?_
 refine pu 6 (some 9) (yz 34 127) HT_ ?_
 refine pu 7 (some 10) (yz 34 255) HT_ ?_
 refine pa 8 (some 11) (yz 34 511) HT_ ?_
 refine pa 9 (some 12) (yz 34 1023) HT_ ?_
 refine pu 10 (some 13) (yz 34 2047) HT_ ?_
 refine pu 11 (some 14) (yz 34 4095) HT_ ?_
 refine pu 12 (some 15) (yz 34 8191) HT_ ?_
 refine pa 13 (some 16) (yz 34 16383) HT_ ?_
 refine pa 14 (some 17) (yz 34 32767) HT_ ?_
 refine pu 15 (some 18) (yz 34 65535) HT_ ?_
 refine pu 16 (some 19) (yz 34 131071) HT_ ?_
 refine pu 17 (some 20) (yz 34 262143) HT_ ?_
 refine pu 18 (some 21) (yz 34 524287) HT_ ?_
 refine pa 19 (some 22) (yz 34 1048575) HT_ ?_
 refine pa 20 (some 23) (yz 34 2097151) HT_ ?_
 refine pu 21 (some 24) (yz 34 4194303) HT_ ?_
 refine pu 22 (some 25) (yz 34 8388607) HT_ ?_
 refine pu 23 (some 26) (yz 34 16777215) HT_ ?_
 refine pu 24 (some 27) (yz 34 33554431) HT_ ?_
 refine pu 25 (some 28) (yz 34 67108863) HT_ ?_
 refine pu 26 (some 29) (yz 34 134217727) HT_ ?_
 refine pa 27 (some 30) (yz 34 268435455) HT_ ?_
 refine pa 28 (some 31) (yz 34 536870911) HT_ ?_
 refine pu 29 (some 32) (yz 34 1073741823) HT_ ?_
 refine pu 30 (some 33) (yz 34 2147483647) HT_ ?_
 refine pu 31 (some 34) (yz 34 4294967295) HT_ ?_
 refine pa 32 (some 35) (yz 34 8589934591) HT_ ?_
 refine pa 33 (some 2) (yz 34 17179869183) HT_ ?_
 refine done_ (done_of HT_.out (by kernel_rfl)) ?_
 try go_wp2
 go_ret
 exact ⟨re, bw⟩


/-! ### spec_GenusOf: function 38 -/
def spec_GenusOf.f (k : Nat) (l0_0 : List Int) : Option (Int) := (spec_IsSemigroup.f k l0_0).bind fun t352 => (if t352 = true then ((spec_l4Gaps.f k l0_0).bind fun t353 => (some (t353.length : Int))) else (some (-1)))
theorem spec_GenusOf.calls (k : Nat) (A0_0 : Option Addr) (c0_0 : Nat) (l0_0 : List Int) (r : Int) (w : World) (hr0_0 : Kd.C (Kd.int .i64) w A0_0 l0_0.length l0_0) (hc0_0 : l0_0.length ≤ c0_0) (h : spec_GenusOf.f k l0_0 = some r) :
  Calls Try.prog 38 #[.agg #[.slice A0_0 l0_0.length c0_0]] w fun e w' => e = .returned (.int .i64 r) ∧ Below w.heap.size w w' := by
 have hu26 := Try.underlying26
 have HR0_0 := am hr0_0
 have HC0_0 := am hc0_0
 clear hr0_0 hc0_0
 have HB := am (Below.refl w.heap.size w)
 unfold spec_GenusOf.f at h
 have H := h
 clear h
 replace H := ga H; obtain ⟨t352, A2, H⟩ := H
 replace H := gb H; obtain ⟨rfl, H⟩ | ⟨rfl, H⟩ := H
 ·replace H := ga H; obtain ⟨t353, A4, H⟩ := H
  obtain rfl := Option.some.inj H
  go_enter Try.func38, Try.ntmps38
  go_wp2_with (first | ((with_reducible refine gate_dst (N := 1) rfl ?_); refine bx 1 #[.slice A0_0 l0_0.length c0_0] 26 ?_; intro gb351 hg w5 hbox hb; have BK351 := am (hbox); have GW351 := am (gs hg : w.heap.size ≤ gb351); have GE351 := GW351; replace HB := am (below_step bw hb); clear hb hbox hg; have hcz6_0 := bc BK351 0 (.slice A0_0 l0_0.length c0_0); have hfz6_0 := blk_frozen BK351.out 0) | ((with_reducible refine gate_callee (f := 21) rfl ?_); refine gl (some 4) Try.func21 #[.agg #[.slice A0_0 l0_0.length c0_0]] ?_; (with_reducible refine (spec_IsSemigroup.calls k _ _ l0_0 true _ ?side1 ?side2 A2.out).mono ?_); (case side1 => exact co (Kd.C_below HR0_0.out HB.out)); (case side2 => exact HC0_0.out); rintro e w7 ⟨rfl, hb⟩; refine ⟨_, rfl, ?_⟩; replace BK351 := kb BK351 hb; replace HB := am (below_step bw hb); clear hb; have hcz8_0 := bc BK351 0 (.slice A0_0 l0_0.length c0_0); have hfz8_0 := blk_frozen BK351.out 0) | ((with_reducible refine gate_callee (f := 25) rfl ?_); refine gl (some 7) Try.func25 #[.agg #[.slice A0_0 l0_0.length c0_0]] ?_; (with_reducible refine (spec_l4Gaps.calls k _ _ l0_0 t353 _ ?side1 ?side2 A4.out).mono ?_); (case side1 => exact co (Kd.C_below HR0_0.out HB.out)); (case side2 => exact HC0_0.out); rintro e w9 ⟨v354, rfl, ho0, hb⟩; refine ⟨_, rfl, ?_⟩; have HO355 := am (Kd.R_lower ho0 (below_size bw)); replace BK351 := kb BK351 hb; replace HB := am (below_step bw hb); clear hb ho0; obtain ⟨Ao10, co10, eo10⟩ := Kd.R_slice HO355.out; subst eo10))
  go_ret
  exact ⟨re, bw⟩
 obtain rfl := Option.some.inj H
 go_enter Try.func38, Try.ntmps38
 go_wp2_with (first | ((with_reducible refine gate_dst (N := 1) rfl ?_); refine bx 1 #[.slice A0_0 l0_0.length c0_0] 26 ?_; intro gb351 hg w11 hbox hb; have BK351 := am (hbox); have GW351 := am (gs hg : w.heap.size ≤ gb351); have GE351 := GW351; replace HB := am (below_step bw hb); clear hb hbox hg; have hcz12_0 := bc BK351 0 (.slice A0_0 l0_0.length c0_0); have hfz12_0 := blk_frozen BK351.out 0) | ((with_reducible refine gate_callee (f := 21) rfl ?_); refine gl (some 4) Try.func21 #[.agg #[.slice A0_0 l0_0.length c0_0]] ?_; (with_reducible refine (spec_IsSemigroup.calls k _ _ l0_0 false _ ?side1 ?side2 A2.out).mono ?_); (case side1 => exact co (Kd.C_below HR0_0.out HB.out)); (case side2 => exact HC0_0.out); rintro e w13 ⟨rfl, hb⟩; refine ⟨_, rfl, ?_⟩; replace BK351 := kb BK351 hb; replace HB := am (below_step bw hb); clear hb))
 go_ret
 exact ⟨re, bw⟩


/-! ### spec_HasNumber: function 22 -/
def spec_HasNumber.l0 : Nat → List Int → Int → Int → Option (Bool)
 | 0, _, _, _ => none
 | k + 1, x0, x1, x5 => if x5 < (x0.length : Int) then (if 0 ≤ x5 then (if (rd x0 x5) = x1 then (some true) else (spec_HasNumber.l0 k x0 x1 (wrap64 (x5 + 1)))) else (none)) else (some false)
def spec_HasNumber.f (k : Nat) (l0 : List Int) (a1 : Int) : Option (Bool) := spec_HasNumber.l0 k l0 a1 0
theorem spec_HasNumber.calls (k : Nat) (A0 : Option Addr) (c0 : Nat) (l0 : List Int) (a1 : Int) (r : Bool) (w : World) (hr0 : Kd.C (Kd.int .i64) w A0 l0.length l0) (hc0 : l0.length ≤ c0) (h : spec_HasNumber.f k l0 a1 = some r) :
  Calls Try.prog 22 #[.slice A0 l0.length c0, .int .i64 a1] w fun e w' => e = .returned (.bool r) ∧ Drawn0 w w' := by
 have HR0 := am hr0
 have HC0 := am hc0
 clear hr0 hc0
 unfold spec_HasNumber.f at h
 have H := h
 clear h
 have H' := am H
 clear H
 go_enter Try.func22, Try.ntmps22
 go_wp2
 go_loopg [5] k (fun kq v5 w' => ∃ (x5_1 : Int), v5 = .int .i64 x5_1 ∧ Aside0 (spec_HasNumber.l0 kq l0 a1 x5_1 = some r) ∧ Aside0 (kq ≤ k) ∧ Drawn0 w w')
 case atStart => exact ⟨(0), rr, H', ⟨Nat.le_refl _⟩, dw⟩
 case round =>
  clear H'
  obtain ⟨x5_1, rfl, HA, HK1, ⟨m1, rfl⟩⟩ := hrel
  cases gk with
  | zero => exact absurd HA.out (by simp [spec_HasNumber.l0])
  | succ k1 =>
   have H := HA.out
   clear HA
   simp only [spec_HasNumber.l0] at H
   replace H := gi H; obtain ⟨c3b0, H⟩ | ⟨c3b0, H⟩ := H
   ·replace H := gd H; obtain ⟨c4b0, H⟩ := H
    by_cases c5 : (rd l0 x5_1) = a1
    ·rw [if_pos c5] at H
     have c5b0 : ((rd l0 x5_1) == a1) = true := beq_iff_eq.mpr c5
     have c5b1 : ((rd l0 x5_1) != a1) = false := bne_eq_false_iff_eq.mpr c5
     clear c5
     obtain rfl := Option.some.inj H
     obtain ⟨⟨ad356, e356, hx356_0⟩, p356, q356⟩ := pq (Kd.at_int HR0.out x5_1)
     cases e356
     go_wp2
     go_ret
     exact ⟨rr, dw⟩
    rw [if_neg c5] at H
    have c5b0 : ((rd l0 x5_1) == a1) = false := beq_eq_false_iff_ne.mpr c5
    have c5b1 : ((rd l0 x5_1) != a1) = true := bne_iff_ne.mpr c5
    have H' := am H
    clear H
    obtain ⟨⟨ad356, e356, hx356_0⟩, p356, q356⟩ := pq (Kd.at_int HR0.out x5_1)
    cases e356
    go_wp2
    go_roundg k1
    case measure => have := HK1.out; omega
    case rel => exact ⟨(wrap64 (x5_1 + 1)), rr, H', ⟨by have := HK1.out; omega⟩, dw⟩
   obtain rfl := Option.some.inj H
   go_wp2
   go_ret
   exact ⟨rr, dw⟩


/-! ### spec_Gaps: function 67 -/
def spec_Gaps.f (k : Nat) (l0_0 : List Int) : Option (List Int) := (spec_IsSemigroup.f k l0_0).bind fun t358 => (if t358 = true then ((spec_l4Gaps.f k l0_0).bind fun t359 => (some t359)) else (some (([] : List Int))))
theorem spec_Gaps.calls (k : Nat) (A0_0 : Option Addr) (c0_0 : Nat) (l0_0 : List Int) (r : List Int) (w : World) (hr0_0 : Kd.C (Kd.int .i64) w A0_0 l0_0.length l0_0) (hc0_0 : l0_0.length ≤ c0_0) (h : spec_Gaps.f k l0_0 = some r) :
  Calls Try.prog 67 #[.agg #[.slice A0_0 l0_0.length c0_0]] w fun e w' => ∃ v0_ : Value, e = .returned (v0_) ∧ Kd.R (Kd.int .i64) 3 w' w.heap.size (fun _ => True) v0_ r ∧ Below w.heap.size w w' := by
 have hu26 := Try.underlying26
 have HR0_0 := am hr0_0
 have HC0_0 := am hc0_0
 clear hr0_0 hc0_0
 have HB := am (Below.refl w.heap.size w)
 unfold spec_Gaps.f at h
 have H := h
 clear h
 replace H := ga H; obtain ⟨t358, A2, H⟩ := H
 replace H := gb H; obtain ⟨rfl, H⟩ | ⟨rfl, H⟩ := H
 ·replace H := ga H; obtain ⟨t359, A4, H⟩ := H
  obtain rfl := Option.some.inj H
  go_enter Try.func67, Try.ntmps67
  go_wp2_with (first | ((with_reducible refine gate_dst (N := 1) rfl ?_); refine bx 1 #[.slice A0_0 l0_0.length c0_0] 26 ?_; intro gb357 hg w5 hbox hb; have BK357 := am (hbox); have GW357 := am (gs hg : w.heap.size ≤ gb357); have GE357 := GW357; replace HB := am (below_step bw hb); clear hb hbox hg; have hcz6_0 := bc BK357 0 (.slice A0_0 l0_0.length c0_0); have hfz6_0 := blk_frozen BK357.out 0) | ((with_reducible refine gate_callee (f := 21) rfl ?_); refine gl (some 4) Try.func21 #[.agg #[.slice A0_0 l0_0.length c0_0]] ?_; (with_reducible refine (spec_IsSemigroup.calls k _ _ l0_0 true _ ?side1 ?side2 A2.out).mono ?_); (case side1 => exact co (Kd.C_below HR0_0.out HB.out)); (case side2 => exact HC0_0.out); rintro e w7 ⟨rfl, hb⟩; refine ⟨_, rfl, ?_⟩; replace BK357 := kb BK357 hb; replace HB := am (below_step bw hb); clear hb; have hcz8_0 := bc BK357 0 (.slice A0_0 l0_0.length c0_0); have hfz8_0 := blk_frozen BK357.out 0) | ((with_reducible refine gate_callee (f := 25) rfl ?_); refine gl (some 8) Try.func25 #[.agg #[.slice A0_0 l0_0.length c0_0]] ?_; (with_reducible refine (spec_l4Gaps.calls k _ _ l0_0 t359 _ ?side1 ?side2 A4.out).mono ?_); (case side1 => exact co (Kd.C_below HR0_0.out HB.out)); (case side2 => exact HC0_0.out); rintro e w9 ⟨v360, rfl, ho0, hb⟩; refine ⟨_, rfl, ?_⟩; have HO361 := am (Kd.R_lower ho0 (below_size bw)); replace BK357 := kb BK357 hb; replace HB := am (below_step bw hb); clear hb ho0))
  go_ret
  exact ⟨_, re, ro HO361.out, bw⟩
 obtain ⟨y362, hy362⟩ : ∃ y_ : List Int, y_ = (([] : List Int)) := ⟨_, rfl⟩
 replace H : (some y362) = some r := by first | (rw [hy362]; with_reducible first | exact H | exact bs H) | (with_reducible first | exact bs H | exact H) | (rw [hy362]; exact H) | exact H
 have Ny362 := am hy362
 clear hy362
 obtain rfl := Option.some.inj H
 go_enter Try.func67, Try.ntmps67
 go_wp2_with (first | ((with_reducible refine gate_dst (N := 1) rfl ?_); refine bx 1 #[.slice A0_0 l0_0.length c0_0] 26 ?_; intro gb357 hg w10 hbox hb; have BK357 := am (hbox); have GW357 := am (gs hg : w.heap.size ≤ gb357); have GE357 := GW357; replace HB := am (below_step bw hb); clear hb hbox hg; have hcz11_0 := bc BK357 0 (.slice A0_0 l0_0.length c0_0); have hfz11_0 := blk_frozen BK357.out 0) | ((with_reducible refine gate_callee (f := 21) rfl ?_); refine gl (some 4) Try.func21 #[.agg #[.slice A0_0 l0_0.length c0_0]] ?_; (with_reducible refine (spec_IsSemigroup.calls k _ _ l0_0 false _ ?side1 ?side2 A2.out).mono ?_); (case side1 => exact co (Kd.C_below HR0_0.out HB.out)); (case side2 => exact HC0_0.out); rintro e w12 ⟨rfl, hb⟩; refine ⟨_, rfl, ?_⟩; replace BK357 := kb BK357 hb; replace HB := am (below_step bw hb); clear hb) | ((with_reducible refine gate_dst (N := 6) rfl ?_); refine Kd.R_lit (Kd.int .i64) _ 3 ?hg (N := 6) ?hd (xs := ([] : List Int)) (inner := []) (ok := fun _ => True) (okp := fun _ => True) ?hr ?hp (fun _ hk => hk) trivial (Below.refl _ _) (Nat.le_refl _) (by simp) ?_; (case hd => rfl); (case hg => rfl); (case hr => first | (go_simp; done) | (go_simp; rfl)); (case hp => exact (Reps.none _ _)); intro v363 w13 ho14 hb hg_ hnew_; clear hg_ hnew_; (first | rw [← Ny362.out] at ho14 | (simp only [Int.reduceToNat] at ho14; rw [← Ny362.out] at ho14)); have HO364 := am (Kd.R_lower ho14 (below_size bw)); replace BK357 := kb BK357 hb; replace HB := am (below_step bw hb); clear hb ho14))
 go_ret
 exact ⟨_, re, ro HO364.out, bw⟩


/-! ### spec_PseudoFrobenius: function 68 -/
mutual
def spec_PseudoFrobenius.l0 : Nat → List Int → List Int → Int → List Int → Option (List Int)
 | 0, _, _, _, _ => none
 | k + 1, x3, x4, x5, x366000 => if x5 < (x4.length : Int) then (spec_PseudoFrobenius.l1 k x3 x4 x5 true 0 x366000) else (some x3)
def spec_PseudoFrobenius.l1 : Nat → List Int → List Int → Int → Bool → Int → List Int → Option (List Int)
 | 0, _, _, _, _, _, _ => none
 | k + 1, x3, x4, x5, x6, x7, x366000 => if x7 < (x366000.length : Int) then (if x6 = true then (if 0 ≤ x5 then (if x5 < (x4.length : Int) then (if 0 ≤ x7 then ((spec_HasNumber.f k x4 (wrap64 ((rd x4 x5) + (rd x366000 x7)))).bind fun t374 => (spec_PseudoFrobenius.l1 k x3 x4 x5 (!t374) (wrap64 (x7 + 1)) x366000)) else (none)) else (none)) else (none)) else (spec_PseudoFrobenius.l1 k x3 x4 x5 false (wrap64 (x7 + 1)) x366000)) else (if x6 = true then (if 0 ≤ x5 then (if x5 < (x4.length : Int) then (if x3.length < 17592186044416 then (spec_PseudoFrobenius.l0 k (x3 ++ [rd x4 x5]) x4 (wrap64 (x5 + 1)) x366000) else (none)) else (none)) else (none)) else (spec_PseudoFrobenius.l0 k x3 x4 (wrap64 (x5 + 1)) x366000))
end
def spec_PseudoFrobenius.f (k : Nat) (l0_0 : List Int) : Option (List Int) := (spec_Gaps.f k l0_0).bind fun t369 => (spec_PseudoFrobenius.l0 k (([] : List Int)) t369 0 l0_0)
theorem spec_PseudoFrobenius.calls (k : Nat) (A0_0 : Option Addr) (c0_0 : Nat) (l0_0 : List Int) (r : List Int) (w : World) (hr0_0 : Kd.C (Kd.int .i64) w A0_0 l0_0.length l0_0) (hc0_0 : l0_0.length ≤ c0_0) (h : spec_PseudoFrobenius.f k l0_0 = some r) :
  Calls Try.prog 68 #[.agg #[.slice A0_0 l0_0.length c0_0]] w fun e w' => ∃ v0_ : Value, e = .returned (v0_) ∧ Kd.R (Kd.int .i64) 3 w' w.heap.size (fun _ => True) v0_ r ∧ Below w.heap.size w w' := by
 have hu26 := Try.underlying26
 have HR0_0 := am hr0_0
 have HC0_0 := am hc0_0
 clear hr0_0 hc0_0
 have HB := am (Below.refl w.heap.size w)
 unfold spec_PseudoFrobenius.f at h
 have H := h
 clear h
 obtain ⟨y366, hy366⟩ : ∃ y_ : List Int, y_ = (([] : List Int)) := ⟨_, rfl⟩
 replace H : ((spec_Gaps.f k l0_0).bind fun t369 => (spec_PseudoFrobenius.l0 k y366 t369 0 l0_0)) = some r := by first | (rw [hy366]; with_reducible first | exact H | exact bs H) | (with_reducible first | exact bs H | exact H) | (rw [hy366]; exact H) | exact H
 have Ny366 := am hy366
 clear hy366
 replace H := ga H; obtain ⟨t369, A2, H⟩ := H
 have H' := am H
 clear H
 go_enter Try.func68, Try.ntmps68
 go_wp2_with (first | ((with_reducible refine gate_dst (N := 1) rfl ?_); refine bx 1 #[.slice A0_0 l0_0.length c0_0] 26 ?_; intro gb365 hg w3 hbox hb; have BK365 := am (hbox); have GW365 := am (gs hg : w.heap.size ≤ gb365); have GE365 := GW365; replace HB := am (below_step bw hb); clear hb hbox hg) | ((with_reducible refine gate_dst (N := 8) rfl ?_); refine Kd.R_lit (Kd.int .i64) _ 3 ?hg (N := 8) ?hd (xs := ([] : List Int)) (inner := []) (ok := fun _ => True) (okp := fun _ => True) ?hr ?hp (fun _ hk => hk) trivial (Below.refl _ _) (Nat.le_refl _) (by simp) ?_; (case hd => rfl); (case hg => rfl); (case hr => first | (go_simp; done) | (go_simp; rfl)); (case hp => exact (Reps.none _ _)); intro v367 w4 ho5 hb hg_ hnew_; clear hg_ hnew_; (first | rw [← Ny366.out] at ho5 | (simp only [Int.reduceToNat] at ho5; rw [← Ny366.out] at ho5)); have HO368 := am (Kd.R_lower ho5 (below_size bw)); replace BK365 := kb BK365 hb; replace HB := am (below_step bw hb); clear hb ho5; have hcz6_0 := bc BK365 0 (.slice A0_0 l0_0.length c0_0); have hfz6_0 := blk_frozen BK365.out 0) | (go_at_call 67; (with_reducible refine (spec_Gaps.calls k _ _ l0_0 t369 _ ?side1 ?side2 A2.out).mono ?_); (case side1 => exact co (Kd.C_below HR0_0.out HB.out)); (case side2 => exact HC0_0.out); rintro e w7 ⟨v370, rfl, ho0, hb⟩; have HO371 := am (Kd.R_lower (Kd.R_new' ho0 (Kd.R_lt (ro HO368.out))) (below_size bw)); replace HO368 := am (Kd.R_elder' (ro HO368.out) (Kd.R_base ho0) hb); replace BK365 := kb BK365 hb; replace HB := am (below_step bw hb); clear hb ho0))
 repeat (go_quiet (first | (go_at_call 67; (with_reducible refine (spec_Gaps.calls k _ _ l0_0 t369 _ ?side1 ?side2 A2.out).mono ?_); (case side1 => exact co (Kd.C_below HR0_0.out HB.out)); (case side2 => exact HC0_0.out); rintro e w7 ⟨v370, rfl, ho0, hb⟩; have n0_ := am (Kd.R_elder' (ro HO368.out) (Kd.R_base ho0) hb); have n1_ := am (Kd.R_lower (Kd.R_new' ho0 (Kd.R_lt (ro HO368.out))) (below_size bw)); have n2_ := am (blk_below (g := gb365) (o := .cells #[.slice A0_0 l0_0.length c0_0] 26 (0, 0)) (bo BK365.out) hb); have n3_ := am (below_step bw hb); clear HO368 BK365 HB; have HO368 := n0_; have HO371 := n1_; have BK365 := n2_; have HB := n3_; clear n0_ n1_ n2_ n3_; (try clear hb); (try clear hb2); (try clear hk); (try clear hi); (try clear ho0))); try go_wp2_with (first | ((with_reducible refine gate_dst (N := 1) rfl ?_); refine bx 1 #[.slice A0_0 l0_0.length c0_0] 26 ?_; intro gb365 hg w3 hbox hb; have n0_ := am (below_step bw hb); have n1_ := am (hbox); have n2_ := am (gs hg : w.heap.size ≤ gb365); have n3_ := am (gs hg : w.heap.size ≤ gb365); clear HB; have HB := n0_; have BK365 := n1_; have GW365 := n2_; have GE365 := n3_; clear n0_ n1_ n2_ n3_; clear hb hbox hg) | ((with_reducible refine gate_dst (N := 8) rfl ?_); refine Kd.R_lit (Kd.int .i64) _ 3 ?hg (N := 8) ?hd (xs := ([] : List Int)) (inner := []) (ok := fun _ => True) (okp := fun _ => True) ?hr ?hp (fun _ hk => hk) trivial (Below.refl _ _) (Nat.le_refl _) (by simp) ?_; (case hd => rfl); (case hg => rfl); (case hr => first | (go_simp; done) | (go_simp; rfl)); (case hp => exact (Reps.none _ _)); intro v367 w4 ho5 hb hg_ hnew_; clear hg_ hnew_; (first | rw [← Ny366.out] at ho5 | (simp only [Int.reduceToNat] at ho5; rw [← Ny366.out] at ho5)); have n0_ := am (Kd.R_lower ho5 (below_size bw)); have n1_ := am (blk_below (g := gb365) (o := .cells #[.slice A0_0 l0_0.length c0_0] 26 (0, 0)) (bo BK365.out) hb); have n2_ := am (below_step bw hb); clear BK365; clear HB; have HO368 := n0_; have BK365 := n1_; have HB := n2_; clear n0_ n1_ n2_; clear hb ho5; have hcz6_0 := bc BK365 0 (.slice A0_0 l0_0.length c0_0); have hfz6_0 := blk_frozen BK365.out 0) | (go_at_call 67; (with_reducible refine (spec_Gaps.calls k _ _ l0_0 t369 _ ?side1 ?side2 A2.out).mono ?_); (case side1 => exact co (Kd.C_below HR0_0.out HB.out)); (case side2 => exact HC0_0.out); rintro e w7 ⟨v370, rfl, ho0, hb⟩; have n0_ := am (Kd.R_elder' (ro HO368.out) (Kd.R_base ho0) hb); have n1_ := am (Kd.R_lower (Kd.R_new' ho0 (Kd.R_lt (ro HO368.out))) (below_size bw)); have n2_ := am (blk_below (g := gb365) (o := .cells #[.slice A0_0 l0_0.length c0_0] 26 (0, 0)) (bo BK365.out) hb); have n3_ := am (below_step bw hb); clear HO368 BK365 HB; have HO368 := n0_; have HO371 := n1_; have BK365 := n2_; have HB := n3_; clear n0_ n1_ n2_ n3_; (try clear hb); (try clear hb2); (try clear hk); (try clear hi); (try clear ho0))))
 go_loopg [3, 5] k (fun kq v3 v5 w' => ∃ (x3_1 : List Int) (x5_1 : Int), v5 = .int .i64 x5_1 ∧ Aside0 (spec_PseudoFrobenius.l0 kq x3_1 t369 x5_1 l0_0 = some r) ∧ Aside0 (kq ≤ k) ∧ Aside0 (Kd.R (Kd.int .i64) 3 w' w.heap.size (fun k_ => some k_ ≠ (v370 : Value).ownBlock) v3 x3_1) ∧ Aside0 (Kd.R (Kd.int .i64) 3 w' w.heap.size (fun k_ => some k_ ≠ (v3 : Value).ownBlock) v370 t369) ∧ Aside0 (w'.heap[gb365]? = some (.cells #[(.slice A0_0 l0_0.length c0_0)] 26 (0, 0))) ∧ Aside0 (Below w.heap.size w w'))
 case atStart => exact ⟨(y366), (0), rr, H', ⟨Nat.le_refl _⟩, ⟨rM HO368.out (fun _ hk => hk.2)⟩, ⟨rM HO371.out (fun _ hk => hk.2)⟩, ⟨bo BK365.out⟩, ⟨bw⟩⟩
 case round =>
  clear H'
  try clear hcz6_0; try clear hfz6_0
  obtain ⟨x3_1, x5_1, rfl, HA, HK1, HO_3, HO_4, BK365, HB⟩ := hrel
  cases gk with
  | zero => exact absurd HA.out (by simp [spec_PseudoFrobenius.l0])
  | succ k1 =>
   have H := HA.out
   clear HA
   simp only [spec_PseudoFrobenius.l0] at H
   replace H := gi H; obtain ⟨c8b0, H⟩ | ⟨c8b0, H⟩ := H
   ·have H' := am H
    clear H
    obtain ⟨Ao9, co9, eo9⟩ := Kd.R_slice HO_4.out
    subst eo9
    go_wp2
    repeat (go_quiet (fail); try go_wp2)
    go_loopg [6, 7] k1 (fun kq v6 v7 w' => ∃ (x6_2 : Bool) (x7_2 : Int), v6 = .bool x6_2 ∧ v7 = .int .i64 x7_2 ∧ Aside0 (spec_PseudoFrobenius.l1 kq x3_1 t369 x5_1 x6_2 x7_2 l0_0 = some r) ∧ Aside0 (kq ≤ k1) ∧ Aside0 (Kd.R (Kd.int .i64) 3 w' w.heap.size (fun k_ => nb k_ Ao9 t369 co9) u3 x3_1) ∧ Aside0 (Kd.R (Kd.int .i64) 3 w' w.heap.size (fun k_ => some k_ ≠ (u3 : Value).ownBlock) (.slice Ao9 t369.length co9) t369) ∧ Aside0 (w'.heap[gb365]? = some (.cells #[(.slice A0_0 l0_0.length c0_0)] 26 (0, 0))) ∧ Aside0 (Below w.heap.size w w'))
    case atStart => exact ⟨(true), (0), rr, rr, H', ⟨Nat.le_refl _⟩, ⟨ro HO_3.out⟩, ⟨ro HO_4.out⟩, ⟨bo BK365.out⟩, ⟨bw⟩⟩
    case round =>
     clear H'
     try clear c8b0; try clear hcz6_0; try clear hfz6_0
     obtain ⟨x6_2, x7_2, rfl, rfl, HA, HK2, HO_3, HO_4, BK365, HB⟩ := hrel
     cases gk with
     | zero => exact absurd HA.out (by simp [spec_PseudoFrobenius.l1])
     | succ k2 =>
      have H := HA.out
      clear HA
      simp only [spec_PseudoFrobenius.l1] at H
      replace H := gi H; obtain ⟨c10b0, H⟩ | ⟨c10b0, H⟩ := H
      ·replace H := gb H; obtain ⟨rfl, H⟩ | ⟨rfl, H⟩ := H
       ·replace H := gd H; obtain ⟨c12b0, H⟩ := H
        replace H := gd H; obtain ⟨c13b0, H⟩ := H
        replace H := gd H; obtain ⟨c14b0, H⟩ := H
        replace H := ga H; obtain ⟨t374, A15, H⟩ := H
        have H' := am H
        clear H
        have hcz16_0 := bc BK365 0 (.slice A0_0 l0_0.length c0_0)
        have hfz16_0 := blk_frozen BK365.out 0
        obtain ⟨⟨ad372, e372, hx372_0⟩, p372, q372⟩ := pq (Kd.at_int (Kd.R_reads' HO_4.out).2.2 x5_1)
        cases e372
        obtain ⟨⟨ad373, e373, hx373_0⟩, p373, q373⟩ := pq (Kd.at_int HR0_0.out x7_2)
        cases e373
        replace hx373_0 := hw HB hx373_0
        go_wp2_with (first | (go_at_call 22; (with_reducible refine (spec_HasNumber.calls k2 _ _ t369 (wrap64 ((rd t369 x5_1) + (rd l0_0 x7_2))) t374 _ ?side1 ?side2 A15.out).mono ?_); (case side1 => exact co (Kd.R_reads' HO_4.out).2.2); (case side2 => exact (Kd.R_reads' HO_4.out).2.1); rintro e w' ⟨rfl, ⟨nd, rfl⟩⟩; (try first | exact ⟨rfl, _, World.drewN_drewN _ _ _⟩ | exact ⟨rfl, _, Eq.trans (World.drewN_drewN _ _ _) (congrArg (World.drewN _) (Nat.add_assoc _ _ _))⟩)))
        repeat (go_quiet (first | (go_at_call 22; (with_reducible refine (spec_HasNumber.calls k2 _ _ t369 (wrap64 ((rd t369 x5_1) + (rd l0_0 x7_2))) t374 _ ?side1 ?side2 A15.out).mono ?_); (case side1 => exact co (Kd.R_reads' HO_4.out).2.2); (case side2 => exact (Kd.R_reads' HO_4.out).2.1); rintro e w' ⟨rfl, ⟨nd, rfl⟩⟩; (try first | exact ⟨rfl, _, World.drewN_drewN _ _ _⟩ | exact ⟨rfl, _, Eq.trans (World.drewN_drewN _ _ _) (congrArg (World.drewN _) (Nat.add_assoc _ _ _))⟩))); try go_wp2_with (first | (go_at_call 22; (with_reducible refine (spec_HasNumber.calls k2 _ _ t369 (wrap64 ((rd t369 x5_1) + (rd l0_0 x7_2))) t374 _ ?side1 ?side2 A15.out).mono ?_); (case side1 => exact co (Kd.R_reads' HO_4.out).2.2); (case side2 => exact (Kd.R_reads' HO_4.out).2.1); rintro e w' ⟨rfl, ⟨nd, rfl⟩⟩; (try first | exact ⟨rfl, _, World.drewN_drewN _ _ _⟩ | exact ⟨rfl, _, Eq.trans (World.drewN_drewN _ _ _) (congrArg (World.drewN _) (Nat.add_assoc _ _ _))⟩))))
        go_roundg k2
        case measure => have := HK1.out; have := HK2.out; omega
        case rel => exact ⟨(!t374), (wrap64 (x7_2 + 1)), rr, rr, H', ⟨by have := HK1.out; have := HK2.out; omega⟩, ⟨ro HO_3.out⟩, ⟨ro HO_4.out⟩, ⟨bo BK365.out⟩, ⟨bw⟩⟩
       have H' := am H
       clear H
       have hcz17_0 := bc BK365 0 (.slice A0_0 l0_0.length c0_0)
       have hfz17_0 := blk_frozen BK365.out 0
       go_wp2
       repeat (go_quiet (fail); try go_wp2)
       go_roundg k2
       case measure => have := HK1.out; have := HK2.out; omega
       case rel => exact ⟨(false), (wrap64 (x7_2 + 1)), rr, rr, H', ⟨by have := HK1.out; have := HK2.out; omega⟩, ⟨ro HO_3.out⟩, ⟨ro HO_4.out⟩, ⟨bo BK365.out⟩, ⟨bw⟩⟩
      replace H := gb H; obtain ⟨rfl, H⟩ | ⟨rfl, H⟩ := H
      ·replace H := gd H; obtain ⟨c19b0, H⟩ := H
       replace H := gd H; obtain ⟨c20b0, H⟩ := H
       by_cases c21 : x3_1.length < 17592186044416
       rotate_left
       ·rw [if_neg c21] at H
        exact absurd H (by simp)
       rw [if_pos c21] at H
       have LMc21 := am c21
       clear c21
       obtain ⟨y376, hy376⟩ : ∃ y_ : List Int, y_ = (x3_1 ++ [rd t369 x5_1]) := ⟨_, rfl⟩
       replace H : (spec_PseudoFrobenius.l0 k2 y376 t369 (wrap64 (x5_1 + 1)) l0_0) = some r := by first | (rw [hy376]; with_reducible first | exact H | exact bs H) | (with_reducible first | exact bs H | exact H) | (rw [hy376]; exact H) | exact H
       have Ny376 := am hy376
       clear hy376
       have H' := am H
       clear H
       have hcz22_0 := bc BK365 0 (.slice A0_0 l0_0.length c0_0)
       have hfz22_0 := blk_frozen BK365.out 0
       obtain ⟨⟨ad375, e375, hx375_0⟩, p375, q375⟩ := pq (Kd.at_int (Kd.R_reads' HO_4.out).2.2 x5_1)
       cases e375
       go_wp2_with (first | ((with_reducible refine gate_builtin (b := .append) (xs := #[.tmp 41, .tmp 46]) rfl ?_); at_builtin; refine Kd.R_append (Kd.int .i64) (w0 := w) w.heap.size rfl (.tmp 41) (.tmp 46) 22 3 (.int .i64 0) 8 rfl Try.underlying22 info3 rfl (by decide) (by omega) u3 x3_1 (rd t369 x5_1) [.int .i64 (rd t369 x5_1)] (fun k_ => some k_ ≠ (.slice (some ad375) t369.length co9 : Value).ownBlock) (fun _ => False) rfl rfl ?aP (fun _ hk => hk.elim) ?aF ?aO ?aB ?aS ?aL ?_; (case aP => exact rfl); (case aB => exact bw); (case aF => exact (fun k_ hk => Kd.fresh' (Kd.R_lt (ro HO_4.out)) k_ hk)); (case aO => exact (ro HO_3.out)); (case aS => exact (below_size bw)); (case aL => have := LMc21.out; omega); intro v377 w23 ho hb hg hat; rw [← Ny376.out] at ho; replace HO_4 := am (Kd.R_after (ok := (fun _ => True)) (rM HO_4.out (fun _ hk => ⟨trivial, by first | exact hk | exact (by intro a n m c x h; cases a <;> exact h : ∀ (a : Option Addr) (n m c x : Nat), some x ≠ (Value.slice a n c).ownBlock → some x ≠ (Value.slice a m c).ownBlock) _ _ _ _ _ hk⟩)) hg hat); replace BK365 := am (blk_grown (g := gb365) (o := .cells #[.slice A0_0 l0_0.length c0_0] 26 (0, 0)) (bo BK365.out) hg (Kd.R_ne HO_3.out BK365.out (by decide))); replace HB := am (hb); have HO378 := am (ho); clear HO_3 ho hb hg hat))
       repeat (go_quiet (fail); try go_wp2_with (first | ((with_reducible refine gate_builtin (b := .append) (xs := #[.tmp 41, .tmp 46]) rfl ?_); at_builtin; refine Kd.R_append (Kd.int .i64) (w0 := w) w.heap.size rfl (.tmp 41) (.tmp 46) 22 3 (.int .i64 0) 8 rfl Try.underlying22 info3 rfl (by decide) (by omega) u3 x3_1 (rd t369 x5_1) [.int .i64 (rd t369 x5_1)] (fun k_ => some k_ ≠ (.slice (some ad375) t369.length co9 : Value).ownBlock) (fun _ => False) rfl rfl ?aP (fun _ hk => hk.elim) ?aF ?aO ?aB ?aS ?aL ?_; (case aP => exact rfl); (case aB => exact bw); (case aF => exact (fun k_ hk => Kd.fresh' (Kd.R_lt (ro HO_4.out)) k_ hk)); (case aO => exact (ro HO_3.out)); (case aS => exact (below_size bw)); (case aL => have := LMc21.out; omega); intro v377 w23 ho hb hg hat; rw [← Ny376.out] at ho; have n0_ := am (Kd.R_after (ok := (fun _ => True)) (rM HO_4.out (fun _ hk => ⟨trivial, by first | exact hk | exact (by intro a n m c x h; cases a <;> exact h : ∀ (a : Option Addr) (n m c x : Nat), some x ≠ (Value.slice a n c).ownBlock → some x ≠ (Value.slice a m c).ownBlock) _ _ _ _ _ hk⟩)) hg hat); have n1_ := am (blk_grown (g := gb365) (o := .cells #[.slice A0_0 l0_0.length c0_0] 26 (0, 0)) (bo BK365.out) hg (Kd.R_ne HO_3.out BK365.out (by decide))); have n2_ := am (hb); have n3_ := am (ho); clear HO_4 BK365 HB HO_3; have HO_4 := n0_; have BK365 := n1_; have HB := n2_; have HO378 := n3_; clear n0_ n1_ n2_ n3_; clear ho hb hg hat)))
       go_roundg k2
       case measure => have := HK1.out; have := HK2.out; omega
       case rel => exact ⟨(y376), (wrap64 (x5_1 + 1)), rr, H', ⟨by have := HK1.out; have := HK2.out; omega⟩, ⟨ro HO378.out⟩, ⟨rM HO_4.out (fun _ hk => hk.2)⟩, ⟨bo BK365.out⟩, ⟨bw⟩⟩
      have H' := am H
      clear H
      have hcz24_0 := bc BK365 0 (.slice A0_0 l0_0.length c0_0)
      have hfz24_0 := blk_frozen BK365.out 0
      go_wp2
      repeat (go_quiet (fail); try go_wp2)
      go_roundg k2
      case measure => have := HK1.out; have := HK2.out; omega
      case rel => exact ⟨(x3_1), (wrap64 (x5_1 + 1)), rr, H', ⟨by have := HK1.out; have := HK2.out; omega⟩, ⟨ro HO_3.out⟩, ⟨ro HO_4.out⟩, ⟨bo BK365.out⟩, ⟨bw⟩⟩
   obtain rfl := Option.some.inj H
   obtain ⟨Ao25, co25, eo25⟩ := Kd.R_slice HO_4.out
   subst eo25
   go_wp2
   repeat (go_quiet (fail); try go_wp2)
   go_ret
   exact ⟨_, re, rM HO_3.out (fun _ hk => trivial), bw⟩


/-! ### spec_l3Has: function 69 -/
def spec_l3Has.f (k : Nat) (l0_0 : List Int) (a1 : Int) : Option (Bool) := if a1 < 0 then (some (decide (a1 > 0))) else (if a1 ≥ 200 then (some (decide (a1 > 0))) else ((spec_l3Table.f k l0_0 a1).bind fun t380 => (if 0 ≤ a1 then (if a1 < (t380.length : Int) then (some (rdOf false t380 a1)) else (none)) else (none))))
theorem spec_l3Has.calls (k : Nat) (A0_0 : Option Addr) (c0_0 : Nat) (l0_0 : List Int) (a1 : Int) (r : Bool) (w : World) (hr0_0 : Kd.C (Kd.int .i64) w A0_0 l0_0.length l0_0) (hc0_0 : l0_0.length ≤ c0_0) (h : spec_l3Has.f k l0_0 a1 = some r) :
  Calls Try.prog 69 #[.agg #[.slice A0_0 l0_0.length c0_0], .int .i64 a1] w fun e w' => e = .returned (.bool r) ∧ Below w.heap.size w w' := by
 have hu26 := Try.underlying26
 have HR0_0 := am hr0_0
 have HC0_0 := am hc0_0
 clear hr0_0 hc0_0
 have HB := am (Below.refl w.heap.size w)
 unfold spec_l3Has.f at h
 have H := h
 clear h
 replace H := gi H; obtain ⟨c3b0, H⟩ | ⟨c3b0, H⟩ := H
 ·obtain rfl := Option.some.inj H
  go_enter Try.func69, Try.ntmps69
  go_wp2_with (first | ((with_reducible refine gate_dst (N := 2) rfl ?_); refine bx 2 #[.slice A0_0 l0_0.length c0_0] 26 ?_; intro gb379 hg w4 hbox hb; have BK379 := am (hbox); have GW379 := am (gs hg : w.heap.size ≤ gb379); have GE379 := GW379; replace HB := am (below_step bw hb); clear hb hbox hg))
  go_ret
  exact ⟨re, bw⟩
 replace H := gj H; obtain ⟨c5, H⟩ | ⟨c5, H⟩ := H
 ·have c5b0 : decide (200 ≤ a1) = true := decide_eq_true c5
  clear c5
  obtain rfl := Option.some.inj H
  go_enter Try.func69, Try.ntmps69
  go_wp2_with (first | ((with_reducible refine gate_dst (N := 2) rfl ?_); refine bx 2 #[.slice A0_0 l0_0.length c0_0] 26 ?_; intro gb379 hg w6 hbox hb; have BK379 := am (hbox); have GW379 := am (gs hg : w.heap.size ≤ gb379); have GE379 := GW379; replace HB := am (below_step bw hb); clear hb hbox hg))
  go_ret
  exact ⟨re, bw⟩
 have c5b0 : decide (200 ≤ a1) = false := decide_eq_false c5
 clear c5
 replace H := ga H; obtain ⟨t380, A7, H⟩ := H
 replace H := gd H; obtain ⟨c8b0, H⟩ := H
 replace H := gd H; obtain ⟨c9b0, H⟩ := H
 obtain rfl := Option.some.inj H
 go_enter Try.func69, Try.ntmps69
 go_wp2_with (first | ((with_reducible refine gate_dst (N := 2) rfl ?_); refine bx 2 #[.slice A0_0 l0_0.length c0_0] 26 ?_; intro gb379 hg w10 hbox hb; have BK379 := am (hbox); have GW379 := am (gs hg : w.heap.size ≤ gb379); have GE379 := GW379; replace HB := am (below_step bw hb); clear hb hbox hg; have hcz11_0 := bc BK379 0 (.slice A0_0 l0_0.length c0_0); have hfz11_0 := blk_frozen BK379.out 0) | ((with_reducible refine gate_callee (f := 53) rfl ?_); refine gl (some 16) Try.func53 #[.slice A0_0 l0_0.length c0_0, .int .i64 a1] ?_; (with_reducible refine (spec_l3Table.calls k _ _ l0_0 a1 t380 _ ?side1 ?side2 A7.out).mono ?_); (case side1 => exact co (Kd.C_below HR0_0.out HB.out)); (case side2 => exact HC0_0.out); rintro e w12 ⟨v381, rfl, ho0, hb⟩; refine ⟨_, rfl, ?_⟩; have HO382 := am (Kd.R_lower ho0 (below_size bw)); replace BK379 := kb BK379 hb; replace HB := am (below_step bw hb); clear hb ho0; obtain ⟨Ao13, co13, eo13⟩ := Kd.R_slice HO382.out; subst eo13; have p383 : 0 ≤ (a1 : Int) := od; have q383 : a1 < (t380.length : Int) := od; obtain ⟨ad383, e383, hx383_0⟩ := Kd.at_bool (Kd.R_reads' HO382.out).2.2 a1 p383 q383; cases e383; replace p383 := eq_true p383; replace q383 := eq_true q383))
 go_ret
 exact ⟨re, bw⟩

end Go.Proofs.Ytlhcpbpcdicleaa.C
