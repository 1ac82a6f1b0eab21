/- Contracts of functions of the program: spec_l3Minimal, spec_l3Ends, spec_IsSemigroup, spec_FromGens. -/
import Derived.Test.YtbbehmbpoilffaaDoorC0
import Derived.Test.YtbbehmbpoilffaaDoorC1
import Derived.Test.YtbbehmbpoilffaaDoorC2
namespace Go.Proofs.YtbbehmbpoilffaaDoor.C
open Go.RowKit Go.Proofs.YtbbehmbpoilffaaDoorW.PrintWords Go.Proofs.YtbbehmbpoilffaaDoorW.PrintLast Go.Proofs.YtbbehmbpoilffaaDoorW.PrintMore
attribute [local go_sem] max2_int min2_int max_two min_two max_three min_three max_four min_four
set_option linter.unusedVariables false
set_option linter.unusedSimpArgs false

/-! ### spec_l3Minimal: function 44 -/
def spec_l3Minimal.l0 : Nat → List Int → List Int → Int → Option (List Int)
 | 0, _, _, _ => none
 | k + 1, x3, x4, x5 => if x5 < (x4.length : Int) then (if x5 = 0 then (if 0 ≤ x5 then (if x3.length < 17592186044416 then (spec_l3Minimal.l0 k (x3 ++ [rd x4 x5]) x4 (wrap64 (x5 + 1))) else (none)) else (none)) else (if 0 ≤ x5 then (if x5 ≤ (x4.length : Int) then ((spec_l3Table.f k (x4.take (x5 : Int).toNat) (rd x4 x5)).bind fun t211 => (if 0 ≤ (rd x4 x5) then (if (rd x4 x5) < (t211.length : Int) then (if (rdOf false t211 (rd x4 x5) = true) then (spec_l3Minimal.l0 k x3 x4 (wrap64 (x5 + 1))) else (if x3.length < 17592186044416 then (spec_l3Minimal.l0 k (x3 ++ [rd x4 x5]) x4 (wrap64 (x5 + 1))) else (none))) else (none)) else (none))) else (none)) else (none))) else (some x3)
def spec_l3Minimal.f (k : Nat) (l0 : List Int) : Option (List Int) := (spec_SortList.f k l0).bind fun t199 => (spec_l3Minimal.l0 k (([] : List Int)) t199 0)
def spec_l3Minimal.T6 : Bool × List (List Nat × List Nat) := (true, [([], []), ([0], [0]), ([1], [1]), ([2], [2]), ([2], [2]), ([3, 4, 2], [2, 3, 4]), ([2], [2]), ([2], [2]), ([6, 7, 2], [2, 6, 7]), ([8, 2], [2, 8]), ([5, 9, 2, 2], [2, 5, 9]), ([2], [2]), ([2], [2]), ([11, 12, 2], [2, 11, 12]), ([13, 2], [2, 13]), ([10, 14, 2], [2, 10, 14]), ([15, 2], [2, 15]), ([16, 2], [2, 16]), ([2, 17], [2, 17])])
def spec_l3Minimal.B6 : List Nat := [0, 1, 3, 7, 7, 31, 7, 7, 199, 455, 1023, 7, 7, 6151, 14343, 32767, 65535, 131071, 262143]
theorem spec_l3Minimal.tab6 : rtab .any (opsOf Tryd.f44 6) = spec_l3Minimal.T6 := by kernel_rfl
theorem spec_l3Minimal.bits6 : waitsOk spec_l3Minimal.T6.2 spec_l3Minimal.B6 = true := by kernel_rfl
set_option maxHeartbeats 8000000 in
set_option maxRecDepth 100000 in
theorem spec_l3Minimal.calls (k : Nat) (A0 : Option Addr) (c0 : Nat) (l0 : List Int) (r : List Int) (w : World) (hr0 : Kd.C (Kd.int .i64) w A0 l0.length l0) (hc0 : l0.length ≤ c0) (h : spec_l3Minimal.f k l0 = some r) :
  Calls Tryd.prog 44 #[.slice A0 l0.length c0] w fun e w' => ∃ v0_ : Value, e = .returned (v0_) ∧ Kd.R (Kd.int .i64) 3 w' w.heap.size (fun _ => True) v0_ r ∧ Below w.heap.size w w' := by
 have HR0 := am hr0
 have HC0 := am hc0
 clear hr0 hc0
 have HB := am (Below.refl w.heap.size w)
 have H : ((spec_SortList.f k l0).bind fun t199 => (spec_l3Minimal.l0 k (([] : List Int)) t199 0)) = some r := h
 clear h
 obtain ⟨y196, hy196⟩ : ∃ y_ : List Int, y_ = (([] : List Int)) := ⟨_, rfl⟩
 replace H : ((spec_SortList.f k l0).bind fun t199 => (spec_l3Minimal.l0 k y196 t199 0)) = some r := by first | (rw [hy196]; with_reducible first | exact H | exact bs H) | (with_reducible first | exact bs H | exact H) | (rw [hy196]; exact H) | exact H
 have Ny196 := am hy196
 clear hy196
 replace H := ga H; obtain ⟨t199, A2, H⟩ := H
 have H' := am H
 clear H
 go_enter Tryd.func44, Tryd.ntmps44
 go_wp2_with (first | ((with_reducible refine gate_dst (N := 6) rfl ?_); refine Kd.R_lit (Kd.int .i64) _ 3 ?hg (N := 6) ?hd (xs := ([] : List Int)) (inner := []) (ok := fun _ => True) (okp := fun _ => True) ?hr ?hp (fun _ hk => hk) trivial (Below.refl _ _) (Nat.le_refl _) (by simp) ?_; (case hd => rfl); (case hg => rfl); (case hr => first | (go_simp; done) | (go_simp; rfl)); (case hp => exact (Reps.none _ _)); intro v197 w3 ho4 hb hg_ hnew_; clear hg_ hnew_; (first | rw [← Ny196.out] at ho4 | (simp only [Int.reduceToNat] at ho4; rw [← Ny196.out] at ho4)); have HO198 := am (Kd.R_lower ho4 (below_size bw)); replace HB := am (below_step bw hb); clear hb ho4) | ((with_reducible refine gate_callee (f := 57) rfl ?_); refine goesL_ (some 8) rfl rfl Tryd.func57 (by kernel_rfl) rfl #[.slice A0 l0.length c0] rfl (by (try simp only [List.map_toArray, List.map_cons, List.map_nil]); first | done | rfl | (simp only [List.length_drop, List.length_take]; rfl)) ?_; (with_reducible refine (spec_SortList.calls k _ _ l0 t199 _ ?side1 ?side2 A2.out).mono ?_); (case side1 => exact co (Kd.C_below HR0.out HB.out)); (case side2 => exact HC0.out); rintro e w5 ⟨v200, rfl, ho0, hb⟩; refine ⟨_, rfl, ?_⟩; have HO201 := am (Kd.R_lower (Kd.R_new' ho0 (Kd.R_lt (ro HO198.out))) (below_size bw)); replace HO198 := am (Kd.R_elder' (ro HO198.out) (Kd.R_base ho0) hb); replace HB := am (below_step bw hb); clear hb ho0))
 go_loopg [3, 5] k (fun kq v3 v5 w' => ∃ (x3_1 : List Int) (x5_1 : Int), v5 = .int .i64 x5_1 ∧ Aside0 (spec_l3Minimal.l0 kq x3_1 t199 x5_1 = some r) ∧ Aside0 (kq ≤ k) ∧ Aside0 (Kd.R (Kd.int .i64) 3 w' w.heap.size (fun k_ => some k_ ≠ (v200 : Value).ownBlock) v3 x3_1) ∧ Aside0 (Kd.R (Kd.int .i64) 3 w' w.heap.size (fun k_ => some k_ ≠ (v3 : Value).ownBlock) v200 t199) ∧ Aside0 (Below w.heap.size w w'))
 case atStart => exact ⟨(y196), (0), rr, H', ⟨Nat.le_refl _⟩, ⟨by (with_reducible repeat (first | apply Kd.R_alloc | apply Kd.R_drewN | apply Kd.R_drew)); exact Kd.R_mono HO198.out (fun _ hk => hk.2)⟩, ⟨by (with_reducible repeat (first | apply Kd.R_alloc | apply Kd.R_drewN | apply Kd.R_drew)); exact Kd.R_mono HO201.out (fun _ hk => hk.2)⟩, ⟨bw⟩⟩
 case round =>
  clear H'
  obtain ⟨x3_1, x5_1, rfl, HA, HK1, HO_3, HO_4, HB⟩ := hrel
  cases gk with
  | zero => exact absurd HA.out (by simp [spec_l3Minimal.l0])
  | succ k1 =>
   have H := HA.out
   clear HA
   simp only [spec_l3Minimal.l0] at H
   replace H := gi H; obtain ⟨c6b0, H⟩ | ⟨c6b0, H⟩ := H
   ·by_cases c7 : x5_1 = 0
    ·rw [if_pos c7] at H
     have c7b0 : (x5_1 == 0) = true := beq_iff_eq.mpr c7
     have c7b1 : (x5_1 != 0) = false := bne_eq_false_iff_eq.mpr c7
     clear c7
     replace H := gd H; obtain ⟨c8b0, H⟩ := H
     by_cases c9 : x3_1.length < 17592186044416
     rotate_left
     ·rw [if_neg c9] at H
      exact absurd H (by simp)
     rw [if_pos c9] at H
     have LMc9 := am c9
     clear c9
     obtain ⟨y203, hy203⟩ : ∃ y_ : List Int, y_ = (x3_1 ++ [rd t199 x5_1]) := ⟨_, rfl⟩
     replace H : (spec_l3Minimal.l0 k1 y203 t199 (wrap64 (x5_1 + 1))) = some r := by first | (rw [hy203]; with_reducible first | exact H | exact bs H) | (with_reducible first | exact bs H | exact H) | (rw [hy203]; exact H) | exact H
     have Ny203 := am hy203
     clear hy203
     have H' := am H
     clear H
     obtain ⟨Ao10, co10, eo10⟩ := Kd.R_slice HO_4.out
     subst eo10
     try go_wp2
     replace HO_3 := am (Kd.R_drew HO_3.out)
     replace HO_4 := am (Kd.R_drew HO_4.out)
     replace HB := am (below_drew1 HB.out)
     refine start_ (n := 19) (S := fun w' => True) (ds := []) (yz 19 0) (by kernel_rfl) rfl rfl trivial (fun hHeld => ?_); refine with_tabW spec_l3Minimal.tab6 spec_l3Minimal.bits6 (fun HT_ HW_ => ?_)
     generalize wr.drew = w11 at HO_3 HO_4 HB hHeld ⊢
     refine pa 0 (some 15) (yz 19 1) HT_ ?_
     refine pa 1 (some 16) (yz 19 3) HT_ ?_
     refine pa 2 (some 17) (yz 19 7) HT_ ?_
     refine pu 3 (some 18) (yz 19 15) HT_ ?_
     refine pu 4 (some 19) (yz 19 31) HT_ ?_
     refine pu 5 (some 20) (yz 19 63) HT_ ?_
     refine pu 6 (some 21) (yz 19 127) HT_ ?_
     refine pu 7 (some 22) (yz 19 255) HT_ ?_
     refine pu 8 (some 23) (yz 19 511) HT_ ?_
     refine pu 9 (some 24) (yz 19 1023) HT_ ?_
     refine pu 10 (some 25) (yz 19 2047) HT_ ?_
     refine pu 11 (some 26) (yz 19 4095) HT_ ?_
     refine pu 12 (some 27) (yz 19 8191) HT_ ?_
     refine pu 13 (some 28) (yz 19 16383) HT_ ?_
     refine pu 14 (some 29) (yz 19 32767) HT_ ?_
     refine pu 15 (some 30) (yz 19 65535) HT_ ?_
     refine pu 16 (some 31) (yz 19 131071) HT_ ?_
     refine pu 17 (some 32) (yz 19 262143) HT_ ?_
     refine pa 18 (some 33) (yz 19 524287) HT_ ?_
     refine done_ (done_of HT_.out (by kernel_rfl)) ?_
     obtain ⟨⟨ad202, e202, hx202_0⟩, p202, q202⟩ := pq (Kd.at_int (Kd.R_reads' HO_4.out).2.2 x5_1)
     cases e202
     try go_wp2_with (first | ((with_reducible refine gate_builtin (b := .append) (xs := #[.tmp 34, .tmp 39]) rfl ?_); at_builtin; refine Kd.R_append (Kd.int .i64) (w0 := w) w.heap.size rfl (.tmp 34) (.tmp 39) 24 3 (.int .i64 0) 8 rfl Tryd.underlying24 info3 rfl (by decide) (by omega) u3 x3_1 (rd t199 x5_1) [.int .i64 (rd t199 x5_1)] (fun k_ => some k_ ≠ (.slice (some ad202) t199.length co10 : Value).ownBlock) (fun _ => False) rfl rfl ?aP (fun _ hk => hk.elim) ?aF ?aO ?aB ?aS ?aL ?_; (case aP => exact rfl); (case aB => exact bw); (case aF => exact (fun k_ hk => Kd.fresh' (Kd.R_lt (ro HO_4.out)) k_ hk)); (case aO => exact (ro HO_3.out)); (case aS => exact (below_size bw)); (case aL => have := LMc9.out; omega); intro v204 w12 ho hb hg hat; rw [← Ny203.out] at ho; replace HO_4 := am (Kd.R_after (ok := (fun _ => True)) (by (with_reducible repeat (first | apply Kd.R_alloc | apply Kd.R_drewN | apply Kd.R_drew)); exact Kd.R_mono HO_4.out (fun _ hk => ⟨trivial, by first | exact hk | exact (by intro a n m c x h; cases a <;> exact h : ∀ (a : Option Addr) (n m c x : Nat), some x ≠ (Value.slice a n c).ownBlock → some x ≠ (Value.slice a m c).ownBlock) _ _ _ _ _ hk⟩)) hg hat); replace HB := am (hb); have HO205 := am (ho); clear HO_3 ho hb hg hat))
     go_roundg k1
     case measure => have := HK1.out; omega
     case rel => exact ⟨(y203), (wrap64 (x5_1 + 1)), rr, H', ⟨by have := HK1.out; omega⟩, ⟨ro HO205.out⟩, ⟨by (with_reducible repeat (first | apply Kd.R_alloc | apply Kd.R_drewN | apply Kd.R_drew)); exact Kd.R_mono HO_4.out (fun _ hk => hk.2)⟩, ⟨bw⟩⟩
    rw [if_neg c7] at H
    have c7b0 : (x5_1 == 0) = false := beq_eq_false_iff_ne.mpr c7
    have c7b1 : (x5_1 != 0) = true := bne_iff_ne.mpr c7
    replace H := gp H; obtain ⟨c13, H⟩ := H
    have c13b0 := eq_true c13
    have c13b1 : decide (0 ≤ x5_1) = true := decide_eq_true c13
    clear c13
    replace H := gp H; obtain ⟨c14, H⟩ := H
    have c14b0 := eq_true c14
    have c14b1 : decide (x5_1 ≤ (t199.length : Int)) = true := decide_eq_true c14
    clear c14
    obtain ⟨y206, hy206⟩ : ∃ y_ : List Int, y_ = (t199.take (x5_1 : Int).toNat) := ⟨_, rfl⟩
    replace H : ((spec_l3Table.f k1 y206 (rd t199 x5_1)).bind fun t211 => (if 0 ≤ (rd t199 x5_1) then (if (rd t199 x5_1) < (t211.length : Int) then (if (rdOf false t211 (rd t199 x5_1) = true) then (spec_l3Minimal.l0 k1 x3_1 t199 (wrap64 (x5_1 + 1))) else (if x3_1.length < 17592186044416 then (spec_l3Minimal.l0 k1 (x3_1 ++ [rd t199 x5_1]) t199 (wrap64 (x5_1 + 1))) else (none))) else (none)) else (none))) = some r := by first | (rw [hy206]; with_reducible first | exact H | exact bs H) | (with_reducible first | exact bs H | exact H) | (rw [hy206]; exact H) | exact H
    have Ny206 := am hy206
    clear hy206
    replace H := ga H; obtain ⟨t211, A15, H⟩ := H
    replace H := gd H; obtain ⟨c16b0, H⟩ := H
    replace H := gd H; obtain ⟨c17b0, H⟩ := H
    obtain ⟨bq18, hbq18⟩ : ∃ b_ : Bool, b_ = (rdOf false t211 (rd t199 x5_1)) := ⟨_, rfl⟩
    replace H : (if (bq18 = true) then (spec_l3Minimal.l0 k1 x3_1 t199 (wrap64 (x5_1 + 1))) else (if x3_1.length < 17592186044416 then (spec_l3Minimal.l0 k1 (x3_1 ++ [rd t199 x5_1]) t199 (wrap64 (x5_1 + 1))) else (none))) = some r := by rw [← hbq18] at H; exact H
    have Nbq18 := am hbq18
    clear hbq18
    by_cases c19 : (bq18 = true)
    ·subst c19
     have H1 : (spec_l3Minimal.l0 k1 x3_1 t199 (wrap64 (x5_1 + 1))) = some r := by rw [if_pos rfl] at H; exact H
     clear H
     have H := H1
     clear H1
     have H' := am H
     clear H
     obtain ⟨Ao20, co20, eo20⟩ := Kd.R_slice HO_4.out
     subst eo20
     try go_wp2
     replace HO_3 := am (Kd.R_drew HO_3.out)
     replace HO_4 := am (Kd.R_drew HO_4.out)
     replace HB := am (below_drew1 HB.out)
     have q22 : (x5_1 : Int) ≤ ((t199.length : Int) : Int) := of_decide_eq_true (by first | (with_reducible assumption) | assumption)
     obtain ⟨i022, hi022, _, hsz22, _⟩ := info_parts info3
     have hroom22 : t199.length ≤ co20 := (Kd.R_reads' HO_4.out).2.1
     have hC22 : Kd.C (Kd.int .i64) _ Ao20 t199.length t199 := (Kd.R_reads' HO_4.out).2.2
     have hcut22 := cut_to (P := Tryd.prog) 24 3 .i64 Tryd.underlying24 hi022 Ao20 t199.length co20 x5_1 (of_decide_eq_true (by first | (with_reducible assumption) | assumption)) q22 hroom22
     have hr22 := Kd.C_take (m := (x5_1 : Int).toNat) hC22 (by omega)
     have hy22 : y206.length = (x5_1 : Int).toNat := (by rw [Ny206.out, List.length_take]; omega)
     rw [← Ny206.out] at hr22
     rw [← hy22] at hcut22
     have HR209 := am hr22
     have HC209 := am (show y206.length ≤ co20 from by omega)
     clear hr22 hC22 hroom22 hi022 hsz22
     have KY22 := am hy22
     clear hy22
     have KL22 := am (show (x5_1 : Int).toNat ≤ t199.length from by omega)
     replace q22 := eq_true q22
     obtain ⟨⟨ad210, e210, hx210_0⟩, p210, q210⟩ := pq (Kd.at_int (Kd.R_reads' HO_4.out).2.2 x5_1)
     cases e210
     obtain ⟨⟨ad214, e214, hx214_0⟩, p214, q214⟩ := pq (Kd.at_int (Kd.R_reads' HO_4.out).2.2 x5_1)
     obtain rfl : ad210 = ad214 := (by injection e214)
     refine start_ (n := 19) (S := fun w' => w'.cell? (ad210.add (x5_1).toNat) = some (.int .i64 (rd t199 x5_1)) ∧ w'.cell? (ad210.add (x5_1).toNat) = some (.int .i64 (rd t199 x5_1))) (ds := []) (yz 19 0) (by kernel_rfl) rfl rfl ⟨hx210_0, hx214_0⟩ (fun hHeld => ?_); refine with_tabW spec_l3Minimal.tab6 spec_l3Minimal.bits6 (fun HT_ HW_ => ?_)
     generalize wr.drew = w21 at HO_3 HO_4 HB HR209 hx210_0 hx214_0 hHeld ⊢
     refine pa 0 (some 15) (yz 19 1) HT_ ?_
     refine pa 1 (some 16) (yz 19 3) HT_ ?_
     refine pa 2 (some 17) (yz 19 7) HT_ ?_
     refine pa 3 (some 18) (yz 19 15) HT_ ?_
     refine pa 4 (some 19) (yz 19 31) HT_ ?_
     refine pa 5 (some 20) (yz 19 63) HT_ ?_
     refine pa 6 (some 21) (yz 19 127) HT_ ?_
     refine pa 7 (some 22) (yz 19 255) HT_ ?_
     refine pa 8 (some 23) (yz 19 511) HT_ ?_
     refine pa 11 (some 26) (yz 19 2559) HT_ ?_
     refine pa 12 (some 27) (yz 19 6655) HT_ ?_
     refine pa 13 (some 28) (yz 19 14847) HT_ ?_
     refine tk 9 (some 24) (yz 19 15359) HT_ HW_ hHeld ?_
     refine tk 14 (some 29) (yz 19 31743) HT_ HW_ hHeld ?_
     refine oa 10 (some 25) (yz 19 32767) HT_ (fun K hK => ?_)
     refine goes_ Tryd.func58 (by kernel_rfl) rfl #[.slice (some ad210) y206.length co20, .int .i64 (rd t199 x5_1)] (by rfl) rfl rfl (by (try simp only [List.map_toArray, List.map_cons, List.map_nil]); first | done | rfl | (simp only [List.length_drop, List.length_take]; rfl)) ?_
     with_reducible refine (spec_l3Table.calls k1 _ _ y206 (rd t199 x5_1) t211 _ ?side1 ?side2 A15.out).mono ?_
     (case side1 => exact co HR209.out)
     (case side2 => exact HC209.out)
     rintro e w23 ⟨v212, rfl, ho0, hb⟩
     have HS0_ := (hb.cell (World.block_lt_of_cell? _ _ (hHeld.1))).trans (hHeld.1)
     have HS1_ := (hb.cell (World.block_lt_of_cell? _ _ (hHeld.2))).trans (hHeld.2)
     refine ⟨_, rfl, ?_⟩
     replace HO_3 := rK HO_3 hb
     replace HO_4 := rK HO_4 hb
     have HO213 := am (Kd.R_lower ho0 (below_size bw))
     replace HR209 := am (Kd.C_below (co HR209.out) hb)
     replace HB := am (below_step bw hb)
     clear hb ho0
     obtain ⟨Ao24, co24, eo24⟩ := Kd.R_slice HO213.out
     (first | subst eo24 | (injection eo24 with f1_ f2_ f3_; have f4_ := f1_.symm; have f5_ := f3_.symm; clear f1_ f2_ f3_; subst f4_; subst f5_))
     obtain ⟨⟨ad215, e215, hx215_0⟩, p215, q215⟩ := pq (Kd.at_bool (Kd.R_reads' HO213.out).2.2 (rd t199 x5_1))
     (try rw [← Nbq18.out] at hx215_0)
     cases e215
     refine hK.out _ _ ⟨HS0_, HS1_⟩ (fun hHeld => ?_)
     clear hK K
     refine nm (some 25) ?_
     refine pa 15 (some 30) (yz 19 65535) HT_ ?_
     refine oa 16 (some 31) (yz 19 131071) HT_ (fun K hK => ?_)
     refine value_ (w1 := ?_) (v := ?_) (by rfl) rfl ?_ ?_
     rotate_left 2
     ·go_simp
      constructor
      ·rfl
      rfl
     refine hK.out _ _ hHeld (fun hHeld => ?_)
     clear hK K
     refine nm (some 31) ?_
     refine pa 17 (some 32) (yz 19 262143) HT_ ?_
     refine pa 18 (some 33) (yz 19 524287) HT_ ?_
     refine done_ (done_of HT_.out (by kernel_rfl)) ?_
     try go_wp2
     go_roundg k1
     case measure => have := HK1.out; omega
     case rel => exact ⟨(x3_1), (wrap64 (x5_1 + 1)), rr, H', ⟨by have := HK1.out; omega⟩, ⟨ro HO_3.out⟩, ⟨ro HO_4.out⟩, ⟨bw⟩⟩
    replace c19 := Bool.eq_false_iff.mpr c19
    subst c19
    have H1 : (if x3_1.length < 17592186044416 then (spec_l3Minimal.l0 k1 (x3_1 ++ [rd t199 x5_1]) t199 (wrap64 (x5_1 + 1))) else (none)) = some r := by rw [if_neg (show ¬ (false = true) by decide)] at H; exact H
    clear H
    have H := H1
    clear H1
    by_cases c25 : x3_1.length < 17592186044416
    rotate_left
    ·rw [if_neg c25] at H
     exact absurd H (by simp)
    rw [if_pos c25] at H
    have LMc25 := am c25
    clear c25
    obtain ⟨y217, hy217⟩ : ∃ y_ : List Int, y_ = (x3_1 ++ [rd t199 x5_1]) := ⟨_, rfl⟩
    replace H : (spec_l3Minimal.l0 k1 y217 t199 (wrap64 (x5_1 + 1))) = some r := by first | (rw [hy217]; with_reducible first | exact H | exact bs H) | (with_reducible first | exact bs H | exact H) | (rw [hy217]; exact H) | exact H
    have Ny217 := am hy217
    clear hy217
    have H' := am H
    clear H
    obtain ⟨Ao26, co26, eo26⟩ := Kd.R_slice HO_4.out
    subst eo26
    try go_wp2
    replace HO_3 := am (Kd.R_drew HO_3.out)
    replace HO_4 := am (Kd.R_drew HO_4.out)
    replace HB := am (below_drew1 HB.out)
    have q28 : (x5_1 : Int) ≤ ((t199.length : Int) : Int) := of_decide_eq_true (by first | (with_reducible assumption) | assumption)
    obtain ⟨i028, hi028, _, hsz28, _⟩ := info_parts info3
    have hroom28 : t199.length ≤ co26 := (Kd.R_reads' HO_4.out).2.1
    have hC28 : Kd.C (Kd.int .i64) _ Ao26 t199.length t199 := (Kd.R_reads' HO_4.out).2.2
    have hcut28 := cut_to (P := Tryd.prog) 24 3 .i64 Tryd.underlying24 hi028 Ao26 t199.length co26 x5_1 (of_decide_eq_true (by first | (with_reducible assumption) | assumption)) q28 hroom28
    have hr28 := Kd.C_take (m := (x5_1 : Int).toNat) hC28 (by omega)
    have hy28 : y206.length = (x5_1 : Int).toNat := (by rw [Ny206.out, List.length_take]; omega)
    rw [← Ny206.out] at hr28
    rw [← hy28] at hcut28
    have HR209 := am hr28
    have HC209 := am (show y206.length ≤ co26 from by omega)
    clear hr28 hC28 hroom28 hi028 hsz28
    have KY28 := am hy28
    clear hy28
    have KL28 := am (show (x5_1 : Int).toNat ≤ t199.length from by omega)
    replace q28 := eq_true q28
    obtain ⟨⟨ad210, e210, hx210_0⟩, p210, q210⟩ := pq (Kd.at_int (Kd.R_reads' HO_4.out).2.2 x5_1)
    cases e210
    obtain ⟨⟨ad214, e214, hx214_0⟩, p214, q214⟩ := pq (Kd.at_int (Kd.R_reads' HO_4.out).2.2 x5_1)
    obtain rfl : ad210 = ad214 := (by injection e214)
    refine start_ (n := 19) (S := fun w' => w'.cell? (ad210.add (x5_1).toNat) = some (.int .i64 (rd t199 x5_1)) ∧ w'.cell? (ad210.add (x5_1).toNat) = some (.int .i64 (rd t199 x5_1))) (ds := []) (yz 19 0) (by kernel_rfl) rfl rfl ⟨hx210_0, hx214_0⟩ (fun hHeld => ?_); refine with_tabW spec_l3Minimal.tab6 spec_l3Minimal.bits6 (fun HT_ HW_ => ?_)
    generalize wr.drew = w27 at HO_3 HO_4 HB HR209 hx210_0 hx214_0 hHeld ⊢
    refine pa 0 (some 15) (yz 19 1) HT_ ?_
    refine pa 1 (some 16) (yz 19 3) HT_ ?_
    refine pa 2 (some 17) (yz 19 7) HT_ ?_
    refine pa 3 (some 18) (yz 19 15) HT_ ?_
    refine pa 4 (some 19) (yz 19 31) HT_ ?_
    refine pa 5 (some 20) (yz 19 63) HT_ ?_
    refine pa 6 (some 21) (yz 19 127) HT_ ?_
    refine pa 7 (some 22) (yz 19 255) HT_ ?_
    refine pa 8 (some 23) (yz 19 511) HT_ ?_
    refine pa 11 (some 26) (yz 19 2559) HT_ ?_
    refine pa 12 (some 27) (yz 19 6655) HT_ ?_
    refine pa 13 (some 28) (yz 19 14847) HT_ ?_
    refine tk 9 (some 24) (yz 19 15359) HT_ HW_ hHeld ?_
    refine tk 14 (some 29) (yz 19 31743) HT_ HW_ hHeld ?_
    refine oa 10 (some 25) (yz 19 32767) HT_ (fun K hK => ?_)
    refine goes_ Tryd.func58 (by kernel_rfl) rfl #[.slice (some ad210) y206.length co26, .int .i64 (rd t199 x5_1)] (by rfl) rfl rfl (by (try simp only [List.map_toArray, List.map_cons, List.map_nil]); first | done | rfl | (simp only [List.length_drop, List.length_take]; rfl)) ?_
    with_reducible refine (spec_l3Table.calls k1 _ _ y206 (rd t199 x5_1) t211 _ ?side1 ?side2 A15.out).mono ?_
    (case side1 => exact co HR209.out)
    (case side2 => exact HC209.out)
    rintro e w29 ⟨v212, rfl, ho0, hb⟩
    have HS0_ := (hb.cell (World.block_lt_of_cell? _ _ (hHeld.1))).trans (hHeld.1)
    have HS1_ := (hb.cell (World.block_lt_of_cell? _ _ (hHeld.2))).trans (hHeld.2)
    refine ⟨_, rfl, ?_⟩
    replace HO_3 := rK HO_3 hb
    replace HO_4 := rK HO_4 hb
    have HO213 := am (Kd.R_lower ho0 (below_size bw))
    replace HR209 := am (Kd.C_below (co HR209.out) hb)
    replace HB := am (below_step bw hb)
    clear hb ho0
    obtain ⟨Ao30, co30, eo30⟩ := Kd.R_slice HO213.out
    (first | subst eo30 | (injection eo30 with f1_ f2_ f3_; have f4_ := f1_.symm; have f5_ := f3_.symm; clear f1_ f2_ f3_; subst f4_; subst f5_))
    obtain ⟨⟨ad215, e215, hx215_0⟩, p215, q215⟩ := pq (Kd.at_bool (Kd.R_reads' HO213.out).2.2 (rd t199 x5_1))
    (try rw [← Nbq18.out] at hx215_0)
    cases e215
    refine hK.out _ _ ⟨HS0_, HS1_⟩ (fun hHeld => ?_)
    clear hK K
    refine nm (some 25) ?_
    refine pa 15 (some 30) (yz 19 65535) HT_ ?_
    refine oa 16 (some 31) (yz 19 131071) HT_ (fun K hK => ?_)
    refine value_ (w1 := ?_) (v := ?_) (by rfl) rfl ?_ ?_
    rotate_left 2
    ·go_simp
     constructor
     ·rfl
     rfl
    refine hK.out _ _ hHeld (fun hHeld => ?_)
    clear hK K
    refine nm (some 31) ?_
    refine pa 17 (some 32) (yz 19 262143) HT_ ?_
    refine pa 18 (some 33) (yz 19 524287) HT_ ?_
    refine done_ (done_of HT_.out (by kernel_rfl)) ?_
    obtain ⟨⟨ad216, e216, hx216_0⟩, p216, q216⟩ := pq (Kd.at_int (Kd.R_reads' HO_4.out).2.2 x5_1)
    obtain rfl : ad210 = ad216 := (by injection e216)
    try go_wp2_with (first | ((with_reducible refine gate_builtin (b := .append) (xs := #[.tmp 34, .tmp 39]) rfl ?_); at_builtin; refine Kd.R_append (Kd.int .i64) (w0 := w) w.heap.size rfl (.tmp 34) (.tmp 39) 24 3 (.int .i64 0) 8 rfl Tryd.underlying24 info3 rfl (by decide) (by omega) u3 x3_1 (rd t199 x5_1) [.int .i64 (rd t199 x5_1)] (fun k_ => some k_ ≠ (.slice (some ad210) t199.length co26 : Value).ownBlock) (fun _ => False) rfl rfl ?aP (fun _ hk => hk.elim) ?aF ?aO ?aB ?aS ?aL ?_; (case aP => exact rfl); (case aB => exact bw); (case aF => exact (fun k_ hk => Kd.fresh' (Kd.R_lt (ro HO_4.out)) k_ hk)); (case aO => exact (ro HO_3.out)); (case aS => exact (below_size bw)); (case aL => have := LMc25.out; omega); intro v218 w31 ho hb hg hat; rw [← Ny217.out] at ho; replace HO213 := am (Kd.R_over' (ro HO213.out) (Kd.R_typed (ro HO_3.out)) (by decide) hg); replace HB := am (hb); replace HR209 := am ((show Kd.C (Kd.int .i64) w31 (some ad210) y206.length y206 from by rw [Ny206.out]; exact Kd.C_take (m := (x5_1 : Int).toNat) ((Kd.R_reads' (Kd.R_after (ok := (fun _ => True)) (by (with_reducible repeat (first | apply Kd.R_alloc | apply Kd.R_drewN | apply Kd.R_drew)); exact Kd.R_mono HO_4.out (fun _ hk => ⟨trivial, by first | exact hk | exact (by intro a n m c x h; cases a <;> exact h : ∀ (a : Option Addr) (n m c x : Nat), some x ≠ (Value.slice a n c).ownBlock → some x ≠ (Value.slice a m c).ownBlock) _ _ _ _ _ hk⟩)) hg hat)).2.2) KL28.out)); replace HO_4 := am (Kd.R_after (ok := (fun _ => True)) (by (with_reducible repeat (first | apply Kd.R_alloc | apply Kd.R_drewN | apply Kd.R_drew)); exact Kd.R_mono HO_4.out (fun _ hk => ⟨trivial, by first | exact hk | exact (by intro a n m c x h; cases a <;> exact h : ∀ (a : Option Addr) (n m c x : Nat), some x ≠ (Value.slice a n c).ownBlock → some x ≠ (Value.slice a m c).ownBlock) _ _ _ _ _ hk⟩)) hg hat); have HO219 := am (ho); clear HO_3 ho hb hg hat))
    go_roundg k1
    case measure => have := HK1.out; omega
    case rel => exact ⟨(y217), (wrap64 (x5_1 + 1)), rr, H', ⟨by have := HK1.out; omega⟩, ⟨ro HO219.out⟩, ⟨by (with_reducible repeat (first | apply Kd.R_alloc | apply Kd.R_drewN | apply Kd.R_drew)); exact Kd.R_mono HO_4.out (fun _ hk => hk.2)⟩, ⟨bw⟩⟩
   obtain rfl := Option.some.inj H
   obtain ⟨Ao32, co32, eo32⟩ := Kd.R_slice HO_4.out
   subst eo32
   go_wp2
   go_ret
   exact ⟨_, re, by (with_reducible repeat (first | apply Kd.R_alloc | apply Kd.R_drewN | apply Kd.R_drew)); exact Kd.R_mono HO_3.out (fun _ hk => trivial), bw⟩


/-! ### spec_l3Ends: function 45 -/
def spec_l3Ends.l0 : Nat → List Int → List Bool → Int → Option (Bool)
 | 0, _, _, _ => none
 | k + 1, x0, x3, x4 => if 0 < (x0.length : Int) then (if x4 < (wrap64 (200 + (rd x0 0))) then (if 0 ≤ x4 then (if x4 < (x3.length : Int) then (if rdOf false x3 x4 = true then (spec_l3Ends.l0 k x0 x3 (wrap64 (x4 + 1))) else (some false)) else (none)) else (none)) else (some true)) else (none)
def spec_l3Ends.f (k : Nat) (l0 : List Int) : Option (Bool) := (spec_l3Table.f k l0 260).bind fun t220 => (spec_l3Ends.l0 k l0 t220 200)
set_option maxHeartbeats 8000000 in
set_option maxRecDepth 100000 in
theorem spec_l3Ends.calls (k : Nat) (A0 : Option Addr) (c0 : Nat) (l0 : List Int) (r : Bool) (w : World) (hr0 : Kd.C (Kd.int .i64) w A0 l0.length l0) (hc0 : l0.length ≤ c0) (h : spec_l3Ends.f k l0 = some r) :
  Calls Tryd.prog 45 #[.slice A0 l0.length c0] w fun e w' => e = .returned (.bool r) ∧ Below w.heap.size w w' := by
 have HR0 := am hr0
 have HC0 := am hc0
 clear hr0 hc0
 have HB := am (Below.refl w.heap.size w)
 have H : ((spec_l3Table.f k l0 260).bind fun t220 => (spec_l3Ends.l0 k l0 t220 200)) = some r := h
 clear h
 replace H := ga H; obtain ⟨t220, A2, H⟩ := H
 have H' := am H
 clear H
 go_enter Tryd.func45, Tryd.ntmps45
 go_wp2_with (first | ((with_reducible refine gate_callee (f := 58) rfl ?_); refine goesL_ (some 6) rfl rfl Tryd.func58 (by kernel_rfl) rfl #[.slice A0 l0.length c0, .int .i64 260] rfl (by (try simp only [List.map_toArray, List.map_cons, List.map_nil]); first | done | rfl | (simp only [List.length_drop, List.length_take]; rfl)) ?_; (with_reducible refine (spec_l3Table.calls k _ _ l0 260 t220 _ ?side1 ?side2 A2.out).mono ?_); (case side1 => exact co HR0.out); (case side2 => exact HC0.out); rintro e w3 ⟨v221, rfl, ho0, hb⟩; refine ⟨_, rfl, ?_⟩; have HO222 := am (Kd.R_lower ho0 (below_size bw)); replace HB := am (below_step bw hb); clear hb ho0))
 go_loopg [4] k (fun kq v4 w' => ∃ (x4_1 : Int), v4 = .int .i64 x4_1 ∧ Aside0 (spec_l3Ends.l0 kq l0 t220 x4_1 = some r) ∧ Aside0 (kq ≤ k) ∧ Aside0 (Kd.R Kd.bool 4 w' w.heap.size (fun _ => True) v221 t220) ∧ Aside0 (Below w.heap.size w w'))
 case atStart => exact ⟨(200), rr, H', ⟨Nat.le_refl _⟩, ⟨ro HO222.out⟩, ⟨bw⟩⟩
 case round =>
  clear H'
  obtain ⟨x4_1, rfl, HA, HK1, HO_3, HB⟩ := hrel
  cases gk with
  | zero => exact absurd HA.out (by simp [spec_l3Ends.l0])
  | succ k1 =>
   have H := HA.out
   clear HA
   simp only [spec_l3Ends.l0] at H
   replace H := gp H; obtain ⟨c4, H⟩ := H
   have c4b0 : decide (0 < (l0.length : Int)) = true := decide_eq_true c4
   have c4b1 : decide (0 < l0.length) = true := decide_eq_true (by omega)
   clear c4
   replace H := gi H; obtain ⟨c5b0, H⟩ | ⟨c5b0, H⟩ := H
   ·replace H := gd H; obtain ⟨c6b0, H⟩ := H
    replace H := gd H; obtain ⟨c7b0, H⟩ := H
    obtain ⟨bq8, hbq8⟩ : ∃ b_ : Bool, b_ = (rdOf false t220 x4_1) := ⟨_, rfl⟩
    replace H : (if bq8 = true then (spec_l3Ends.l0 k1 l0 t220 (wrap64 (x4_1 + 1))) else (some false)) = some r := by rw [← hbq8] at H; exact H
    have Nbq8 := am hbq8
    clear hbq8
    replace H := gb H; obtain ⟨rfl, H⟩ | ⟨rfl, H⟩ := H
    ·have H' := am H
     clear H
     have p223 : 0 ≤ (0 : Int) := (by omega)
     have q223 : 0 < (l0.length : Int) := of_decide_eq_true (by first | (with_reducible assumption) | assumption)
     obtain ⟨ad223, e223, hx223_0⟩ := Kd.at_int HR0.out 0 p223 q223
     cases e223
     have qi223 : (0 < l0.length) = True := eq_true (by omega)
     (try rw [show ((0 : Int)).toNat = 0 from rfl] at hx223_0)
     (try rw [Addr.add_zero'] at hx223_0)
     replace hx223_0 := hw HB hx223_0
     replace p223 := eq_true p223
     replace q223 := eq_true q223
     obtain ⟨Ao10, co10, eo10⟩ := Kd.R_slice HO_3.out
     subst eo10
     obtain ⟨⟨ad224, e224, hx224_0⟩, p224, q224⟩ := pq (Kd.at_bool (Kd.R_reads' HO_3.out).2.2 x4_1)
     (try rw [← Nbq8.out] at hx224_0)
     cases e224
     go_wp2
     go_roundg k1
     case measure => have := HK1.out; omega
     case rel => exact ⟨(wrap64 (x4_1 + 1)), rr, H', ⟨by have := HK1.out; omega⟩, ⟨ro HO_3.out⟩, ⟨bw⟩⟩
    obtain rfl := Option.some.inj H
    have p223 : 0 ≤ (0 : Int) := (by omega)
    have q223 : 0 < (l0.length : Int) := of_decide_eq_true (by first | (with_reducible assumption) | assumption)
    obtain ⟨ad223, e223, hx223_0⟩ := Kd.at_int HR0.out 0 p223 q223
    cases e223
    have qi223 : (0 < l0.length) = True := eq_true (by omega)
    (try rw [show ((0 : Int)).toNat = 0 from rfl] at hx223_0)
    (try rw [Addr.add_zero'] at hx223_0)
    replace hx223_0 := hw HB hx223_0
    replace p223 := eq_true p223
    replace q223 := eq_true q223
    obtain ⟨Ao11, co11, eo11⟩ := Kd.R_slice HO_3.out
    subst eo11
    obtain ⟨⟨ad224, e224, hx224_0⟩, p224, q224⟩ := pq (Kd.at_bool (Kd.R_reads' HO_3.out).2.2 x4_1)
    (try rw [← Nbq8.out] at hx224_0)
    cases e224
    go_wp2
    go_ret
    exact ⟨re, bw⟩
   obtain rfl := Option.some.inj H
   have p223 : 0 ≤ (0 : Int) := (by omega)
   have q223 : 0 < (l0.length : Int) := of_decide_eq_true (by first | (with_reducible assumption) | assumption)
   obtain ⟨ad223, e223, hx223_0⟩ := Kd.at_int HR0.out 0 p223 q223
   cases e223
   have qi223 : (0 < l0.length) = True := eq_true (by omega)
   (try rw [show ((0 : Int)).toNat = 0 from rfl] at hx223_0)
   (try rw [Addr.add_zero'] at hx223_0)
   replace hx223_0 := hw HB hx223_0
   replace p223 := eq_true p223
   replace q223 := eq_true q223
   go_wp2
   go_ret
   exact ⟨re, bw⟩


/-! ### spec_IsSemigroup: function 22 -/
def spec_IsSemigroup.f (k : Nat) (l0_0 : List Int) : Option (Bool) := (spec_l3Gens.f k l0_0).bind fun t226 => (if t226 = true then (if (l0_0.length : Int) ≤ 12 then ((spec_IsAscending.f k l0_0).bind fun t227 => (if t227 = true then ((spec_GcdOfList.f k l0_0).bind fun t228 => (if t228 = 1 then ((spec_l3Minimal.f k l0_0).bind fun t229 => ((spec_l2Same.f k t229 l0_0).bind fun t232 => (if t232 = true then ((spec_l3Ends.f k l0_0).bind fun t233 => (some t233)) else (some false)))) else (some false))) else (some false))) else (some false)) else (some false))
def spec_IsSemigroup.T1 : Bool × List (List Nat × List Nat) := (true, [([], []), ([0], [0]), ([1], [1]), ([2, 2], [2]), ([3], [3]), ([4, 3], [3, 4]), ([5, 3], [3, 5]), ([6, 3], [3, 6]), ([3, 7], [3, 7]), ([8, 3], [8]), ([9], [9]), ([10, 9], [9, 10]), ([11, 9, 9], [9, 11]), ([9, 12], [9, 12]), ([13, 12], [13]), ([14], [14]), ([15, 14], [14, 15]), ([16, 14, 14], [14, 16]), ([17, 14], [14, 17]), ([14, 18], [14, 18]), ([19, 17], [19]), ([20], [20]), ([21, 20], [20, 21]), ([22, 20, 20], [20, 22]), ([20], [20]), ([24, 20], [20, 24]), ([23, 25, 23, 20], [20, 23, 25]), ([20, 26], [20, 26]), ([27, 26], [27]), ([28], [28]), ([29, 28], [28, 29]), ([30, 28, 28], [28, 30]), ([28, 31], [28, 31]), ([32, 31, 0, 1, 2, 3, 4, 5, 6, 7, 8, 9, 10, 11, 12, 13, 14, 15, 16, 17, 18, 19, 20, 21, 22, 23, 24, 25, 26, 27, 28, 29, 30, 31, 32], [32])])
def spec_IsSemigroup.B1 : List Nat := [0, 1, 3, 7, 15, 31, 63, 127, 255, 511, 1023, 2047, 4095, 8191, 16383, 32767, 65535, 131071, 262143, 524287, 1048575, 2097151, 4194303, 8388607, 2097151, 18874367, 67108863, 134217727, 268435455, 536870911, 1073741823, 2147483647, 4294967295, 8589934591]
theorem spec_IsSemigroup.tab1 : rtab .any (opsOf Tryd.f22 1) = spec_IsSemigroup.T1 := by kernel_rfl
theorem spec_IsSemigroup.bits1 : waitsOk spec_IsSemigroup.T1.2 spec_IsSemigroup.B1 = true := by kernel_rfl
set_option maxHeartbeats 8000000 in
set_option maxRecDepth 100000 in
theorem spec_IsSemigroup.calls (k : Nat) (A0_0 : Option Addr) (c0_0 : Nat) (l0_0 : List Int) (r : Bool) (w : World) (hr0_0 : Kd.C (Kd.int .i64) w A0_0 l0_0.length l0_0) (hc0_0 : l0_0.length ≤ c0_0) (h : spec_IsSemigroup.f k l0_0 = some r) :
  Calls Tryd.prog 22 #[.agg #[.slice A0_0 l0_0.length c0_0]] w fun e w' => e = .returned (.bool r) ∧ Below w.heap.size w w' := by
 have hu26 := Tryd.underlying26
 have HR0_0 := am hr0_0
 have HC0_0 := am hc0_0
 clear hr0_0 hc0_0
 have HB := am (Below.refl w.heap.size w)
 have H : ((spec_l3Gens.f k l0_0).bind fun t226 => (if t226 = true then (if (l0_0.length : Int) ≤ 12 then ((spec_IsAscending.f k l0_0).bind fun t227 => (if t227 = true then ((spec_GcdOfList.f k l0_0).bind fun t228 => (if t228 = 1 then ((spec_l3Minimal.f k l0_0).bind fun t229 => ((spec_l2Same.f k t229 l0_0).bind fun t232 => (if t232 = true then ((spec_l3Ends.f k l0_0).bind fun t233 => (some t233)) else (some false)))) else (some false))) else (some false))) else (some false)) else (some false))) = some r := h
 clear h
 replace H := ga H; obtain ⟨t226, A2, H⟩ := H
 replace H := gb H; obtain ⟨rfl, H⟩ | ⟨rfl, H⟩ := H
 ·replace H := gj H; obtain ⟨c4, H⟩ | ⟨c4, H⟩ := H
  ·have c4b0 : decide ((l0_0.length : Int) ≤ 12) = true := decide_eq_true c4
   have c4b1 : decide (l0_0.length ≤ 12) = true := decide_eq_true (by omega)
   clear c4
   replace H := ga H; obtain ⟨t227, A5, H⟩ := H
   replace H := gb H; obtain ⟨rfl, H⟩ | ⟨rfl, H⟩ := H
   ·replace H := ga H; obtain ⟨t228, A7, H⟩ := H
    by_cases c8 : t228 = 1
    ·rw [if_pos c8] at H
     have c8b0 : (t228 == 1) = true := beq_iff_eq.mpr c8
     have c8b1 : (t228 != 1) = false := bne_eq_false_iff_eq.mpr c8
     clear c8
     replace H := ga H; obtain ⟨t229, A9, H⟩ := H
     replace H := ga H; obtain ⟨t232, A10, H⟩ := H
     replace H := gb H; obtain ⟨rfl, H⟩ | ⟨rfl, H⟩ := H
     ·replace H := ga H; obtain ⟨t233, A12, H⟩ := H
      obtain rfl := Option.some.inj H
      go_enter Tryd.func22, Tryd.ntmps22
      try go_wp2_with (first | ((with_reducible refine gate_dst (N := 1) rfl ?_); (try (refine gate_guard (by rfl) ?_; dsimp only)); refine bx 1 #[.slice A0_0 l0_0.length c0_0] 26 ?_; intro gb225 hg w13 hbox hb; have BK225 := am (hbox); have GW225 := am (gs hg : w.heap.size ≤ gb225); have GE225 := GW225; replace HB := am (below_step bw hb); clear hb hbox hg))
      replace BK225 := bd BK225
      replace HB := am (below_drew1 HB.out)
      refine start_ (n := 34) (S := fun w' => w'.cell? ⟨gb225, 0, none⟩ = some (.slice A0_0 l0_0.length c0_0)) (ds := []) (yz 34 0) (by kernel_rfl) rfl rfl (bc BK225 0 _) (fun hHeld => ?_); refine with_tabW spec_IsSemigroup.tab1 spec_IsSemigroup.bits1 (fun HT_ HW_ => ?_)
      generalize w13.drew = w14 at BK225 HB hHeld ⊢
      refine pa 0 (some 3) (yz 34 1) HT_ ?_
      refine tK 1 (some 4) (yz 34 3) HT_ HW_ hHeld ?_
      refine oa 2 (some 5) (yz 34 7) HT_ (fun K hK => ?_)
      refine goes_ Tryd.func40 (by kernel_rfl) rfl #[.slice A0_0 l0_0.length c0_0] (by rfl) rfl rfl (by (try simp only [List.map_toArray, List.map_cons, List.map_nil]); first | done | rfl | (simp only [List.length_drop, List.length_take]; rfl)) ?_
      with_reducible refine (spec_l3Gens.calls k _ _ l0_0 true _ ?side1 ?side2 A2.out).mono ?_
      (case side1 => exact co (Kd.C_below HR0_0.out HB.out))
      (case side2 => exact HC0_0.out)
      rintro e w' ⟨rfl, ⟨nd, rfl⟩⟩
      refine ⟨_, rfl, ?_⟩
      refine hK.out _ _ (bc BK225 0 _) (fun hHeld => ?_)
      clear hK K
      refine nm (some 5) ?_
      refine pa 3 (some 6) (yz 34 15) HT_ ?_
      refine pa 4 (some 7) (yz 34 31) HT_ ?_
      refine tK 5 (some 8) (yz 34 63) HT_ HW_ hHeld ?_
      refine pa 6 (some 9) (yz 34 127) HT_ ?_
      refine pa 7 (some 10) (yz 34 255) HT_ ?_
      refine pa 8 (some 11) (yz 34 511) HT_ ?_
      refine pa 9 (some 12) (yz 34 1023) HT_ ?_
      refine pa 10 (some 13) (yz 34 2047) HT_ ?_
      refine tK 11 (some 14) (yz 34 4095) HT_ HW_ hHeld ?_
      refine oa 12 (some 15) (yz 34 8191) HT_ (fun K hK => ?_)
      refine goes_ Tryd.func41 (by kernel_rfl) rfl #[.slice A0_0 l0_0.length c0_0] (by rfl) rfl rfl (by (try simp only [List.map_toArray, List.map_cons, List.map_nil]); first | done | rfl | (simp only [List.length_drop, List.length_take]; rfl)) ?_
      with_reducible refine (spec_IsAscending.calls k _ _ l0_0 true _ ?side1 ?side2 A5.out).mono ?_
      (case side1 => exact co (Kd.C_below HR0_0.out bw))
      (case side2 => exact HC0_0.out)
      rintro e w' ⟨rfl, ⟨nd, rfl⟩⟩
      refine ⟨_, rfl, ?_⟩
      refine hK.out _ _ (bc BK225 0 _) (fun hHeld => ?_)
      clear hK K
      refine nm (some 15) ?_
      refine pa 13 (some 16) (yz 34 16383) HT_ ?_
      refine pa 14 (some 17) (yz 34 32767) HT_ ?_
      refine pa 15 (some 18) (yz 34 65535) HT_ ?_
      refine tK 16 (some 19) (yz 34 131071) HT_ HW_ hHeld ?_
      refine oa 17 (some 20) (yz 34 262143) HT_ (fun K hK => ?_)
      refine goes_ Tryd.func42 (by kernel_rfl) rfl #[.slice A0_0 l0_0.length c0_0] (by rfl) rfl rfl (by (try simp only [List.map_toArray, List.map_cons, List.map_nil]); first | done | rfl | (simp only [List.length_drop, List.length_take]; rfl)) ?_
      with_reducible refine (spec_GcdOfList.calls k _ _ l0_0 t228 _ ?side1 ?side2 A7.out).mono ?_
      (case side1 => exact co (Kd.C_below HR0_0.out bw))
      (case side2 => exact HC0_0.out)
      rintro e w' ⟨rfl, ⟨nd, rfl⟩⟩
      refine ⟨_, rfl, ?_⟩
      refine hK.out _ _ (bc BK225 0 _) (fun hHeld => ?_)
      clear hK K
      refine nm (some 20) ?_
      refine pa 18 (some 21) (yz 34 524287) HT_ ?_
      refine pa 19 (some 22) (yz 34 1048575) HT_ ?_
      refine pa 20 (some 23) (yz 34 2097151) HT_ ?_
      refine pa 21 (some 24) (yz 34 4194303) HT_ ?_
      refine pa 24 (some 27) (yz 34 20971519) HT_ ?_
      refine tK 22 (some 25) (yz 34 25165823) HT_ HW_ hHeld ?_
      refine tK 25 (some 28) (yz 34 58720255) HT_ HW_ hHeld ?_
      refine oa 23 (some 26) (yz 34 67108863) HT_ (fun K hK => ?_)
      refine goes_ Tryd.func44 (by kernel_rfl) rfl #[.slice A0_0 l0_0.length c0_0] (by rfl) rfl rfl (by (try simp only [List.map_toArray, List.map_cons, List.map_nil]); first | done | rfl | (simp only [List.length_drop, List.length_take]; rfl)) ?_
      with_reducible refine (spec_l3Minimal.calls k _ _ l0_0 t229 _ ?side1 ?side2 A9.out).mono ?_
      (case side1 => exact co (Kd.C_below HR0_0.out bw))
      (case side2 => exact HC0_0.out)
      rintro e w15 ⟨v230, rfl, ho0, hb⟩
      refine ⟨_, rfl, ?_⟩
      have HO231 := am (Kd.R_lower ho0 (below_size bw))
      replace BK225 := kb BK225 hb
      replace HB := am (below_step bw hb)
      clear hb ho0
      obtain ⟨Ao16, co16, eo16⟩ := Kd.R_slice HO231.out
      (first | subst eo16 | (injection eo16 with f1_ f2_ f3_; have f4_ := f1_.symm; have f5_ := f3_.symm; clear f1_ f2_ f3_; subst f4_; subst f5_))
      refine hK.out _ _ (bc BK225 0 _) (fun hHeld => ?_)
      clear hK K
      refine nm (some 26) ?_
      refine oa 26 (some 29) (yz 34 134217727) HT_ (fun K hK => ?_)
      refine goes_ Tryd.func43 (by kernel_rfl) rfl #[.slice Ao16 t229.length co16, .slice A0_0 l0_0.length c0_0] (by rfl) rfl rfl (by (try simp only [List.map_toArray, List.map_cons, List.map_nil]); first | done | rfl | (simp only [List.length_drop, List.length_take]; rfl)) ?_
      with_reducible refine (spec_l2Same.calls k _ _ t229 _ _ l0_0 true _ ?side1 ?side2 ?side3 ?side4 A10.out).mono ?_
      (case side1 => exact co (Kd.R_reads' HO231.out).2.2)
      (case side2 => exact (Kd.R_reads' HO231.out).2.1)
      (case side3 => exact co (Kd.C_below HR0_0.out HB.out))
      (case side4 => exact HC0_0.out)
      rintro e w' ⟨rfl, ⟨nd, rfl⟩⟩
      refine ⟨_, rfl, ?_⟩
      refine hK.out _ _ (bc BK225 0 _) (fun hHeld => ?_)
      clear hK K
      refine nm (some 29) ?_
      refine pa 27 (some 30) (yz 34 268435455) HT_ ?_
      refine pa 28 (some 31) (yz 34 536870911) HT_ ?_
      refine pa 29 (some 32) (yz 34 1073741823) HT_ ?_
      refine tK 30 (some 33) (yz 34 2147483647) HT_ HW_ hHeld ?_
      refine oa 31 (some 34) (yz 34 4294967295) HT_ (fun K hK => ?_)
      refine goes_ Tryd.func45 (by kernel_rfl) rfl #[.slice A0_0 l0_0.length c0_0] (by rfl) rfl rfl (by (try simp only [List.map_toArray, List.map_cons, List.map_nil]); first | done | rfl | (simp only [List.length_drop, List.length_take]; rfl)) ?_
      with_reducible refine (spec_l3Ends.calls k _ _ l0_0 t233 _ ?side1 ?side2 A12.out).mono ?_
      (case side1 => exact co (Kd.C_below HR0_0.out bw))
      (case side2 => exact HC0_0.out)
      rintro e w17 ⟨rfl, hb⟩
      refine ⟨_, rfl, ?_⟩
      replace HO231 := rK HO231 hb
      replace BK225 := kb BK225 hb
      replace HB := am (below_step bw hb)
      clear hb
      refine hK.out _ _ (bc BK225 0 _) (fun hHeld => ?_)
      clear hK K
      refine nm (some 34) ?_
      refine pa 32 (some 35) (yz 34 8589934591) HT_ ?_
      refine pa 33 (some 2) (yz 34 17179869183) HT_ ?_
      refine done_ (done_of HT_.out (by kernel_rfl)) ?_
      try go_wp2
      go_ret
      exact ⟨re, bw⟩
     obtain rfl := Option.some.inj H
     go_enter Tryd.func22, Tryd.ntmps22
     try go_wp2_with (first | ((with_reducible refine gate_dst (N := 1) rfl ?_); (try (refine gate_guard (by rfl) ?_; dsimp only)); refine bx 1 #[.slice A0_0 l0_0.length c0_0] 26 ?_; intro gb225 hg w18 hbox hb; have BK225 := am (hbox); have GW225 := am (gs hg : w.heap.size ≤ gb225); have GE225 := GW225; replace HB := am (below_step bw hb); clear hb hbox hg))
     replace BK225 := bd BK225
     replace HB := am (below_drew1 HB.out)
     refine start_ (n := 34) (S := fun w' => w'.cell? ⟨gb225, 0, none⟩ = some (.slice A0_0 l0_0.length c0_0)) (ds := []) (yz 34 0) (by kernel_rfl) rfl rfl (bc BK225 0 _) (fun hHeld => ?_); refine with_tabW spec_IsSemigroup.tab1 spec_IsSemigroup.bits1 (fun HT_ HW_ => ?_)
     generalize w18.drew = w19 at BK225 HB hHeld ⊢
     refine pa 0 (some 3) (yz 34 1) HT_ ?_
     refine tK 1 (some 4) (yz 34 3) HT_ HW_ hHeld ?_
     refine oa 2 (some 5) (yz 34 7) HT_ (fun K hK => ?_)
     refine goes_ Tryd.func40 (by kernel_rfl) rfl #[.slice A0_0 l0_0.length c0_0] (by rfl) rfl rfl (by (try simp only [List.map_toArray, List.map_cons, List.map_nil]); first | done | rfl | (simp only [List.length_drop, List.length_take]; rfl)) ?_
     with_reducible refine (spec_l3Gens.calls k _ _ l0_0 true _ ?side1 ?side2 A2.out).mono ?_
     (case side1 => exact co (Kd.C_below HR0_0.out HB.out))
     (case side2 => exact HC0_0.out)
     rintro e w' ⟨rfl, ⟨nd, rfl⟩⟩
     refine ⟨_, rfl, ?_⟩
     refine hK.out _ _ (bc BK225 0 _) (fun hHeld => ?_)
     clear hK K
     refine nm (some 5) ?_
     refine pa 3 (some 6) (yz 34 15) HT_ ?_
     refine pa 4 (some 7) (yz 34 31) HT_ ?_
     refine tK 5 (some 8) (yz 34 63) HT_ HW_ hHeld ?_
     refine pa 6 (some 9) (yz 34 127) HT_ ?_
     refine pa 7 (some 10) (yz 34 255) HT_ ?_
     refine pa 8 (some 11) (yz 34 511) HT_ ?_
     refine pa 9 (some 12) (yz 34 1023) HT_ ?_
     refine pa 10 (some 13) (yz 34 2047) HT_ ?_
     refine tK 11 (some 14) (yz 34 4095) HT_ HW_ hHeld ?_
     refine oa 12 (some 15) (yz 34 8191) HT_ (fun K hK => ?_)
     refine goes_ Tryd.func41 (by kernel_rfl) rfl #[.slice A0_0 l0_0.length c0_0] (by rfl) rfl rfl (by (try simp only [List.map_toArray, List.map_cons, List.map_nil]); first | done | rfl | (simp only [List.length_drop, List.length_take]; rfl)) ?_
     with_reducible refine (spec_IsAscending.calls k _ _ l0_0 true _ ?side1 ?side2 A5.out).mono ?_
     (case side1 => exact co (Kd.C_below HR0_0.out bw))
     (case side2 => exact HC0_0.out)
     rintro e w' ⟨rfl, ⟨nd, rfl⟩⟩
     refine ⟨_, rfl, ?_⟩
     refine hK.out _ _ (bc BK225 0 _) (fun hHeld => ?_)
     clear hK K
     refine nm (some 15) ?_
     refine pa 13 (some 16) (yz 34 16383) HT_ ?_
     refine pa 14 (some 17) (yz 34 32767) HT_ ?_
     refine pa 15 (some 18) (yz 34 65535) HT_ ?_
     refine tK 16 (some 19) (yz 34 131071) HT_ HW_ hHeld ?_
     refine oa 17 (some 20) (yz 34 262143) HT_ (fun K hK => ?_)
     refine goes_ Tryd.func42 (by kernel_rfl) rfl #[.slice A0_0 l0_0.length c0_0] (by rfl) rfl rfl (by (try simp only [List.map_toArray, List.map_cons, List.map_nil]); first | done | rfl | (simp only [List.length_drop, List.length_take]; rfl)) ?_
     with_reducible refine (spec_GcdOfList.calls k _ _ l0_0 t228 _ ?side1 ?side2 A7.out).mono ?_
     (case side1 => exact co (Kd.C_below HR0_0.out bw))
     (case side2 => exact HC0_0.out)
     rintro e w' ⟨rfl, ⟨nd, rfl⟩⟩
     refine ⟨_, rfl, ?_⟩
     refine hK.out _ _ (bc BK225 0 _) (fun hHeld => ?_)
     clear hK K
     refine nm (some 20) ?_
     refine pa 18 (some 21) (yz 34 524287) HT_ ?_
     refine pa 19 (some 22) (yz 34 1048575) HT_ ?_
     refine pa 20 (some 23) (yz 34 2097151) HT_ ?_
     refine pa 21 (some 24) (yz 34 4194303) HT_ ?_
     refine pa 24 (some 27) (yz 34 20971519) HT_ ?_
     refine tK 22 (some 25) (yz 34 25165823) HT_ HW_ hHeld ?_
     refine tK 25 (some 28) (yz 34 58720255) HT_ HW_ hHeld ?_
     refine oa 23 (some 26) (yz 34 67108863) HT_ (fun K hK => ?_)
     refine goes_ Tryd.func44 (by kernel_rfl) rfl #[.slice A0_0 l0_0.length c0_0] (by rfl) rfl rfl (by (try simp only [List.map_toArray, List.map_cons, List.map_nil]); first | done | rfl | (simp only [List.length_drop, List.length_take]; rfl)) ?_
     with_reducible refine (spec_l3Minimal.calls k _ _ l0_0 t229 _ ?side1 ?side2 A9.out).mono ?_
     (case side1 => exact co (Kd.C_below HR0_0.out bw))
     (case side2 => exact HC0_0.out)
     rintro e w20 ⟨v230, rfl, ho0, hb⟩
     refine ⟨_, rfl, ?_⟩
     have HO231 := am (Kd.R_lower ho0 (below_size bw))
     replace BK225 := kb BK225 hb
     replace HB := am (below_step bw hb)
     clear hb ho0
     obtain ⟨Ao21, co21, eo21⟩ := Kd.R_slice HO231.out
     (first | subst eo21 | (injection eo21 with f1_ f2_ f3_; have f4_ := f1_.symm; have f5_ := f3_.symm; clear f1_ f2_ f3_; subst f4_; subst f5_))
     refine hK.out _ _ (bc BK225 0 _) (fun hHeld => ?_)
     clear hK K
     refine nm (some 26) ?_
     refine oa 26 (some 29) (yz 34 134217727) HT_ (fun K hK => ?_)
     refine goes_ Tryd.func43 (by kernel_rfl) rfl #[.slice Ao21 t229.length co21, .slice A0_0 l0_0.length c0_0] (by rfl) rfl rfl (by (try simp only [List.map_toArray, List.map_cons, List.map_nil]); first | done | rfl | (simp only [List.length_drop, List.length_take]; rfl)) ?_
     with_reducible refine (spec_l2Same.calls k _ _ t229 _ _ l0_0 false _ ?side1 ?side2 ?side3 ?side4 A10.out).mono ?_
     (case side1 => exact co (Kd.R_reads' HO231.out).2.2)
     (case side2 => exact (Kd.R_reads' HO231.out).2.1)
     (case side3 => exact co (Kd.C_below HR0_0.out HB.out))
     (case side4 => exact HC0_0.out)
     rintro e w' ⟨rfl, ⟨nd, rfl⟩⟩
     refine ⟨_, rfl, ?_⟩
     refine hK.out _ _ (bc BK225 0 _) (fun hHeld => ?_)
     clear hK K
     refine nm (some 29) ?_
     refine pa 27 (some 30) (yz 34 268435455) HT_ ?_
     refine pa 28 (some 31) (yz 34 536870911) HT_ ?_
     refine pu 29 (some 32) (yz 34 1073741823) HT_ ?_
     refine pu 30 (some 33) (yz 34 2147483647) HT_ ?_
     refine pu 31 (some 34) (yz 34 4294967295) HT_ ?_
     refine pa 32 (some 35) (yz 34 8589934591) HT_ ?_
     refine pa 33 (some 2) (yz 34 17179869183) HT_ ?_
     refine done_ (done_of HT_.out (by kernel_rfl)) ?_
     try go_wp2
     go_ret
     exact ⟨re, bw⟩
    rw [if_neg c8] at H
    have c8b0 : (t228 == 1) = false := beq_eq_false_iff_ne.mpr c8
    have c8b1 : (t228 != 1) = true := bne_iff_ne.mpr c8
    obtain rfl := Option.some.inj H
    go_enter Tryd.func22, Tryd.ntmps22
    try go_wp2_with (first | ((with_reducible refine gate_dst (N := 1) rfl ?_); (try (refine gate_guard (by rfl) ?_; dsimp only)); refine bx 1 #[.slice A0_0 l0_0.length c0_0] 26 ?_; intro gb225 hg w22 hbox hb; have BK225 := am (hbox); have GW225 := am (gs hg : w.heap.size ≤ gb225); have GE225 := GW225; replace HB := am (below_step bw hb); clear hb hbox hg))
    replace BK225 := bd BK225
    replace HB := am (below_drew1 HB.out)
    refine start_ (n := 34) (S := fun w' => w'.cell? ⟨gb225, 0, none⟩ = some (.slice A0_0 l0_0.length c0_0)) (ds := []) (yz 34 0) (by kernel_rfl) rfl rfl (bc BK225 0 _) (fun hHeld => ?_); refine with_tabW spec_IsSemigroup.tab1 spec_IsSemigroup.bits1 (fun HT_ HW_ => ?_)
    generalize w22.drew = w23 at BK225 HB hHeld ⊢
    refine pa 0 (some 3) (yz 34 1) HT_ ?_
    refine tK 1 (some 4) (yz 34 3) HT_ HW_ hHeld ?_
    refine oa 2 (some 5) (yz 34 7) HT_ (fun K hK => ?_)
    refine goes_ Tryd.func40 (by kernel_rfl) rfl #[.slice A0_0 l0_0.length c0_0] (by rfl) rfl rfl (by (try simp only [List.map_toArray, List.map_cons, List.map_nil]); first | done | rfl | (simp only [List.length_drop, List.length_take]; rfl)) ?_
    with_reducible refine (spec_l3Gens.calls k _ _ l0_0 true _ ?side1 ?side2 A2.out).mono ?_
    (case side1 => exact co (Kd.C_below HR0_0.out HB.out))
    (case side2 => exact HC0_0.out)
    rintro e w' ⟨rfl, ⟨nd, rfl⟩⟩
    refine ⟨_, rfl, ?_⟩
    refine hK.out _ _ (bc BK225 0 _) (fun hHeld => ?_)
    clear hK K
    refine nm (some 5) ?_
    refine pa 3 (some 6) (yz 34 15) HT_ ?_
    refine pa 4 (some 7) (yz 34 31) HT_ ?_
    refine tK 5 (some 8) (yz 34 63) HT_ HW_ hHeld ?_
    refine pa 6 (some 9) (yz 34 127) HT_ ?_
    refine pa 7 (some 10) (yz 34 255) HT_ ?_
    refine pa 8 (some 11) (yz 34 511) HT_ ?_
    refine pa 9 (some 12) (yz 34 1023) HT_ ?_
    refine pa 10 (some 13) (yz 34 2047) HT_ ?_
    refine tK 11 (some 14) (yz 34 4095) HT_ HW_ hHeld ?_
    refine oa 12 (some 15) (yz 34 8191) HT_ (fun K hK => ?_)
    refine goes_ Tryd.func41 (by kernel_rfl) rfl #[.slice A0_0 l0_0.length c0_0] (by rfl) rfl rfl (by (try simp only [List.map_toArray, List.map_cons, List.map_nil]); first | done | rfl | (simp only [List.length_drop, List.length_take]; rfl)) ?_
    with_reducible refine (spec_IsAscending.calls k _ _ l0_0 true _ ?side1 ?side2 A5.out).mono ?_
    (case side1 => exact co (Kd.C_below HR0_0.out bw))
    (case side2 => exact HC0_0.out)
    rintro e w' ⟨rfl, ⟨nd, rfl⟩⟩
    refine ⟨_, rfl, ?_⟩
    refine hK.out _ _ (bc BK225 0 _) (fun hHeld => ?_)
    clear hK K
    refine nm (some 15) ?_
    refine pa 13 (some 16) (yz 34 16383) HT_ ?_
    refine pa 14 (some 17) (yz 34 32767) HT_ ?_
    refine pa 15 (some 18) (yz 34 65535) HT_ ?_
    refine tK 16 (some 19) (yz 34 131071) HT_ HW_ hHeld ?_
    refine oa 17 (some 20) (yz 34 262143) HT_ (fun K hK => ?_)
    refine goes_ Tryd.func42 (by kernel_rfl) rfl #[.slice A0_0 l0_0.length c0_0] (by rfl) rfl rfl (by (try simp only [List.map_toArray, List.map_cons, List.map_nil]); first | done | rfl | (simp only [List.length_drop, List.length_take]; rfl)) ?_
    with_reducible refine (spec_GcdOfList.calls k _ _ l0_0 t228 _ ?side1 ?side2 A7.out).mono ?_
    (case side1 => exact co (Kd.C_below HR0_0.out bw))
    (case side2 => exact HC0_0.out)
    rintro e w' ⟨rfl, ⟨nd, rfl⟩⟩
    refine ⟨_, rfl, ?_⟩
    refine hK.out _ _ (bc BK225 0 _) (fun hHeld => ?_)
    clear hK K
    refine nm (some 20) ?_
    refine pa 18 (some 21) (yz 34 524287) HT_ ?_
    refine pa 19 (some 22) (yz 34 1048575) HT_ ?_
    refine pa 20 (some 23) (yz 34 2097151) HT_ ?_
    refine pu 21 (some 24) (yz 34 4194303) HT_ ?_
    refine pu 22 (some 25) (yz 34 8388607) HT_ ?_
    refine pu 23 (some 26) (yz 34 16777215) HT_ ?_
    refine pu 24 (some 27) (yz 34 33554431) HT_ ?_
    refine pu 25 (some 28) (yz 34 67108863) HT_ ?_
    refine pu 26 (some 29) (yz 34 134217727) HT_ ?_
    refine pa 27 (some 30) (yz 34 268435455) HT_ ?_
    refine pa 28 (some 31) (yz 34 536870911) HT_ ?_
    refine pu 29 (some 32) (yz 34 1073741823) HT_ ?_
    refine pu 30 (some 33) (yz 34 2147483647) HT_ ?_
    refine pu 31 (some 34) (yz 34 4294967295) HT_ ?_
    refine pa 32 (some 35) (yz 34 8589934591) HT_ ?_
    refine pa 33 (some 2) (yz 34 17179869183) HT_ ?_
    refine done_ (done_of HT_.out (by kernel_rfl)) ?_
    try go_wp2
    go_ret
    exact ⟨re, bw⟩
   obtain rfl := Option.some.inj H
   go_enter Tryd.func22, Tryd.ntmps22
   try go_wp2_with (first | ((with_reducible refine gate_dst (N := 1) rfl ?_); (try (refine gate_guard (by rfl) ?_; dsimp only)); refine bx 1 #[.slice A0_0 l0_0.length c0_0] 26 ?_; intro gb225 hg w24 hbox hb; have BK225 := am (hbox); have GW225 := am (gs hg : w.heap.size ≤ gb225); have GE225 := GW225; replace HB := am (below_step bw hb); clear hb hbox hg))
   replace BK225 := bd BK225
   replace HB := am (below_drew1 HB.out)
   refine start_ (n := 34) (S := fun w' => w'.cell? ⟨gb225, 0, none⟩ = some (.slice A0_0 l0_0.length c0_0)) (ds := []) (yz 34 0) (by kernel_rfl) rfl rfl (bc BK225 0 _) (fun hHeld => ?_); refine with_tabW spec_IsSemigroup.tab1 spec_IsSemigroup.bits1 (fun HT_ HW_ => ?_)
   generalize w24.drew = w25 at BK225 HB hHeld ⊢
   refine pa 0 (some 3) (yz 34 1) HT_ ?_
   refine tK 1 (some 4) (yz 34 3) HT_ HW_ hHeld ?_
   refine oa 2 (some 5) (yz 34 7) HT_ (fun K hK => ?_)
   refine goes_ Tryd.func40 (by kernel_rfl) rfl #[.slice A0_0 l0_0.length c0_0] (by rfl) rfl rfl (by (try simp only [List.map_toArray, List.map_cons, List.map_nil]); first | done | rfl | (simp only [List.length_drop, List.length_take]; rfl)) ?_
   with_reducible refine (spec_l3Gens.calls k _ _ l0_0 true _ ?side1 ?side2 A2.out).mono ?_
   (case side1 => exact co (Kd.C_below HR0_0.out HB.out))
   (case side2 => exact HC0_0.out)
   rintro e w' ⟨rfl, ⟨nd, rfl⟩⟩
   refine ⟨_, rfl, ?_⟩
   refine hK.out _ _ (bc BK225 0 _) (fun hHeld => ?_)
   clear hK K
   refine nm (some 5) ?_
   refine pa 3 (some 6) (yz 34 15) HT_ ?_
   refine pa 4 (some 7) (yz 34 31) HT_ ?_
   refine tK 5 (some 8) (yz 34 63) HT_ HW_ hHeld ?_
   refine pa 6 (some 9) (yz 34 127) HT_ ?_
   refine pa 7 (some 10) (yz 34 255) HT_ ?_
   refine pa 8 (some 11) (yz 34 511) HT_ ?_
   refine pa 9 (some 12) (yz 34 1023) HT_ ?_
   refine pa 10 (some 13) (yz 34 2047) HT_ ?_
   refine tK 11 (some 14) (yz 34 4095) HT_ HW_ hHeld ?_
   refine oa 12 (some 15) (yz 34 8191) HT_ (fun K hK => ?_)
   refine goes_ Tryd.func41 (by kernel_rfl) rfl #[.slice A0_0 l0_0.length c0_0] (by rfl) rfl rfl (by (try simp only [List.map_toArray, List.map_cons, List.map_nil]); first | done | rfl | (simp only [List.length_drop, List.length_take]; rfl)) ?_
   with_reducible refine (spec_IsAscending.calls k _ _ l0_0 false _ ?side1 ?side2 A5.out).mono ?_
   (case side1 => exact co (Kd.C_below HR0_0.out bw))
   (case side2 => exact HC0_0.out)
   rintro e w' ⟨rfl, ⟨nd, rfl⟩⟩
   refine ⟨_, rfl, ?_⟩
   refine hK.out _ _ (bc BK225 0 _) (fun hHeld => ?_)
   clear hK K
   refine nm (some 15) ?_
   refine pa 13 (some 16) (yz 34 16383) HT_ ?_
   refine pa 14 (some 17) (yz 34 32767) HT_ ?_
   refine pu 15 (some 18) (yz 34 65535) HT_ ?_
   refine pu 16 (some 19) (yz 34 131071) HT_ ?_
   refine pu 17 (some 20) (yz 34 262143) HT_ ?_
   refine pu 18 (some 21) (yz 34 524287) HT_ ?_
   refine pa 19 (some 22) (yz 34 1048575) HT_ ?_
   refine pa 20 (some 23) (yz 34 2097151) HT_ ?_
   refine pu 21 (some 24) (yz 34 4194303) HT_ ?_
   refine pu 22 (some 25) (yz 34 8388607) HT_ ?_
   refine pu 23 (some 26) (yz 34 16777215) HT_ ?_
   refine pu 24 (some 27) (yz 34 33554431) HT_ ?_
   refine pu 25 (some 28) (yz 34 67108863) HT_ ?_
   refine pu 26 (some 29) (yz 34 134217727) HT_ ?_
   refine pa 27 (some 30) (yz 34 268435455) HT_ ?_
   refine pa 28 (some 31) (yz 34 536870911) HT_ ?_
   refine pu 29 (some 32) (yz 34 1073741823) HT_ ?_
   refine pu 30 (some 33) (yz 34 2147483647) HT_ ?_
   refine pu 31 (some 34) (yz 34 4294967295) HT_ ?_
   refine pa 32 (some 35) (yz 34 8589934591) HT_ ?_
   refine pa 33 (some 2) (yz 34 17179869183) HT_ ?_
   refine done_ (done_of HT_.out (by kernel_rfl)) ?_
   try go_wp2
   go_ret
   exact ⟨re, bw⟩
  have c4b0 : decide ((l0_0.length : Int) ≤ 12) = false := decide_eq_false c4
  have c4b1 : decide (l0_0.length ≤ 12) = false := decide_eq_false (by omega)
  clear c4
  obtain rfl := Option.some.inj H
  go_enter Tryd.func22, Tryd.ntmps22
  try go_wp2_with (first | ((with_reducible refine gate_dst (N := 1) rfl ?_); (try (refine gate_guard (by rfl) ?_; dsimp only)); refine bx 1 #[.slice A0_0 l0_0.length c0_0] 26 ?_; intro gb225 hg w26 hbox hb; have BK225 := am (hbox); have GW225 := am (gs hg : w.heap.size ≤ gb225); have GE225 := GW225; replace HB := am (below_step bw hb); clear hb hbox hg))
  replace BK225 := bd BK225
  replace HB := am (below_drew1 HB.out)
  refine start_ (n := 34) (S := fun w' => w'.cell? ⟨gb225, 0, none⟩ = some (.slice A0_0 l0_0.length c0_0)) (ds := []) (yz 34 0) (by kernel_rfl) rfl rfl (bc BK225 0 _) (fun hHeld => ?_); refine with_tabW spec_IsSemigroup.tab1 spec_IsSemigroup.bits1 (fun HT_ HW_ => ?_)
  generalize w26.drew = w27 at BK225 HB hHeld ⊢
  refine pa 0 (some 3) (yz 34 1) HT_ ?_
  refine tK 1 (some 4) (yz 34 3) HT_ HW_ hHeld ?_
  refine oa 2 (some 5) (yz 34 7) HT_ (fun K hK => ?_)
  refine goes_ Tryd.func40 (by kernel_rfl) rfl #[.slice A0_0 l0_0.length c0_0] (by rfl) rfl rfl (by (try simp only [List.map_toArray, List.map_cons, List.map_nil]); first | done | rfl | (simp only [List.length_drop, List.length_take]; rfl)) ?_
  with_reducible refine (spec_l3Gens.calls k _ _ l0_0 true _ ?side1 ?side2 A2.out).mono ?_
  (case side1 => exact co (Kd.C_below HR0_0.out HB.out))
  (case side2 => exact HC0_0.out)
  rintro e w' ⟨rfl, ⟨nd, rfl⟩⟩
  refine ⟨_, rfl, ?_⟩
  refine hK.out _ _ (bc BK225 0 _) (fun hHeld => ?_)
  clear hK K
  refine nm (some 5) ?_
  refine pa 3 (some 6) (yz 34 15) HT_ ?_
  refine pa 4 (some 7) (yz 34 31) HT_ ?_
  refine tK 5 (some 8) (yz 34 63) HT_ HW_ hHeld ?_
  refine pa 6 (some 9) (yz 34 127) HT_ ?_
  refine pa 7 (some 10) (yz 34 255) HT_ ?_
  refine pa 8 (some 11) (yz 34 511) HT_ ?_
  refine pa 9 (some 12) (yz 34 1023) HT_ ?_
  refine pu 10 (some 13) (yz 34 2047) HT_ ?_
  refine pu 11 (some 14) (yz 34 4095) HT_ ?_
  refine pu 12 (some 15) (yz 34 8191) HT_ ?_
  refine pa 13 (some 16) (yz 34 16383) HT_ ?_
  refine pa 14 (some 17) (yz 34 32767) HT_ ?_
  refine pu 15 (some 18) (yz 34 65535) HT_ ?_
  refine pu 16 (some 19) (yz 34 131071) HT_ ?_
  refine pu 17 (some 20) (yz 34 262143) HT_ ?_
  refine pu 18 (some 21) (yz 34 524287) HT_ ?_
  refine pa 19 (some 22) (yz 34 1048575) HT_ ?_
  refine pa 20 (some 23) (yz 34 2097151) HT_ ?_
  refine pu 21 (some 24) (yz 34 4194303) HT_ ?_
  refine pu 22 (some 25) (yz 34 8388607) HT_ ?_
  refine pu 23 (some 26) (yz 34 16777215) HT_ ?_
  refine pu 24 (some 27) (yz 34 33554431) HT_ ?_
  refine pu 25 (some 28) (yz 34 67108863) HT_ ?_
  refine pu 26 (some 29) (yz 34 134217727) HT_ ?_
  refine pa 27 (some 30) (yz 34 268435455) HT_ ?_
  refine pa 28 (some 31) (yz 34 536870911) HT_ ?_
  refine pu 29 (some 32) (yz 34 1073741823) HT_ ?_
  refine pu 30 (some 33) (yz 34 2147483647) HT_ ?_
  refine pu 31 (some 34) (yz 34 4294967295) HT_ ?_
  refine pa 32 (some 35) (yz 34 8589934591) HT_ ?_
  refine pa 33 (some 2) (yz 34 17179869183) HT_ ?_
  refine done_ (done_of HT_.out (by kernel_rfl)) ?_
  try go_wp2
  go_ret
  exact ⟨re, bw⟩
 obtain rfl := Option.some.inj H
 go_enter Tryd.func22, Tryd.ntmps22
 try go_wp2_with (first | ((with_reducible refine gate_dst (N := 1) rfl ?_); (try (refine gate_guard (by rfl) ?_; dsimp only)); refine bx 1 #[.slice A0_0 l0_0.length c0_0] 26 ?_; intro gb225 hg w28 hbox hb; have BK225 := am (hbox); have GW225 := am (gs hg : w.heap.size ≤ gb225); have GE225 := GW225; replace HB := am (below_step bw hb); clear hb hbox hg))
 replace BK225 := bd BK225
 replace HB := am (below_drew1 HB.out)
 refine start_ (n := 34) (S := fun w' => w'.cell? ⟨gb225, 0, none⟩ = some (.slice A0_0 l0_0.length c0_0)) (ds := []) (yz 34 0) (by kernel_rfl) rfl rfl (bc BK225 0 _) (fun hHeld => ?_); refine with_tabW spec_IsSemigroup.tab1 spec_IsSemigroup.bits1 (fun HT_ HW_ => ?_)
 generalize w28.drew = w29 at BK225 HB hHeld ⊢
 refine pa 0 (some 3) (yz 34 1) HT_ ?_
 refine tK 1 (some 4) (yz 34 3) HT_ HW_ hHeld ?_
 refine oa 2 (some 5) (yz 34 7) HT_ (fun K hK => ?_)
 refine goes_ Tryd.func40 (by kernel_rfl) rfl #[.slice A0_0 l0_0.length c0_0] (by rfl) rfl rfl (by (try simp only [List.map_toArray, List.map_cons, List.map_nil]); first | done | rfl | (simp only [List.length_drop, List.length_take]; rfl)) ?_
 with_reducible refine (spec_l3Gens.calls k _ _ l0_0 false _ ?side1 ?side2 A2.out).mono ?_
 (case side1 => exact co (Kd.C_below HR0_0.out HB.out))
 (case side2 => exact HC0_0.out)
 rintro e w' ⟨rfl, ⟨nd, rfl⟩⟩
 refine ⟨_, rfl, ?_⟩
 refine hK.out _ _ (bc BK225 0 _) (fun hHeld => ?_)
 clear hK K
 refine nm (some 5) ?_
 refine pa 3 (some 6) (yz 34 15) HT_ ?_
 refine pu 4 (some 7) (yz 34 31) HT_ ?_
 refine pu 5 (some 8) (yz 34 63) HT_ ?_
 refine pu 6 (some 9) (yz 34 127) HT_ ?_
 refine pu 7 (some 10) (yz 34 255) HT_ ?_
 refine pa 8 (some 11) (yz 34 511) HT_ ?_
 refine pa 9 (some 12) (yz 34 1023) HT_ ?_
 refine pu 10 (some 13) (yz 34 2047) HT_ ?_
 refine pu 11 (some 14) (yz 34 4095) HT_ ?_
 refine pu 12 (some 15) (yz 34 8191) HT_ ?_
 refine pa 13 (some 16) (yz 34 16383) HT_ ?_
 refine pa 14 (some 17) (yz 34 32767) HT_ ?_
 refine pu 15 (some 18) (yz 34 65535) HT_ ?_
 refine pu 16 (some 19) (yz 34 131071) HT_ ?_
 refine pu 17 (some 20) (yz 34 262143) HT_ ?_
 refine pu 18 (some 21) (yz 34 524287) HT_ ?_
 refine pa 19 (some 22) (yz 34 1048575) HT_ ?_
 refine pa 20 (some 23) (yz 34 2097151) HT_ ?_
 refine pu 21 (some 24) (yz 34 4194303) HT_ ?_
 refine pu 22 (some 25) (yz 34 8388607) HT_ ?_
 refine pu 23 (some 26) (yz 34 16777215) HT_ ?_
 refine pu 24 (some 27) (yz 34 33554431) HT_ ?_
 refine pu 25 (some 28) (yz 34 67108863) HT_ ?_
 refine pu 26 (some 29) (yz 34 134217727) HT_ ?_
 refine pa 27 (some 30) (yz 34 268435455) HT_ ?_
 refine pa 28 (some 31) (yz 34 536870911) HT_ ?_
 refine pu 29 (some 32) (yz 34 1073741823) HT_ ?_
 refine pu 30 (some 33) (yz 34 2147483647) HT_ ?_
 refine pu 31 (some 34) (yz 34 4294967295) HT_ ?_
 refine pa 32 (some 35) (yz 34 8589934591) HT_ ?_
 refine pa 33 (some 2) (yz 34 17179869183) HT_ ?_
 refine done_ (done_of HT_.out (by kernel_rfl)) ?_
 try go_wp2
 go_ret
 exact ⟨re, bw⟩


/-! ### spec_FromGens: function 59 -/
def spec_FromGens.f (k : Nat) (l0 : List Int) : Option (List Int × Bool) := (spec_l3Gens.f k l0).bind fun t235 => (if t235 = true then ((spec_l3Minimal.f k l0).bind fun t236 => ((spec_IsSemigroup.f k t236).bind fun t240 => (if t240 = true then (some (t236, true)) else (some (([] : List Int), false))))) else (some (([] : List Int), false)))
set_option maxHeartbeats 8000000 in
set_option maxRecDepth 100000 in
theorem spec_FromGens.calls (k : Nat) (A0 : Option Addr) (c0 : Nat) (l0 : List Int) (r1 : List Int) (r2 : Bool) (w : World) (hr0 : Kd.C (Kd.int .i64) w A0 l0.length l0) (hc0 : l0.length ≤ c0) (h : spec_FromGens.f k l0 = some (r1, r2)) :
  Calls Tryd.prog 59 #[.slice A0 l0.length c0] w fun e w' => ∃ v0_ : Value, e = .returned (.tuple #[.agg #[v0_], .bool r2]) ∧ Kd.R (Kd.int .i64) 3 w' w.heap.size (fun _ => True) v0_ r1 ∧ Below w.heap.size w w' := by
 have hu26 := Tryd.underlying26
 have HR0 := am hr0
 have HC0 := am hc0
 clear hr0 hc0
 have HB := am (Below.refl w.heap.size w)
 have H : ((spec_l3Gens.f k l0).bind fun t235 => (if t235 = true then ((spec_l3Minimal.f k l0).bind fun t236 => ((spec_IsSemigroup.f k t236).bind fun t240 => (if t240 = true then (some (t236, true)) else (some (([] : List Int), false))))) else (some (([] : List Int), false)))) = some (r1, r2) := h
 clear h
 replace H := ga H; obtain ⟨t235, A2, H⟩ := H
 replace H := gb H; obtain ⟨rfl, H⟩ | ⟨rfl, H⟩ := H
 ·replace H := ga H; obtain ⟨t236, A4, H⟩ := H
  replace H := ga H; obtain ⟨t240, A5, H⟩ := H
  replace H := gb H; obtain ⟨rfl, H⟩ | ⟨rfl, H⟩ := H
  ·simp only [Option.some.injEq, Prod.mk.injEq] at H
   obtain ⟨rfl, rfl⟩ := H
   go_enter Tryd.func59, Tryd.ntmps59
   go_wp2_with (first | ((with_reducible refine gate_dst (N := 2) rfl ?_); refine bx 2 #[.slice none 0 0] 26 ?_; intro gb234 hg w7 hbox hb; have BK234 := am (hbox); have GW234 := am (gs hg : w.heap.size ≤ gb234); have GE234 := GW234; replace HB := am (below_step bw hb); clear hb hbox hg) | ((with_reducible refine gate_callee (f := 40) rfl ?_); refine goesL_ (some 6) rfl rfl Tryd.func40 (by kernel_rfl) rfl #[.slice A0 l0.length c0] rfl (by (try simp only [List.map_toArray, List.map_cons, List.map_nil]); first | done | rfl | (simp only [List.length_drop, List.length_take]; rfl)) ?_; (with_reducible refine (spec_l3Gens.calls k _ _ l0 true _ ?side1 ?side2 A2.out).mono ?_); (case side1 => exact co (Kd.C_below HR0.out HB.out)); (case side2 => exact HC0.out); rintro e w' ⟨rfl, ⟨nd, rfl⟩⟩; refine ⟨_, rfl, ?_⟩; (try (rw [drewN_self w7]; generalize hq_ : World.drewN w7 _ = w7; have n0_ : Aside0 (w7.heap[gb234]? = some (.cells #[.slice none 0 0] 26 (0, 0))) := ⟨by rw [← hq_]; exact (bo BK234.out)⟩; have n1_ : Aside0 (Below w.heap.size w w7) := ⟨by rw [← hq_]; exact bw⟩; clear BK234 HB hq_; have BK234 := n0_; have HB := n1_; clear n0_ n1_))) | ((with_reducible refine gate_callee (f := 44) rfl ?_); refine goesL_ (some 10) rfl rfl Tryd.func44 (by kernel_rfl) rfl #[.slice A0 l0.length c0] rfl (by (try simp only [List.map_toArray, List.map_cons, List.map_nil]); first | done | rfl | (simp only [List.length_drop, List.length_take]; rfl)) ?_; (with_reducible refine (spec_l3Minimal.calls k _ _ l0 t236 _ ?side1 ?side2 A4.out).mono ?_); (case side1 => exact co (Kd.C_below HR0.out HB.out)); (case side2 => exact HC0.out); rintro e w8 ⟨v237, rfl, ho0, hb⟩; refine ⟨_, rfl, ?_⟩; have HO238 := am (Kd.R_lower ho0 (below_size bw)); replace BK234 := kb BK234 hb; replace HB := am (below_step bw hb); clear hb ho0; obtain ⟨Ao9, co9, eo9⟩ := Kd.R_slice HO238.out; subst eo9) | ((with_reducible refine gate_dst (N := 4) rfl ?_); refine bx 4 #[.slice none 0 0] 26 ?_; intro gb239 hg w10 hbox hb; replace HO238 := rK HO238 hb; have BK239 := am (hbox); have GW239 := am (gs hg : w.heap.size ≤ gb239); have GE239 := GW239; replace HB := am (below_step bw hb); have NB234_239 := nl hg BK234; have NB239_234 := ns NB234_239; replace BK234 := kb BK234 hb; clear hb hbox hg; have hnb11 := NB239_234.out; have hnc11 := NB234_239.out; have hcz12_0 := bc BK239 0 (.slice none 0 0); have hfz12_0 := blk_frozen BK239.out 0) | ((with_reducible refine gate_callee (f := 22) rfl ?_); refine goesL_ (some 13) rfl rfl Tryd.func22 (by kernel_rfl) rfl #[.agg #[.slice Ao9 t236.length co9]] rfl (by (try simp only [List.map_toArray, List.map_cons, List.map_nil]); first | done | rfl | (simp only [List.length_drop, List.length_take]; rfl)) ?_; (with_reducible refine (spec_IsSemigroup.calls k _ _ t236 true _ ?side1 ?side2 A5.out).mono ?_); (case side1 => refine (Kd.R_reads' (e := 3) (base := w.heap.size) (ok := fun k_ => True) (n := t236.length) (c := co9) ?_).2.2; exact (rF HO238 BK239 (.slice Ao9 t236.length co9))); (case side2 => exact (Kd.R_reads' HO238.out).2.1); rintro e w13 ⟨rfl, hb⟩; refine ⟨_, rfl, ?_⟩; replace HO238 := am (Kd.R_below (rF HO238 BK239 (.slice Ao9 t236.length co9)) hb); replace BK234 := kb BK234 hb; replace BK239 := am (blk_below (g := gb239) (o := .cells #[.slice Ao9 t236.length co9] 26 (0, 0)) (bp BK239.out) hb); replace HB := am (below_step bw hb); clear hb; have hcz14_0 := bc BK239 0 (.slice Ao9 t236.length co9); have hfz14_0 := blk_frozen BK239.out 0; have hcz15_0 := bc BK234 0 (.slice none 0 0); have hfz15_0 := blk_frozen BK234.out 0))
   refine bodyPost_ret (results_ct rfl _ _ gb234 26 #[.slice Ao9 t236.length co9] (0, 0) _ rfl (bp BK234.out) Tryd.underlying26 rfl (by kernel_rfl)) rfl ?_
   exact ⟨_, re, by (with_reducible repeat (first | apply Kd.R_alloc | apply Kd.R_drewN | apply Kd.R_drew)); exact Kd.R_mono (Kd.R_far (p := ⟨gb234, 0, none⟩) (Kd.R_types HO238.out BK234.out (by decide)) (fun _ hk => hk.2) (.slice Ao9 t236.length co9)) (fun _ hk => trivial), bw⟩
  simp only [Option.some.injEq, Prod.mk.injEq] at H
  obtain ⟨rfl, rfl⟩ := H
  go_enter Tryd.func59, Tryd.ntmps59
  go_wp2_with (first | ((with_reducible refine gate_dst (N := 2) rfl ?_); refine bx 2 #[.slice none 0 0] 26 ?_; intro gb234 hg w16 hbox hb; have BK234 := am (hbox); have GW234 := am (gs hg : w.heap.size ≤ gb234); have GE234 := GW234; replace HB := am (below_step bw hb); clear hb hbox hg) | ((with_reducible refine gate_callee (f := 40) rfl ?_); refine goesL_ (some 6) rfl rfl Tryd.func40 (by kernel_rfl) rfl #[.slice A0 l0.length c0] rfl (by (try simp only [List.map_toArray, List.map_cons, List.map_nil]); first | done | rfl | (simp only [List.length_drop, List.length_take]; rfl)) ?_; (with_reducible refine (spec_l3Gens.calls k _ _ l0 true _ ?side1 ?side2 A2.out).mono ?_); (case side1 => exact co (Kd.C_below HR0.out HB.out)); (case side2 => exact HC0.out); rintro e w' ⟨rfl, ⟨nd, rfl⟩⟩; refine ⟨_, rfl, ?_⟩; (try (rw [drewN_self w16]; generalize hq_ : World.drewN w16 _ = w16; have n0_ : Aside0 (w16.heap[gb234]? = some (.cells #[.slice none 0 0] 26 (0, 0))) := ⟨by rw [← hq_]; exact (bo BK234.out)⟩; have n1_ : Aside0 (Below w.heap.size w w16) := ⟨by rw [← hq_]; exact bw⟩; clear BK234 HB hq_; have BK234 := n0_; have HB := n1_; clear n0_ n1_))) | ((with_reducible refine gate_callee (f := 44) rfl ?_); refine goesL_ (some 10) rfl rfl Tryd.func44 (by kernel_rfl) rfl #[.slice A0 l0.length c0] rfl (by (try simp only [List.map_toArray, List.map_cons, List.map_nil]); first | done | rfl | (simp only [List.length_drop, List.length_take]; rfl)) ?_; (with_reducible refine (spec_l3Minimal.calls k _ _ l0 t236 _ ?side1 ?side2 A4.out).mono ?_); (case side1 => exact co (Kd.C_below HR0.out HB.out)); (case side2 => exact HC0.out); rintro e w17 ⟨v237, rfl, ho0, hb⟩; refine ⟨_, rfl, ?_⟩; have HO238 := am (Kd.R_lower ho0 (below_size bw)); replace BK234 := kb BK234 hb; replace HB := am (below_step bw hb); clear hb ho0; obtain ⟨Ao18, co18, eo18⟩ := Kd.R_slice HO238.out; subst eo18) | ((with_reducible refine gate_dst (N := 4) rfl ?_); refine bx 4 #[.slice none 0 0] 26 ?_; intro gb239 hg w19 hbox hb; replace HO238 := rK HO238 hb; have BK239 := am (hbox); have GW239 := am (gs hg : w.heap.size ≤ gb239); have GE239 := GW239; replace HB := am (below_step bw hb); have NB234_239 := nl hg BK234; have NB239_234 := ns NB234_239; replace BK234 := kb BK234 hb; clear hb hbox hg; have hnb20 := NB239_234.out; have hnc20 := NB234_239.out; have hcz21_0 := bc BK239 0 (.slice none 0 0); have hfz21_0 := blk_frozen BK239.out 0) | ((with_reducible refine gate_callee (f := 22) rfl ?_); refine goesL_ (some 13) rfl rfl Tryd.func22 (by kernel_rfl) rfl #[.agg #[.slice Ao18 t236.length co18]] rfl (by (try simp only [List.map_toArray, List.map_cons, List.map_nil]); first | done | rfl | (simp only [List.length_drop, List.length_take]; rfl)) ?_; (with_reducible refine (spec_IsSemigroup.calls k _ _ t236 false _ ?side1 ?side2 A5.out).mono ?_); (case side1 => refine (Kd.R_reads' (e := 3) (base := w.heap.size) (ok := fun k_ => True) (n := t236.length) (c := co18) ?_).2.2; exact (rF HO238 BK239 (.slice Ao18 t236.length co18))); (case side2 => exact (Kd.R_reads' HO238.out).2.1); rintro e w22 ⟨rfl, hb⟩; refine ⟨_, rfl, ?_⟩; replace HO238 := am (Kd.R_below (rF HO238 BK239 (.slice Ao18 t236.length co18)) hb); replace BK234 := kb BK234 hb; replace BK239 := am (blk_below (g := gb239) (o := .cells #[.slice Ao18 t236.length co18] 26 (0, 0)) (bp BK239.out) hb); replace HB := am (below_step bw hb); clear hb; have hcz23_0 := bc BK234 0 (.slice none 0 0); have hfz23_0 := blk_frozen BK234.out 0))
  refine bodyPost_ret (results_ct rfl _ _ gb234 26 #[.slice none 0 0] (0, 0) _ rfl (bp BK234.out) Tryd.underlying26 rfl (by kernel_rfl)) rfl ?_
  exact ⟨_, re, by first | exact Kd.R_nil _ _ _ _ _ | exact Kd.N_nil _ _ _ _ _ | exact Kd.V_nil _ _ _ _ _ | exact Kd.Q_nil _ _ _ _ _ | exact Kd.S_nil _ _ _ _ _, bw⟩
 simp only [Option.some.injEq, Prod.mk.injEq] at H
 obtain ⟨rfl, rfl⟩ := H
 go_enter Tryd.func59, Tryd.ntmps59
 go_wp2_with (first | ((with_reducible refine gate_dst (N := 2) rfl ?_); refine bx 2 #[.slice none 0 0] 26 ?_; intro gb234 hg w24 hbox hb; have BK234 := am (hbox); have GW234 := am (gs hg : w.heap.size ≤ gb234); have GE234 := GW234; replace HB := am (below_step bw hb); clear hb hbox hg) | ((with_reducible refine gate_callee (f := 40) rfl ?_); refine goesL_ (some 6) rfl rfl Tryd.func40 (by kernel_rfl) rfl #[.slice A0 l0.length c0] rfl (by (try simp only [List.map_toArray, List.map_cons, List.map_nil]); first | done | rfl | (simp only [List.length_drop, List.length_take]; rfl)) ?_; (with_reducible refine (spec_l3Gens.calls k _ _ l0 false _ ?side1 ?side2 A2.out).mono ?_); (case side1 => exact co (Kd.C_below HR0.out HB.out)); (case side2 => exact HC0.out); rintro e w' ⟨rfl, ⟨nd, rfl⟩⟩; refine ⟨_, rfl, ?_⟩; (try (rw [drewN_self w24]; generalize hq_ : World.drewN w24 _ = w24; have n0_ : Aside0 (w24.heap[gb234]? = some (.cells #[.slice none 0 0] 26 (0, 0))) := ⟨by rw [← hq_]; exact (bo BK234.out)⟩; have n1_ : Aside0 (Below w.heap.size w w24) := ⟨by rw [← hq_]; exact bw⟩; clear BK234 HB hq_; have BK234 := n0_; have HB := n1_; clear n0_ n1_)); have hcz25_0 := bc BK234 0 (.slice none 0 0); have hfz25_0 := blk_frozen BK234.out 0))
 refine bodyPost_ret (results_ct rfl _ _ gb234 26 #[.slice none 0 0] (0, 0) _ rfl (bp BK234.out) Tryd.underlying26 rfl (by kernel_rfl)) rfl ?_
 exact ⟨_, re, by first | exact Kd.R_nil _ _ _ _ _ | exact Kd.N_nil _ _ _ _ _ | exact Kd.V_nil _ _ _ _ _ | exact Kd.Q_nil _ _ _ _ _ | exact Kd.S_nil _ _ _ _ _, bw⟩

end Go.Proofs.YtbbehmbpoilffaaDoor.C
