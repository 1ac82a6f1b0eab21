/- Contracts of functions of the program: impl_factored, impl_Factorizations, spec_DrawCountFactorizations. -/
import Derived.Test.YtbbehmbpoilffaaDoorC0
import Derived.Test.YtbbehmbpoilffaaDoorC1
import Derived.Test.YtbbehmbpoilffaaDoorC6
import Derived.Test.YtbbehmbpoilffaaDoorC7
import Derived.Test.YtbbehmbpoilffaaDoorC8
namespace Go.Proofs.YtbbehmbpoilffaaDoor.C
open Go.RowKit Go.Proofs.YtbbehmbpoilffaaDoorW.PrintWords Go.Proofs.YtbbehmbpoilffaaDoorW.PrintLast Go.Proofs.YtbbehmbpoilffaaDoorW.PrintMore
attribute [local go_sem] max2_int min2_int max_two min_two max_three min_three max_four min_four
set_option linter.unusedVariables false
set_option linter.unusedSimpArgs false

/-! ### impl_factored: function 27 -/
mutual
def impl_factored.l0 : Nat → List Int → Int → List (List Int) → Int → Option ((List (List Int)))
 | 0, _, _, _, _ => none
 | k + 1, x0, x1, x5, x6 => if x6 ≥ 0 then (if 1 ≤ (x0.length : Int) then (if 0 < (x0.length : Int) then ((impl_factored.f k (x0.drop 1) (wrap64 (x1 - (wrap64 (x6 * (rd x0 0)))))).bind fun t441 => (impl_factored.l1 k x0 x1 x5 x6 t441 (t441.length : Int) 0)) else (none)) else (none)) else (some x5)
def impl_factored.l1 : Nat → List Int → Int → List (List Int) → Int → List (List Int) → Int → Int → Option ((List (List Int)))
 | 0, _, _, _, _, _, _, _ => none
 | k + 1, x0, x1, x5, x6, x35, x36, x37 => if x37 < x36 then (if 0 ≤ x37 then (if x37 < (x35.length : Int) then ((some (([x6] : List Int) : List Int)).bind fun y445 => (if y445.length + (rd_L2 x35 x37).length < 17592186044416 then (if x5.length < 5864062014805 then (impl_factored.l1 k x0 x1 (x5 ++ [(y445 ++ (rd_L2 x35 x37))]) x6 x35 x36 (wrap64 (x37 + 1))) else (none)) else (none))) else (none)) else (none)) else (impl_factored.l0 k x0 x1 x5 (wrap64 (x6 - 1)))
def impl_factored.f : Nat → List Int → Int → Option ((List (List Int)))
 | 0, _, _ => none
 | k + 1, l0, a1 => if (l0.length : Int) = 0 then (if a1 = 0 then (some (([(([] : List Int))] : List (List Int)))) else (some ([] : List (List Int)))) else (if 0 < (l0.length : Int) then (if (rd l0 0) = 0 then (none) else (impl_factored.l0 k l0 a1 (([] : List (List Int))) (wrap64 (Int.tdiv a1 (rd l0 0))))) else (none))
end
def impl_factored.T9 : Bool × List (List Nat × List Nat) := (true, [([], []), ([0], [0]), ([], []), ([], []), ([], []), ([4], [4]), ([5], [5]), ([3, 6], [3, 6]), ([2, 7], [2, 7]), ([1, 8], [1, 8]), ([9], [9]), ([], [])])
def impl_factored.B9 : List Nat := [0, 1, 0, 0, 0, 16, 48, 120, 252, 511, 1023, 0]
theorem impl_factored.tab9 : rtab .any (opsOf Tryd.f27 9) = impl_factored.T9 := by kernel_rfl
theorem impl_factored.bits9 : waitsOk impl_factored.T9.2 impl_factored.B9 = true := by kernel_rfl
set_option maxHeartbeats 8000000 in
set_option maxRecDepth 100000 in
theorem impl_factored.calls (k : Nat) : ∀ (A0 : Option Addr) (c0 : Nat) (l0 : List Int) (a1 : Int) (r : List (List Int)) (w : World) (hr0 : Kd.C (Kd.int .i64) w A0 l0.length l0) (hc0 : l0.length ≤ c0) (h : impl_factored.f k l0 a1 = some r),
  Calls Tryd.prog 27 #[.slice A0 l0.length c0, .int .i64 a1] w fun e w' => ∃ v0_ : Value, e = .returned (v0_) ∧ Kd.S (Kd.slice 3 (Kd.int .i64)) 24 w' w.heap.size (fun _ => True) v0_ r ∧ Below w.heap.size w w' := by
 induction k using Nat.strongRecOn with
 | _ k ih =>
 intro A0 c0 l0 a1 r w hr0 hc0 h
 cases k with
 | zero => exact absurd h (by simp [impl_factored.f])
 | succ k =>
 simp only [impl_factored.f] at h
 have HR0 := am hr0
 have HC0 := am hc0
 clear hr0 hc0
 have HB := am (Below.refl w.heap.size w)
 have H : (if (l0.length : Int) = 0 then (if a1 = 0 then (some (([(([] : List Int))] : List (List Int)))) else (some ([] : List (List Int)))) else (if 0 < (l0.length : Int) then (if (rd l0 0) = 0 then (none) else (impl_factored.l0 k l0 a1 (([] : List (List Int))) (wrap64 (Int.tdiv a1 (rd l0 0))))) else (none))) = some r := h
 clear h
 by_cases c3 : (l0.length : Int) = 0
 ·rw [if_pos c3] at H
  have c3b0 : ((l0.length : Int) == 0) = true := beq_iff_eq.mpr c3
  have c3b1 : ((l0.length : Int) != 0) = false := bne_eq_false_iff_eq.mpr c3
  clear c3
  by_cases c4 : a1 = 0
  ·rw [if_pos c4] at H
   have c4b0 : (a1 == 0) = true := beq_iff_eq.mpr c4
   have c4b1 : (a1 != 0) = false := bne_eq_false_iff_eq.mpr c4
   clear c4
   obtain ⟨y429, hy429⟩ : ∃ y_ : List Int, y_ = (([] : List Int)) := ⟨_, rfl⟩
   replace H : (some (([y429] : List (List Int)))) = some r := by first | (rw [hy429]; with_reducible first | exact H | exact bs H) | (with_reducible first | exact bs H | exact H) | (rw [hy429]; exact H) | exact H
   have Ny429 := am hy429
   clear hy429
   obtain ⟨y432, hy432⟩ : ∃ y_ : List (List Int), y_ = (([y429] : List (List Int))) := ⟨_, rfl⟩
   replace H : (some y432) = some r := by first | (rw [hy432]; with_reducible first | exact H | exact bs H) | (with_reducible first | exact bs H | exact H) | (rw [hy432]; exact H) | exact H
   have Ny432 := am hy432
   clear hy432
   obtain rfl := Option.some.inj H
   go_enter Tryd.func27, Tryd.ntmps27
   go_wp2_with (first | ((with_reducible refine gate_dst (N := 14) rfl ?_); refine Kd.R_lit (Kd.int .i64) _ 3 ?hg (N := 14) ?hd (xs := ([] : List Int)) (inner := []) (ok := fun _ => True) (okp := fun _ => True) ?hr ?hp (fun _ hk => hk) trivial (Below.refl _ _) (Nat.le_refl _) (by simp) ?_; (case hd => rfl); (case hg => rfl); (case hr => first | (go_simp; done) | (go_simp; rfl)); (case hp => exact (Reps.none _ _)); intro v430 w5 ho6 hb hg_ hnew_; clear hg_ hnew_; (first | rw [← Ny429.out] at ho6 | (simp only [Int.reduceToNat] at ho6; rw [← Ny429.out] at ho6)); have HO431 := am (Kd.R_lower ho6 (below_size bw)); replace HB := am (below_step bw hb); clear hb ho6; obtain ⟨Ao7, co7, eo7⟩ := Kd.R_slice HO431.out; subst eo7) | ((with_reducible refine gate_dst (N := 15) rfl ?_); refine Kd.S_lits (Kd.slice 3 (Kd.int .i64)) w.heap.size 24 ?hg (N := 15) ?hd (xs := ([y429] : List (List Int))) (inner := [.slice Ao7 y429.length co7]) (ok := fun _ => True) (fun j_ _ => j_ = 0) ?hr rfl (litrep (ro HO431.out)) (fun _ _ _ h1_ h2_ => h1_.trans h2_.symm) (fun _ _ _ => trivial) trivial (show Below w.heap.size w _ from bw) (below_size bw) (by simp) ?_; (case hd => rfl); (case hg => rfl); (case hr => first | (go_simp; done) | (go_simp; rfl)); intro v433 w8 ho9 hb hg_ hnew_; clear hg_ hnew_; (first | rw [← Ny432.out] at ho9 | (simp only [Int.reduceToNat] at ho9; rw [← Ny432.out] at ho9)); have HO434 := am (ho9); replace HB := am (hb); clear HO431 hb ho9))
   go_ret
   exact ⟨_, re, by (with_reducible repeat (first | apply Kd.S_alloc | apply Kd.S_drewN | apply Kd.S_drew)); exact HO434.out, bw⟩
  rw [if_neg c4] at H
  have c4b0 : (a1 == 0) = false := beq_eq_false_iff_ne.mpr c4
  have c4b1 : (a1 != 0) = true := bne_iff_ne.mpr c4
  obtain rfl := Option.some.inj H
  go_enter Tryd.func27, Tryd.ntmps27
  go_wp2
  go_ret
  exact ⟨_, re, by first | exact Kd.S_nil _ _ _ _ _ | exact Kd.N_nil _ _ _ _ _ | exact Kd.V_nil _ _ _ _ _ | exact Kd.Q_nil _ _ _ _ _ | exact Kd.R_nil _ _ _ _ _, bw⟩
 rw [if_neg c3] at H
 have c3b0 : ((l0.length : Int) == 0) = false := beq_eq_false_iff_ne.mpr c3
 have c3b1 : ((l0.length : Int) != 0) = true := bne_iff_ne.mpr c3
 have c3b2 : ¬ (l0 = []) := fun h_ => c3 (by rw [h_]; rfl)
 obtain ⟨y435, hy435⟩ : ∃ y_ : List (List Int), y_ = (([] : List (List Int))) := ⟨_, rfl⟩
 replace H : (if 0 < (l0.length : Int) then (if (rd l0 0) = 0 then (none) else (impl_factored.l0 k l0 a1 y435 (wrap64 (Int.tdiv a1 (rd l0 0))))) else (none)) = some r := by first | (rw [hy435]; with_reducible first | exact H | exact bs H) | (with_reducible first | exact bs H | exact H) | (rw [hy435]; exact H) | exact H
 have Ny435 := am hy435
 clear hy435
 replace H := gp H; obtain ⟨c10, H⟩ := H
 have c10b0 : decide (0 < (l0.length : Int)) = true := decide_eq_true c10
 have c10b1 : decide (0 < l0.length) = true := decide_eq_true (by omega)
 clear c10
 by_cases c11 : (rd l0 0) = 0
 ·rw [if_pos c11] at H
  exact absurd H (by simp)
 rw [if_neg c11] at H
 have c11b0 : ((rd l0 0) == 0) = false := beq_eq_false_iff_ne.mpr c11
 have c11b1 : ((rd l0 0) != 0) = true := bne_iff_ne.mpr c11
 have H' := am H
 clear H
 go_enter Tryd.func27, Tryd.ntmps27
 go_wp2_with (first | ((with_reducible refine gate_dst (N := 16) rfl ?_); refine Kd.S_lit (Kd.slice 3 (Kd.int .i64)) _ 24 ?hg (N := 16) ?hd (xs := ([] : List (List Int))) (inner := []) (ok := fun _ => True) (okp := fun _ => True) ?hr ?hp (fun _ hk => hk) trivial (Below.refl _ _) (Nat.le_refl _) (by simp) ?_; (case hd => rfl); (case hg => rfl); (case hr => first | (go_simp; done) | (go_simp; rfl)); (case hp => exact (Reps.none _ _)); intro v436 w12 ho13 hb hg_ hnew_; clear hg_ hnew_; (first | rw [← Ny435.out] at ho13 | (simp only [Int.reduceToNat] at ho13; rw [← Ny435.out] at ho13)); have HO437 := am (Kd.S_lower ho13 (below_size bw)); replace HB := am (below_step bw hb); clear hb ho13; have p438 : 0 ≤ (0 : Int) := (by omega); have q438 : 0 < (l0.length : Int) := of_decide_eq_true (by first | (with_reducible assumption) | assumption); obtain ⟨ad438, e438, hx438_0⟩ := Kd.at_int HR0.out 0 p438 q438; cases e438; have qi438 : (0 < l0.length) = True := eq_true (by omega); (try rw [show ((0 : Int)).toNat = 0 from rfl] at hx438_0); (try rw [Addr.add_zero'] at hx438_0); replace hx438_0 := hw HB hx438_0; replace p438 := eq_true p438; replace q438 := eq_true q438))
 go_loopg [5, 6] k (fun kq v5 v6 w' => ∃ (x5_1 : List (List Int)) (x6_1 : Int), v6 = .int .i64 x6_1 ∧ Aside0 (impl_factored.l0 kq l0 a1 x5_1 x6_1 = some r) ∧ Aside0 (kq ≤ k) ∧ Aside0 (Kd.S (Kd.slice 3 (Kd.int .i64)) 24 w' w.heap.size (fun _ => True) v5 x5_1) ∧ Aside0 (Below w.heap.size w w'))
 case atStart => exact ⟨(y435), (wrap64 (Int.tdiv a1 (rd l0 0))), rr, H', ⟨Nat.le_refl _⟩, ⟨so HO437.out⟩, ⟨bw⟩⟩
 case round =>
  clear H'
  try clear c3; try clear c3b0; try clear c3b1; try clear c3b2; try clear c4; try clear c4b0; try clear c4b1; try clear c10; try clear c10b0; try clear c10b1; try clear c11; try clear c11b0; try clear c11b1; try clear hx438_0; try clear p438; try clear q438
  obtain ⟨x5_1, x6_1, rfl, HA, HK1, HO_5, HB⟩ := hrel
  cases gk with
  | zero => exact absurd HA.out (by simp [impl_factored.l0])
  | succ k1 =>
   have H := HA.out
   clear HA
   simp only [impl_factored.l0] at H
   replace H := gj H; obtain ⟨c14, H⟩ | ⟨c14, H⟩ := H
   ·have c14b0 : decide (0 ≤ x6_1) = true := decide_eq_true c14
    clear c14
    replace H := gp H; obtain ⟨c15, H⟩ := H
    have c15b0 := eq_true c15
    have c15b1 : decide (1 ≤ (l0.length : Int)) = true := decide_eq_true c15
    clear c15
    replace H := gp H; obtain ⟨c16, H⟩ := H
    have c16b0 : decide (0 < (l0.length : Int)) = true := decide_eq_true c16
    have c16b1 : decide (0 < l0.length) = true := decide_eq_true (by omega)
    clear c16
    replace H := ga H; obtain ⟨t441, A17, H⟩ := H
    have H' := am H
    clear H
    try go_wp2
    replace HO_5 := am (Kd.S_drew HO_5.out)
    replace HB := am (below_drew1 HB.out)
    obtain ⟨i019, hi019, _, hsz19, _⟩ := info_parts info3
    obtain ⟨A19, hcut19, hA19, hC19⟩ := print_drop_of (P := Tryd.prog) (Value.int .i64) 0 24 3 .i64 Tryd.underlying24 hi019 hsz19 (some ad438) c0 l0 1 (by omega) (of_decide_eq_true (by first | (with_reducible assumption) | assumption)) HC0.out
    have HR439 := am (Kd.C_of_reads (h1 := fun _ => rfl) (hA19 _ (Kd.reads_of_C HR0.out)))
    have HC439 := am hC19
    clear hA19 hC19 hi019 hsz19
    have p440 : 0 ≤ (0 : Int) := (by omega)
    have q440 : 0 < (l0.length : Int) := of_decide_eq_true (by first | (with_reducible assumption) | assumption)
    obtain ⟨ad440, e440, hx440_0⟩ := Kd.at_int HR0.out 0 p440 q440
    have hw440_0 := hx440_0
    (try rw [show ((0 : Int)).toNat = 0 from rfl] at hw440_0)
    (try rw [show 0 * 1 = 0 from rfl] at hw440_0)
    (try rw [Addr.add_zero'] at hw440_0)
    obtain rfl : ad438 = ad440 := (by injection e440)
    have qi440 : (0 < l0.length) = True := eq_true (by omega)
    (try rw [show ((0 : Int)).toNat = 0 from rfl] at hx440_0)
    (try rw [Addr.add_zero'] at hx440_0)
    replace hx440_0 := hw HB hx440_0
    replace p440 := eq_true p440
    replace q440 := eq_true q440
    refine start_ (n := 12) (S := fun w' => w'.cell? ad438 = some (.int .i64 (rd l0 0))) (ds := []) (yz 12 0) (by kernel_rfl) rfl rfl (((HB.out.cell (World.block_lt_of_cell? w _ hw440_0)).trans hw440_0)) (fun hHeld => ?_); refine with_tabW impl_factored.tab9 impl_factored.bits9 (fun HT_ HW_ => ?_)
    generalize wr.drew = w18 at HO_5 HB HR439 hx440_0 hHeld ⊢
    refine pa 0 (some 26) (yz 12 1) HT_ ?_
    refine pa 1 (some 27) (yz 12 3) HT_ ?_
    refine pa 2 (some 28) (yz 12 7) HT_ ?_
    refine pa 3 (some 29) (yz 12 15) HT_ ?_
    refine pa 4 (some 30) (yz 12 31) HT_ ?_
    refine pa 5 (some 31) (yz 12 63) HT_ ?_
    refine pa 11 (some 37) (yz 12 2111) HT_ ?_
    refine tK 6 (some 32) (yz 12 2175) HT_ HW_ hHeld ?_
    refine pa 7 (some 33) (yz 12 2303) HT_ ?_
    refine pa 8 (some 34) (yz 12 2559) HT_ ?_
    refine oa 9 (some 35) (yz 12 3071) HT_ (fun K hK => ?_)
    refine goes_ Tryd.func27 (by kernel_rfl) rfl #[.slice A19 (l0.drop 1).length (c0 - 1), .int .i64 (wrap64 (a1 - (wrap64 (x6_1 * (rd l0 0)))))] (by rfl) rfl rfl (by (try simp only [List.map_toArray, List.map_cons, List.map_nil]); first | done | (rw [show (l0.drop 1).length = (l0.length - 1) from List.length_drop] <;> rfl) | rfl | (simp only [List.length_drop, List.length_take]; rfl)) ?_
    with_reducible refine (ih k1 (by have := HK1.out; omega) _ _ (l0.drop 1) (wrap64 (a1 - (wrap64 (x6_1 * (rd l0 0))))) t441 _ ?side1 ?side2 A17.out).mono ?_
    (case side1 => exact co (Kd.C_below HR439.out HB.out))
    (case side2 => exact HC439.out)
    rintro e w20 ⟨v442, rfl, ho0, hb⟩
    refine ⟨_, rfl, ?_⟩
    have HO443 := am (Kd.S_lower (Kd.S_new' ho0 (Kd.S_lt (so HO_5.out))) (below_size bw))
    replace HO_5 := am (Kd.S_elder' (so HO_5.out) (Kd.S_base ho0) hb)
    replace HB := am (below_step bw hb)
    clear hb ho0
    obtain ⟨Ao21, co21, eo21⟩ := Kd.S_slice HO443.out
    (first | subst eo21 | (injection eo21 with f1_ f2_ f3_; have f4_ := f1_.symm; have f5_ := f3_.symm; clear f1_ f2_ f3_; subst f4_; subst f5_))
    refine hK.out _ _ (((HB.out.cell (World.block_lt_of_cell? w _ hw440_0)).trans hw440_0)) (fun hHeld => ?_)
    clear hK K
    refine nm (some 35) ?_
    refine pa 10 (some 36) (yz 12 4095) HT_ ?_
    refine done_ (done_of HT_.out (by kernel_rfl)) ?_
    try go_wp2
    go_loopg [5, 37] k1 (fun kq v5 v37 w' => ∃ (x5_2 : List (List Int)) (x37_2 : Int), v37 = .int .i64 x37_2 ∧ Aside0 (impl_factored.l1 kq l0 a1 x5_2 x6_1 t441 (t441.length : Int) x37_2 = some r) ∧ Aside0 (kq ≤ k1) ∧ Aside0 (Kd.S (Kd.slice 3 (Kd.int .i64)) 24 w' w.heap.size (fun k_ => nb k_ Ao21 t441 co21) v5 x5_2) ∧ Aside0 (Kd.S (Kd.slice 3 (Kd.int .i64)) 24 w' w.heap.size (fun k_ => some k_ ≠ (v5 : Value).ownBlock) (.slice Ao21 t441.length co21) t441) ∧ Aside0 (Below w.heap.size w w'))
    case atStart => exact ⟨(x5_1), (0), rr, H', ⟨Nat.le_refl _⟩, ⟨by (with_reducible repeat (first | apply Kd.S_alloc | apply Kd.S_drewN | apply Kd.S_drew)); exact Kd.S_mono HO_5.out (fun _ hk => hk.2)⟩, ⟨by (with_reducible repeat (first | apply Kd.S_alloc | apply Kd.S_drewN | apply Kd.S_drew)); exact Kd.S_mono HO443.out (fun _ hk => hk.2)⟩, ⟨bw⟩⟩
    case round =>
     clear H'
     try clear c3; try clear c3b0; try clear c3b1; try clear c3b2; try clear c4; try clear c4b0; try clear c4b1; try clear c10; try clear c10b0; try clear c10b1; try clear c11; try clear c11b0; try clear c11b1; try clear c14; try clear c14b0; try clear c15; try clear c15b0; try clear c15b1; try clear c16; try clear c16b0; try clear c16b1; try clear hx438_0; try clear hx440_0; try clear p438; try clear p440; try clear q438; try clear q440
     obtain ⟨x5_2, x37_2, rfl, HA, HK2, HO_5, HO_35, HB⟩ := hrel
     cases gk with
     | zero => exact absurd HA.out (by simp [impl_factored.l1])
     | succ k2 =>
      have H := HA.out
      clear HA
      simp only [impl_factored.l1] at H
      replace H := gi H; obtain ⟨c22b0, H⟩ | ⟨c22b0, H⟩ := H
      ·replace H := gd H; obtain ⟨c23b0, H⟩ := H
       replace H := gd H; obtain ⟨c24b0, H⟩ := H
       obtain ⟨y445, hy445⟩ : ∃ y_ : List Int, y_ = (([x6_1] : List Int)) := ⟨_, rfl⟩
       replace H : (if y445.length + (rd_L2 t441 x37_2).length < 17592186044416 then (if x5_2.length < 5864062014805 then (impl_factored.l1 k2 l0 a1 (x5_2 ++ [(y445 ++ (rd_L2 t441 x37_2))]) x6_1 t441 (t441.length : Int) (wrap64 (x37_2 + 1))) else (none)) else (none)) = some r := by first | (rw [hy445]; with_reducible first | exact H | exact bs H) | (with_reducible first | exact bs H | exact H) | (rw [hy445]; exact H) | exact H
       have Ny445 := am hy445
       clear hy445
       by_cases c25 : y445.length + (rd_L2 t441 x37_2).length < 17592186044416
       rotate_left
       ·rw [if_neg c25] at H
        exact absurd H (by simp)
       rw [if_pos c25] at H
       have LMc25 := am c25
       clear c25
       obtain ⟨y448, hy448⟩ : ∃ y_ : List Int, y_ = (y445 ++ (rd_L2 t441 x37_2)) := ⟨_, rfl⟩
       replace H : (if x5_2.length < 5864062014805 then (impl_factored.l1 k2 l0 a1 (x5_2 ++ [y448]) x6_1 t441 (t441.length : Int) (wrap64 (x37_2 + 1))) else (none)) = some r := by first | (rw [hy448]; with_reducible first | exact H | exact bs H) | (with_reducible first | exact bs H | exact H) | (rw [hy448]; exact H) | exact H
       have Ny448 := am hy448
       clear hy448
       by_cases c26 : x5_2.length < 5864062014805
       rotate_left
       ·rw [if_neg c26] at H
        exact absurd H (by simp)
       rw [if_pos c26] at H
       have LMc26 := am c26
       clear c26
       obtain ⟨y451, hy451⟩ : ∃ y_ : List (List Int), y_ = (x5_2 ++ [y448]) := ⟨_, rfl⟩
       replace H : (impl_factored.l1 k2 l0 a1 y451 x6_1 t441 (t441.length : Int) (wrap64 (x37_2 + 1))) = some r := by first | (rw [hy451]; with_reducible first | exact H | exact bs H) | (with_reducible first | exact bs H | exact H) | (rw [hy451]; exact H) | exact H
       have Ny451 := am hy451
       clear hy451
       have H' := am H
       clear H
       have p444 : 0 ≤ (x37_2 : Int) := of_decide_eq_true (by first | (with_reducible assumption) | assumption)
       have q444 : x37_2 < (t441.length : Int) := of_decide_eq_true (by first | (with_reducible assumption) | assumption)
       obtain ⟨ad444, A444_0, c444_0, e444, hx444_0, hl444_0, hi444_0⟩ := at_L2 (Kd.S_reads' HO_35.out).2.2 x37_2 p444 q444
       cases e444
       obtain ⟨ce444, hce444, hMe444, hcc444⟩ := Kd.S_get HO_35.out [] x37_2 p444 (by first | exact q444 | exact of_decide_eq_true (by first | (with_reducible assumption) | assumption) | (have e_ := (Kd.S_reads' HO_35.out).1; omega))
       obtain ⟨ve444_0, rfl, ge444_0⟩ := hMe444
       have hv444_0 := hcc444 0 _ rfl
       rw [Nat.add_zero, show ((Kd.slice 3 (Kd.int .i64))).sz = 1 from rfl, Nat.mul_one] at hv444_0
       replace hv444_0 := Option.some.inj (hv444_0.symm.trans hx444_0)
       rw [hv444_0] at ge444_0
       have HL444_0 := am (show Kd.R (Kd.int .i64) 3 _ _ _ _ (rd_L2 t441 x37_2) from ge444_0)
       clear hv444_0 ge444_0
       clear hcc444 hce444
       have HR444_0 := am hi444_0
       have HC444_0 := am hl444_0
       clear hi444_0 hl444_0
       replace p444 := eq_true p444
       replace q444 := eq_true q444
       go_wp2_with (first | ((with_reducible refine gate_dst (N := 43) rfl ?_); refine Kd.R_lit (Kd.int .i64) _ 3 ?hg (N := 43) ?hd (xs := ([x6_1] : List Int)) (inner := [.int .i64 x6_1]) (ok := fun _ => True) (okp := fun _ => True) ?hr ?hp (fun _ hk => hk) trivial (Below.refl _ _) (Nat.le_refl _) (by simp) ?_; (case hd => rfl); (case hg => rfl); (case hr => first | (go_simp; done) | (go_simp; rfl)); (case hp => exact (Reps.one (show Kd.M (Kd.int .i64) _ _ _ x6_1 [.int .i64 x6_1] from rfl) (Reps.none _ _))); intro v446 w27 ho28 hb hg_ hnew_; clear hg_ hnew_; (first | rw [← Ny445.out] at ho28 | (simp only [Int.reduceToNat] at ho28; rw [← Ny445.out] at ho28)); replace HO_5 := am (Kd.S_elder' (so HO_5.out) (Kd.R_base ho28) hb); replace HO_35 := am (Kd.S_elder' (so HO_35.out) (Kd.R_base ho28) hb); have HO447 := am (Kd.R_lower (Kd.R_new' ho28 (Kd.R_lt (ro HL444_0.out))) (below_size bw)); replace HL444_0 := am (Kd.R_elder' (ro HL444_0.out) (Kd.R_base ho28) hb); replace HR444_0 := am (Kd.C_below (co HR444_0.out) hb); replace HB := am (below_step bw hb); clear hb ho28) | ((with_reducible refine gate_builtin (b := .append) (xs := #[.tmp 43, .tmp 44]) rfl ?_); at_builtin; refine Kd.R_append_rows (Kd.int .i64) (w0 := w) w.heap.size rfl (.tmp 43) (.tmp 44) 24 3 (.int .i64 0) 8 rfl Tryd.underlying24 info3 rfl (by decide) (by omega) v446 y445 (rd_L2 t441 x37_2) _ _ _ (fun k_ => some k_ ≠ (.slice A444_0 (rd_L2 t441 x37_2).length c444_0 : Value).ownBlock) (fun _ => False) rfl rfl ?aO ?aR (fun _ _ h => h) (fun _ h => h.elim) ?aF ?aB ?aS ?aL ?_; (case aR => exact co HR444_0.out); (case aB => exact bw); (case aF => exact (fun k_ hk => Kd.fresh' (Kd.R_lt (ro HL444_0.out)) k_ hk)); (case aO => exact (by (with_reducible repeat (first | apply Kd.R_alloc | apply Kd.R_drewN | apply Kd.R_drew)); exact Kd.R_mono HO447.out (fun _ hk => hk.2))); (case aS => exact (below_size bw)); (case aL => have := LMc25.out; omega); intro v449 w29 ho hb hg hat; rw [← Ny448.out] at ho; replace HO_5 := am (Kd.S_after (ok := (fun k_ => some k_ ≠ (.slice (some ad444) t441.length co21 : Value).ownBlock)) (so HO_5.out) hg hat); replace HO_35 := am (Kd.S_after (ok := (fun k_ => some k_ ≠ (u5 : Value).ownBlock)) (so HO_35.out) hg hat); replace HL444_0 := am (Kd.R_after (ok := (fun k_ => some k_ ≠ (u5 : Value).ownBlock ∧ some k_ ≠ (.slice (some ad444) t441.length co21 : Value).ownBlock)) (ro HL444_0.out) hg hat); replace HB := am (hb); have HO450 := am (ho); clear HO447 ho hb hg hat; obtain ⟨Ao31, co31, eo31⟩ := Kd.R_slice HO450.out; subst eo31) | ((with_reducible refine gate_builtin (b := .append) (xs := #[.tmp 41, .tmp 46]) rfl ?_); at_builtin; refine Kd.S_append (Kd.slice 3 (Kd.int .i64)) (w0 := w) w.heap.size rfl (.tmp 41) (.tmp 46) 29 24 (.slice none 0 0) 24 rfl Tryd.underlying29 info24 rfl (by decide) (by omega) u5 x5_2 y448 [.slice Ao31 y448.length co31] (fun k_ => some k_ ≠ (.slice (some ad444) t441.length co21 : Value).ownBlock) (fun k_ => some k_ = (.slice Ao31 y448.length co31 : Value).ownBlock) rfl rfl ?aP (fun k_ hk_ => ((Kd.R_mono (ok' := fun k_ => ((fun k_ => some k_ ≠ (.slice (some ad444) t441.length co21 : Value).ownBlock)) k_ ∧ some k_ ≠ (u5 : Value).ownBlock) (Kd.R_apart' (Kd.R_apart' (HO450.out) (Kd.S_typed HO_35.out) (by decide)) (Kd.S_typed HO_5.out) (by decide)) (fun k_ hk => ⟨hk.1.2, hk.2⟩))).1 k_ hk_.symm) ?aF ?aO ?aB ?aS ?aL ?_; (case aP => exact Kd.M_row (Kd.R_mono (Kd.R_tight rfl (Kd.R_mono (ok' := fun k_ => ((fun k_ => some k_ ≠ (.slice (some ad444) t441.length co21 : Value).ownBlock)) k_ ∧ some k_ ≠ (u5 : Value).ownBlock) (Kd.R_apart' (Kd.R_apart' (HO450.out) (Kd.S_typed HO_35.out) (by decide)) (Kd.S_typed HO_5.out) (by decide)) (fun k_ hk => ⟨hk.1.2, hk.2⟩))) (fun _ h_ => h_))); (case aB => exact bw); (case aF => exact (fun k_ hk => Kd.fresh' (Kd.S_lt (so HO_35.out)) k_ hk)); (case aO => exact (by (with_reducible repeat (first | apply Kd.S_alloc | apply Kd.S_drewN | apply Kd.S_drew)); exact Kd.S_mono HO_5.out (fun k_ hk => ⟨hk.1, fun e_ => hk.2 e_⟩))); (case aS => exact (below_size bw)); (case aL => have := LMc26.out; omega); intro v452 w30 ho hb hg hat; rw [← Ny451.out] at ho; replace HO_35 := am (Kd.S_after (ok := (fun k_ => nb k_ Ao31 y448 co31)) (by (with_reducible repeat (first | apply Kd.S_alloc | apply Kd.S_drewN | apply Kd.S_drew)); exact Kd.S_mono HO_35.out (fun _ hk => by first | exact ⟨hk.2, hk.1⟩ | simp_all)) hg hat); replace HL444_0 := am (Kd.R_after (ok := (fun k_ => some k_ ≠ (.slice (some ad444) t441.length co21 : Value).ownBlock ∧ nb k_ Ao31 y448 co31)) (by (with_reducible repeat (first | apply Kd.R_alloc | apply Kd.R_drewN | apply Kd.R_drew)); exact Kd.R_mono HL444_0.out (fun _ hk => ⟨⟨hk.1.2, hk.2⟩, hk.1.1⟩)) hg hat); replace HB := am (hb); have HO453 := am (ho); clear HO_5 HO450 ho hb hg hat))
       go_roundg k2
       case measure => have := HK1.out; have := HK2.out; omega
       case rel => exact ⟨(y451), (wrap64 (x37_2 + 1)), rr, H', ⟨by have := HK1.out; have := HK2.out; omega⟩, ⟨so HO453.out⟩, ⟨by (with_reducible repeat (first | apply Kd.S_alloc | apply Kd.S_drewN | apply Kd.S_drew)); exact Kd.S_mono HO_35.out (fun _ hk => hk.2)⟩, ⟨bw⟩⟩
      have H' := am H
      clear H
      go_wp2
      go_roundg k2
      case measure => have := HK1.out; have := HK2.out; omega
      case rel => exact ⟨(x5_2), (wrap64 (x6_1 - 1)), rr, H', ⟨by have := HK1.out; have := HK2.out; omega⟩, ⟨by (with_reducible repeat (first | apply Kd.S_alloc | apply Kd.S_drewN | apply Kd.S_drew)); exact Kd.S_mono HO_5.out (fun _ hk => trivial)⟩, ⟨bw⟩⟩
   have c14b0 : decide (0 ≤ x6_1) = false := decide_eq_false c14
   clear c14
   obtain rfl := Option.some.inj H
   go_wp2
   go_ret
   exact ⟨_, re, by (with_reducible repeat (first | apply Kd.S_alloc | apply Kd.S_drewN | apply Kd.S_drew)); exact HO_5.out, bw⟩


/-! ### impl_Factorizations: function 6 -/
def impl_Factorizations.f (k : Nat) (l0_0 : List Int) (a1 : Int) : Option ((List (List Int))) := (impl_IsSemigroup.f k l0_0).bind fun t455 => (if t455 = true then ((impl_within.f a1 0 100).bind fun t456 => (if t456 = true then ((impl_factored.f k l0_0 a1).bind fun t457 => (some t457)) else (some ([] : List (List Int))))) else (some ([] : List (List Int))))
set_option maxHeartbeats 8000000 in
set_option maxRecDepth 100000 in
theorem impl_Factorizations.calls (k : Nat) (A0_0 : Option Addr) (c0_0 : Nat) (l0_0 : List Int) (a1 : Int) (r : List (List Int)) (w : World) (hr0_0 : Kd.C (Kd.int .i64) w A0_0 l0_0.length l0_0) (hc0_0 : l0_0.length ≤ c0_0) (h : impl_Factorizations.f k l0_0 a1 = some r) :
  Calls Tryd.prog 6 #[.agg #[.slice A0_0 l0_0.length c0_0], .int .i64 a1] w fun e w' => ∃ v0_ : Value, e = .returned (v0_) ∧ Kd.S (Kd.slice 3 (Kd.int .i64)) 24 w' w.heap.size (fun _ => True) v0_ r ∧ Below w.heap.size w w' := by
 have hu26 := Tryd.underlying26
 have HR0_0 := am hr0_0
 have HC0_0 := am hc0_0
 clear hr0_0 hc0_0
 have HB := am (Below.refl w.heap.size w)
 have H : ((impl_IsSemigroup.f k l0_0).bind fun t455 => (if t455 = true then ((impl_within.f a1 0 100).bind fun t456 => (if t456 = true then ((impl_factored.f k l0_0 a1).bind fun t457 => (some t457)) else (some ([] : List (List Int))))) else (some ([] : List (List Int))))) = some r := h
 clear h
 replace H := ga H; obtain ⟨t455, A3, H⟩ := H
 replace H := gb H; obtain ⟨rfl, H⟩ | ⟨rfl, H⟩ := H
 ·replace H := ga H; obtain ⟨t456, A5, H⟩ := H
  replace H := gb H; obtain ⟨rfl, H⟩ | ⟨rfl, H⟩ := H
  ·replace H := ga H; obtain ⟨t457, A7, H⟩ := H
   obtain rfl := Option.some.inj H
   go_enter Tryd.func6, Tryd.ntmps6
   go_wp2_with (first | ((with_reducible refine gate_dst (N := 2) rfl ?_); refine bx 2 #[.slice A0_0 l0_0.length c0_0] 26 ?_; intro gb454 hg w8 hbox hb; have BK454 := am (hbox); have GW454 := am (gs hg : w.heap.size ≤ gb454); have GE454 := GW454; replace HB := am (below_step bw hb); clear hb hbox hg; have hcz9_0 := bc BK454 0 (.slice A0_0 l0_0.length c0_0); have hfz9_0 := blk_frozen BK454.out 0) | ((with_reducible refine gate_callee (f := 25) rfl ?_); refine goesL_ (some 6) rfl rfl Tryd.func25 (by kernel_rfl) rfl #[.agg #[.slice A0_0 l0_0.length c0_0]] rfl (by (try simp only [List.map_toArray, List.map_cons, List.map_nil]); first | done | rfl | (simp only [List.length_drop, List.length_take]; rfl)) ?_; (with_reducible refine (impl_IsSemigroup.calls k _ _ l0_0 true _ ?side1 ?side2 A3.out).mono ?_); (case side1 => exact co (Kd.C_below HR0_0.out HB.out)); (case side2 => exact HC0_0.out); rintro e w10 ⟨rfl, hb⟩; refine ⟨_, rfl, ?_⟩; replace BK454 := kb BK454 hb; replace HB := am (below_step bw hb); clear hb) | (go_at_call 26; (with_reducible refine (impl_within.calls a1 0 100 true _ A5.out).mono ?_); rintro e w' ⟨rfl, ⟨nd, rfl⟩⟩; have hcz11_0 := bc BK454 0 (.slice A0_0 l0_0.length c0_0); have hfz11_0 := blk_frozen BK454.out 0) | ((with_reducible refine gate_callee (f := 27) rfl ?_); refine goesL_ (some 16) rfl rfl Tryd.func27 (by kernel_rfl) rfl #[.slice A0_0 l0_0.length c0_0, .int .i64 a1] rfl (by (try simp only [List.map_toArray, List.map_cons, List.map_nil]); first | done | rfl | (simp only [List.length_drop, List.length_take]; rfl)) ?_; (with_reducible refine (impl_factored.calls k _ _ l0_0 a1 t457 _ ?side1 ?side2 A7.out).mono ?_); (case side1 => exact co (Kd.C_below HR0_0.out bw)); (case side2 => exact HC0_0.out); rintro e w12 ⟨v458, rfl, ho0, hb⟩; refine ⟨_, rfl, ?_⟩; have HO459 := am (Kd.S_lower ho0 (below_size bw)); replace BK454 := kb BK454 hb; replace HB := am (below_step bw hb); clear hb ho0))
   go_ret
   exact ⟨_, re, by (with_reducible repeat (first | apply Kd.S_alloc | apply Kd.S_drewN | apply Kd.S_drew)); exact HO459.out, bw⟩
  obtain rfl := Option.some.inj H
  go_enter Tryd.func6, Tryd.ntmps6
  go_wp2_with (first | ((with_reducible refine gate_dst (N := 2) rfl ?_); refine bx 2 #[.slice A0_0 l0_0.length c0_0] 26 ?_; intro gb454 hg w13 hbox hb; have BK454 := am (hbox); have GW454 := am (gs hg : w.heap.size ≤ gb454); have GE454 := GW454; replace HB := am (below_step bw hb); clear hb hbox hg; have hcz14_0 := bc BK454 0 (.slice A0_0 l0_0.length c0_0); have hfz14_0 := blk_frozen BK454.out 0) | ((with_reducible refine gate_callee (f := 25) rfl ?_); refine goesL_ (some 6) rfl rfl Tryd.func25 (by kernel_rfl) rfl #[.agg #[.slice A0_0 l0_0.length c0_0]] rfl (by (try simp only [List.map_toArray, List.map_cons, List.map_nil]); first | done | rfl | (simp only [List.length_drop, List.length_take]; rfl)) ?_; (with_reducible refine (impl_IsSemigroup.calls k _ _ l0_0 true _ ?side1 ?side2 A3.out).mono ?_); (case side1 => exact co (Kd.C_below HR0_0.out HB.out)); (case side2 => exact HC0_0.out); rintro e w15 ⟨rfl, hb⟩; refine ⟨_, rfl, ?_⟩; replace BK454 := kb BK454 hb; replace HB := am (below_step bw hb); clear hb) | (go_at_call 26; (with_reducible refine (impl_within.calls a1 0 100 false _ A5.out).mono ?_); rintro e w' ⟨rfl, ⟨nd, rfl⟩⟩))
  go_ret
  exact ⟨_, re, by first | exact Kd.S_nil _ _ _ _ _ | exact Kd.N_nil _ _ _ _ _ | exact Kd.V_nil _ _ _ _ _ | exact Kd.Q_nil _ _ _ _ _ | exact Kd.R_nil _ _ _ _ _, bw⟩
 obtain rfl := Option.some.inj H
 go_enter Tryd.func6, Tryd.ntmps6
 go_wp2_with (first | ((with_reducible refine gate_dst (N := 2) rfl ?_); refine bx 2 #[.slice A0_0 l0_0.length c0_0] 26 ?_; intro gb454 hg w16 hbox hb; have BK454 := am (hbox); have GW454 := am (gs hg : w.heap.size ≤ gb454); have GE454 := GW454; replace HB := am (below_step bw hb); clear hb hbox hg; have hcz17_0 := bc BK454 0 (.slice A0_0 l0_0.length c0_0); have hfz17_0 := blk_frozen BK454.out 0) | ((with_reducible refine gate_callee (f := 25) rfl ?_); refine goesL_ (some 6) rfl rfl Tryd.func25 (by kernel_rfl) rfl #[.agg #[.slice A0_0 l0_0.length c0_0]] rfl (by (try simp only [List.map_toArray, List.map_cons, List.map_nil]); first | done | rfl | (simp only [List.length_drop, List.length_take]; rfl)) ?_; (with_reducible refine (impl_IsSemigroup.calls k _ _ l0_0 false _ ?side1 ?side2 A3.out).mono ?_); (case side1 => exact co (Kd.C_below HR0_0.out HB.out)); (case side2 => exact HC0_0.out); rintro e w18 ⟨rfl, hb⟩; refine ⟨_, rfl, ?_⟩; replace BK454 := kb BK454 hb; replace HB := am (below_step bw hb); clear hb))
 go_ret
 exact ⟨_, re, by first | exact Kd.S_nil _ _ _ _ _ | exact Kd.N_nil _ _ _ _ _ | exact Kd.V_nil _ _ _ _ _ | exact Kd.Q_nil _ _ _ _ _ | exact Kd.R_nil _ _ _ _ _, bw⟩


/-! ### spec_DrawCountFactorizations: function 7 -/
def spec_DrawCountFactorizations.f (k : Nat) (l0 : List Int) : Option (List Int × Int) := (spec_l1New.f k l0).bind fun bt461 => ((spec_l3Bent.f k bt461.1 bt461.2.1 bt461.2.2).bind fun bt465 => ((spec_l1Below.f bt461.1 bt465.2.1 bt465.2.2 100).bind fun bt471 => ((spec_l1Below.f bt461.1 bt471.2.1 bt471.2.2 400).bind fun bt474 => ((spec_l1PickInt.f bt461.1 bt474.2.1 bt474.2.2 (([bt471.1, 1000, 1001, (-1), bt474.1] : List Int))).bind fun bt480 => (some (bt465.1, bt480.1))))))
def spec_DrawCountFactorizations.T3 : Bool × List (List Nat × List Nat) := (true, [([], []), ([], []), ([], []), ([2], [2]), ([], []), ([4, 3], [4]), ([3, 5], [3, 5]), ([1, 6, 5], [1, 6]), ([0, 7, 0], [0]), ([7, 8, 0, 1, 2, 3, 4, 5, 6, 7, 8], [7])])
def spec_DrawCountFactorizations.B3 : List Nat := [0, 0, 0, 4, 0, 28, 60, 126, 255, 511]
theorem spec_DrawCountFactorizations.tab3 : rtab .any (opsOf Tryd.f7 3) = spec_DrawCountFactorizations.T3 := by kernel_rfl
theorem spec_DrawCountFactorizations.bits3 : waitsOk spec_DrawCountFactorizations.T3.2 spec_DrawCountFactorizations.B3 = true := by kernel_rfl
set_option maxHeartbeats 8000000 in
set_option maxRecDepth 100000 in
theorem spec_DrawCountFactorizations.calls (k : Nat) (A0 : Option Addr) (c0 : Nat) (l0 : List Int) (r1 : List Int) (r2 : Int) (w : World) (hr0 : Kd.C (Kd.int .u8) w A0 l0.length l0) (hc0 : l0.length ≤ c0) (h : spec_DrawCountFactorizations.f k l0 = some (r1, r2)) :
  Calls Tryd.prog 7 #[.slice A0 l0.length c0] w fun e w' => ∃ v0_ : Value, e = .returned (.tuple #[.agg #[v0_], .int .i64 r2]) ∧ Kd.Q (Kd.int .i64) 3 w' w.heap.size (fun _ => True) v0_ r1 ∧ Below w.heap.size w w' := by
 have hu26 := Tryd.underlying26
 have HR0 := am hr0
 have HC0 := am hc0
 clear hr0 hc0
 have HB := am (Below.refl w.heap.size w)
 have H : ((spec_l1New.f k l0).bind fun bt461 => ((spec_l3Bent.f k bt461.1 bt461.2.1 bt461.2.2).bind fun bt465 => ((spec_l1Below.f bt461.1 bt465.2.1 bt465.2.2 100).bind fun bt471 => ((spec_l1Below.f bt461.1 bt471.2.1 bt471.2.2 400).bind fun bt474 => ((spec_l1PickInt.f bt461.1 bt474.2.1 bt474.2.2 (([bt471.1, 1000, 1001, (-1), bt474.1] : List Int))).bind fun bt480 => (some (bt465.1, bt480.1))))))) = some (r1, r2) := h
 clear h
 replace H := ga H; obtain ⟨⟨t461, t462, t463⟩, A2, H⟩ := H
 replace H : ((spec_l3Bent.f k t461 t462 t463).bind fun bt465 => ((spec_l1Below.f t461 bt465.2.1 bt465.2.2 100).bind fun bt471 => ((spec_l1Below.f t461 bt471.2.1 bt471.2.2 400).bind fun bt474 => ((spec_l1PickInt.f t461 bt474.2.1 bt474.2.2 (([bt471.1, 1000, 1001, (-1), bt474.1] : List Int))).bind fun bt480 => (some (bt465.1, bt480.1)))))) = some (r1, r2) := H
 replace H := ga H; obtain ⟨⟨t465, t468, t469⟩, A3, H⟩ := H
 replace H : ((spec_l1Below.f t461 t468 t469 100).bind fun bt471 => ((spec_l1Below.f t461 bt471.2.1 bt471.2.2 400).bind fun bt474 => ((spec_l1PickInt.f t461 bt474.2.1 bt474.2.2 (([bt471.1, 1000, 1001, (-1), bt474.1] : List Int))).bind fun bt480 => (some (t465, bt480.1))))) = some (r1, r2) := H
 replace H := ga H; obtain ⟨⟨t471, t472, t473⟩, A4, H⟩ := H
 replace H : ((spec_l1Below.f t461 t472 t473 400).bind fun bt474 => ((spec_l1PickInt.f t461 bt474.2.1 bt474.2.2 (([t471, 1000, 1001, (-1), bt474.1] : List Int))).bind fun bt480 => (some (t465, bt480.1)))) = some (r1, r2) := H
 replace H := ga H; obtain ⟨⟨t474, t475, t476⟩, A5, H⟩ := H
 replace H : ((spec_l1PickInt.f t461 t475 t476 (([t471, 1000, 1001, (-1), t474] : List Int))).bind fun bt480 => (some (t465, bt480.1))) = some (r1, r2) := H
 obtain ⟨y477, hy477⟩ : ∃ y_ : List Int, y_ = (([t471, 1000, 1001, (-1), t474] : List Int)) := ⟨_, rfl⟩
 replace H : ((spec_l1PickInt.f t461 t475 t476 y477).bind fun bt480 => (some (t465, bt480.1))) = some (r1, r2) := by first | (rw [hy477]; with_reducible first | exact H | exact bs H) | (with_reducible first | exact bs H | exact H) | (rw [hy477]; exact H) | exact H
 have Ny477 := am hy477
 clear hy477
 replace H := ga H; obtain ⟨⟨t480, t481, t482⟩, A6, H⟩ := H
 replace H : (some (t465, t480)) = some (r1, r2) := H
 simp only [Option.some.injEq, Prod.mk.injEq] at H
 obtain ⟨rfl, rfl⟩ := H
 go_enter Tryd.func7, Tryd.ntmps7
 try go_wp2_with (first | ((with_reducible refine gate_dst (N := 2) rfl ?_); refine bx 2 #[.slice none 0 0] 26 ?_; intro gb460 hg w7 hbox hb; have BK460 := am (hbox); have GW460 := am (gs hg : w.heap.size ≤ gb460); have GE460 := GW460; replace HB := am (below_step bw hb); clear hb hbox hg) | ((with_reducible refine gate_callee (f := 28) rfl ?_); refine goesL_ (some 7) rfl rfl Tryd.func28 (by kernel_rfl) rfl #[.slice A0 l0.length c0] rfl (by (try simp only [List.map_toArray, List.map_cons, List.map_nil]); first | done | rfl | (simp only [List.length_drop, List.length_take]; rfl)) ?_; (with_reducible refine (spec_l1New.calls k _ _ l0 t461 t462 t463 w _ ?side1 ?side2 ?side3 A2.out).mono ?_); (case side1 => exact bw); (case side2 => exact HR0.out); (case side3 => exact HC0.out); rintro e w8 ⟨g464, rfl, hi, hb, hb2⟩; refine ⟨_, rfl, ?_⟩; replace HB := am (hb); have HI464 := am (hi); have NB464_460 := am (IsS63.ne_blk hi (blk_below (g := gb460) (o := .cells #[.slice none 0 0] 26 (0, 0)) (bo BK460.out) hb2) (by decide)); have NB460_464 := ns NB464_460; replace BK460 := kb BK460 hb2; clear hb hb2 hi) | ((with_reducible refine gate_callee (f := 29) rfl ?_); refine goesL_ (some 9) rfl rfl Tryd.func29 (by kernel_rfl) rfl #[.pointer (some ⟨g464, 0, none⟩)] rfl (by (try simp only [List.map_toArray, List.map_cons, List.map_nil]); first | done | rfl | (simp only [List.length_drop, List.length_take]; rfl)) ?_; (with_reducible refine (spec_l3Bent.calls k g464 t461 t462 t463 t465 t468 t469 w _ ?side1 ?side2 A3.out).mono ?_); (case side1 => exact iw HI464.out); (case side2 => exact bv); rintro e w9 ⟨v466, rfl, ho0, hi, hb, hk⟩; refine ⟨_, rfl, ?_⟩; replace BK460 := kk hk BK460 NB460_464; have HO467 := am (Kd.Q_lower ho0 (below_size bv)); replace HB := am (hb); replace HI464 := am (hi); clear hb hk hi ho0) | ((with_reducible refine gate_dst (N := 5) rfl ?_); refine bx 5 #[.slice none 0 0] 26 ?_; intro gb470 hg w10 hbox hb; replace HO467 := qK HO467 hb; have BK470 := am (hbox); have GW470 := am ((by rw [hg]; exact (below_size bv) : w.heap.size ≤ gb470)); have GE470 := GW470; replace HB := am (below_step bv hb); have NB460_470 := nl hg BK460; have NB470_460 := ns NB460_470; replace BK460 := kb BK460 hb; have NB464_470 := am ((by rw [hg]; exact Nat.ne_of_lt (IsS63.lt (show IsS63 w _ g464 t461 t468 t469 from (iw HI464.out))) : g464 ≠ gb470)); have NB470_464 := ns NB464_470; replace HI464 := am (IsS63.below (iw HI464.out) hb); clear hb hbox hg; obtain ⟨Ao11, co11, eo11, _⟩ := Kd.Q_slice HO467.out; subst eo11; have hnb12 := NB470_460.out; have hnc12 := NB460_470.out; have hnb13 := NB470_464.out; have hnc13 := NB464_470.out; have hcz14_0 := bc BK470 0 (.slice none 0 0); have hfz14_0 := blk_frozen BK470.out 0))
 have n0_ : Aside0 (Kd.Q (Kd.int .i64) 3 (w10.setCell ⟨gb470, 0, none⟩ (.slice Ao11 t465.length co11)) w.heap.size (fun _ => True) (.slice Ao11 t465.length co11) t465) := ⟨by (with_reducible repeat (first | apply Kd.Q_alloc | apply Kd.Q_drewN | apply Kd.Q_drew)); exact Kd.Q_mono (Kd.Q_far (p := ⟨gb470, 0, none⟩) (Kd.Q_types HO467.out BK470.out (by decide)) (fun _ hk => hk.2) (.slice Ao11 t465.length co11)) (fun _ hk => trivial)⟩
 have n1_ : Aside0 ((w10.setCell ⟨gb470, 0, none⟩ (.slice Ao11 t465.length co11)).heap[gb460]? = some (.cells #[.slice none 0 0] 26 (0, 0))) := ⟨bf BK460.out⟩
 have n2_ : Aside0 ((w10.setCell ⟨gb470, 0, none⟩ (.slice Ao11 t465.length co11)).heap[gb470]? = some (.cells #[.slice Ao11 t465.length co11] 26 (0, 0))) := ⟨bp BK470.out⟩
 have n3_ : Aside0 (IsS63 w (w10.setCell ⟨gb470, 0, none⟩ (.slice Ao11 t465.length co11)) g464 t461 t468 t469) := ⟨(iw HI464.out)⟩
 have n4_ : Aside0 (Below w.heap.size w (w10.setCell ⟨gb470, 0, none⟩ (.slice Ao11 t465.length co11))) := ⟨bv⟩
 (try clear HO467); (try clear BK460); (try clear BK470); (try clear HI464); (try clear HB)
 generalize (w10.setCell ⟨gb470, 0, none⟩ (.slice Ao11 t465.length co11)) = w15 at n0_ n1_ n2_ n3_ n4_ ⊢
 have HO467 := n0_
 have BK460 := n1_
 have BK470 := n2_
 have HI464 := n3_
 have HB := n4_
 clear n0_ n1_ n2_ n3_ n4_
 replace HO467 := am (Kd.Q_drew HO467.out)
 replace BK460 := bd BK460
 replace BK470 := bd BK470
 replace HI464 := am (IsS63.drew HI464.out)
 replace HB := am (below_drew1 HB.out)
 refine start_ (n := 10) (S := fun w' => w'.cell? ⟨gb470, 0, none⟩ = some (.slice Ao11 t465.length co11)) (ds := []) (yz 10 0) (by kernel_rfl) rfl rfl (bc BK470 0 _) (fun hHeld => ?_); refine with_tabW spec_DrawCountFactorizations.tab3 spec_DrawCountFactorizations.bits3 (fun HT_ HW_ => ?_)
 generalize w15.drew = w16 at HO467 BK460 BK470 HI464 HB hHeld ⊢
 refine pa 1 (some 11) (yz 10 2) HT_ ?_
 refine pa 2 (some 12) (yz 10 6) HT_ ?_
 refine pa 4 (some 14) (yz 10 22) HT_ ?_
 refine tK 0 (some 10) (yz 10 23) HT_ HW_ hHeld ?_
 refine oa 3 (some 13) (yz 10 31) HT_ (fun K hK => ?_)
 refine goes_ Tryd.func31 (by kernel_rfl) rfl #[.pointer (some ⟨g464, 0, none⟩), .int .i64 100] (by rfl) rfl rfl (by (try simp only [List.map_toArray, List.map_cons, List.map_nil]); first | done | rfl | (simp only [List.length_drop, List.length_take]; rfl)) ?_
 with_reducible refine (spec_l1Below.calls g464 t461 t468 t469 100 t471 t472 t473 w _ ?side1 ?side2 A4.out).mono ?_
 (case side1 => exact iw HI464.out)
 (case side2 => exact bv)
 rintro e w17 ⟨rfl, hi, hb, hk⟩
 refine ⟨_, rfl, ?_⟩
 replace BK460 := kk hk BK460 NB460_464
 replace HO467 := am (Kd.Q_mono (Kd.Q_keep (IsS63.apartQ (show IsS63 w _ g464 t461 t468 t469 from (iw HI464.out)) (qo HO467.out) (by decide)) hk (fun _ h => h.2)) (fun _ h => h.1))
 replace BK470 := kk hk BK470 NB470_464
 replace HB := am (hb)
 replace HI464 := am (hi)
 clear hb hk hi
 refine hK.out _ _ (bc BK470 0 _) (fun hHeld => ?_)
 clear hK K
 refine nm (some 13) ?_
 refine oa 5 (some 15) (yz 10 63) HT_ (fun K hK => ?_)
 refine goes_ Tryd.func31 (by kernel_rfl) rfl #[.pointer (some ⟨g464, 0, none⟩), .int .i64 400] (by rfl) rfl rfl (by (try simp only [List.map_toArray, List.map_cons, List.map_nil]); first | done | rfl | (simp only [List.length_drop, List.length_take]; rfl)) ?_
 with_reducible refine (spec_l1Below.calls g464 t461 t472 t473 400 t474 t475 t476 w _ ?side1 ?side2 A5.out).mono ?_
 (case side1 => exact iw HI464.out)
 (case side2 => exact bv)
 rintro e w18 ⟨rfl, hi, hb, hk⟩
 refine ⟨_, rfl, ?_⟩
 replace BK460 := kk hk BK460 NB460_464
 replace HO467 := am (Kd.Q_mono (Kd.Q_keep (IsS63.apartQ (show IsS63 w _ g464 t461 t472 t473 from (iw HI464.out)) (qo HO467.out) (by decide)) hk (fun _ h => h.2)) (fun _ h => h.1))
 replace BK470 := kk hk BK470 NB470_464
 replace HB := am (hb)
 replace HI464 := am (hi)
 clear hb hk hi
 refine hK.out _ _ (bc BK470 0 _) (fun hHeld => ?_)
 clear hK K
 refine nm (some 15) ?_
 refine oa 6 (some 16) (yz 10 127) HT_ (fun K hK => ?_)
 refine Kd.R_lit_step (Kd.int .i64) _ 3 ?hg (N := 16) ?hd (xs := ([t471, 1000, 1001, (-1), t474] : List Int)) (inner := [.int .i64 t471, .int .i64 1000, .int .i64 1001, .int .i64 (-1), .int .i64 t474]) (ok := fun _ => True) (okp := fun _ => True) ?hr ?hp (fun _ hk => hk) trivial (Below.refl _ _) (Nat.le_refl _) (by simp) ?_; (case hd => rfl); (case hg => rfl); (case hr => first | (go_simp; done) | (go_simp; rfl)); (case hp => exact (Reps.one (show Kd.M (Kd.int .i64) _ _ _ t471 [.int .i64 t471] from rfl) (Reps.one (show Kd.M (Kd.int .i64) _ _ _ 1000 [.int .i64 1000] from rfl) (Reps.one (show Kd.M (Kd.int .i64) _ _ _ 1001 [.int .i64 1001] from rfl) (Reps.one (show Kd.M (Kd.int .i64) _ _ _ (-1) [.int .i64 (-1)] from rfl) (Reps.one (show Kd.M (Kd.int .i64) _ _ _ t474 [.int .i64 t474] from rfl) (Reps.none _ _)))))))
 intro v478 w19 ho20 hb hg_ hnew_
 clear hg_ hnew_
 (first | rw [← Ny477.out] at ho20 | (simp only [Int.reduceToNat] at ho20; rw [← Ny477.out] at ho20))
 have HO479 := am (Kd.R_lower (Kd.R_new' ho20 (Kd.Q_lt (qo HO467.out))) (below_size bv))
 replace HO467 := am (Kd.Q_elder' (qo HO467.out) (Kd.R_base ho20) hb)
 replace BK460 := kb BK460 hb
 replace BK470 := kb BK470 hb
 replace HB := am (below_step bv hb)
 replace HI464 := am (IsS63.below (iw HI464.out) hb)
 clear hb ho20
 obtain ⟨Ao21, co21, eo21⟩ := Kd.R_slice HO479.out
 (first | subst eo21 | (injection eo21 with f1_ f2_ f3_; have f4_ := f1_.symm; have f5_ := f3_.symm; clear f1_ f2_ f3_; subst f4_; subst f5_))
 refine hK.out _ _ (bc BK470 0 _) (fun hHeld => ?_)
 clear hK K
 refine nm (some 16) ?_
 refine oa 7 (some 17) (yz 10 255) HT_ (fun K hK => ?_)
 refine goes_ Tryd.func30 (by kernel_rfl) rfl #[.pointer (some ⟨g464, 0, none⟩), .slice Ao21 y477.length co21] (by rfl) rfl rfl (by (try simp only [List.map_toArray, List.map_cons, List.map_nil]); first | done | rfl | (simp only [List.length_drop, List.length_take]; rfl)) ?_
 with_reducible refine (spec_l1PickInt.calls g464 t461 t475 t476 _ _ y477 t480 t481 t482 w _ ?side1 ?side2 ?side3 ?side4 ?side5 A6.out).mono ?_
 (case side1 => exact iw HI464.out)
 (case side2 => exact bv)
 (case side3 => exact co (Kd.R_reads' HO479.out).2.2)
 (case side4 => exact (Kd.R_reads' HO479.out).2.1)
 (case side5 => exact far_slice (IsS63.own_ne HI464.out HO479.out (by decide)))
 rintro e w22 ⟨rfl, hi, hb, hk⟩
 refine ⟨_, rfl, ?_⟩
 replace BK460 := kk hk BK460 NB460_464
 replace HO467 := am (Kd.Q_mono (Kd.Q_keep (IsS63.apartQ (show IsS63 w _ g464 t461 t475 t476 from (iw HI464.out)) (qo HO467.out) (by decide)) hk (fun _ h => h.2)) (fun _ h => h.1))
 replace BK470 := kk hk BK470 NB470_464
 replace HO479 := am (Kd.R_mono (Kd.R_keep (IsS63.apart (show IsS63 w _ g464 t461 t475 t476 from (iw HI464.out)) (ro HO479.out) (by decide)) hk (fun _ h => h.2)) (fun _ h => h.1))
 replace HB := am (hb)
 replace HI464 := am (hi)
 clear hb hk hi
 refine hK.out _ _ (bc BK470 0 _) (fun hHeld => ?_)
 clear hK K
 refine nm (some 17) ?_
 refine oa 8 none (yz 10 511) HT_ (fun K hK => ?_)
 have hs23 := bc BK460 0 (.slice none 0 0)
 have hfs23 := blk_frozen BK460.out 0
 have hns23_1 := NB470_460.out
 have hms23_1 := NB460_470.out
 refine skip_ (w1 := ?_) (by rfl) rfl ?_ ?_
 rotate_left
 ·go_simp
  rfl
 refine hK.out _ _ (((cell_far (p := ⟨gb460, _, none⟩) NB470_460.out _).trans (hHeld))) (fun hHeld => ?_)
 clear hK K
 refine pa 9 (some 3) (yz 10 1023) HT_ ?_
 refine done_ (done_of HT_.out (by kernel_rfl)) ?_
 try go_wp2
 refine bodyPost_ret (results_ct rfl _ _ gb460 26 #[.slice Ao11 t465.length co11] (0, 0) _ rfl (bp BK460.out) Tryd.underlying26 rfl (by kernel_rfl)) rfl ?_
 exact ⟨_, re, by (with_reducible repeat (first | apply Kd.Q_alloc | apply Kd.Q_drewN | apply Kd.Q_drew)); exact Kd.Q_mono (Kd.Q_far (p := ⟨gb460, 0, none⟩) (Kd.Q_types HO467.out BK460.out (by decide)) (fun _ hk => hk.2) (.slice Ao11 t465.length co11)) (fun _ hk => trivial), bv⟩

end Go.Proofs.YtbbehmbpoilffaaDoor.C
