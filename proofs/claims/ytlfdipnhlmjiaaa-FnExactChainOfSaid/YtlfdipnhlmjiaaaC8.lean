/- Contracts of functions of the program: impl_factored, impl_Factorizations, slices_Clone_int_int, slices_IndexFunc_int_int, impl_ChainOf_1, impl_apart. -/
import Derived.Test.YtlfdipnhlmjiaaaC0
import Derived.Test.YtlfdipnhlmjiaaaC6
import Derived.Test.YtlfdipnhlmjiaaaC7
namespace Go.Proofs.Ytlfdipnhlmjiaaa.C
open Go.RowKit Go.Proofs.YtlfdipnhlmjiaaaW.PrintWords Go.Proofs.YtlfdipnhlmjiaaaW.PrintLast Go.Proofs.YtlfdipnhlmjiaaaW.PrintMore
attribute [local go_sem] max2_int min2_int max_two min_two max_three min_three max_four min_four
set_option linter.unusedVariables false
set_option linter.unusedSimpArgs false

/-! ### impl_factored: function 133 -/
mutual
def impl_factored.l0 : Nat → List Int → Int → List (List Int) → Int → Option ((List (List Int)))
 | 0, _, _, _, _ => none
 | k + 1, x0, x1, x5, x6 => if x6 ≥ 0 then (if 1 ≤ (x0.length : Int) then (if 0 < (x0.length : Int) then ((impl_factored.f k (x0.drop 1) (wrap64 (x1 - (wrap64 (x6 * (rd x0 0)))))).bind fun t433 => (impl_factored.l1 k x0 x1 x5 x6 t433 (t433.length : Int) 0)) else (none)) else (none)) else (some x5)
def impl_factored.l1 : Nat → List Int → Int → List (List Int) → Int → List (List Int) → Int → Int → Option ((List (List Int)))
 | 0, _, _, _, _, _, _, _ => none
 | k + 1, x0, x1, x5, x6, x35, x36, x37 => if x37 < x36 then (if 0 ≤ x37 then (if x37 < (x35.length : Int) then ((some (([x6] : List Int) : List Int)).bind fun y437 => (if y437.length + (rd_L2 x35 x37).length < 17592186044416 then (if x5.length < 5864062014805 then (impl_factored.l1 k x0 x1 (x5 ++ [(y437 ++ (rd_L2 x35 x37))]) x6 x35 x36 (wrap64 (x37 + 1))) else (none)) else (none))) else (none)) else (none)) else (impl_factored.l0 k x0 x1 x5 (wrap64 (x6 - 1)))
def impl_factored.f : Nat → List Int → Int → Option ((List (List Int)))
 | 0, _, _ => none
 | k + 1, l0, a1 => if (l0.length : Int) = 0 then (if a1 = 0 then (some (([(([] : List Int))] : List (List Int)))) else (some ([] : List (List Int)))) else (if 0 < (l0.length : Int) then (if (rd l0 0) = 0 then (none) else (impl_factored.l0 k l0 a1 (([] : List (List Int))) (wrap64 (Int.tdiv a1 (rd l0 0))))) else (none))
end
def impl_factored.T9 : Bool × List (List Nat × List Nat) := (true, [([], []), ([0], [0]), ([], []), ([], []), ([], []), ([4], [4]), ([5], [5]), ([3, 6], [3, 6]), ([2, 7], [2, 7]), ([1, 8], [1, 8]), ([9], [9]), ([], [])])
def impl_factored.B9 : List Nat := [0, 1, 0, 0, 0, 16, 48, 120, 252, 511, 1023, 0]
theorem impl_factored.tab9 : rtab .any (opsOf Try.f133 9) = impl_factored.T9 := by kernel_rfl
theorem impl_factored.bits9 : waitsOk impl_factored.T9.2 impl_factored.B9 = true := by kernel_rfl
set_option maxHeartbeats 8000000 in
set_option maxRecDepth 100000 in
theorem impl_factored.calls (k : Nat) : ∀ (A0 : Option Addr) (c0 : Nat) (l0 : List Int) (a1 : Int) (r : List (List Int)) (w : World) (hr0 : Kd.C (Kd.int .i64) w A0 l0.length l0) (hc0 : l0.length ≤ c0) (h : impl_factored.f k l0 a1 = some r),
  Calls Try.prog 133 #[.slice A0 l0.length c0, .int .i64 a1] w fun e w' => ∃ v0_ : Value, e = .returned (v0_) ∧ Kd.S (Kd.slice 3 (Kd.int .i64)) 22 w' w.heap.size (fun _ => True) v0_ r ∧ Below w.heap.size w w' := by
 induction k using Nat.strongRecOn with
 | _ k ih =>
 intro A0 c0 l0 a1 r w hr0 hc0 h
 cases k with
 | zero => exact absurd h (by simp [impl_factored.f])
 | succ k =>
 simp only [impl_factored.f] at h
 have HR0 := am hr0
 have HC0 := am hc0
 clear hr0 hc0
 have HB := am (Below.refl w.heap.size w)
 have H : (if (l0.length : Int) = 0 then (if a1 = 0 then (some (([(([] : List Int))] : List (List Int)))) else (some ([] : List (List Int)))) else (if 0 < (l0.length : Int) then (if (rd l0 0) = 0 then (none) else (impl_factored.l0 k l0 a1 (([] : List (List Int))) (wrap64 (Int.tdiv a1 (rd l0 0))))) else (none))) = some r := h
 clear h
 by_cases c3 : (l0.length : Int) = 0
 ·rw [if_pos c3] at H
  have c3b0 : ((l0.length : Int) == 0) = true := beq_iff_eq.mpr c3
  have c3b1 : ((l0.length : Int) != 0) = false := bne_eq_false_iff_eq.mpr c3
  clear c3
  by_cases c4 : a1 = 0
  ·rw [if_pos c4] at H
   have c4b0 : (a1 == 0) = true := beq_iff_eq.mpr c4
   have c4b1 : (a1 != 0) = false := bne_eq_false_iff_eq.mpr c4
   clear c4
   obtain ⟨y421, hy421⟩ : ∃ y_ : List Int, y_ = (([] : List Int)) := ⟨_, rfl⟩
   replace H : (some (([y421] : List (List Int)))) = some r := by first | (rw [hy421]; with_reducible first | exact H | exact bs H) | (with_reducible first | exact bs H | exact H) | (rw [hy421]; exact H) | exact H
   have Ny421 := am hy421
   clear hy421
   obtain ⟨y424, hy424⟩ : ∃ y_ : List (List Int), y_ = (([y421] : List (List Int))) := ⟨_, rfl⟩
   replace H : (some y424) = some r := by first | (rw [hy424]; with_reducible first | exact H | exact bs H) | (with_reducible first | exact bs H | exact H) | (rw [hy424]; exact H) | exact H
   have Ny424 := am hy424
   clear hy424
   obtain rfl := Option.some.inj H
   go_enter Try.func133, Try.ntmps133
   go_wp2_with (first | ((with_reducible refine gate_dst (N := 14) rfl ?_); refine Kd.R_lit (Kd.int .i64) _ 3 ?hg (N := 14) ?hd (xs := ([] : List Int)) (inner := []) (ok := fun _ => True) (okp := fun _ => True) ?hr ?hp (fun _ hk => hk) trivial (Below.refl _ _) (Nat.le_refl _) (by simp) ?_; (case hd => rfl); (case hg => rfl); (case hr => first | (go_simp; done) | (go_simp; rfl)); (case hp => exact (Reps.none _ _)); intro v422 w5 ho6 hb hg_ hnew_; clear hg_ hnew_; (first | rw [← Ny421.out] at ho6 | (simp only [Int.reduceToNat] at ho6; rw [← Ny421.out] at ho6)); have HO423 := am (Kd.R_lower ho6 (below_size bw)); replace HB := am (below_step bw hb); clear hb ho6; obtain ⟨Ao7, co7, eo7⟩ := Kd.R_slice HO423.out; subst eo7) | ((with_reducible refine gate_dst (N := 15) rfl ?_); refine Kd.S_lits (Kd.slice 3 (Kd.int .i64)) w.heap.size 22 ?hg (N := 15) ?hd (xs := ([y421] : List (List Int))) (inner := [.slice Ao7 y421.length co7]) (ok := fun _ => True) (fun j_ _ => j_ = 0) ?hr rfl (litrep (ro HO423.out)) (fun _ _ _ h1_ h2_ => h1_.trans h2_.symm) (fun _ _ _ => trivial) trivial (show Below w.heap.size w _ from bw) (below_size bw) (by simp) ?_; (case hd => rfl); (case hg => rfl); (case hr => first | (go_simp; done) | (go_simp; rfl)); intro v425 w8 ho9 hb hg_ hnew_; clear hg_ hnew_; (first | rw [← Ny424.out] at ho9 | (simp only [Int.reduceToNat] at ho9; rw [← Ny424.out] at ho9)); have HO426 := am (ho9); replace HB := am (hb); clear HO423 hb ho9))
   go_ret
   exact ⟨_, re, by (with_reducible repeat (first | apply Kd.S_alloc | apply Kd.S_drewN | apply Kd.S_drew)); exact HO426.out, bw⟩
  rw [if_neg c4] at H
  have c4b0 : (a1 == 0) = false := beq_eq_false_iff_ne.mpr c4
  have c4b1 : (a1 != 0) = true := bne_iff_ne.mpr c4
  obtain rfl := Option.some.inj H
  go_enter Try.func133, Try.ntmps133
  go_wp2
  go_ret
  exact ⟨_, re, by first | exact Kd.S_nil _ _ _ _ _ | exact Kd.N_nil _ _ _ _ _ | exact Kd.V_nil _ _ _ _ _ | exact Kd.Q_nil _ _ _ _ _ | exact Kd.R_nil _ _ _ _ _, bw⟩
 rw [if_neg c3] at H
 have c3b0 : ((l0.length : Int) == 0) = false := beq_eq_false_iff_ne.mpr c3
 have c3b1 : ((l0.length : Int) != 0) = true := bne_iff_ne.mpr c3
 have c3b2 : ¬ (l0 = []) := fun h_ => c3 (by rw [h_]; rfl)
 obtain ⟨y427, hy427⟩ : ∃ y_ : List (List Int), y_ = (([] : List (List Int))) := ⟨_, rfl⟩
 replace H : (if 0 < (l0.length : Int) then (if (rd l0 0) = 0 then (none) else (impl_factored.l0 k l0 a1 y427 (wrap64 (Int.tdiv a1 (rd l0 0))))) else (none)) = some r := by first | (rw [hy427]; with_reducible first | exact H | exact bs H) | (with_reducible first | exact bs H | exact H) | (rw [hy427]; exact H) | exact H
 have Ny427 := am hy427
 clear hy427
 replace H := gp H; obtain ⟨c10, H⟩ := H
 have c10b0 : decide (0 < (l0.length : Int)) = true := decide_eq_true c10
 have c10b1 : decide (0 < l0.length) = true := decide_eq_true (by omega)
 clear c10
 by_cases c11 : (rd l0 0) = 0
 ·rw [if_pos c11] at H
  exact absurd H (by simp)
 rw [if_neg c11] at H
 have c11b0 : ((rd l0 0) == 0) = false := beq_eq_false_iff_ne.mpr c11
 have c11b1 : ((rd l0 0) != 0) = true := bne_iff_ne.mpr c11
 have H' := am H
 clear H
 go_enter Try.func133, Try.ntmps133
 go_wp2_with (first | ((with_reducible refine gate_dst (N := 16) rfl ?_); refine Kd.S_lit (Kd.slice 3 (Kd.int .i64)) _ 22 ?hg (N := 16) ?hd (xs := ([] : List (List Int))) (inner := []) (ok := fun _ => True) (okp := fun _ => True) ?hr ?hp (fun _ hk => hk) trivial (Below.refl _ _) (Nat.le_refl _) (by simp) ?_; (case hd => rfl); (case hg => rfl); (case hr => first | (go_simp; done) | (go_simp; rfl)); (case hp => exact (Reps.none _ _)); intro v428 w12 ho13 hb hg_ hnew_; clear hg_ hnew_; (first | rw [← Ny427.out] at ho13 | (simp only [Int.reduceToNat] at ho13; rw [← Ny427.out] at ho13)); have HO429 := am (Kd.S_lower ho13 (below_size bw)); replace HB := am (below_step bw hb); clear hb ho13; have p430 : 0 ≤ (0 : Int) := (by omega); have q430 : 0 < (l0.length : Int) := of_decide_eq_true (by first | (with_reducible assumption) | assumption); obtain ⟨ad430, e430, hx430_0⟩ := Kd.at_int HR0.out 0 p430 q430; cases e430; have qi430 : (0 < l0.length) = True := eq_true (by omega); (try rw [show ((0 : Int)).toNat = 0 from rfl] at hx430_0); (try rw [Addr.add_zero'] at hx430_0); replace hx430_0 := hw HB hx430_0; replace p430 := eq_true p430; replace q430 := eq_true q430))
 go_loopg [5, 6] k (fun kq v5 v6 w' => ∃ (x5_1 : List (List Int)) (x6_1 : Int), v6 = .int .i64 x6_1 ∧ Aside0 (impl_factored.l0 kq l0 a1 x5_1 x6_1 = some r) ∧ Aside0 (kq ≤ k) ∧ Aside0 (Kd.S (Kd.slice 3 (Kd.int .i64)) 22 w' w.heap.size (fun _ => True) v5 x5_1) ∧ Aside0 (Below w.heap.size w w'))
 case atStart => exact ⟨(y427), (wrap64 (Int.tdiv a1 (rd l0 0))), rr, H', ⟨Nat.le_refl _⟩, ⟨so HO429.out⟩, ⟨bw⟩⟩
 case round =>
  clear H'
  try clear c3; try clear c3b0; try clear c3b1; try clear c3b2; try clear c4; try clear c4b0; try clear c4b1; try clear c10; try clear c10b0; try clear c10b1; try clear c11; try clear c11b0; try clear c11b1; try clear hx430_0; try clear p430; try clear q430
  obtain ⟨x5_1, x6_1, rfl, HA, HK1, HO_5, HB⟩ := hrel
  cases gk with
  | zero => exact absurd HA.out (by simp [impl_factored.l0])
  | succ k1 =>
   have H := HA.out
   clear HA
   simp only [impl_factored.l0] at H
   replace H := gj H; obtain ⟨c14, H⟩ | ⟨c14, H⟩ := H
   ·have c14b0 : decide (0 ≤ x6_1) = true := decide_eq_true c14
    clear c14
    replace H := gp H; obtain ⟨c15, H⟩ := H
    have c15b0 := eq_true c15
    have c15b1 : decide (1 ≤ (l0.length : Int)) = true := decide_eq_true c15
    clear c15
    replace H := gp H; obtain ⟨c16, H⟩ := H
    have c16b0 : decide (0 < (l0.length : Int)) = true := decide_eq_true c16
    have c16b1 : decide (0 < l0.length) = true := decide_eq_true (by omega)
    clear c16
    replace H := ga H; obtain ⟨t433, A17, H⟩ := H
    have H' := am H
    clear H
    try go_wp2
    replace HO_5 := am (Kd.S_drew HO_5.out)
    replace HB := am (below_drew1 HB.out)
    obtain ⟨i019, hi019, _, hsz19, _⟩ := info_parts info3
    obtain ⟨A19, hcut19, hA19, hC19⟩ := print_drop_of (P := Try.prog) (Value.int .i64) 0 22 3 .i64 Try.underlying22 hi019 hsz19 (some ad430) c0 l0 1 (by omega) (of_decide_eq_true (by first | (with_reducible assumption) | assumption)) HC0.out
    have HR431 := am (Kd.C_of_reads (h1 := fun _ => rfl) (hA19 _ (Kd.reads_of_C HR0.out)))
    have HC431 := am hC19
    clear hA19 hC19 hi019 hsz19
    have p432 : 0 ≤ (0 : Int) := (by omega)
    have q432 : 0 < (l0.length : Int) := of_decide_eq_true (by first | (with_reducible assumption) | assumption)
    obtain ⟨ad432, e432, hx432_0⟩ := Kd.at_int HR0.out 0 p432 q432
    have hw432_0 := hx432_0
    (try rw [show ((0 : Int)).toNat = 0 from rfl] at hw432_0)
    (try rw [show 0 * 1 = 0 from rfl] at hw432_0)
    (try rw [Addr.add_zero'] at hw432_0)
    obtain rfl : ad430 = ad432 := (by injection e432)
    have qi432 : (0 < l0.length) = True := eq_true (by omega)
    (try rw [show ((0 : Int)).toNat = 0 from rfl] at hx432_0)
    (try rw [Addr.add_zero'] at hx432_0)
    replace hx432_0 := hw HB hx432_0
    replace p432 := eq_true p432
    replace q432 := eq_true q432
    refine start_ (n := 12) (S := fun w' => w'.cell? ad430 = some (.int .i64 (rd l0 0))) (ds := []) (yz 12 0) (by kernel_rfl) rfl rfl (((HB.out.cell (World.block_lt_of_cell? w _ hw432_0)).trans hw432_0)) (fun hHeld => ?_); refine with_tabW impl_factored.tab9 impl_factored.bits9 (fun HT_ HW_ => ?_)
    generalize wr.drew = w18 at HO_5 HB HR431 hx432_0 hHeld ⊢
    refine pa 0 (some 26) (yz 12 1) HT_ ?_
    refine pa 1 (some 27) (yz 12 3) HT_ ?_
    refine pa 2 (some 28) (yz 12 7) HT_ ?_
    refine pa 3 (some 29) (yz 12 15) HT_ ?_
    refine pa 4 (some 30) (yz 12 31) HT_ ?_
    refine pa 5 (some 31) (yz 12 63) HT_ ?_
    refine pa 11 (some 37) (yz 12 2111) HT_ ?_
    refine tK 6 (some 32) (yz 12 2175) HT_ HW_ hHeld ?_
    refine pa 7 (some 33) (yz 12 2303) HT_ ?_
    refine pa 8 (some 34) (yz 12 2559) HT_ ?_
    refine oa 9 (some 35) (yz 12 3071) HT_ (fun K hK => ?_)
    refine goes_ Try.func133 (by kernel_rfl) rfl #[.slice A19 (l0.drop 1).length (c0 - 1), .int .i64 (wrap64 (a1 - (wrap64 (x6_1 * (rd l0 0)))))] (by rfl) rfl rfl (by (try simp only [List.map_toArray, List.map_cons, List.map_nil]); first | done | (rw [show (l0.drop 1).length = (l0.length - 1) from List.length_drop] <;> rfl) | rfl | (simp only [List.length_drop, List.length_take]; rfl)) ?_
    with_reducible refine (ih k1 (by have := HK1.out; omega) _ _ (l0.drop 1) (wrap64 (a1 - (wrap64 (x6_1 * (rd l0 0))))) t433 _ ?side1 ?side2 A17.out).mono ?_
    (case side1 => exact co (Kd.C_below HR431.out HB.out))
    (case side2 => exact HC431.out)
    rintro e w20 ⟨v434, rfl, ho0, hb⟩
    refine ⟨_, rfl, ?_⟩
    have HO435 := am (Kd.S_lower (Kd.S_new' ho0 (Kd.S_lt (so HO_5.out))) (below_size bw))
    replace HO_5 := am (Kd.S_elder' (so HO_5.out) (Kd.S_base ho0) hb)
    replace HB := am (below_step bw hb)
    clear hb ho0
    obtain ⟨Ao21, co21, eo21⟩ := Kd.S_slice HO435.out
    (first | subst eo21 | (injection eo21 with f1_ f2_ f3_; have f4_ := f1_.symm; have f5_ := f3_.symm; clear f1_ f2_ f3_; subst f4_; subst f5_))
    refine hK.out _ _ (((HB.out.cell (World.block_lt_of_cell? w _ hw432_0)).trans hw432_0)) (fun hHeld => ?_)
    clear hK K
    refine nm (some 35) ?_
    refine pa 10 (some 36) (yz 12 4095) HT_ ?_
    refine done_ (done_of HT_.out (by kernel_rfl)) ?_
    try go_wp2
    go_loopg [5, 37] k1 (fun kq v5 v37 w' => ∃ (x5_2 : List (List Int)) (x37_2 : Int), v37 = .int .i64 x37_2 ∧ Aside0 (impl_factored.l1 kq l0 a1 x5_2 x6_1 t433 (t433.length : Int) x37_2 = some r) ∧ Aside0 (kq ≤ k1) ∧ Aside0 (Kd.S (Kd.slice 3 (Kd.int .i64)) 22 w' w.heap.size (fun k_ => nb k_ Ao21 t433 co21) v5 x5_2) ∧ Aside0 (Kd.S (Kd.slice 3 (Kd.int .i64)) 22 w' w.heap.size (fun k_ => some k_ ≠ (v5 : Value).ownBlock) (.slice Ao21 t433.length co21) t433) ∧ Aside0 (Below w.heap.size w w'))
    case atStart => exact ⟨(x5_1), (0), rr, H', ⟨Nat.le_refl _⟩, ⟨by (with_reducible repeat (first | apply Kd.S_alloc | apply Kd.S_drewN | apply Kd.S_drew)); exact Kd.S_mono HO_5.out (fun _ hk => hk.2)⟩, ⟨by (with_reducible repeat (first | apply Kd.S_alloc | apply Kd.S_drewN | apply Kd.S_drew)); exact Kd.S_mono HO435.out (fun _ hk => hk.2)⟩, ⟨bw⟩⟩
    case round =>
     clear H'
     try clear c3; try clear c3b0; try clear c3b1; try clear c3b2; try clear c4; try clear c4b0; try clear c4b1; try clear c10; try clear c10b0; try clear c10b1; try clear c11; try clear c11b0; try clear c11b1; try clear c14; try clear c14b0; try clear c15; try clear c15b0; try clear c15b1; try clear c16; try clear c16b0; try clear c16b1; try clear hx430_0; try clear hx432_0; try clear p430; try clear p432; try clear q430; try clear q432
     obtain ⟨x5_2, x37_2, rfl, HA, HK2, HO_5, HO_35, HB⟩ := hrel
     cases gk with
     | zero => exact absurd HA.out (by simp [impl_factored.l1])
     | succ k2 =>
      have H := HA.out
      clear HA
      simp only [impl_factored.l1] at H
      replace H := gi H; obtain ⟨c22b0, H⟩ | ⟨c22b0, H⟩ := H
      ·replace H := gd H; obtain ⟨c23b0, H⟩ := H
       replace H := gd H; obtain ⟨c24b0, H⟩ := H
       obtain ⟨y437, hy437⟩ : ∃ y_ : List Int, y_ = (([x6_1] : List Int)) := ⟨_, rfl⟩
       replace H : (if y437.length + (rd_L2 t433 x37_2).length < 17592186044416 then (if x5_2.length < 5864062014805 then (impl_factored.l1 k2 l0 a1 (x5_2 ++ [(y437 ++ (rd_L2 t433 x37_2))]) x6_1 t433 (t433.length : Int) (wrap64 (x37_2 + 1))) else (none)) else (none)) = some r := by first | (rw [hy437]; with_reducible first | exact H | exact bs H) | (with_reducible first | exact bs H | exact H) | (rw [hy437]; exact H) | exact H
       have Ny437 := am hy437
       clear hy437
       by_cases c25 : y437.length + (rd_L2 t433 x37_2).length < 17592186044416
       rotate_left
       ·rw [if_neg c25] at H
        exact absurd H (by simp)
       rw [if_pos c25] at H
       have LMc25 := am c25
       clear c25
       obtain ⟨y440, hy440⟩ : ∃ y_ : List Int, y_ = (y437 ++ (rd_L2 t433 x37_2)) := ⟨_, rfl⟩
       replace H : (if x5_2.length < 5864062014805 then (impl_factored.l1 k2 l0 a1 (x5_2 ++ [y440]) x6_1 t433 (t433.length : Int) (wrap64 (x37_2 + 1))) else (none)) = some r := by first | (rw [hy440]; with_reducible first | exact H | exact bs H) | (with_reducible first | exact bs H | exact H) | (rw [hy440]; exact H) | exact H
       have Ny440 := am hy440
       clear hy440
       by_cases c26 : x5_2.length < 5864062014805
       rotate_left
       ·rw [if_neg c26] at H
        exact absurd H (by simp)
       rw [if_pos c26] at H
       have LMc26 := am c26
       clear c26
       obtain ⟨y443, hy443⟩ : ∃ y_ : List (List Int), y_ = (x5_2 ++ [y440]) := ⟨_, rfl⟩
       replace H : (impl_factored.l1 k2 l0 a1 y443 x6_1 t433 (t433.length : Int) (wrap64 (x37_2 + 1))) = some r := by first | (rw [hy443]; with_reducible first | exact H | exact bs H) | (with_reducible first | exact bs H | exact H) | (rw [hy443]; exact H) | exact H
       have Ny443 := am hy443
       clear hy443
       have H' := am H
       clear H
       have p436 : 0 ≤ (x37_2 : Int) := of_decide_eq_true (by first | (with_reducible assumption) | assumption)
       have q436 : x37_2 < (t433.length : Int) := of_decide_eq_true (by first | (with_reducible assumption) | assumption)
       obtain ⟨ad436, A436_0, c436_0, e436, hx436_0, hl436_0, hi436_0⟩ := at_L2 (Kd.S_reads' HO_35.out).2.2 x37_2 p436 q436
       cases e436
       obtain ⟨ce436, hce436, hMe436, hcc436⟩ := Kd.S_get HO_35.out [] x37_2 p436 (by first | exact q436 | exact of_decide_eq_true (by first | (with_reducible assumption) | assumption) | (have e_ := (Kd.S_reads' HO_35.out).1; omega))
       obtain ⟨ve436_0, rfl, ge436_0⟩ := hMe436
       have hv436_0 := hcc436 0 _ rfl
       rw [Nat.add_zero, show ((Kd.slice 3 (Kd.int .i64))).sz = 1 from rfl, Nat.mul_one] at hv436_0
       replace hv436_0 := Option.some.inj (hv436_0.symm.trans hx436_0)
       rw [hv436_0] at ge436_0
       have HL436_0 := am (show Kd.R (Kd.int .i64) 3 _ _ _ _ (rd_L2 t433 x37_2) from ge436_0)
       clear hv436_0 ge436_0
       clear hcc436 hce436
       have HR436_0 := am hi436_0
       have HC436_0 := am hl436_0
       clear hi436_0 hl436_0
       replace p436 := eq_true p436
       replace q436 := eq_true q436
       go_wp2_with (first | ((with_reducible refine gate_dst (N := 43) rfl ?_); refine Kd.R_lit (Kd.int .i64) _ 3 ?hg (N := 43) ?hd (xs := ([x6_1] : List Int)) (inner := [.int .i64 x6_1]) (ok := fun _ => True) (okp := fun _ => True) ?hr ?hp (fun _ hk => hk) trivial (Below.refl _ _) (Nat.le_refl _) (by simp) ?_; (case hd => rfl); (case hg => rfl); (case hr => first | (go_simp; done) | (go_simp; rfl)); (case hp => exact (Reps.one (show Kd.M (Kd.int .i64) _ _ _ x6_1 [.int .i64 x6_1] from rfl) (Reps.none _ _))); intro v438 w27 ho28 hb hg_ hnew_; clear hg_ hnew_; (first | rw [← Ny437.out] at ho28 | (simp only [Int.reduceToNat] at ho28; rw [← Ny437.out] at ho28)); replace HO_5 := am (Kd.S_elder' (so HO_5.out) (Kd.R_base ho28) hb); replace HO_35 := am (Kd.S_elder' (so HO_35.out) (Kd.R_base ho28) hb); have HO439 := am (Kd.R_lower (Kd.R_new' ho28 (Kd.R_lt (ro HL436_0.out))) (below_size bw)); replace HL436_0 := am (Kd.R_elder' (ro HL436_0.out) (Kd.R_base ho28) hb); replace HR436_0 := am (Kd.C_below (co HR436_0.out) hb); replace HB := am (below_step bw hb); clear hb ho28) | ((with_reducible refine gate_builtin (b := .append) (xs := #[.tmp 43, .tmp 44]) rfl ?_); at_builtin; refine Kd.R_append_rows (Kd.int .i64) (w0 := w) w.heap.size rfl (.tmp 43) (.tmp 44) 22 3 (.int .i64 0) 8 rfl Try.underlying22 info3 rfl (by decide) (by omega) v438 y437 (rd_L2 t433 x37_2) _ _ _ (fun k_ => some k_ ≠ (.slice A436_0 (rd_L2 t433 x37_2).length c436_0 : Value).ownBlock) (fun _ => False) rfl rfl ?aO ?aR (fun _ _ h => h) (fun _ h => h.elim) ?aF ?aB ?aS ?aL ?_; (case aR => exact co HR436_0.out); (case aB => exact bw); (case aF => exact (fun k_ hk => Kd.fresh' (Kd.R_lt (ro HL436_0.out)) k_ hk)); (case aO => exact (by (with_reducible repeat (first | apply Kd.R_alloc | apply Kd.R_drewN | apply Kd.R_drew)); exact Kd.R_mono HO439.out (fun _ hk => hk.2))); (case aS => exact (below_size bw)); (case aL => have := LMc25.out; omega); intro v441 w29 ho hb hg hat; rw [← Ny440.out] at ho; replace HO_5 := am (Kd.S_after (ok := (fun k_ => some k_ ≠ (.slice (some ad436) t433.length co21 : Value).ownBlock)) (so HO_5.out) hg hat); replace HO_35 := am (Kd.S_after (ok := (fun k_ => some k_ ≠ (u5 : Value).ownBlock)) (so HO_35.out) hg hat); replace HL436_0 := am (Kd.R_after (ok := (fun k_ => some k_ ≠ (u5 : Value).ownBlock ∧ some k_ ≠ (.slice (some ad436) t433.length co21 : Value).ownBlock)) (ro HL436_0.out) hg hat); replace HB := am (hb); have HO442 := am (ho); clear HO439 ho hb hg hat; obtain ⟨Ao31, co31, eo31⟩ := Kd.R_slice HO442.out; subst eo31) | ((with_reducible refine gate_builtin (b := .append) (xs := #[.tmp 41, .tmp 46]) rfl ?_); at_builtin; refine Kd.S_append (Kd.slice 3 (Kd.int .i64)) (w0 := w) w.heap.size rfl (.tmp 41) (.tmp 46) 49 22 (.slice none 0 0) 24 rfl Try.underlying49 info22 rfl (by decide) (by omega) u5 x5_2 y440 [.slice Ao31 y440.length co31] (fun k_ => some k_ ≠ (.slice (some ad436) t433.length co21 : Value).ownBlock) (fun k_ => some k_ = (.slice Ao31 y440.length co31 : Value).ownBlock) rfl rfl ?aP (fun k_ hk_ => ((Kd.R_mono (ok' := fun k_ => ((fun k_ => some k_ ≠ (.slice (some ad436) t433.length co21 : Value).ownBlock)) k_ ∧ some k_ ≠ (u5 : Value).ownBlock) (Kd.R_apart' (Kd.R_apart' (HO442.out) (Kd.S_typed HO_35.out) (by decide)) (Kd.S_typed HO_5.out) (by decide)) (fun k_ hk => ⟨hk.1.2, hk.2⟩))).1 k_ hk_.symm) ?aF ?aO ?aB ?aS ?aL ?_; (case aP => exact Kd.M_row (Kd.R_mono (Kd.R_tight rfl (Kd.R_mono (ok' := fun k_ => ((fun k_ => some k_ ≠ (.slice (some ad436) t433.length co21 : Value).ownBlock)) k_ ∧ some k_ ≠ (u5 : Value).ownBlock) (Kd.R_apart' (Kd.R_apart' (HO442.out) (Kd.S_typed HO_35.out) (by decide)) (Kd.S_typed HO_5.out) (by decide)) (fun k_ hk => ⟨hk.1.2, hk.2⟩))) (fun _ h_ => h_))); (case aB => exact bw); (case aF => exact (fun k_ hk => Kd.fresh' (Kd.S_lt (so HO_35.out)) k_ hk)); (case aO => exact (by (with_reducible repeat (first | apply Kd.S_alloc | apply Kd.S_drewN | apply Kd.S_drew)); exact Kd.S_mono HO_5.out (fun k_ hk => ⟨hk.1, fun e_ => hk.2 e_⟩))); (case aS => exact (below_size bw)); (case aL => have := LMc26.out; omega); intro v444 w30 ho hb hg hat; rw [← Ny443.out] at ho; replace HO_35 := am (Kd.S_after (ok := (fun k_ => nb k_ Ao31 y440 co31)) (by (with_reducible repeat (first | apply Kd.S_alloc | apply Kd.S_drewN | apply Kd.S_drew)); exact Kd.S_mono HO_35.out (fun _ hk => by first | exact ⟨hk.2, hk.1⟩ | simp_all)) hg hat); replace HL436_0 := am (Kd.R_after (ok := (fun k_ => some k_ ≠ (.slice (some ad436) t433.length co21 : Value).ownBlock ∧ nb k_ Ao31 y440 co31)) (by (with_reducible repeat (first | apply Kd.R_alloc | apply Kd.R_drewN | apply Kd.R_drew)); exact Kd.R_mono HL436_0.out (fun _ hk => ⟨⟨hk.1.2, hk.2⟩, hk.1.1⟩)) hg hat); replace HB := am (hb); have HO445 := am (ho); clear HO_5 HO442 ho hb hg hat))
       go_roundg k2
       case measure => have := HK1.out; have := HK2.out; omega
       case rel => exact ⟨(y443), (wrap64 (x37_2 + 1)), rr, H', ⟨by have := HK1.out; have := HK2.out; omega⟩, ⟨so HO445.out⟩, ⟨by (with_reducible repeat (first | apply Kd.S_alloc | apply Kd.S_drewN | apply Kd.S_drew)); exact Kd.S_mono HO_35.out (fun _ hk => hk.2)⟩, ⟨bw⟩⟩
      have H' := am H
      clear H
      go_wp2
      go_roundg k2
      case measure => have := HK1.out; have := HK2.out; omega
      case rel => exact ⟨(x5_2), (wrap64 (x6_1 - 1)), rr, H', ⟨by have := HK1.out; have := HK2.out; omega⟩, ⟨by (with_reducible repeat (first | apply Kd.S_alloc | apply Kd.S_drewN | apply Kd.S_drew)); exact Kd.S_mono HO_5.out (fun _ hk => trivial)⟩, ⟨bw⟩⟩
   have c14b0 : decide (0 ≤ x6_1) = false := decide_eq_false c14
   clear c14
   obtain rfl := Option.some.inj H
   go_wp2
   go_ret
   exact ⟨_, re, by (with_reducible repeat (first | apply Kd.S_alloc | apply Kd.S_drewN | apply Kd.S_drew)); exact HO_5.out, bw⟩


/-! ### impl_Factorizations: function 82 -/
def impl_Factorizations.f (k : Nat) (l0_0 : List Int) (a1 : Int) : Option ((List (List Int))) := (impl_IsSemigroup.f k l0_0).bind fun t447 => (if t447 = true then ((impl_within.f a1 0 100).bind fun t448 => (if t448 = true then ((impl_factored.f k l0_0 a1).bind fun t449 => (some t449)) else (some ([] : List (List Int))))) else (some ([] : List (List Int))))
set_option maxHeartbeats 8000000 in
set_option maxRecDepth 100000 in
theorem impl_Factorizations.calls (k : Nat) (A0_0 : Option Addr) (c0_0 : Nat) (l0_0 : List Int) (a1 : Int) (r : List (List Int)) (w : World) (hr0_0 : Kd.C (Kd.int .i64) w A0_0 l0_0.length l0_0) (hc0_0 : l0_0.length ≤ c0_0) (h : impl_Factorizations.f k l0_0 a1 = some r) :
  Calls Try.prog 82 #[.agg #[.slice A0_0 l0_0.length c0_0], .int .i64 a1] w fun e w' => ∃ v0_ : Value, e = .returned (v0_) ∧ Kd.S (Kd.slice 3 (Kd.int .i64)) 22 w' w.heap.size (fun _ => True) v0_ r ∧ Below w.heap.size w w' := by
 have hu27 := Try.underlying27
 have HR0_0 := am hr0_0
 have HC0_0 := am hc0_0
 clear hr0_0 hc0_0
 have HB := am (Below.refl w.heap.size w)
 have H : ((impl_IsSemigroup.f k l0_0).bind fun t447 => (if t447 = true then ((impl_within.f a1 0 100).bind fun t448 => (if t448 = true then ((impl_factored.f k l0_0 a1).bind fun t449 => (some t449)) else (some ([] : List (List Int))))) else (some ([] : List (List Int))))) = some r := h
 clear h
 replace H := ga H; obtain ⟨t447, A3, H⟩ := H
 replace H := gb H; obtain ⟨rfl, H⟩ | ⟨rfl, H⟩ := H
 ·replace H := ga H; obtain ⟨t448, A5, H⟩ := H
  replace H := gb H; obtain ⟨rfl, H⟩ | ⟨rfl, H⟩ := H
  ·replace H := ga H; obtain ⟨t449, A7, H⟩ := H
   obtain rfl := Option.some.inj H
   go_enter Try.func82, Try.ntmps82
   go_wp2_with (first | ((with_reducible refine gate_dst (N := 2) rfl ?_); refine bx 2 #[.slice A0_0 l0_0.length c0_0] 27 ?_; intro gb446 hg w8 hbox hb; have BK446 := am (hbox); have GW446 := am (gs hg : w.heap.size ≤ gb446); have GE446 := GW446; replace HB := am (below_step bw hb); clear hb hbox hg; have hcz9_0 := bc BK446 0 (.slice A0_0 l0_0.length c0_0); have hfz9_0 := blk_frozen BK446.out 0) | ((with_reducible refine gate_callee (f := 62) rfl ?_); refine gl (some 6) Try.func62 #[.agg #[.slice A0_0 l0_0.length c0_0]] ?_; (with_reducible refine (impl_IsSemigroup.calls k _ _ l0_0 true _ ?side1 ?side2 A3.out).mono ?_); (case side1 => exact co (Kd.C_below HR0_0.out HB.out)); (case side2 => exact HC0_0.out); rintro e w10 ⟨rfl, hb⟩; refine ⟨_, rfl, ?_⟩; replace BK446 := kb BK446 hb; replace HB := am (below_step bw hb); clear hb) | (go_at_call 63; (with_reducible refine (impl_within.calls a1 0 100 true _ A5.out).mono ?_); rintro e w' ⟨rfl, ⟨nd, rfl⟩⟩; have hcz11_0 := bc BK446 0 (.slice A0_0 l0_0.length c0_0); have hfz11_0 := blk_frozen BK446.out 0) | ((with_reducible refine gate_callee (f := 133) rfl ?_); refine gl (some 16) Try.func133 #[.slice A0_0 l0_0.length c0_0, .int .i64 a1] ?_; (with_reducible refine (impl_factored.calls k _ _ l0_0 a1 t449 _ ?side1 ?side2 A7.out).mono ?_); (case side1 => exact co (Kd.C_below HR0_0.out bw)); (case side2 => exact HC0_0.out); rintro e w12 ⟨v450, rfl, ho0, hb⟩; refine ⟨_, rfl, ?_⟩; have HO451 := am (Kd.S_lower ho0 (below_size bw)); replace BK446 := kb BK446 hb; replace HB := am (below_step bw hb); clear hb ho0))
   go_ret
   exact ⟨_, re, by (with_reducible repeat (first | apply Kd.S_alloc | apply Kd.S_drewN | apply Kd.S_drew)); exact HO451.out, bw⟩
  obtain rfl := Option.some.inj H
  go_enter Try.func82, Try.ntmps82
  go_wp2_with (first | ((with_reducible refine gate_dst (N := 2) rfl ?_); refine bx 2 #[.slice A0_0 l0_0.length c0_0] 27 ?_; intro gb446 hg w13 hbox hb; have BK446 := am (hbox); have GW446 := am (gs hg : w.heap.size ≤ gb446); have GE446 := GW446; replace HB := am (below_step bw hb); clear hb hbox hg; have hcz14_0 := bc BK446 0 (.slice A0_0 l0_0.length c0_0); have hfz14_0 := blk_frozen BK446.out 0) | ((with_reducible refine gate_callee (f := 62) rfl ?_); refine gl (some 6) Try.func62 #[.agg #[.slice A0_0 l0_0.length c0_0]] ?_; (with_reducible refine (impl_IsSemigroup.calls k _ _ l0_0 true _ ?side1 ?side2 A3.out).mono ?_); (case side1 => exact co (Kd.C_below HR0_0.out HB.out)); (case side2 => exact HC0_0.out); rintro e w15 ⟨rfl, hb⟩; refine ⟨_, rfl, ?_⟩; replace BK446 := kb BK446 hb; replace HB := am (below_step bw hb); clear hb) | (go_at_call 63; (with_reducible refine (impl_within.calls a1 0 100 false _ A5.out).mono ?_); rintro e w' ⟨rfl, ⟨nd, rfl⟩⟩))
  go_ret
  exact ⟨_, re, by first | exact Kd.S_nil _ _ _ _ _ | exact Kd.N_nil _ _ _ _ _ | exact Kd.V_nil _ _ _ _ _ | exact Kd.Q_nil _ _ _ _ _ | exact Kd.R_nil _ _ _ _ _, bw⟩
 obtain rfl := Option.some.inj H
 go_enter Try.func82, Try.ntmps82
 go_wp2_with (first | ((with_reducible refine gate_dst (N := 2) rfl ?_); refine bx 2 #[.slice A0_0 l0_0.length c0_0] 27 ?_; intro gb446 hg w16 hbox hb; have BK446 := am (hbox); have GW446 := am (gs hg : w.heap.size ≤ gb446); have GE446 := GW446; replace HB := am (below_step bw hb); clear hb hbox hg; have hcz17_0 := bc BK446 0 (.slice A0_0 l0_0.length c0_0); have hfz17_0 := blk_frozen BK446.out 0) | ((with_reducible refine gate_callee (f := 62) rfl ?_); refine gl (some 6) Try.func62 #[.agg #[.slice A0_0 l0_0.length c0_0]] ?_; (with_reducible refine (impl_IsSemigroup.calls k _ _ l0_0 false _ ?side1 ?side2 A3.out).mono ?_); (case side1 => exact co (Kd.C_below HR0_0.out HB.out)); (case side2 => exact HC0_0.out); rintro e w18 ⟨rfl, hb⟩; refine ⟨_, rfl, ?_⟩; replace BK446 := kb BK446 hb; replace HB := am (below_step bw hb); clear hb))
 go_ret
 exact ⟨_, re, by first | exact Kd.S_nil _ _ _ _ _ | exact Kd.N_nil _ _ _ _ _ | exact Kd.V_nil _ _ _ _ _ | exact Kd.Q_nil _ _ _ _ _ | exact Kd.R_nil _ _ _ _ _, bw⟩


/-! ### slices_Clone_int_int: function 84 -/
def slices_Clone_int_int.f (l0 : List Int) : Option (List Int) := if l0.length < 17592186044416 then some l0 else none
theorem slices_Clone_int_int.calls (A0 : Option Addr) (c0 : Nat) (l0 : List Int) (r : List Int) (w : World) (hr0 : Kd.C (Kd.int .i64) w A0 l0.length l0) (hc0 : l0.length ≤ c0) (h : slices_Clone_int_int.f l0 = some r) :
  Calls Try.prog 84 #[.slice A0 l0.length c0] w fun e w' => ∃ v0_ : Value, e = .returned (v0_) ∧ Kd.R (Kd.int .i64) 3 w' w.heap.size (fun _ => True) v0_ r ∧ Below w.heap.size w w' := by
 unfold slices_Clone_int_int.f at h
 by_cases c : l0.length < 17592186044416
 rotate_left
 ·rw [if_neg c] at h
  cases h
 rw [if_pos c] at h
 obtain rfl := Option.some.inj h
 rcases Nat.eq_zero_or_pos l0.length with e0 | hp
 ·have e1 : l0 = [] := List.eq_nil_of_length_eq_zero e0
  subst e1
  cases A0 with
  | none =>
   refine (Try.slices_Clone_int_nil 0 c0 w).mono ?_
   rintro e w' ⟨rfl, rfl⟩
   exact ⟨_, rfl, Kd.R_nil .., Below.refl _ _⟩
  | some a =>
   refine (Try.slices_Clone_int_zero a c0 w).mono ?_
   rintro e w' ⟨v', rfl, ho, _, hb⟩
   exact ⟨_, rfl, Kd.R_of_own ho (fun _ _ => trivial), hb⟩
 ·obtain ⟨ad, rfl, hc⟩ := hr0.2.2 hp
  obtain ⟨b, off, sp⟩ := ad
  have hcell : ∀ j (hj : j < l0.length), w.cell? (Addr.add ⟨b, off, sp⟩ j) = some (.int .i64 l0[j]) := fun j hj => by
   obtain ⟨c, _, e2, h2⟩ := hc j l0[j] (List.getElem?_eq_getElem hj)
   have := h2 0 (.int .i64 l0[j]) (by rw [show c = [.int .i64 l0[j]] from e2]; rfl)
   rwa [show (Kd.int .i64).sz = 1 from rfl, Nat.mul_one, Nat.add_zero] at this
  have hsp : sp = none := by
   have h1 := hcell 0 hp
   rw [Addr.add, if_pos rfl] at h1
   cases sp with
   | none => rfl
   | some x =>
    unfold World.cell? at h1
    simp only [Option.isSome_some, if_true] at h1
    split at h1 <;> cases h1
  subst hsp
  refine (Try.slices_Clone_int b off l0.length c0 l0 w (Nat.le_refl _) (by omega) (fun j hj => ?_)).mono ?_
  ·have := hcell j hj
   rw [Addr.add] at this
   rw [List.getD_eq_getElem?_getD, List.getElem?_eq_getElem hj, Option.getD_some]
   split at this
   ·rename_i hz
    subst hz
    exact this
   ·exact this
  ·rintro e w' ⟨v', rfl, ho, _, hb⟩
   rw [List.take_length] at ho
   exact ⟨_, rfl, Kd.R_of_own ho (fun _ _ => trivial), hb⟩


/-! ### slices_IndexFunc_int_int: function 93 -/
def eqR.l0 : Nat → List Int → List Int → Int → Int → Option (Bool)
 | 0, _, _, _, _ => none
 | k + 1, x0, x1, x12, x13 => if x13 < x12 then (if 0 ≤ x13 then (if x13 < (x0.length : Int) then (if x13 < (x1.length : Int) then (if (rd x0 x13) = (rd x1 x13) then (eqR.l0 k x0 x1 x12 (wrap64 (x13 + 1))) else (some false)) else (none)) else (none)) else (none)) else (some true)
def eqR.f (k : Nat) (l0 : List Int) (l1 : List Int) : Option (Bool) := if (l0.length : Int) = (l1.length : Int) then (eqR.l0 k l0 l1 (l0.length : Int) 0) else (some false)
set_option maxHeartbeats 8000000 in
set_option maxRecDepth 100000 in
theorem eqR.calls (k : Nat) (A0 : Option Addr) (c0 : Nat) (l0 : List Int) (A1 : Option Addr) (c1 : Nat) (l1 : List Int) (r : Bool) (w : World) (hr0 : Kd.C (Kd.int .i64) w A0 l0.length l0) (hc0 : l0.length ≤ c0) (hr1 : Kd.C (Kd.int .i64) w A1 l1.length l1) (hc1 : l1.length ≤ c1) (h : eqR.f k l0 l1 = some r) :
  Calls Try.prog 95 #[.slice A0 l0.length c0, .slice A1 l1.length c1] w fun e w' => e = .returned (.bool r) ∧ Drawn0 w w' := by
 have HR0 := am hr0
 have HC0 := am hc0
 clear hr0 hc0
 have HR1 := am hr1
 have HC1 := am hc1
 clear hr1 hc1
 have H : (if (l0.length : Int) = (l1.length : Int) then (eqR.l0 k l0 l1 (l0.length : Int) 0) else (some false)) = some r := h
 clear h
 by_cases c3 : (l0.length : Int) = (l1.length : Int)
 ·rw [if_pos c3] at H
  have c3b0 : ((l0.length : Int) == (l1.length : Int)) = true := beq_iff_eq.mpr c3
  have c3b1 : ((l0.length : Int) != (l1.length : Int)) = false := bne_eq_false_iff_eq.mpr c3
  have c3b2 : (l0.length == l1.length) = true := by first | simpa using c3 | (simp at c3 ⊢; omega)
  clear c3
  have H' := am H
  clear H
  go_enter Try.func95, Try.ntmps95
  go_wp2
  repeat (go_quiet (fail); try go_wp2)
  go_loopg [13] k (fun kq v13 w' => ∃ (x13_1 : Int), v13 = .int .i64 x13_1 ∧ Aside0 (eqR.l0 kq l0 l1 (l0.length : Int) x13_1 = some r) ∧ Aside0 (kq ≤ k) ∧ Drawn0 w w')
  case atStart => exact ⟨(0), rr, H', ⟨Nat.le_refl _⟩, dw⟩
  case round =>
   clear H'
   try clear c1; try clear c3; try clear c3b0; try clear c3b1; try clear c3b2
   obtain ⟨x13_1, rfl, HA, HK1, ⟨m1, rfl⟩⟩ := hrel
   cases gk with
   | zero => exact absurd HA.out (by simp [eqR.l0])
   | succ k1 =>
    have H := HA.out
    clear HA
    simp only [eqR.l0] at H
    replace H := gi H; obtain ⟨c4b0, H⟩ | ⟨c4b0, H⟩ := H
    ·replace H := gd H; obtain ⟨c5b0, H⟩ := H
     replace H := gd H; obtain ⟨c6b0, H⟩ := H
     replace H := gd H; obtain ⟨c7b0, H⟩ := H
     by_cases c8 : (rd l0 x13_1) = (rd l1 x13_1)
     ·rw [if_pos c8] at H
      have c8b0 : ((rd l0 x13_1) == (rd l1 x13_1)) = true := beq_iff_eq.mpr c8
      have c8b1 : ((rd l0 x13_1) != (rd l1 x13_1)) = false := bne_eq_false_iff_eq.mpr c8
      clear c8
      have H' := am H
      clear H
      obtain ⟨⟨ad418, e418, hx418_0⟩, p418, q418⟩ := pq (Kd.at_int HR0.out x13_1)
      cases e418
      obtain ⟨⟨ad419, e419, hx419_0⟩, p419, q419⟩ := pq (Kd.at_int HR1.out x13_1)
      cases e419
      go_wp2
      repeat (go_quiet (fail); try go_wp2)
      go_roundg k1
      case measure => have := HK1.out; omega
      case rel => exact ⟨(wrap64 (x13_1 + 1)), rr, H', ⟨by have := HK1.out; omega⟩, dw⟩
     rw [if_neg c8] at H
     have c8b0 : ((rd l0 x13_1) == (rd l1 x13_1)) = false := beq_eq_false_iff_ne.mpr c8
     have c8b1 : ((rd l0 x13_1) != (rd l1 x13_1)) = true := bne_iff_ne.mpr c8
     obtain rfl := Option.some.inj H
     obtain ⟨⟨ad418, e418, hx418_0⟩, p418, q418⟩ := pq (Kd.at_int HR0.out x13_1)
     cases e418
     obtain ⟨⟨ad419, e419, hx419_0⟩, p419, q419⟩ := pq (Kd.at_int HR1.out x13_1)
     cases e419
     go_wp2
     repeat (go_quiet (fail); try go_wp2)
     go_ret
     exact ⟨rr, dw⟩
    obtain rfl := Option.some.inj H
    go_wp2
    repeat (go_quiet (fail); try go_wp2)
    go_ret
    exact ⟨rr, dw⟩
 rw [if_neg c3] at H
 have c3b0 : ((l0.length : Int) == (l1.length : Int)) = false := beq_eq_false_iff_ne.mpr c3
 have c3b1 : ((l0.length : Int) != (l1.length : Int)) = true := bne_iff_ne.mpr c3
 have c3b2 : (l0.length == l1.length) = false := by first | simpa using c3 | (simp at c3 ⊢; omega)
 obtain rfl := Option.some.inj H
 go_enter Try.func95, Try.ntmps95
 go_wp2
 repeat (go_quiet (fail); try go_wp2)
 go_ret
 exact ⟨rr, dw⟩
def FnRow (P : Program) (w : World) (v : Value) (p : List Int → Option Bool) : Prop :=
 ∃ g lb, v = .func (.func g) #[] lb ∧ (∀ args w, (callFunc g args).run P w = .ok (.enter g args) w) ∧ ∀ W, Below w.heap.size w W → ∀ (A : Option Addr) (c : Nat) (y : List Int) (b : Bool), Kd.C (Kd.int .i64) W A y.length y → y.length ≤ c → p y = some b → Calls P g (#[.slice A y.length c] ++ lb) W fun e w' => e = .returned (.bool b) ∧ Drawn0 W w'
def rdLL (xs : List (List Int)) (i : Int) : (List Int) := xs.getD i.toNat ([] : List Int)
theorem atLL {w : World} {A : Option Addr} {n : Nat} {xs : List (List Int)} (h : Kd.C (Kd.slice 3 (Kd.int .i64)) w A n xs) (i : Int) (h0 : 0 ≤ i) (h1 : i < n) : ∃ ad A0 c0, A = some ad ∧ w.cell? (ad.add i.toNat) = some (.slice A0 (rdLL xs i).length c0) ∧ (rdLL xs i).length ≤ c0 ∧ (Kd.int .i64).C w A0 (rdLL xs i).length (rdLL xs i) := by
 obtain ⟨ad, c, e, _, hK, hc0⟩ := Kd.C_get h ([] : List Int) i h0 h1
 have hc : ∀ j u, c[j]? = some u → w.cell? (ad.add (i.toNat * 1 + j)) = some u := hc0
 obtain ⟨A0, c0, rfl, l0, g0⟩ := hK
 exact ⟨ad, A0, c0, e, by have hq := hc 0 _ rfl; rwa [Nat.mul_one, Nat.add_zero] at hq, l0, g0⟩
def slices_IndexFunc_int_int.l0 (p : List Int → Option Bool) : Nat → List (List Int) → Int → Option Int
 | 0, _, _ => none
 | k + 1, x0, i => if i < (x0.length : Int) then (if 0 ≤ i then ((p (rdLL x0 i)).bind fun t => (if t = true then (some i) else (slices_IndexFunc_int_int.l0 p k x0 (wrap64 (i + 1))))) else none) else some (-1)
set_option maxHeartbeats 8000000 in
set_option maxRecDepth 100000 in
theorem slices_IndexFunc_int_int.callsF (p : List Int → Option Bool) (k : Nat) (A0 : Option Addr) (c0 : Nat) (l0 : List (List Int)) (F : Value) (r : Int) (w : World) (hr0 : Kd.C (Kd.slice 3 (Kd.int .i64)) w A0 l0.length l0) (hc0 : l0.length ≤ c0) (hF : FnRow Try.prog w F p) (h : slices_IndexFunc_int_int.l0 p k l0 0 = some r) :
  Calls Try.prog 93 #[.slice A0 l0.length c0, F] w fun e w' => e = .returned (.int .i64 r) ∧ Drawn0 w w' := by
 have HR0 := am hr0
 have HC0 := am hc0
 clear hr0 hc0
 obtain ⟨gF, lF, rfl, eF, hF⟩ := hF
 have HB := am (Below.refl w.heap.size w)
 have H' := am h
 clear h
 go_enter Try.func93, Try.ntmps93
 go_wp2
 go_loopg [8] k (fun kq v8 w' => ∃ (i : Int), v8 = .int .i64 i ∧ Aside0 (slices_IndexFunc_int_int.l0 p kq l0 i = some r) ∧ Aside0 (kq ≤ k) ∧ Drawn0 w w')
 case atStart => exact ⟨(0), rr, H', ⟨Nat.le_refl _⟩, dw⟩
 case round =>
  clear H'
  obtain ⟨i, rfl, HA, HK1, ⟨m1, rfl⟩⟩ := hrel
  cases gk with
  | zero => exact absurd HA.out (by simp [slices_IndexFunc_int_int.l0])
  | succ k1 =>
   have H := HA.out
   clear HA
   simp only [slices_IndexFunc_int_int.l0] at H
   replace H := gi H; obtain ⟨c3b0, H⟩ | ⟨c3b0, H⟩ := H
   ·replace H := gd H; obtain ⟨c4b0, H⟩ := H
    replace H := ga H; obtain ⟨t, A5, H⟩ := H
    obtain ⟨⟨ad9, A9, c9, e9, hx9, hl9, hi9⟩, p9, q9⟩ := pq (atLL HR0.out i)
    cases e9
    have HR9 := am hi9
    have HC9 := am hl9
    clear hi9 hl9
    replace H := gb H; obtain ⟨rfl, H⟩ | ⟨rfl, H⟩ := H
    ·obtain rfl := Option.some.inj H
     go_wp2_with (first | (go_at_fn gF; (with_reducible refine (hF _ bw _ _ _ true (co (Kd.C_below HR9.out bw)) HC9.out A5.out).mono ?_); rintro e w' ⟨rfl, ⟨nd, rfl⟩⟩))
     go_ret
     exact ⟨rr, dw⟩
    have H' := am H
    clear H
    go_wp2_with (first | (go_at_fn gF; (with_reducible refine (hF _ bw _ _ _ false (co (Kd.C_below HR9.out bw)) HC9.out A5.out).mono ?_); rintro e w' ⟨rfl, ⟨nd, rfl⟩⟩))
    go_roundg k1
    case measure => have := HK1.out; omega
    case rel => exact ⟨(wrap64 (i + 1)), rr, H', ⟨by have := HK1.out; omega⟩, dw⟩
   obtain rfl := Option.some.inj H
   go_wp2
   go_ret
   exact ⟨rr, dw⟩


/-! ### impl_ChainOf_1: function 92 -/
def impl_ChainOf_1.f (k : Nat) (l0 : List (List Int)) (x : List Int) : Option Int := slices_IndexFunc_int_int.l0 (fun y => eqR.f k x y) k l0 0
set_option maxHeartbeats 8000000 in
set_option maxRecDepth 100000 in
theorem impl_ChainOf_1.fn (k : Nat) (w : World) (g : Nat) (A : Option Addr) (c : Nat) (l : List Int) (hbox : w.heap[g]? = some (.cells #[.slice A l.length c] 22 (0, 0))) (hC : Kd.C (Kd.int .i64) w A l.length l) (hc : l.length ≤ c) :
  FnRow Try.prog w (.func (.func 94) #[] #[.pointer (some ⟨g, 0, none⟩)]) (fun y => eqR.f k l y) :=
 ⟨94, _, rfl, (fun args w => enters_ Try.func94 (by kernel_rfl) rfl args w), fun W hb A1 c1 y b hy hc1 h => by
  show Calls Try.prog 94 #[.slice A1 y.length c1, .pointer (some ⟨g, 0, none⟩)] W _
  have hbox' := blk_below hbox hb
  have HR := am (Kd.C_below hC hb)
  have HC := am hc
  have HY := am hy
  have HD := am hc1
  have A5 := am (show eqR.f k l y = some b from h)
  have hcz : W.cell? ⟨g, 0, none⟩ = some (.slice A l.length c) := (blk_cell hbox' 0).trans rfl
  have hfz := blk_frozen hbox' 0
  clear hbox hC hbox' hb hc hy hc1 h
  go_enter Try.func94, Try.ntmps94
  go_wp2_with (first | (go_at_call 95; (with_reducible refine (eqR.calls k _ _ l _ _ y b _ (co HR.out) HC.out (co HY.out) HD.out A5.out).mono ?_); rintro e w' ⟨rfl, ⟨nd, rfl⟩⟩))
  go_ret
  exact ⟨rr, dw⟩⟩
set_option maxHeartbeats 8000000 in
set_option maxRecDepth 100000 in
theorem impl_ChainOf_1.calls (k : Nat) (g : Nat) (A0 : Option Addr) (c0 : Nat) (l0 : List (List Int)) (A1 : Option Addr) (c1 : Nat) (l1 : List Int) (r : Int) (w : World) (hbox : w.heap[g]? = some (.cells #[.slice A0 l0.length c0] 49 (0, 0))) (hr0 : Kd.C (Kd.slice 3 (Kd.int .i64)) w A0 l0.length l0) (hc0 : l0.length ≤ c0) (hr1 : Kd.C (Kd.int .i64) w A1 l1.length l1) (hc1 : l1.length ≤ c1) (h : impl_ChainOf_1.f k l0 l1 = some r) :
  Calls Try.prog 92 #[.slice A1 l1.length c1, .pointer (some ⟨g, 0, none⟩)] w fun e w' => e = .returned (.int .i64 r) ∧ Below w.heap.size w w' := by
 have HR0 := am hr0
 have HC0 := am hc0
 have HR1 := am hr1
 have HC1 := am hc1
 have BK0 := am hbox
 have A3 := am (show slices_IndexFunc_int_int.l0 (fun y => eqR.f k l1 y) k l0 0 = some r from h)
 clear hr0 hc0 hbox hr1 hc1 h
 have HB := am (Below.refl w.heap.size w)
 go_enter Try.func92, Try.ntmps92
 go_wp2_with (first | ((with_reducible refine gate_dst (N := 2) rfl ?_); refine bx 2 #[.slice A1 l1.length c1] 22 ?_; intro gb hg w1 hbox hb; have BK1 := am hbox; replace BK0 := kb BK0 hb; replace HB := am (below_step bw hb); clear hb hbox hg; have hcz := bc BK0 0 (.slice A0 l0.length c0); have hfz := blk_frozen BK0.out 0) | (go_at_call 93; (with_reducible refine (slices_IndexFunc_int_int.callsF _ k _ _ l0 _ r _ (co (Kd.C_below HR0.out HB.out)) HC0.out (impl_ChainOf_1.fn k _ gb _ _ _ (bo BK1.out) (co (Kd.C_below HR1.out HB.out)) HC1.out) A3.out).mono ?_); rintro e w' ⟨rfl, ⟨nd, rfl⟩⟩))
 go_ret
 exact ⟨rr, bw⟩


/-! ### impl_apart: function 97 -/
def impl_apart.l0 : Nat → List Int → List Int → Int → Int → Int → Int → Option (Int)
 | 0, _, _, _, _, _, _ => none
 | k + 1, x0, x1, x5, x6, x10, x11 => if x11 < x10 then (if 0 ≤ x11 then (if x11 < (x0.length : Int) then (if x11 < (x1.length : Int) then (impl_apart.l0 k x0 x1 (wrap64 (x5 + (wrap64 ((rd x0 x11) - (mn (rd x0 x11) (rd x1 x11)))))) (wrap64 (x6 + (wrap64 ((rd x1 x11) - (mn (rd x0 x11) (rd x1 x11)))))) x10 (wrap64 (x11 + 1))) else (none)) else (none)) else (none)) else (some (mx x5 x6))
def impl_apart.f (k : Nat) (l0 : List Int) (l1 : List Int) : Option (Int) := impl_apart.l0 k l0 l1 0 0 (l0.length : Int) 0
set_option maxHeartbeats 8000000 in
set_option maxRecDepth 100000 in
theorem impl_apart.calls (k : Nat) (A0 : Option Addr) (c0 : Nat) (l0 : List Int) (A1 : Option Addr) (c1 : Nat) (l1 : List Int) (r : Int) (w : World) (hr0 : Kd.C (Kd.int .i64) w A0 l0.length l0) (hc0 : l0.length ≤ c0) (hr1 : Kd.C (Kd.int .i64) w A1 l1.length l1) (hc1 : l1.length ≤ c1) (h : impl_apart.f k l0 l1 = some r) :
  Calls Try.prog 97 #[.slice A0 l0.length c0, .slice A1 l1.length c1] w fun e w' => e = .returned (.int .i64 r) ∧ Below w.heap.size w w' := by
 have HR0 := am hr0
 have HC0 := am hc0
 clear hr0 hc0
 have HR1 := am hr1
 have HC1 := am hc1
 clear hr1 hc1
 have HB := am (Below.refl w.heap.size w)
 have H : (impl_apart.l0 k l0 l1 0 0 (l0.length : Int) 0) = some r := h
 clear h
 have H' := am H
 clear H
 go_enter Try.func97, Try.ntmps97
 go_wp2
 repeat (go_quiet (fail); try go_wp2)
 go_loopg [5, 6, 11] k (fun kq v5 v6 v11 w' => ∃ (x5_1 : Int) (x6_1 : Int) (x11_1 : Int), v5 = .int .i64 x5_1 ∧ v6 = .int .i64 x6_1 ∧ v11 = .int .i64 x11_1 ∧ Aside0 (impl_apart.l0 kq l0 l1 x5_1 x6_1 (l0.length : Int) x11_1 = some r) ∧ Aside0 (kq ≤ k) ∧ Aside0 (Below w.heap.size w w'))
 case atStart => exact ⟨(0), (0), (0), rr, rr, rr, H', ⟨Nat.le_refl _⟩, ⟨bw⟩⟩
 case round =>
  clear H'
  try clear c1
  obtain ⟨x5_1, x6_1, x11_1, rfl, rfl, rfl, HA, HK1, HB⟩ := hrel
  cases gk with
  | zero => exact absurd HA.out (by simp [impl_apart.l0])
  | succ k1 =>
   have H := HA.out
   clear HA
   simp only [impl_apart.l0] at H
   replace H := gi H; obtain ⟨c3b0, H⟩ | ⟨c3b0, H⟩ := H
   ·replace H := gd H; obtain ⟨c4b0, H⟩ := H
    replace H := gd H; obtain ⟨c5b0, H⟩ := H
    replace H := gd H; obtain ⟨c6b0, H⟩ := H
    obtain ⟨ji7, hji7⟩ : ∃ j_ : Int, (mn (rd l0 x11_1) (rd l1 x11_1)) = j_ := ⟨_, rfl⟩
    replace H : (impl_apart.l0 k1 l0 l1 (wrap64 (x5_1 + (wrap64 ((rd l0 x11_1) - (ji7))))) (wrap64 (x6_1 + (wrap64 ((rd l1 x11_1) - (ji7))))) (l0.length : Int) (wrap64 (x11_1 + 1))) = some r := by first | (rw [hji7] at H; exact H) | (simp only [hji7] at H ⊢; exact H)
    have hji7_ : (if (rd l1 x11_1) < (rd l0 x11_1) then (rd l1 x11_1) else (rd l0 x11_1)) = ji7 := hji7
    have H' := am H
    clear H
    obtain ⟨⟨ad452, e452, hx452_0⟩, p452, q452⟩ := pq (Kd.at_int HR0.out x11_1)
    cases e452
    replace hx452_0 := hw HB hx452_0
    obtain ⟨⟨ad453, e453, hx453_0⟩, p453, q453⟩ := pq (Kd.at_int HR1.out x11_1)
    cases e453
    replace hx453_0 := hw HB hx453_0
    obtain ⟨⟨ad454, e454, hx454_0⟩, p454, q454⟩ := pq (Kd.at_int HR0.out x11_1)
    obtain rfl : ad452 = ad454 := (by injection e454)
    replace hx454_0 := hw HB hx454_0
    obtain ⟨⟨ad455, e455, hx455_0⟩, p455, q455⟩ := pq (Kd.at_int HR1.out x11_1)
    obtain rfl : ad453 = ad455 := (by injection e455)
    replace hx455_0 := hw HB hx455_0
    go_wp2
    repeat (go_quiet (fail); try go_wp2)
    go_roundg k1
    case measure => have := HK1.out; omega
    case rel => exact ⟨(wrap64 (x5_1 + (wrap64 ((rd l0 x11_1) - (ji7))))), (wrap64 (x6_1 + (wrap64 ((rd l1 x11_1) - (ji7))))), (wrap64 (x11_1 + 1)), (by first | rfl | (simp; done) | (simp only [← hji7] <;> (first | rfl | simp)) | (simp [*]; done)), (by first | rfl | (simp; done) | (simp only [← hji7] <;> (first | rfl | simp)) | (simp [*]; done)), rr, H', ⟨by have := HK1.out; omega⟩, ⟨bw⟩⟩
   obtain ⟨ji8, hji8⟩ : ∃ j_ : Int, (mx x5_1 x6_1) = j_ := ⟨_, rfl⟩
   replace H : (some ji8) = some r := by first | (rw [hji8] at H; exact H) | (simp only [hji8] at H ⊢; exact H)
   have hji8_ : (if x5_1 < x6_1 then x6_1 else x5_1) = ji8 := hji8
   obtain rfl := Option.some.inj H
   go_wp2
   repeat (go_quiet (fail); try go_wp2)
   go_ret
   exact ⟨by first | rfl | (simp [errW_none, errW_some] <;> rfl) | (simp only [← hji8]; first | rfl | (simp [errW_none, errW_some] <;> rfl)) | (simp [*, errW_none, errW_some] <;> rfl), bw⟩

end Go.Proofs.Ytlfdipnhlmjiaaa.C
