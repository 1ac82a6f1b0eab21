/- Contracts of functions of the program: impl_factored, impl_Factorizations, impl_linked. -/
import Derived.Test.YtlfdipnhlmjiaaaC0
import Derived.Test.YtlfdipnhlmjiaaaC7
import Derived.Test.YtlfdipnhlmjiaaaC8
namespace Go.Proofs.Ytlfdipnhlmjiaaa.C
open Go.RowKit Go.Proofs.YtlfdipnhlmjiaaaW.PrintWords Go.Proofs.YtlfdipnhlmjiaaaW.PrintLast Go.Proofs.YtlfdipnhlmjiaaaW.PrintMore
attribute [local go_sem] max2_int min2_int max_two min_two max_three min_three max_four min_four
set_option linter.unusedVariables false
set_option linter.unusedSimpArgs false

/-! ### impl_factored: function 133 -/
mutual
def impl_factored.l0 : Nat → List Int → Int → List (List Int) → Int → Option ((List (List Int)))
 | 0, _, _, _, _ => none
 | k + 1, x0, x1, x5, x6 => if x6 ≥ 0 then (if 1 ≤ (x0.length : Int) then (if 0 < (x0.length : Int) then ((impl_factored.f k (x0.drop 1) (wrap64 (x1 - (wrap64 (x6 * (rd x0 0)))))).bind fun t478 => (impl_factored.l1 k x0 x1 x5 x6 t478 (t478.length : Int) 0)) else (none)) else (none)) else (some x5)
def impl_factored.l1 : Nat → List Int → Int → List (List Int) → Int → List (List Int) → Int → Int → Option ((List (List Int)))
 | 0, _, _, _, _, _, _, _ => none
 | k + 1, x0, x1, x5, x6, x35, x36, x37 => if x37 < x36 then (if 0 ≤ x37 then (if x37 < (x35.length : Int) then ((some (([x6] : List Int) : List Int)).bind fun y482 => (if y482.length + (rd_L2 x35 x37).length < 17592186044416 then (if x5.length < 5864062014805 then (impl_factored.l1 k x0 x1 (x5 ++ [(y482 ++ (rd_L2 x35 x37))]) x6 x35 x36 (wrap64 (x37 + 1))) else (none)) else (none))) else (none)) else (none)) else (impl_factored.l0 k x0 x1 x5 (wrap64 (x6 - 1)))
def impl_factored.f : Nat → List Int → Int → Option ((List (List Int)))
 | 0, _, _ => none
 | k + 1, l0, a1 => if (l0.length : Int) = 0 then (if a1 = 0 then (some (([(([] : List Int))] : List (List Int)))) else (some ([] : List (List Int)))) else (if 0 < (l0.length : Int) then (if (rd l0 0) = 0 then (none) else (impl_factored.l0 k l0 a1 (([] : List (List Int))) (wrap64 (Int.tdiv a1 (rd l0 0))))) else (none))
end
def impl_factored.T9 : Bool × List (List Nat × List Nat) := (true, [([], []), ([0], [0]), ([], []), ([], []), ([], []), ([4], [4]), ([5], [5]), ([3, 6], [3, 6]), ([2, 7], [2, 7]), ([1, 8], [1, 8]), ([9], [9]), ([], [])])
def impl_factored.B9 : List Nat := [0, 1, 0, 0, 0, 16, 48, 120, 252, 511, 1023, 0]
theorem impl_factored.tab9 : rtab .any (opsOf Try.f133 9) = impl_factored.T9 := by kernel_rfl
theorem impl_factored.bits9 : waitsOk impl_factored.T9.2 impl_factored.B9 = true := by kernel_rfl
set_option maxHeartbeats 8000000 in
set_option maxRecDepth 100000 in
theorem impl_factored.calls (k : Nat) : ∀ (A0 : Option Addr) (c0 : Nat) (l0 : List Int) (a1 : Int) (r : List (List Int)) (w : World) (hr0 : Kd.C (Kd.int .i64) w A0 l0.length l0) (hc0 : l0.length ≤ c0) (h : impl_factored.f k l0 a1 = some r),
  Calls Try.prog 133 #[.slice A0 l0.length c0, .int .i64 a1] w fun e w' => ∃ v0_ : Value, e = .returned (v0_) ∧ Kd.S (Kd.slice 3 (Kd.int .i64)) 22 w' w.heap.size (fun _ => True) v0_ r ∧ Below w.heap.size w w' := by
 induction k using Nat.strongRecOn with
 | _ k ih =>
 intro A0 c0 l0 a1 r w hr0 hc0 h
 cases k with
 | zero => exact absurd h (by simp [impl_factored.f])
 | succ k =>
 simp only [impl_factored.f] at h
 have HR0 := am hr0
 have HC0 := am hc0
 clear hr0 hc0
 have HB := am (Below.refl w.heap.size w)
 have H : (if (l0.length : Int) = 0 then (if a1 = 0 then (some (([(([] : List Int))] : List (List Int)))) else (some ([] : List (List Int)))) else (if 0 < (l0.length : Int) then (if (rd l0 0) = 0 then (none) else (impl_factored.l0 k l0 a1 (([] : List (List Int))) (wrap64 (Int.tdiv a1 (rd l0 0))))) else (none))) = some r := h
 clear h
 by_cases c3 : (l0.length : Int) = 0
 ·rw [if_pos c3] at H
  have c3b0 : ((l0.length : Int) == 0) = true := beq_iff_eq.mpr c3
  have c3b1 : ((l0.length : Int) != 0) = false := bne_eq_false_iff_eq.mpr c3
  clear c3
  by_cases c4 : a1 = 0
  ·rw [if_pos c4] at H
   have c4b0 : (a1 == 0) = true := beq_iff_eq.mpr c4
   have c4b1 : (a1 != 0) = false := bne_eq_false_iff_eq.mpr c4
   clear c4
   obtain ⟨y466, hy466⟩ : ∃ y_ : List Int, y_ = (([] : List Int)) := ⟨_, rfl⟩
   replace H : (some (([y466] : List (List Int)))) = some r := by first | (rw [hy466]; with_reducible first | exact H | exact bs H) | (with_reducible first | exact bs H | exact H) | (rw [hy466]; exact H) | exact H
   have Ny466 := am hy466
   clear hy466
   obtain ⟨y469, hy469⟩ : ∃ y_ : List (List Int), y_ = (([y466] : List (List Int))) := ⟨_, rfl⟩
   replace H : (some y469) = some r := by first | (rw [hy469]; with_reducible first | exact H | exact bs H) | (with_reducible first | exact bs H | exact H) | (rw [hy469]; exact H) | exact H
   have Ny469 := am hy469
   clear hy469
   obtain rfl := Option.some.inj H
   go_enter Try.func133, Try.ntmps133
   go_wp2_with (first | ((with_reducible refine gate_dst (N := 14) rfl ?_); refine Kd.R_lit (Kd.int .i64) _ 3 ?hg (N := 14) ?hd (xs := ([] : List Int)) (inner := []) (ok := fun _ => True) (okp := fun _ => True) ?hr ?hp (fun _ hk => hk) trivial (Below.refl _ _) (Nat.le_refl _) (by simp) ?_; (case hd => rfl); (case hg => rfl); (case hr => first | (go_simp; done) | (go_simp; rfl)); (case hp => exact (Reps.none _ _)); intro v467 w5 ho6 hb hg_ hnew_; clear hg_ hnew_; (first | rw [← Ny466.out] at ho6 | (simp only [Int.reduceToNat] at ho6; rw [← Ny466.out] at ho6)); have HO468 := am (Kd.R_lower ho6 (below_size bw)); replace HB := am (below_step bw hb); clear hb ho6; obtain ⟨Ao7, co7, eo7⟩ := Kd.R_slice HO468.out; subst eo7) | ((with_reducible refine gate_dst (N := 15) rfl ?_); refine Kd.S_lits (Kd.slice 3 (Kd.int .i64)) w.heap.size 22 ?hg (N := 15) ?hd (xs := ([y466] : List (List Int))) (inner := [.slice Ao7 y466.length co7]) (ok := fun _ => True) (fun j_ _ => j_ = 0) ?hr rfl (litrep (ro HO468.out)) (fun _ _ _ h1_ h2_ => h1_.trans h2_.symm) (fun _ _ _ => trivial) trivial (show Below w.heap.size w _ from bw) (below_size bw) (by simp) ?_; (case hd => rfl); (case hg => rfl); (case hr => first | (go_simp; done) | (go_simp; rfl)); intro v470 w8 ho9 hb hg_ hnew_; clear hg_ hnew_; (first | rw [← Ny469.out] at ho9 | (simp only [Int.reduceToNat] at ho9; rw [← Ny469.out] at ho9)); have HO471 := am (ho9); replace HB := am (hb); clear HO468 hb ho9))
   go_ret
   exact ⟨_, re, by (with_reducible repeat (first | apply Kd.S_alloc | apply Kd.S_drewN | apply Kd.S_drew)); exact HO471.out, bw⟩
  rw [if_neg c4] at H
  have c4b0 : (a1 == 0) = false := beq_eq_false_iff_ne.mpr c4
  have c4b1 : (a1 != 0) = true := bne_iff_ne.mpr c4
  obtain rfl := Option.some.inj H
  go_enter Try.func133, Try.ntmps133
  go_wp2
  go_ret
  exact ⟨_, re, by first | exact Kd.S_nil _ _ _ _ _ | exact Kd.N_nil _ _ _ _ _ | exact Kd.V_nil _ _ _ _ _ | exact Kd.Q_nil _ _ _ _ _ | exact Kd.R_nil _ _ _ _ _, bw⟩
 rw [if_neg c3] at H
 have c3b0 : ((l0.length : Int) == 0) = false := beq_eq_false_iff_ne.mpr c3
 have c3b1 : ((l0.length : Int) != 0) = true := bne_iff_ne.mpr c3
 have c3b2 : ¬ (l0 = []) := fun h_ => c3 (by rw [h_]; rfl)
 obtain ⟨y472, hy472⟩ : ∃ y_ : List (List Int), y_ = (([] : List (List Int))) := ⟨_, rfl⟩
 replace H : (if 0 < (l0.length : Int) then (if (rd l0 0) = 0 then (none) else (impl_factored.l0 k l0 a1 y472 (wrap64 (Int.tdiv a1 (rd l0 0))))) else (none)) = some r := by first | (rw [hy472]; with_reducible first | exact H | exact bs H) | (with_reducible first | exact bs H | exact H) | (rw [hy472]; exact H) | exact H
 have Ny472 := am hy472
 clear hy472
 replace H := gp H; obtain ⟨c10, H⟩ := H
 have c10b0 : decide (0 < (l0.length : Int)) = true := decide_eq_true c10
 have c10b1 : decide (0 < l0.length) = true := decide_eq_true (by omega)
 clear c10
 by_cases c11 : (rd l0 0) = 0
 ·rw [if_pos c11] at H
  exact absurd H (by simp)
 rw [if_neg c11] at H
 have c11b0 : ((rd l0 0) == 0) = false := beq_eq_false_iff_ne.mpr c11
 have c11b1 : ((rd l0 0) != 0) = true := bne_iff_ne.mpr c11
 have H' := am H
 clear H
 go_enter Try.func133, Try.ntmps133
 go_wp2_with (first | ((with_reducible refine gate_dst (N := 16) rfl ?_); refine Kd.S_lit (Kd.slice 3 (Kd.int .i64)) _ 22 ?hg (N := 16) ?hd (xs := ([] : List (List Int))) (inner := []) (ok := fun _ => True) (okp := fun _ => True) ?hr ?hp (fun _ hk => hk) trivial (Below.refl _ _) (Nat.le_refl _) (by simp) ?_; (case hd => rfl); (case hg => rfl); (case hr => first | (go_simp; done) | (go_simp; rfl)); (case hp => exact (Reps.none _ _)); intro v473 w12 ho13 hb hg_ hnew_; clear hg_ hnew_; (first | rw [← Ny472.out] at ho13 | (simp only [Int.reduceToNat] at ho13; rw [← Ny472.out] at ho13)); have HO474 := am (Kd.S_lower ho13 (below_size bw)); replace HB := am (below_step bw hb); clear hb ho13; have p475 : 0 ≤ (0 : Int) := (by omega); have q475 : 0 < (l0.length : Int) := of_decide_eq_true (by first | (with_reducible assumption) | assumption); obtain ⟨ad475, e475, hx475_0⟩ := Kd.at_int HR0.out 0 p475 q475; cases e475; have qi475 : (0 < l0.length) = True := eq_true (by omega); (try rw [show ((0 : Int)).toNat = 0 from rfl] at hx475_0); (try rw [Addr.add_zero'] at hx475_0); replace hx475_0 := hw HB hx475_0; replace p475 := eq_true p475; replace q475 := eq_true q475))
 go_loopg [5, 6] k (fun kq v5 v6 w' => ∃ (x5_1 : List (List Int)) (x6_1 : Int), v6 = .int .i64 x6_1 ∧ Aside0 (impl_factored.l0 kq l0 a1 x5_1 x6_1 = some r) ∧ Aside0 (kq ≤ k) ∧ Aside0 (Kd.S (Kd.slice 3 (Kd.int .i64)) 22 w' w.heap.size (fun _ => True) v5 x5_1) ∧ Aside0 (Below w.heap.size w w'))
 case atStart => exact ⟨(y472), (wrap64 (Int.tdiv a1 (rd l0 0))), rr, H', ⟨Nat.le_refl _⟩, ⟨so HO474.out⟩, ⟨bw⟩⟩
 case round =>
  clear H'
  try clear c3; try clear c3b0; try clear c3b1; try clear c3b2; try clear c4; try clear c4b0; try clear c4b1; try clear c10; try clear c10b0; try clear c10b1; try clear c11; try clear c11b0; try clear c11b1; try clear hx475_0; try clear p475; try clear q475
  obtain ⟨x5_1, x6_1, rfl, HA, HK1, HO_5, HB⟩ := hrel
  cases gk with
  | zero => exact absurd HA.out (by simp [impl_factored.l0])
  | succ k1 =>
   have H := HA.out
   clear HA
   simp only [impl_factored.l0] at H
   replace H := gj H; obtain ⟨c14, H⟩ | ⟨c14, H⟩ := H
   ·have c14b0 : decide (0 ≤ x6_1) = true := decide_eq_true c14
    clear c14
    replace H := gp H; obtain ⟨c15, H⟩ := H
    have c15b0 := eq_true c15
    have c15b1 : decide (1 ≤ (l0.length : Int)) = true := decide_eq_true c15
    clear c15
    replace H := gp H; obtain ⟨c16, H⟩ := H
    have c16b0 : decide (0 < (l0.length : Int)) = true := decide_eq_true c16
    have c16b1 : decide (0 < l0.length) = true := decide_eq_true (by omega)
    clear c16
    replace H := ga H; obtain ⟨t478, A17, H⟩ := H
    have H' := am H
    clear H
    try go_wp2
    replace HO_5 := am (Kd.S_drew HO_5.out)
    replace HB := am (below_drew1 HB.out)
    obtain ⟨i019, hi019, _, hsz19, _⟩ := info_parts info3
    obtain ⟨A19, hcut19, hA19, hC19⟩ := print_drop_of (P := Try.prog) (Value.int .i64) 0 22 3 .i64 Try.underlying22 hi019 hsz19 (some ad475) c0 l0 1 (by omega) (of_decide_eq_true (by first | (with_reducible assumption) | assumption)) HC0.out
    have HR476 := am (Kd.C_of_reads (h1 := fun _ => rfl) (hA19 _ (Kd.reads_of_C HR0.out)))
    have HC476 := am hC19
    clear hA19 hC19 hi019 hsz19
    have p477 : 0 ≤ (0 : Int) := (by omega)
    have q477 : 0 < (l0.length : Int) := of_decide_eq_true (by first | (with_reducible assumption) | assumption)
    obtain ⟨ad477, e477, hx477_0⟩ := Kd.at_int HR0.out 0 p477 q477
    have hw477_0 := hx477_0
    (try rw [show ((0 : Int)).toNat = 0 from rfl] at hw477_0)
    (try rw [show 0 * 1 = 0 from rfl] at hw477_0)
    (try rw [Addr.add_zero'] at hw477_0)
    obtain rfl : ad475 = ad477 := (by injection e477)
    have qi477 : (0 < l0.length) = True := eq_true (by omega)
    (try rw [show ((0 : Int)).toNat = 0 from rfl] at hx477_0)
    (try rw [Addr.add_zero'] at hx477_0)
    replace hx477_0 := hw HB hx477_0
    replace p477 := eq_true p477
    replace q477 := eq_true q477
    refine start_ (n := 12) (S := fun w' => w'.cell? ad475 = some (.int .i64 (rd l0 0))) (ds := []) (yz 12 0) (by kernel_rfl) rfl rfl (((HB.out.cell (World.block_lt_of_cell? w _ hw477_0)).trans hw477_0)) (fun hHeld => ?_); refine with_tabW impl_factored.tab9 impl_factored.bits9 (fun HT_ HW_ => ?_)
    generalize wr.drew = w18 at HO_5 HB HR476 hx477_0 hHeld ⊢
    refine pa 0 (some 26) (yz 12 1) HT_ ?_
    refine pa 1 (some 27) (yz 12 3) HT_ ?_
    refine pa 2 (some 28) (yz 12 7) HT_ ?_
    refine pa 3 (some 29) (yz 12 15) HT_ ?_
    refine pa 4 (some 30) (yz 12 31) HT_ ?_
    refine pa 5 (some 31) (yz 12 63) HT_ ?_
    refine pa 11 (some 37) (yz 12 2111) HT_ ?_
    refine tK 6 (some 32) (yz 12 2175) HT_ HW_ hHeld ?_
    refine pa 7 (some 33) (yz 12 2303) HT_ ?_
    refine pa 8 (some 34) (yz 12 2559) HT_ ?_
    refine oa 9 (some 35) (yz 12 3071) HT_ (fun K hK => ?_)
    refine goes_ Try.func133 (by kernel_rfl) rfl #[.slice A19 (l0.drop 1).length (c0 - 1), .int .i64 (wrap64 (a1 - (wrap64 (x6_1 * (rd l0 0)))))] (by rfl) rfl rfl (by (try simp only [List.map_toArray, List.map_cons, List.map_nil]); first | done | (rw [show (l0.drop 1).length = (l0.length - 1) from List.length_drop] <;> rfl) | rfl | (simp only [List.length_drop, List.length_take]; rfl)) ?_
    with_reducible refine (ih k1 (by have := HK1.out; omega) _ _ (l0.drop 1) (wrap64 (a1 - (wrap64 (x6_1 * (rd l0 0))))) t478 _ ?side1 ?side2 A17.out).mono ?_
    (case side1 => exact co (Kd.C_below HR476.out HB.out))
    (case side2 => exact HC476.out)
    rintro e w20 ⟨v479, rfl, ho0, hb⟩
    refine ⟨_, rfl, ?_⟩
    have HO480 := am (Kd.S_lower (Kd.S_new' ho0 (Kd.S_lt (so HO_5.out))) (below_size bw))
    replace HO_5 := am (Kd.S_elder' (so HO_5.out) (Kd.S_base ho0) hb)
    replace HB := am (below_step bw hb)
    clear hb ho0
    obtain ⟨Ao21, co21, eo21⟩ := Kd.S_slice HO480.out
    (first | subst eo21 | (injection eo21 with f1_ f2_ f3_; have f4_ := f1_.symm; have f5_ := f3_.symm; clear f1_ f2_ f3_; subst f4_; subst f5_))
    refine hK.out _ _ (((HB.out.cell (World.block_lt_of_cell? w _ hw477_0)).trans hw477_0)) (fun hHeld => ?_)
    clear hK K
    refine nm (some 35) ?_
    refine pa 10 (some 36) (yz 12 4095) HT_ ?_
    refine done_ (done_of HT_.out (by kernel_rfl)) ?_
    try go_wp2
    go_loopg [5, 37] k1 (fun kq v5 v37 w' => ∃ (x5_2 : List (List Int)) (x37_2 : Int), v37 = .int .i64 x37_2 ∧ Aside0 (impl_factored.l1 kq l0 a1 x5_2 x6_1 t478 (t478.length : Int) x37_2 = some r) ∧ Aside0 (kq ≤ k1) ∧ Aside0 (Kd.S (Kd.slice 3 (Kd.int .i64)) 22 w' w.heap.size (fun k_ => nb k_ Ao21 t478 co21) v5 x5_2) ∧ Aside0 (Kd.S (Kd.slice 3 (Kd.int .i64)) 22 w' w.heap.size (fun k_ => some k_ ≠ (v5 : Value).ownBlock) (.slice Ao21 t478.length co21) t478) ∧ Aside0 (Below w.heap.size w w'))
    case atStart => exact ⟨(x5_1), (0), rr, H', ⟨Nat.le_refl _⟩, ⟨by (with_reducible repeat (first | apply Kd.S_alloc | apply Kd.S_drewN | apply Kd.S_drew)); exact Kd.S_mono HO_5.out (fun _ hk => hk.2)⟩, ⟨by (with_reducible repeat (first | apply Kd.S_alloc | apply Kd.S_drewN | apply Kd.S_drew)); exact Kd.S_mono HO480.out (fun _ hk => hk.2)⟩, ⟨bw⟩⟩
    case round =>
     clear H'
     try clear c3; try clear c3b0; try clear c3b1; try clear c3b2; try clear c4; try clear c4b0; try clear c4b1; try clear c10; try clear c10b0; try clear c10b1; try clear c11; try clear c11b0; try clear c11b1; try clear c14; try clear c14b0; try clear c15; try clear c15b0; try clear c15b1; try clear c16; try clear c16b0; try clear c16b1; try clear hx475_0; try clear hx477_0; try clear p475; try clear p477; try clear q475; try clear q477
     obtain ⟨x5_2, x37_2, rfl, HA, HK2, HO_5, HO_35, HB⟩ := hrel
     cases gk with
     | zero => exact absurd HA.out (by simp [impl_factored.l1])
     | succ k2 =>
      have H := HA.out
      clear HA
      simp only [impl_factored.l1] at H
      replace H := gi H; obtain ⟨c22b0, H⟩ | ⟨c22b0, H⟩ := H
      ·replace H := gd H; obtain ⟨c23b0, H⟩ := H
       replace H := gd H; obtain ⟨c24b0, H⟩ := H
       obtain ⟨y482, hy482⟩ : ∃ y_ : List Int, y_ = (([x6_1] : List Int)) := ⟨_, rfl⟩
       replace H : (if y482.length + (rd_L2 t478 x37_2).length < 17592186044416 then (if x5_2.length < 5864062014805 then (impl_factored.l1 k2 l0 a1 (x5_2 ++ [(y482 ++ (rd_L2 t478 x37_2))]) x6_1 t478 (t478.length : Int) (wrap64 (x37_2 + 1))) else (none)) else (none)) = some r := by first | (rw [hy482]; with_reducible first | exact H | exact bs H) | (with_reducible first | exact bs H | exact H) | (rw [hy482]; exact H) | exact H
       have Ny482 := am hy482
       clear hy482
       by_cases c25 : y482.length + (rd_L2 t478 x37_2).length < 17592186044416
       rotate_left
       ·rw [if_neg c25] at H
        exact absurd H (by simp)
       rw [if_pos c25] at H
       have LMc25 := am c25
       clear c25
       obtain ⟨y485, hy485⟩ : ∃ y_ : List Int, y_ = (y482 ++ (rd_L2 t478 x37_2)) := ⟨_, rfl⟩
       replace H : (if x5_2.length < 5864062014805 then (impl_factored.l1 k2 l0 a1 (x5_2 ++ [y485]) x6_1 t478 (t478.length : Int) (wrap64 (x37_2 + 1))) else (none)) = some r := by first | (rw [hy485]; with_reducible first | exact H | exact bs H) | (with_reducible first | exact bs H | exact H) | (rw [hy485]; exact H) | exact H
       have Ny485 := am hy485
       clear hy485
       by_cases c26 : x5_2.length < 5864062014805
       rotate_left
       ·rw [if_neg c26] at H
        exact absurd H (by simp)
       rw [if_pos c26] at H
       have LMc26 := am c26
       clear c26
       obtain ⟨y488, hy488⟩ : ∃ y_ : List (List Int), y_ = (x5_2 ++ [y485]) := ⟨_, rfl⟩
       replace H : (impl_factored.l1 k2 l0 a1 y488 x6_1 t478 (t478.length : Int) (wrap64 (x37_2 + 1))) = some r := by first | (rw [hy488]; with_reducible first | exact H | exact bs H) | (with_reducible first | exact bs H | exact H) | (rw [hy488]; exact H) | exact H
       have Ny488 := am hy488
       clear hy488
       have H' := am H
       clear H
       have p481 : 0 ≤ (x37_2 : Int) := of_decide_eq_true (by first | (with_reducible assumption) | assumption)
       have q481 : x37_2 < (t478.length : Int) := of_decide_eq_true (by first | (with_reducible assumption) | assumption)
       obtain ⟨ad481, A481_0, c481_0, e481, hx481_0, hl481_0, hi481_0⟩ := at_L2 (Kd.S_reads' HO_35.out).2.2 x37_2 p481 q481
       cases e481
       obtain ⟨ce481, hce481, hMe481, hcc481⟩ := Kd.S_get HO_35.out [] x37_2 p481 (by first | exact q481 | exact of_decide_eq_true (by first | (with_reducible assumption) | assumption) | (have e_ := (Kd.S_reads' HO_35.out).1; omega))
       obtain ⟨ve481_0, rfl, ge481_0⟩ := hMe481
       have hv481_0 := hcc481 0 _ rfl
       rw [Nat.add_zero, show ((Kd.slice 3 (Kd.int .i64))).sz = 1 from rfl, Nat.mul_one] at hv481_0
       replace hv481_0 := Option.some.inj (hv481_0.symm.trans hx481_0)
       rw [hv481_0] at ge481_0
       have HL481_0 := am (show Kd.R (Kd.int .i64) 3 _ _ _ _ (rd_L2 t478 x37_2) from ge481_0)
       clear hv481_0 ge481_0
       clear hcc481 hce481
       have HR481_0 := am hi481_0
       have HC481_0 := am hl481_0
       clear hi481_0 hl481_0
       replace p481 := eq_true p481
       replace q481 := eq_true q481
       go_wp2_with (first | ((with_reducible refine gate_dst (N := 43) rfl ?_); refine Kd.R_lit (Kd.int .i64) _ 3 ?hg (N := 43) ?hd (xs := ([x6_1] : List Int)) (inner := [.int .i64 x6_1]) (ok := fun _ => True) (okp := fun _ => True) ?hr ?hp (fun _ hk => hk) trivial (Below.refl _ _) (Nat.le_refl _) (by simp) ?_; (case hd => rfl); (case hg => rfl); (case hr => first | (go_simp; done) | (go_simp; rfl)); (case hp => exact (Reps.one (show Kd.M (Kd.int .i64) _ _ _ x6_1 [.int .i64 x6_1] from rfl) (Reps.none _ _))); intro v483 w27 ho28 hb hg_ hnew_; clear hg_ hnew_; (first | rw [← Ny482.out] at ho28 | (simp only [Int.reduceToNat] at ho28; rw [← Ny482.out] at ho28)); replace HO_5 := am (Kd.S_elder' (so HO_5.out) (Kd.R_base ho28) hb); replace HO_35 := am (Kd.S_elder' (so HO_35.out) (Kd.R_base ho28) hb); have HO484 := am (Kd.R_lower (Kd.R_new' ho28 (Kd.R_lt (ro HL481_0.out))) (below_size bw)); replace HL481_0 := am (Kd.R_elder' (ro HL481_0.out) (Kd.R_base ho28) hb); replace HR481_0 := am (Kd.C_below (co HR481_0.out) hb); replace HB := am (below_step bw hb); clear hb ho28) | ((with_reducible refine gate_builtin (b := .append) (xs := #[.tmp 43, .tmp 44]) rfl ?_); at_builtin; refine Kd.R_append_rows (Kd.int .i64) (w0 := w) w.heap.size rfl (.tmp 43) (.tmp 44) 22 3 (.int .i64 0) 8 rfl Try.underlying22 info3 rfl (by decide) (by omega) v483 y482 (rd_L2 t478 x37_2) _ _ _ (fun k_ => some k_ ≠ (.slice A481_0 (rd_L2 t478 x37_2).length c481_0 : Value).ownBlock) (fun _ => False) rfl rfl ?aO ?aR (fun _ _ h => h) (fun _ h => h.elim) ?aF ?aB ?aS ?aL ?_; (case aR => exact co HR481_0.out); (case aB => exact bw); (case aF => exact (fun k_ hk => Kd.fresh' (Kd.R_lt (ro HL481_0.out)) k_ hk)); (case aO => exact (by (with_reducible repeat (first | apply Kd.R_alloc | apply Kd.R_drewN | apply Kd.R_drew)); exact Kd.R_mono HO484.out (fun _ hk => hk.2))); (case aS => exact (below_size bw)); (case aL => have := LMc25.out; omega); intro v486 w29 ho hb hg hat; rw [← Ny485.out] at ho; replace HO_5 := am (Kd.S_after (ok := (fun k_ => some k_ ≠ (.slice (some ad481) t478.length co21 : Value).ownBlock)) (so HO_5.out) hg hat); replace HO_35 := am (Kd.S_after (ok := (fun k_ => some k_ ≠ (u5 : Value).ownBlock)) (so HO_35.out) hg hat); replace HL481_0 := am (Kd.R_after (ok := (fun k_ => some k_ ≠ (u5 : Value).ownBlock ∧ some k_ ≠ (.slice (some ad481) t478.length co21 : Value).ownBlock)) (ro HL481_0.out) hg hat); replace HB := am (hb); have HO487 := am (ho); clear HO484 ho hb hg hat; obtain ⟨Ao31, co31, eo31⟩ := Kd.R_slice HO487.out; subst eo31) | ((with_reducible refine gate_builtin (b := .append) (xs := #[.tmp 41, .tmp 46]) rfl ?_); at_builtin; refine Kd.S_append (Kd.slice 3 (Kd.int .i64)) (w0 := w) w.heap.size rfl (.tmp 41) (.tmp 46) 49 22 (.slice none 0 0) 24 rfl Try.underlying49 info22 rfl (by decide) (by omega) u5 x5_2 y485 [.slice Ao31 y485.length co31] (fun k_ => some k_ ≠ (.slice (some ad481) t478.length co21 : Value).ownBlock) (fun k_ => some k_ = (.slice Ao31 y485.length co31 : Value).ownBlock) rfl rfl ?aP (fun k_ hk_ => ((Kd.R_mono (ok' := fun k_ => ((fun k_ => some k_ ≠ (.slice (some ad481) t478.length co21 : Value).ownBlock)) k_ ∧ some k_ ≠ (u5 : Value).ownBlock) (Kd.R_apart' (Kd.R_apart' (HO487.out) (Kd.S_typed HO_35.out) (by decide)) (Kd.S_typed HO_5.out) (by decide)) (fun k_ hk => ⟨hk.1.2, hk.2⟩))).1 k_ hk_.symm) ?aF ?aO ?aB ?aS ?aL ?_; (case aP => exact Kd.M_row (Kd.R_mono (Kd.R_tight rfl (Kd.R_mono (ok' := fun k_ => ((fun k_ => some k_ ≠ (.slice (some ad481) t478.length co21 : Value).ownBlock)) k_ ∧ some k_ ≠ (u5 : Value).ownBlock) (Kd.R_apart' (Kd.R_apart' (HO487.out) (Kd.S_typed HO_35.out) (by decide)) (Kd.S_typed HO_5.out) (by decide)) (fun k_ hk => ⟨hk.1.2, hk.2⟩))) (fun _ h_ => h_))); (case aB => exact bw); (case aF => exact (fun k_ hk => Kd.fresh' (Kd.S_lt (so HO_35.out)) k_ hk)); (case aO => exact (by (with_reducible repeat (first | apply Kd.S_alloc | apply Kd.S_drewN | apply Kd.S_drew)); exact Kd.S_mono HO_5.out (fun k_ hk => ⟨hk.1, fun e_ => hk.2 e_⟩))); (case aS => exact (below_size bw)); (case aL => have := LMc26.out; omega); intro v489 w30 ho hb hg hat; rw [← Ny488.out] at ho; replace HO_35 := am (Kd.S_after (ok := (fun k_ => nb k_ Ao31 y485 co31)) (by (with_reducible repeat (first | apply Kd.S_alloc | apply Kd.S_drewN | apply Kd.S_drew)); exact Kd.S_mono HO_35.out (fun _ hk => by first | exact ⟨hk.2, hk.1⟩ | simp_all)) hg hat); replace HL481_0 := am (Kd.R_after (ok := (fun k_ => some k_ ≠ (.slice (some ad481) t478.length co21 : Value).ownBlock ∧ nb k_ Ao31 y485 co31)) (by (with_reducible repeat (first | apply Kd.R_alloc | apply Kd.R_drewN | apply Kd.R_drew)); exact Kd.R_mono HL481_0.out (fun _ hk => ⟨⟨hk.1.2, hk.2⟩, hk.1.1⟩)) hg hat); replace HB := am (hb); have HO490 := am (ho); clear HO_5 HO487 ho hb hg hat))
       go_roundg k2
       case measure => have := HK1.out; have := HK2.out; omega
       case rel => exact ⟨(y488), (wrap64 (x37_2 + 1)), rr, H', ⟨by have := HK1.out; have := HK2.out; omega⟩, ⟨so HO490.out⟩, ⟨by (with_reducible repeat (first | apply Kd.S_alloc | apply Kd.S_drewN | apply Kd.S_drew)); exact Kd.S_mono HO_35.out (fun _ hk => hk.2)⟩, ⟨bw⟩⟩
      have H' := am H
      clear H
      go_wp2
      go_roundg k2
      case measure => have := HK1.out; have := HK2.out; omega
      case rel => exact ⟨(x5_2), (wrap64 (x6_1 - 1)), rr, H', ⟨by have := HK1.out; have := HK2.out; omega⟩, ⟨by (with_reducible repeat (first | apply Kd.S_alloc | apply Kd.S_drewN | apply Kd.S_drew)); exact Kd.S_mono HO_5.out (fun _ hk => trivial)⟩, ⟨bw⟩⟩
   have c14b0 : decide (0 ≤ x6_1) = false := decide_eq_false c14
   clear c14
   obtain rfl := Option.some.inj H
   go_wp2
   go_ret
   exact ⟨_, re, by (with_reducible repeat (first | apply Kd.S_alloc | apply Kd.S_drewN | apply Kd.S_drew)); exact HO_5.out, bw⟩


/-! ### impl_Factorizations: function 82 -/
def impl_Factorizations.f (k : Nat) (l0_0 : List Int) (a1 : Int) : Option ((List (List Int))) := (impl_IsSemigroup.f k l0_0).bind fun t492 => (if t492 = true then ((impl_within.f a1 0 100).bind fun t493 => (if t493 = true then ((impl_factored.f k l0_0 a1).bind fun t494 => (some t494)) else (some ([] : List (List Int))))) else (some ([] : List (List Int))))
set_option maxHeartbeats 8000000 in
set_option maxRecDepth 100000 in
theorem impl_Factorizations.calls (k : Nat) (A0_0 : Option Addr) (c0_0 : Nat) (l0_0 : List Int) (a1 : Int) (r : List (List Int)) (w : World) (hr0_0 : Kd.C (Kd.int .i64) w A0_0 l0_0.length l0_0) (hc0_0 : l0_0.length ≤ c0_0) (h : impl_Factorizations.f k l0_0 a1 = some r) :
  Calls Try.prog 82 #[.agg #[.slice A0_0 l0_0.length c0_0], .int .i64 a1] w fun e w' => ∃ v0_ : Value, e = .returned (v0_) ∧ Kd.S (Kd.slice 3 (Kd.int .i64)) 22 w' w.heap.size (fun _ => True) v0_ r ∧ Below w.heap.size w w' := by
 have hu27 := Try.underlying27
 have HR0_0 := am hr0_0
 have HC0_0 := am hc0_0
 clear hr0_0 hc0_0
 have HB := am (Below.refl w.heap.size w)
 have H : ((impl_IsSemigroup.f k l0_0).bind fun t492 => (if t492 = true then ((impl_within.f a1 0 100).bind fun t493 => (if t493 = true then ((impl_factored.f k l0_0 a1).bind fun t494 => (some t494)) else (some ([] : List (List Int))))) else (some ([] : List (List Int))))) = some r := h
 clear h
 replace H := ga H; obtain ⟨t492, A3, H⟩ := H
 replace H := gb H; obtain ⟨rfl, H⟩ | ⟨rfl, H⟩ := H
 ·replace H := ga H; obtain ⟨t493, A5, H⟩ := H
  replace H := gb H; obtain ⟨rfl, H⟩ | ⟨rfl, H⟩ := H
  ·replace H := ga H; obtain ⟨t494, A7, H⟩ := H
   obtain rfl := Option.some.inj H
   go_enter Try.func82, Try.ntmps82
   go_wp2_with (first | ((with_reducible refine gate_dst (N := 2) rfl ?_); refine bx 2 #[.slice A0_0 l0_0.length c0_0] 27 ?_; intro gb491 hg w8 hbox hb; have BK491 := am (hbox); have GW491 := am (gs hg : w.heap.size ≤ gb491); have GE491 := GW491; replace HB := am (below_step bw hb); clear hb hbox hg; have hcz9_0 := bc BK491 0 (.slice A0_0 l0_0.length c0_0); have hfz9_0 := blk_frozen BK491.out 0) | ((with_reducible refine gate_callee (f := 62) rfl ?_); refine gl (some 6) Try.func62 #[.agg #[.slice A0_0 l0_0.length c0_0]] ?_; (with_reducible refine (impl_IsSemigroup.calls k _ _ l0_0 true _ ?side1 ?side2 A3.out).mono ?_); (case side1 => exact co (Kd.C_below HR0_0.out HB.out)); (case side2 => exact HC0_0.out); rintro e w10 ⟨rfl, hb⟩; refine ⟨_, rfl, ?_⟩; replace BK491 := kb BK491 hb; replace HB := am (below_step bw hb); clear hb) | (go_at_call 63; (with_reducible refine (impl_within.calls a1 0 100 true _ A5.out).mono ?_); rintro e w' ⟨rfl, ⟨nd, rfl⟩⟩; have hcz11_0 := bc BK491 0 (.slice A0_0 l0_0.length c0_0); have hfz11_0 := blk_frozen BK491.out 0) | ((with_reducible refine gate_callee (f := 133) rfl ?_); refine gl (some 16) Try.func133 #[.slice A0_0 l0_0.length c0_0, .int .i64 a1] ?_; (with_reducible refine (impl_factored.calls k _ _ l0_0 a1 t494 _ ?side1 ?side2 A7.out).mono ?_); (case side1 => exact co (Kd.C_below HR0_0.out bw)); (case side2 => exact HC0_0.out); rintro e w12 ⟨v495, rfl, ho0, hb⟩; refine ⟨_, rfl, ?_⟩; have HO496 := am (Kd.S_lower ho0 (below_size bw)); replace BK491 := kb BK491 hb; replace HB := am (below_step bw hb); clear hb ho0))
   go_ret
   exact ⟨_, re, by (with_reducible repeat (first | apply Kd.S_alloc | apply Kd.S_drewN | apply Kd.S_drew)); exact HO496.out, bw⟩
  obtain rfl := Option.some.inj H
  go_enter Try.func82, Try.ntmps82
  go_wp2_with (first | ((with_reducible refine gate_dst (N := 2) rfl ?_); refine bx 2 #[.slice A0_0 l0_0.length c0_0] 27 ?_; intro gb491 hg w13 hbox hb; have BK491 := am (hbox); have GW491 := am (gs hg : w.heap.size ≤ gb491); have GE491 := GW491; replace HB := am (below_step bw hb); clear hb hbox hg; have hcz14_0 := bc BK491 0 (.slice A0_0 l0_0.length c0_0); have hfz14_0 := blk_frozen BK491.out 0) | ((with_reducible refine gate_callee (f := 62) rfl ?_); refine gl (some 6) Try.func62 #[.agg #[.slice A0_0 l0_0.length c0_0]] ?_; (with_reducible refine (impl_IsSemigroup.calls k _ _ l0_0 true _ ?side1 ?side2 A3.out).mono ?_); (case side1 => exact co (Kd.C_below HR0_0.out HB.out)); (case side2 => exact HC0_0.out); rintro e w15 ⟨rfl, hb⟩; refine ⟨_, rfl, ?_⟩; replace BK491 := kb BK491 hb; replace HB := am (below_step bw hb); clear hb) | (go_at_call 63; (with_reducible refine (impl_within.calls a1 0 100 false _ A5.out).mono ?_); rintro e w' ⟨rfl, ⟨nd, rfl⟩⟩))
  go_ret
  exact ⟨_, re, by first | exact Kd.S_nil _ _ _ _ _ | exact Kd.N_nil _ _ _ _ _ | exact Kd.V_nil _ _ _ _ _ | exact Kd.Q_nil _ _ _ _ _ | exact Kd.R_nil _ _ _ _ _, bw⟩
 obtain rfl := Option.some.inj H
 go_enter Try.func82, Try.ntmps82
 go_wp2_with (first | ((with_reducible refine gate_dst (N := 2) rfl ?_); refine bx 2 #[.slice A0_0 l0_0.length c0_0] 27 ?_; intro gb491 hg w16 hbox hb; have BK491 := am (hbox); have GW491 := am (gs hg : w.heap.size ≤ gb491); have GE491 := GW491; replace HB := am (below_step bw hb); clear hb hbox hg; have hcz17_0 := bc BK491 0 (.slice A0_0 l0_0.length c0_0); have hfz17_0 := blk_frozen BK491.out 0) | ((with_reducible refine gate_callee (f := 62) rfl ?_); refine gl (some 6) Try.func62 #[.agg #[.slice A0_0 l0_0.length c0_0]] ?_; (with_reducible refine (impl_IsSemigroup.calls k _ _ l0_0 false _ ?side1 ?side2 A3.out).mono ?_); (case side1 => exact co (Kd.C_below HR0_0.out HB.out)); (case side2 => exact HC0_0.out); rintro e w18 ⟨rfl, hb⟩; refine ⟨_, rfl, ?_⟩; replace BK491 := kb BK491 hb; replace HB := am (below_step bw hb); clear hb))
 go_ret
 exact ⟨_, re, by first | exact Kd.S_nil _ _ _ _ _ | exact Kd.N_nil _ _ _ _ _ | exact Kd.V_nil _ _ _ _ _ | exact Kd.Q_nil _ _ _ _ _ | exact Kd.R_nil _ _ _ _ _, bw⟩


/-! ### impl_linked: function 83 -/
def impl_linked.l0 : Nat → List Int → List Int → Int → Int → Option (Bool)
 | 0, _, _, _, _ => none
 | k + 1, x0, x1, x7, x8 => if x8 < x7 then (if 0 ≤ x8 then (if x8 < (x0.length : Int) then (if (rd x0 x8) = 0 then (impl_linked.l0 k x0 x1 x7 (wrap64 (x8 + 1))) else (if x8 < (x1.length : Int) then (if (rd x1 x8) = 0 then (impl_linked.l0 k x0 x1 x7 (wrap64 (x8 + 1))) else (some true)) else (none))) else (none)) else (none)) else (some false)
def impl_linked.f (k : Nat) (l0 : List Int) (l1 : List Int) : Option (Bool) := impl_linked.l0 k l0 l1 (l0.length : Int) 0
set_option maxHeartbeats 8000000 in
set_option maxRecDepth 100000 in
theorem impl_linked.calls (k : Nat) (A0 : Option Addr) (c0 : Nat) (l0 : List Int) (A1 : Option Addr) (c1 : Nat) (l1 : List Int) (r : Bool) (w : World) (hr0 : Kd.C (Kd.int .i64) w A0 l0.length l0) (hc0 : l0.length ≤ c0) (hr1 : Kd.C (Kd.int .i64) w A1 l1.length l1) (hc1 : l1.length ≤ c1) (h : impl_linked.f k l0 l1 = some r) :
  Calls Try.prog 83 #[.slice A0 l0.length c0, .slice A1 l1.length c1] w fun e w' => e = .returned (.bool r) ∧ Drawn0 w w' := by
 have HR0 := am hr0
 have HC0 := am hc0
 clear hr0 hc0
 have HR1 := am hr1
 have HC1 := am hc1
 clear hr1 hc1
 have H : (impl_linked.l0 k l0 l1 (l0.length : Int) 0) = some r := h
 clear h
 have H' := am H
 clear H
 go_enter Try.func83, Try.ntmps83
 go_wp2
 go_loopg [8] k (fun kq v8 w' => ∃ (x8_1 : Int), v8 = .int .i64 x8_1 ∧ Aside0 (impl_linked.l0 kq l0 l1 (l0.length : Int) x8_1 = some r) ∧ Aside0 (kq ≤ k) ∧ Drawn0 w w')
 case atStart => exact ⟨(0), rr, H', ⟨Nat.le_refl _⟩, dw⟩
 case round =>
  clear H'
  try clear c1
  obtain ⟨x8_1, rfl, HA, HK1, ⟨m1, rfl⟩⟩ := hrel
  cases gk with
  | zero => exact absurd HA.out (by simp [impl_linked.l0])
  | succ k1 =>
   have H := HA.out
   clear HA
   simp only [impl_linked.l0] at H
   replace H := gi H; obtain ⟨c3b0, H⟩ | ⟨c3b0, H⟩ := H
   ·replace H := gd H; obtain ⟨c4b0, H⟩ := H
    replace H := gd H; obtain ⟨c5b0, H⟩ := H
    by_cases c6 : (rd l0 x8_1) = 0
    ·rw [if_pos c6] at H
     have c6b0 : ((rd l0 x8_1) == 0) = true := beq_iff_eq.mpr c6
     have c6b1 : ((rd l0 x8_1) != 0) = false := bne_eq_false_iff_eq.mpr c6
     clear c6
     have H' := am H
     clear H
     obtain ⟨⟨ad497, e497, hx497_0⟩, p497, q497⟩ := pq (Kd.at_int HR0.out x8_1)
     cases e497
     go_wp2
     go_roundg k1
     case measure => have := HK1.out; omega
     case rel => exact ⟨(wrap64 (x8_1 + 1)), rr, H', ⟨by have := HK1.out; omega⟩, dw⟩
    rw [if_neg c6] at H
    have c6b0 : ((rd l0 x8_1) == 0) = false := beq_eq_false_iff_ne.mpr c6
    have c6b1 : ((rd l0 x8_1) != 0) = true := bne_iff_ne.mpr c6
    replace H := gd H; obtain ⟨c7b0, H⟩ := H
    by_cases c8 : (rd l1 x8_1) = 0
    ·rw [if_pos c8] at H
     have c8b0 : ((rd l1 x8_1) == 0) = true := beq_iff_eq.mpr c8
     have c8b1 : ((rd l1 x8_1) != 0) = false := bne_eq_false_iff_eq.mpr c8
     clear c8
     have H' := am H
     clear H
     obtain ⟨⟨ad497, e497, hx497_0⟩, p497, q497⟩ := pq (Kd.at_int HR0.out x8_1)
     cases e497
     obtain ⟨⟨ad498, e498, hx498_0⟩, p498, q498⟩ := pq (Kd.at_int HR1.out x8_1)
     cases e498
     go_wp2
     go_roundg k1
     case measure => have := HK1.out; omega
     case rel => exact ⟨(wrap64 (x8_1 + 1)), rr, H', ⟨by have := HK1.out; omega⟩, dw⟩
    rw [if_neg c8] at H
    have c8b0 : ((rd l1 x8_1) == 0) = false := beq_eq_false_iff_ne.mpr c8
    have c8b1 : ((rd l1 x8_1) != 0) = true := bne_iff_ne.mpr c8
    obtain rfl := Option.some.inj H
    obtain ⟨⟨ad497, e497, hx497_0⟩, p497, q497⟩ := pq (Kd.at_int HR0.out x8_1)
    cases e497
    obtain ⟨⟨ad498, e498, hx498_0⟩, p498, q498⟩ := pq (Kd.at_int HR1.out x8_1)
    cases e498
    go_wp2
    go_ret
    exact ⟨rr, dw⟩
   obtain rfl := Option.some.inj H
   go_wp2
   go_ret
   exact ⟨rr, dw⟩

end Go.Proofs.Ytlfdipnhlmjiaaa.C
