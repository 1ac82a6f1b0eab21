/- Contracts of functions of the program: impl_chained. -/
import Derived.Test.YtlfdipnhlmjiaaaC0
import Derived.Test.YtlfdipnhlmjiaaaC8
namespace Go.Proofs.Ytlfdipnhlmjiaaa.C
open Go.RowKit Go.Proofs.YtlfdipnhlmjiaaaW.PrintWords Go.Proofs.YtlfdipnhlmjiaaaW.PrintLast Go.Proofs.YtlfdipnhlmjiaaaW.PrintMore
attribute [local go_sem] max2_int min2_int max_two min_two max_three min_three max_four min_four
set_option linter.unusedVariables false
set_option linter.unusedSimpArgs false

/-! ### impl_chained: function 96 -/
mutual
def impl_chained.l0 : Nat → List (List Int) → List Int → List Bool → Int → Int → Option (Int)
 | 0, _, _, _, _, _ => none
 | k + 1, x0, x3, x4, x20, x21 => if x21 < x20 then (if 0 < (x0.length : Int) then (if 0 ≤ x21 then (if x21 < (x0.length : Int) then ((impl_apart.f k (rd_L2 x0 0) (rd_L2 x0 x21)).bind fun t464 => (if x21 < (x3.length : Int) then (impl_chained.l0 k x0 (x3.set (x21 : Int).toNat t464) x4 x20 (wrap64 (x21 + 1))) else (none))) else (none)) else (none)) else (none)) else (if 0 < (x4.length : Int) then (impl_chained.l1 k x0 x3 (x4.set (0 : Int).toNat true) 0 (wrap64 ((x0.length : Int) - 1)) 0) else (none))
def impl_chained.l1 : Nat → List (List Int) → List Int → List Bool → Int → Int → Int → Option (Int)
 | 0, _, _, _, _, _, _ => none
 | k + 1, x0, x3, x4, x6, x40, x41 => if x41 < x40 then (impl_chained.l2 k x0 x3 x4 x6 (-1) x40 x41 (x0.length : Int) 0) else (some x6)
def impl_chained.l2 : Nat → List (List Int) → List Int → List Bool → Int → Int → Int → Int → Int → Int → Option (Int)
 | 0, _, _, _, _, _, _, _, _, _ => none
 | k + 1, x0, x3, x4, x6, x7, x40, x41, x44, x45 => if x45 < x44 then (if 0 ≤ x45 then (if x45 < (x4.length : Int) then (if rdOf false x4 x45 = true then (impl_chained.l2 k x0 x3 x4 x6 x7 x40 x41 x44 (wrap64 (x45 + 1))) else (if x7 < 0 then (impl_chained.l2 k x0 x3 x4 x6 x45 x40 x41 x44 (wrap64 (x45 + 1))) else (if x45 < (x3.length : Int) then (if 0 ≤ x7 then (if x7 < (x3.length : Int) then (if (rd x3 x45) < (rd x3 x7) then (impl_chained.l2 k x0 x3 x4 x6 x45 x40 x41 x44 (wrap64 (x45 + 1))) else (impl_chained.l2 k x0 x3 x4 x6 x7 x40 x41 x44 (wrap64 (x45 + 1)))) else (none)) else (none)) else (none)))) else (none)) else (none)) else (if 0 ≤ x7 then (if x7 < (x4.length : Int) then (if x7 < (x3.length : Int) then (impl_chained.l3 k x0 x3 (x4.set (x7 : Int).toNat true) (mx x6 (rd x3 x7)) x7 x40 x41 (x0.length : Int) 0) else (none)) else (none)) else (none))
def impl_chained.l3 : Nat → List (List Int) → List Int → List Bool → Int → Int → Int → Int → Int → Int → Option (Int)
 | 0, _, _, _, _, _, _, _, _, _ => none
 | k + 1, x0, x3, x4, x6, x7, x40, x41, x80, x81 => if x81 < x80 then (if 0 ≤ x81 then (if x81 < (x3.length : Int) then (if 0 ≤ x7 then (if x7 < (x0.length : Int) then (if x81 < (x0.length : Int) then ((impl_apart.f k (rd_L2 x0 x7) (rd_L2 x0 x81)).bind fun t475 => (impl_chained.l3 k x0 (x3.set (x81 : Int).toNat (mn (rd x3 x81) t475)) x4 x6 x7 x40 x41 x80 (wrap64 (x81 + 1)))) else (none)) else (none)) else (none)) else (none)) else (none)) else (impl_chained.l1 k x0 x3 x4 x6 x40 (wrap64 (x41 + 1)))
end
def impl_chained.f (k : Nat) (l0 : List (List Int)) : Option (Int) := if (l0.length : Int) < 2 then (some 0) else (if 0 ≤ (l0.length : Int) then (if ((l0.length : Int) : Int).toNat ≤ 35184372088832 then (if ((l0.length : Int) : Int).toNat ≤ 281474976710656 then (impl_chained.l0 k l0 (List.replicate ((l0.length : Int) : Int).toNat 0) (List.replicate ((l0.length : Int) : Int).toNat false) (l0.length : Int) 0) else (none)) else (none)) else (none))
def impl_chained.T8 : Bool × List (List Nat × List Nat) := (true, [([], []), ([], []), ([], []), ([2], [2]), ([3], [3]), ([], []), ([], []), ([5, 6], [5, 6]), ([7], [7]), ([4, 8], [4, 8]), ([0, 1, 0, 1, 2, 3, 4, 5, 6, 7, 8, 9], [0, 1]), ([10, 9, 9, 0, 1, 2, 3, 4, 5, 6, 7, 8, 9], [9, 10])])
def impl_chained.B8 : List Nat := [0, 0, 0, 4, 12, 0, 0, 96, 224, 508, 1023, 2047]
theorem impl_chained.tab8 : rtab .any (opsOf Try.f96 8) = impl_chained.T8 := by kernel_rfl
theorem impl_chained.bits8 : waitsOk impl_chained.T8.2 impl_chained.B8 = true := by kernel_rfl
def impl_chained.T18 : Bool × List (List Nat × List Nat) := (true, [([], []), ([], []), ([0, 1], [0, 1]), ([2], [2]), ([3], [3]), ([4], [4]), ([5], [5]), ([6, 5], [5, 6]), ([7, 5, 5], [5, 7]), ([8], [8]), ([8], [8]), ([9, 10, 8], [8, 9, 10]), ([11, 8], [8, 11]), ([8], [8]), ([8], [8]), ([13, 14, 8], [8, 13, 14]), ([15, 8], [8, 15]), ([12, 16, 8], [8, 12, 16]), ([8, 17, 5], [5, 8, 17]), ([5, 18], [5, 18])])
def impl_chained.B18 : List Nat := [0, 0, 3, 7, 15, 31, 63, 127, 255, 511, 511, 2047, 4095, 511, 511, 25087, 57855, 131071, 262143, 524287]
theorem impl_chained.tab18 : rtab .any (opsOf Try.f96 18) = impl_chained.T18 := by kernel_rfl
theorem impl_chained.bits18 : waitsOk impl_chained.T18.2 impl_chained.B18 = true := by kernel_rfl
def impl_chained.T26 : Bool × List (List Nat × List Nat) := (true, [([], []), ([], []), ([], []), ([], []), ([2, 3], [2, 3]), ([4], [4]), ([], []), ([], []), ([6, 7], [6, 7]), ([8], [8]), ([], []), ([], []), ([10, 11], [10, 11]), ([12], [12]), ([9, 13], [9, 13]), ([5, 14], [5, 14]), ([0, 1, 0, 1, 2, 3, 4, 5, 6, 7, 8, 9, 10, 11, 12, 13, 14, 15], [0, 1]), ([16, 15, 14, 0, 1, 2, 3, 4, 5, 6, 7, 8, 9, 10, 11, 12, 13, 14, 15], [15, 16])])
def impl_chained.B26 : List Nat := [0, 0, 0, 0, 12, 28, 0, 0, 192, 448, 0, 0, 3072, 7168, 16320, 32764, 65535, 131071]
theorem impl_chained.tab26 : rtab .any (opsOf Try.f96 26) = impl_chained.T26 := by kernel_rfl
theorem impl_chained.bits26 : waitsOk impl_chained.T26.2 impl_chained.B26 = true := by kernel_rfl
set_option maxHeartbeats 8000000 in
set_option maxRecDepth 100000 in
theorem impl_chained.calls (k : Nat) (A0 : Option Addr) (c0 : Nat) (l0 : List (List Int)) (r : Int) (w : World) (hr0 : Kd.C (Kd.slice 3 (Kd.int .i64)) w A0 l0.length l0) (hc0 : l0.length ≤ c0) (h : impl_chained.f k l0 = some r) :
  Calls Try.prog 96 #[.slice A0 l0.length c0] w fun e w' => e = .returned (.int .i64 r) ∧ Below w.heap.size w w' := by
 have HR0 := am hr0
 have HC0 := am hc0
 clear hr0 hc0
 have HB := am (Below.refl w.heap.size w)
 have H : (if (l0.length : Int) < 2 then (some 0) else (if 0 ≤ (l0.length : Int) then (if ((l0.length : Int) : Int).toNat ≤ 35184372088832 then (if ((l0.length : Int) : Int).toNat ≤ 281474976710656 then (impl_chained.l0 k l0 (List.replicate ((l0.length : Int) : Int).toNat 0) (List.replicate ((l0.length : Int) : Int).toNat false) (l0.length : Int) 0) else (none)) else (none)) else (none))) = some r := h
 clear h
 replace H := gj H; obtain ⟨c2, H⟩ | ⟨c2, H⟩ := H
 ·have c2b0 : decide ((l0.length : Int) < 2) = true := decide_eq_true c2
  have c2b1 : decide (l0.length < 2) = true := decide_eq_true (by omega)
  clear c2
  obtain rfl := Option.some.inj H
  go_enter Try.func96, Try.ntmps96
  go_wp2
  go_ret
  exact ⟨re, bw⟩
 have c2b0 : decide ((l0.length : Int) < 2) = false := decide_eq_false c2
 have c2b1 : decide (l0.length < 2) = false := decide_eq_false (by omega)
 clear c2
 replace H := gp H; obtain ⟨c3, H⟩ := H
 have c3b0 := eq_true c3
 have c3b1 : decide (0 ≤ (l0.length : Int)) = true := decide_eq_true c3
 clear c3
 replace H := gp H; obtain ⟨c4, H⟩ := H
 have c4b0 := eq_true c4
 have c4b1 : decide (((l0.length : Int) : Int).toNat ≤ 35184372088832) = true := decide_eq_true c4
 clear c4
 obtain ⟨y456, hy456⟩ : ∃ y_ : List Int, y_ = (List.replicate ((l0.length : Int) : Int).toNat 0) := ⟨_, rfl⟩
 replace H : (if ((l0.length : Int) : Int).toNat ≤ 281474976710656 then (impl_chained.l0 k l0 y456 (List.replicate ((l0.length : Int) : Int).toNat false) (l0.length : Int) 0) else (none)) = some r := by first | (rw [hy456]; with_reducible first | exact H | exact bs H) | (with_reducible first | exact bs H | exact H) | (rw [hy456]; exact H) | exact H
 have Ny456 := am hy456
 clear hy456
 replace H := gp H; obtain ⟨c5, H⟩ := H
 have c5b0 := eq_true c5
 have c5b1 : decide (((l0.length : Int) : Int).toNat ≤ 281474976710656) = true := decide_eq_true c5
 clear c5
 obtain ⟨y459, hy459⟩ : ∃ y_ : List Bool, y_ = (List.replicate ((l0.length : Int) : Int).toNat false) := ⟨_, rfl⟩
 replace H : (impl_chained.l0 k l0 y456 y459 (l0.length : Int) 0) = some r := by first | (rw [hy459]; with_reducible first | exact H | exact bs H) | (with_reducible first | exact bs H | exact H) | (rw [hy459]; exact H) | exact H
 have Ny459 := am hy459
 clear hy459
 have H' := am H
 clear H
 go_enter Try.func96, Try.ntmps96
 go_wp2_with (first | ((with_reducible refine gate_dst (N := 15) rfl ?_); refine Kd.R_make (Kd.int .i64) _ 3 rfl (N := 15) rfl 22 _ _ rfl (l0.length : Int) rfl rfl Try.underlying22 (.int .i64 0) 8 info3 rfl (by decide) (by omega) 0 (ok := fun _ => True) (okp := fun _ => True) rfl (fun _ hk => hk) trivial (of_decide_eq_true (by first | (with_reducible assumption) | assumption)) (Nat.le_trans (Nat.mul_le_mul_right _ (of_decide_eq_true (by first | (with_reducible assumption) | assumption) : (l0.length : Int).toNat ≤ 35184372088832)) (by omega)) (Below.refl _ _) (Nat.le_refl _) ?_; intro v457 w6 ho7 hb hg_ hnew_; clear hg_ hnew_; (first | rw [← Ny456.out] at ho7 | (simp only [Int.reduceToNat] at ho7; rw [← Ny456.out] at ho7)); have HO458 := am (Kd.R_lower ho7 (below_size bw)); replace HB := am (below_step bw hb); clear hb ho7) | ((with_reducible refine gate_dst (N := 18) rfl ?_); refine Kd.R_make Kd.bool _ 4 rfl (N := 18) rfl 90 _ _ rfl (l0.length : Int) rfl rfl Try.underlying90 (.bool false) 1 info4 rfl (by decide) (by omega) false (ok := fun _ => True) (okp := fun _ => True) rfl (fun _ hk => hk) trivial (of_decide_eq_true (by first | (with_reducible assumption) | assumption)) (Nat.le_trans (Nat.mul_le_mul_right _ (of_decide_eq_true (by first | (with_reducible assumption) | assumption) : (l0.length : Int).toNat ≤ 281474976710656)) (by omega)) (Below.refl _ _) (Nat.le_refl _) ?_; intro v460 w8 ho9 hb hg_ hnew_; clear hg_ hnew_; (first | rw [← Ny459.out] at ho9 | (simp only [Int.reduceToNat] at ho9; rw [← Ny459.out] at ho9)); replace HO458 := rK HO458 hb; have HO461 := am (Kd.R_lower ho9 (below_size bw)); replace HB := am (below_step bw hb); clear hb ho9))
 go_loopg [21] k (fun kq v21 w' => ∃ (x3_1 : List Int) (x21_1 : Int), v21 = .int .i64 x21_1 ∧ Aside0 (impl_chained.l0 kq l0 x3_1 y459 (l0.length : Int) x21_1 = some r) ∧ Aside0 (kq ≤ k) ∧ Aside0 (Kd.R (Kd.int .i64) 3 w' w.heap.size (fun _ => True) v457 x3_1) ∧ Aside0 (Kd.R Kd.bool 4 w' w.heap.size (fun _ => True) v460 y459) ∧ Aside0 (Below w.heap.size w w'))
 case atStart => exact ⟨(y456), (0), rr, H', ⟨Nat.le_refl _⟩, ⟨ro HO458.out⟩, ⟨ro HO461.out⟩, ⟨bw⟩⟩
 case round =>
  clear H'
  try clear c2; try clear c2b0; try clear c2b1; try clear c3; try clear c3b0; try clear c3b1; try clear c4; try clear c4b0; try clear c4b1; try clear c5; try clear c5b0; try clear c5b1
  obtain ⟨x3_1, x21_1, rfl, HA, HK1, HO_3, HO_4, HB⟩ := hrel
  cases gk with
  | zero => exact absurd HA.out (by simp [impl_chained.l0])
  | succ k1 =>
   have H := HA.out
   clear HA
   simp only [impl_chained.l0] at H
   replace H := gi H; obtain ⟨c10b0, H⟩ | ⟨c10b0, H⟩ := H
   ·replace H := gp H; obtain ⟨c11, H⟩ := H
    have c11b0 : decide (0 < (l0.length : Int)) = true := decide_eq_true c11
    have c11b1 : decide (0 < l0.length) = true := decide_eq_true (by omega)
    clear c11
    replace H := gd H; obtain ⟨c12b0, H⟩ := H
    replace H := gd H; obtain ⟨c13b0, H⟩ := H
    replace H := ga H; obtain ⟨t464, A14, H⟩ := H
    replace H := gd H; obtain ⟨c15b0, H⟩ := H
    obtain ⟨y465, hy465⟩ : ∃ y_ : List Int, y_ = (x3_1.set (x21_1 : Int).toNat t464) := ⟨_, rfl⟩
    replace H : (impl_chained.l0 k1 l0 y465 y459 (l0.length : Int) (wrap64 (x21_1 + 1))) = some r := by first | (rw [hy465]; with_reducible first | exact H | exact bs H) | (with_reducible first | exact bs H | exact H) | (rw [hy465]; exact H) | exact H
    have Ny465 := am hy465
    clear hy465
    have H' := am H
    clear H
    try go_wp2
    replace HO_3 := am (Kd.R_drew HO_3.out)
    replace HO_4 := am (Kd.R_drew HO_4.out)
    replace HB := am (below_drew1 HB.out)
    have p462 : 0 ≤ (0 : Int) := (by omega)
    have q462 : 0 < (l0.length : Int) := of_decide_eq_true (by first | (with_reducible assumption) | assumption)
    obtain ⟨ad462, A462_0, c462_0, e462, hx462_0, hl462_0, hi462_0⟩ := at_L2 HR0.out 0 p462 q462
    have hw462_0 := hx462_0
    (try rw [show ((0 : Int)).toNat = 0 from rfl] at hw462_0)
    (try rw [show 0 * 1 = 0 from rfl] at hw462_0)
    (try rw [Addr.add_zero'] at hw462_0)
    cases e462
    have qi462 : (0 < l0.length) = True := eq_true (by omega)
    (try rw [show ((0 : Int)).toNat = 0 from rfl] at hx462_0)
    (try rw [Addr.add_zero'] at hx462_0)
    replace hx462_0 := hw HB hx462_0
    have HR462_0 := am hi462_0
    have HC462_0 := am hl462_0
    clear hi462_0 hl462_0
    replace p462 := eq_true p462
    replace q462 := eq_true q462
    have p463 : 0 ≤ (x21_1 : Int) := of_decide_eq_true (by first | (with_reducible assumption) | assumption)
    have q463 : x21_1 < (l0.length : Int) := of_decide_eq_true (by first | (with_reducible assumption) | assumption)
    obtain ⟨ad463, A463_0, c463_0, e463, hx463_0, hl463_0, hi463_0⟩ := at_L2 HR0.out x21_1 p463 q463
    have hw463_0 := hx463_0
    obtain rfl : ad462 = ad463 := (by injection e463)
    replace hx463_0 := hw HB hx463_0
    have HR463_0 := am hi463_0
    have HC463_0 := am hl463_0
    clear hi463_0 hl463_0
    replace p463 := eq_true p463
    replace q463 := eq_true q463
    refine start_ (n := 12) (S := fun w' => w'.cell? ad462 = some (.slice A462_0 (rd_L2 l0 0).length c462_0) ∧ w'.cell? (ad462.add (x21_1).toNat) = some (.slice A463_0 (rd_L2 l0 x21_1).length c463_0)) (ds := [11]) (yz 12 0) (by kernel_rfl) rfl rfl ⟨((HB.out.cell (World.block_lt_of_cell? w _ hw462_0)).trans hw462_0), ((HB.out.cell (World.block_lt_of_cell? w _ hw463_0)).trans hw463_0)⟩ (fun hHeld => ?_); refine with_tabW impl_chained.tab8 impl_chained.bits8 (fun HT_ HW_ => ?_)
    generalize wr.drew = w17 at HO_3 HO_4 HB HR462_0 HR463_0 hx462_0 hx463_0 hHeld ⊢
    refine pa 0 (some 24) (yz 12 1) HT_ ?_
    refine pa 1 (some 25) (yz 12 3) HT_ ?_
    refine pa 2 (some 26) (yz 12 7) HT_ ?_
    refine pa 3 (some 27) (yz 12 15) HT_ ?_
    refine pa 5 (some 29) (yz 12 47) HT_ ?_
    refine pa 6 (some 30) (yz 12 111) HT_ ?_
    refine pa 7 (some 31) (yz 12 239) HT_ ?_
    refine tk 4 (some 28) (yz 12 255) HT_ HW_ hHeld ?_
    refine tk 8 (some 32) (yz 12 511) HT_ HW_ hHeld ?_
    refine oa 9 (some 33) (yz 12 1023) HT_ (fun K hK => ?_)
    refine gm Try.func97 #[.slice A462_0 (rd_L2 l0 0).length c462_0, .slice A463_0 (rd_L2 l0 x21_1).length c463_0] ?_
    with_reducible refine (impl_apart.calls k1 _ _ (rd_L2 l0 0) _ _ (rd_L2 l0 x21_1) t464 _ ?side1 ?side2 ?side3 ?side4 A14.out).mono ?_
    (case side1 => exact co (Kd.C_below HR462_0.out HB.out))
    (case side2 => exact HC462_0.out)
    (case side3 => exact co (Kd.C_below HR463_0.out HB.out))
    (case side4 => exact HC463_0.out)
    rintro e w18 ⟨rfl, hb⟩
    refine ⟨_, rfl, ?_⟩
    replace HO_3 := rK HO_3 hb
    replace HO_4 := rK HO_4 hb
    replace HB := am (below_step bw hb)
    clear hb
    have p16 : 0 ≤ (x21_1 : Int) := of_decide_eq_true (by first | (with_reducible assumption) | assumption)
    have q16 : (x21_1 : Int) < ((x3_1.length : Int) : Int) := of_decide_eq_true (by first | (with_reducible assumption) | assumption)
    obtain ⟨go16, co16, eo16, gb16, gl16, cl16, HG16⟩ := Kd.R_form HO_3.out (by omega)
    (first | cases eo16 | (injection eo16 with ea_ en_ ec_; (first | subst ea_ | (injection ea_ with ea_; subst ea_)); subst ec_; clear en_))
    have GB16 := am gb16
    have GG16 := am HG16
    clear gb16 gl16 HG16
    obtain ⟨hx16_0, hf16_0⟩ := Kd.R_celln 0 HO_3.out (x21_1 : Int) p16 q16
    replace p16 := eq_true p16
    replace q16 := eq_true q16
    have HP19 := Kd.R_putn HO_3.out (x21_1 : Int) t464
    rw [← Ny465.out] at HP19
    have HQ19 := am HP19
    clear HP19
    refine hK.out _ _ ⟨((HB.out.cell (World.block_lt_of_cell? w _ hw462_0)).trans hw462_0), ((HB.out.cell (World.block_lt_of_cell? w _ hw463_0)).trans hw463_0)⟩ (fun hHeld => ?_)
    clear hK K
    refine nm (some 33) ?_
    refine pa 10 (some 34) (yz 12 2047) HT_ ?_
    refine last_ (i := 11) (N := none) (yz 12 4095) rfl rfl (one_of HT_.out (by kernel_rfl)) (by decide) (fun K hK => ?_)
    refine skip_ (w1 := ?_) (by rfl) rfl ?_ ?_
    rotate_left
    ·go_simp
     rfl
    refine hK.out _ _ ?_
    clear hK K
    refine done_ (done_of HT_.out (by kernel_rfl)) ?_
    try go_wp2
    go_roundg k1
    case measure => have := HK1.out; omega
    case rel => exact ⟨(y465), (wrap64 (x21_1 + 1)), rr, H', ⟨by have := HK1.out; omega⟩, ⟨ro HQ19.out⟩, ⟨by (with_reducible repeat (first | apply Kd.R_alloc | apply Kd.R_drewN | apply Kd.R_drew)); exact Kd.R_mono (Kd.R_far (p := ⟨go16, (x21_1 : Int).toNat, none⟩) (Kd.R_types HO_4.out GG16.out (by decide)) (fun _ hk => hk.2) (.int .i64 t464)) (fun _ hk => trivial)⟩, ⟨bw⟩⟩
   replace H := gp H; obtain ⟨c20, H⟩ := H
   have c20b0 : decide (0 < (y459.length : Int)) = true := decide_eq_true c20
   have c20b1 : decide (0 < y459.length) = true := decide_eq_true (by omega)
   clear c20
   obtain ⟨y466, hy466⟩ : ∃ y_ : List Bool, y_ = (y459.set (0 : Int).toNat true) := ⟨_, rfl⟩
   replace H : (impl_chained.l1 k1 l0 x3_1 y466 0 (wrap64 ((l0.length : Int) - 1)) 0) = some r := by first | (rw [hy466]; with_reducible first | exact H | exact bs H) | (with_reducible first | exact bs H | exact H) | (rw [hy466]; exact H) | exact H
   have Ny466 := am hy466
   clear hy466
   have H' := am H
   clear H
   have p21 : 0 ≤ (0 : Int) := (by omega)
   have q21 : (0 : Int) < ((y459.length : Int) : Int) := of_decide_eq_true (by first | (with_reducible assumption) | assumption)
   have qi21 : (0 < y459.length) = True := eq_true (by omega)
   obtain ⟨go21, co21, eo21, gb21, gl21, cl21, HG21⟩ := Kd.R_form HO_4.out (by omega)
   (first | cases eo21 | (injection eo21 with ea_ en_ ec_; (first | subst ea_ | (injection ea_ with ea_; subst ea_)); subst ec_; clear en_))
   have GB21 := am gb21
   have GG21 := am HG21
   clear gb21 gl21 HG21
   obtain ⟨hx21_0, hf21_0⟩ := Kd.R_celln false HO_4.out (0 : Int) p21 q21
   (try rw [show ((0 : Int)).toNat = 0 from rfl] at hx21_0)
   (try simp only [Nat.reduceMul, Nat.zero_mul, Nat.zero_add, Nat.reduceAdd] at hx21_0)
   (try rw [show ((0 : Int)).toNat = 0 from rfl] at hf21_0)
   (try simp only [Nat.reduceMul, Nat.zero_mul, Nat.zero_add, Nat.reduceAdd] at hf21_0)
   replace p21 := eq_true p21
   replace q21 := eq_true q21
   have HP22 := Kd.R_putg HO_4.out (0 : Int) true
   go_wp2_with (first | ((with_reducible refine gate_store (t := 4) (p := 37) rfl ?_); refine store_event (t := 4) (p := 37) (v := ?vo_w23) (w1 := (wr.setCell ⟨go21, (0 : Int).toNat, none⟩ (.bool true))) ?hg ?ho ?hn ?hr ?_; (case ho => rfl); (case hg => rfl); (case hn => rfl); (case hr => first | (go_simp; done) | (go_simp; rfl)); intro w23 hw; have hg : wr.grownBy w23 (some go21) := (by rw [hw]; exact HP22.2); have hp_ : Kd.R Kd.bool 4 w23 w.heap.size (fun _ => True) (.slice (some ⟨go21, 0, none⟩) y459.length co21) y466 := (by rw [hw, Ny466.out]; exact HP22.1); clear HP22; replace HO_3 := am (Kd.R_over' (v := (.slice (some ⟨go21, 0, none⟩) y459.length co21)) (ro HO_3.out) (Kd.R_typed HO_4.out) (by decide) hg); replace HO_4 := am (hp_); replace HB := am ((by rw [hw]; exact below_set (HB.out) GB21.out : Below w.heap.size w w23)); clear hg hw hp_))
   go_loopg [6, 41] k1 (fun kq v6 v41 w' => ∃ (x3_2 : List Int) (x4_2 : List Bool) (x6_2 : Int) (x41_2 : Int), v6 = .int .i64 x6_2 ∧ v41 = .int .i64 x41_2 ∧ Aside0 (impl_chained.l1 kq l0 x3_2 x4_2 x6_2 (wrap64 ((l0.length : Int) - 1)) x41_2 = some r) ∧ Aside0 (kq ≤ k1) ∧ Aside0 (Kd.R (Kd.int .i64) 3 w' w.heap.size (fun _ => True) v457 x3_2) ∧ Aside0 (Kd.R Kd.bool 4 w' w.heap.size (fun _ => True) (.slice (some ⟨go21, 0, none⟩) y459.length co21) x4_2) ∧ Aside0 (Below w.heap.size w w'))
   case atStart => exact ⟨(x3_1), (y466), (0), (0), rr, rr, H', ⟨Nat.le_refl _⟩, ⟨ro HO_3.out⟩, ⟨ro HO_4.out⟩, ⟨bw⟩⟩
   case round =>
    clear H'
    try clear c2; try clear c2b0; try clear c2b1; try clear c3; try clear c3b0; try clear c3b1; try clear c4; try clear c4b0; try clear c4b1; try clear c5; try clear c5b0; try clear c5b1; try clear c10b0; try clear c11; try clear c11b0; try clear c11b1; try clear c12b0; try clear c13b0; try clear c15b0; try clear p16; try clear q16; try clear c20; try clear c20b0; try clear c20b1; try clear p21; try clear q21; try clear qi21; try clear hx16_0; try clear hx21_0; try clear hx462_0; try clear hx463_0; try clear p462; try clear p463; try clear q462; try clear q463
    obtain ⟨x3_2, x4_2, x6_2, x41_2, rfl, rfl, HA, HK2, HO_3, HO_4, HB⟩ := hrel
    have hl4_2 := (Kd.R_reads' HO_4.out).1
    rw [hl4_2] at HO_4
    (try simp only [hl4_2])
    (try simp only [hl4_2] at HO_3)
    cases gk with
    | zero => exact absurd HA.out (by simp [impl_chained.l1])
    | succ k2 =>
     have H := HA.out
     clear HA
     simp only [impl_chained.l1] at H
     replace H := gi H; obtain ⟨c24b0, H⟩ | ⟨c24b0, H⟩ := H
     ·have H' := am H
      clear H
      go_wp2
      go_loopg [7, 45] k2 (fun kq v7 v45 w' => ∃ (x7_3 : Int) (x45_3 : Int), v7 = .int .i64 x7_3 ∧ v45 = .int .i64 x45_3 ∧ Aside0 (impl_chained.l2 kq l0 x3_2 x4_2 x6_2 x7_3 (wrap64 ((l0.length : Int) - 1)) x41_2 (l0.length : Int) x45_3 = some r) ∧ Aside0 (kq ≤ k2) ∧ Aside0 (Kd.R (Kd.int .i64) 3 w' w.heap.size (fun _ => True) v457 x3_2) ∧ Aside0 (Kd.R Kd.bool 4 w' w.heap.size (fun _ => True) (.slice (some ⟨go21, 0, none⟩) x4_2.length co21) x4_2) ∧ Aside0 (Below w.heap.size w w'))
      case atStart => exact ⟨((-1)), (0), rr, rr, H', ⟨Nat.le_refl _⟩, ⟨by (try simp only [hl4_2]); (with_reducible repeat (first | apply Kd.R_alloc | apply Kd.R_drewN | apply Kd.R_drew)); exact HO_3.out⟩, ⟨by (try simp only [hl4_2]); (with_reducible repeat (first | apply Kd.R_alloc | apply Kd.R_drewN | apply Kd.R_drew)); exact HO_4.out⟩, ⟨bw⟩⟩
      case round =>
       clear H'
       try clear c2; try clear c2b0; try clear c2b1; try clear c3; try clear c3b0; try clear c3b1; try clear c4; try clear c4b0; try clear c4b1; try clear c5; try clear c5b0; try clear c5b1; try clear c10b0; try clear c11; try clear c11b0; try clear c11b1; try clear c12b0; try clear c13b0; try clear c15b0; try clear p16; try clear q16; try clear c20; try clear c20b0; try clear c20b1; try clear p21; try clear q21; try clear qi21; try clear c24b0; try clear hx16_0; try clear hx21_0; try clear hx462_0; try clear hx463_0; try clear p462; try clear p463; try clear q462; try clear q463
       obtain ⟨x7_3, x45_3, rfl, rfl, HA, HK3, HO_3, HO_4, HB⟩ := hrel
       cases gk with
       | zero => exact absurd HA.out (by simp [impl_chained.l2])
       | succ k3 =>
        have H := HA.out
        clear HA
        simp only [impl_chained.l2] at H
        replace H := gi H; obtain ⟨c25b0, H⟩ | ⟨c25b0, H⟩ := H
        ·replace H := gd H; obtain ⟨c26b0, H⟩ := H
         by_cases c27 : x45_3 < (x4_2.length : Int)
         rotate_left
         ·rw [if_neg c27] at H
          exact absurd H (by simp)
         rw [if_pos c27] at H
         have c27b0 : decide (x45_3 < (x4_2.length : Int)) = true := decide_eq_true c27
         (try simp only [hl4_2] at c27b0)
         clear c27
         obtain ⟨bq28, hbq28⟩ : ∃ b_ : Bool, b_ = (rdOf false x4_2 x45_3) := ⟨_, rfl⟩
         replace H : (if bq28 = true then (impl_chained.l2 k3 l0 x3_2 x4_2 x6_2 x7_3 (wrap64 ((l0.length : Int) - 1)) x41_2 (l0.length : Int) (wrap64 (x45_3 + 1))) else (if x7_3 < 0 then (impl_chained.l2 k3 l0 x3_2 x4_2 x6_2 x45_3 (wrap64 ((l0.length : Int) - 1)) x41_2 (l0.length : Int) (wrap64 (x45_3 + 1))) else (if x45_3 < (x3_2.length : Int) then (if 0 ≤ x7_3 then (if x7_3 < (x3_2.length : Int) then (if (rd x3_2 x45_3) < (rd x3_2 x7_3) then (impl_chained.l2 k3 l0 x3_2 x4_2 x6_2 x45_3 (wrap64 ((l0.length : Int) - 1)) x41_2 (l0.length : Int) (wrap64 (x45_3 + 1))) else (impl_chained.l2 k3 l0 x3_2 x4_2 x6_2 x7_3 (wrap64 ((l0.length : Int) - 1)) x41_2 (l0.length : Int) (wrap64 (x45_3 + 1)))) else (none)) else (none)) else (none)))) = some r := by rw [← hbq28] at H; exact H
         have Nbq28 := am hbq28
         clear hbq28
         replace H := gb H; obtain ⟨rfl, H⟩ | ⟨rfl, H⟩ := H
         ·have H' := am H
          clear H
          try go_wp2
          replace HO_3 := am (Kd.R_drew HO_3.out)
          replace HO_4 := am (Kd.R_drew HO_4.out)
          replace HB := am (below_drew1 HB.out)
          obtain ⟨⟨ad467, e467, hx467_0⟩, p467, q467⟩ := pq (Kd.at_bool (Kd.R_reads' HO_4.out).2.2 x45_3)
          (try rw [← Nbq28.out] at hx467_0)
          obtain rfl : (⟨go21, 0, none⟩ : Addr) = ad467 := (by injection e467)
          (first | simp only [add_plain] at hx467_0 | simp only [add_at] at hx467_0 | simp only [Addr.add, Nat.zero_add] at hx467_0 | skip)
          refine start_ (n := 20) (S := fun w' => w'.cell? ⟨go21, (x45_3).toNat, none⟩ = some (.bool true)) (ds := []) (yz 20 0) (by kernel_rfl) rfl rfl (hx467_0) (fun hHeld => ?_); refine with_tabW impl_chained.tab18 impl_chained.bits18 (fun HT_ HW_ => ?_)
          generalize wr.drew = w30 at HO_3 HO_4 HB hx467_0 hHeld ⊢
          refine pa 0 (some 48) (yz 20 1) HT_ ?_
          refine pa 1 (some 49) (yz 20 3) HT_ ?_
          refine pa 2 (some 50) (yz 20 7) HT_ ?_
          refine tK 3 (some 51) (yz 20 15) HT_ HW_ hHeld ?_
          refine pa 4 (some 52) (yz 20 31) HT_ ?_
          refine pa 5 (some 53) (yz 20 63) HT_ ?_
          refine pu 6 (some 54) (yz 20 127) HT_ ?_
          refine pu 7 (some 55) (yz 20 255) HT_ ?_
          refine pu 8 (some 56) (yz 20 511) HT_ ?_
          refine pu 9 (some 57) (yz 20 1023) HT_ ?_
          refine pu 10 (some 58) (yz 20 2047) HT_ ?_
          refine pu 11 (some 59) (yz 20 4095) HT_ ?_
          refine pu 12 (some 60) (yz 20 8191) HT_ ?_
          refine pu 13 (some 61) (yz 20 16383) HT_ ?_
          refine pu 14 (some 62) (yz 20 32767) HT_ ?_
          refine pu 15 (some 63) (yz 20 65535) HT_ ?_
          refine pu 16 (some 64) (yz 20 131071) HT_ ?_
          refine pu 17 (some 65) (yz 20 262143) HT_ ?_
          refine pu 18 (some 66) (yz 20 524287) HT_ ?_
          refine pa 19 (some 67) (yz 20 1048575) HT_ ?_
          refine done_ (done_of HT_.out (by kernel_rfl)) ?_
          try go_wp2
          go_roundg k3
          case measure => have := HK1.out; have := HK2.out; have := HK3.out; omega
          case rel => exact ⟨(x7_3), (wrap64 (x45_3 + 1)), rr, rr, H', ⟨by have := HK1.out; have := HK2.out; have := HK3.out; omega⟩, ⟨by (try simp only [hl4_2]); (with_reducible repeat (first | apply Kd.R_alloc | apply Kd.R_drewN | apply Kd.R_drew)); exact HO_3.out⟩, ⟨by (try simp only [hl4_2]); (with_reducible repeat (first | apply Kd.R_alloc | apply Kd.R_drewN | apply Kd.R_drew)); exact HO_4.out⟩, ⟨bw⟩⟩
         replace H := gi H; obtain ⟨c31b0, H⟩ | ⟨c31b0, H⟩ := H
         ·have H' := am H
          clear H
          try go_wp2
          replace HO_3 := am (Kd.R_drew HO_3.out)
          replace HO_4 := am (Kd.R_drew HO_4.out)
          replace HB := am (below_drew1 HB.out)
          obtain ⟨⟨ad467, e467, hx467_0⟩, p467, q467⟩ := pq (Kd.at_bool (Kd.R_reads' HO_4.out).2.2 x45_3)
          (try rw [← Nbq28.out] at hx467_0)
          obtain rfl : (⟨go21, 0, none⟩ : Addr) = ad467 := (by injection e467)
          (first | simp only [add_plain] at hx467_0 | simp only [add_at] at hx467_0 | simp only [Addr.add, Nat.zero_add] at hx467_0 | skip)
          refine start_ (n := 20) (S := fun w' => w'.cell? ⟨go21, (x45_3).toNat, none⟩ = some (.bool false)) (ds := []) (yz 20 0) (by kernel_rfl) rfl rfl (hx467_0) (fun hHeld => ?_); refine with_tabW impl_chained.tab18 impl_chained.bits18 (fun HT_ HW_ => ?_)
          generalize wr.drew = w32 at HO_3 HO_4 HB hx467_0 hHeld ⊢
          refine pa 0 (some 48) (yz 20 1) HT_ ?_
          refine pa 1 (some 49) (yz 20 3) HT_ ?_
          refine pa 2 (some 50) (yz 20 7) HT_ ?_
          refine tK 3 (some 51) (yz 20 15) HT_ HW_ hHeld ?_
          refine pa 4 (some 52) (yz 20 31) HT_ ?_
          refine pa 5 (some 53) (yz 20 63) HT_ ?_
          refine pa 6 (some 54) (yz 20 127) HT_ ?_
          refine pa 7 (some 55) (yz 20 255) HT_ ?_
          refine pa 8 (some 56) (yz 20 511) HT_ ?_
          refine pu 9 (some 57) (yz 20 1023) HT_ ?_
          refine pu 10 (some 58) (yz 20 2047) HT_ ?_
          refine pu 11 (some 59) (yz 20 4095) HT_ ?_
          refine pu 12 (some 60) (yz 20 8191) HT_ ?_
          refine pu 13 (some 61) (yz 20 16383) HT_ ?_
          refine pu 14 (some 62) (yz 20 32767) HT_ ?_
          refine pu 15 (some 63) (yz 20 65535) HT_ ?_
          refine pu 16 (some 64) (yz 20 131071) HT_ ?_
          refine pu 17 (some 65) (yz 20 262143) HT_ ?_
          refine pa 18 (some 66) (yz 20 524287) HT_ ?_
          refine pa 19 (some 67) (yz 20 1048575) HT_ ?_
          refine done_ (done_of HT_.out (by kernel_rfl)) ?_
          try go_wp2
          go_roundg k3
          case measure => have := HK1.out; have := HK2.out; have := HK3.out; omega
          case rel => exact ⟨(x45_3), (wrap64 (x45_3 + 1)), rr, rr, H', ⟨by have := HK1.out; have := HK2.out; have := HK3.out; omega⟩, ⟨by (try simp only [hl4_2]); (with_reducible repeat (first | apply Kd.R_alloc | apply Kd.R_drewN | apply Kd.R_drew)); exact HO_3.out⟩, ⟨by (try simp only [hl4_2]); (with_reducible repeat (first | apply Kd.R_alloc | apply Kd.R_drewN | apply Kd.R_drew)); exact HO_4.out⟩, ⟨bw⟩⟩
         by_cases c33 : x45_3 < (x3_2.length : Int)
         rotate_left
         ·rw [if_neg c33] at H
          exact absurd H (by simp)
         rw [if_pos c33] at H
         have c33b0 : decide (x45_3 < (x3_2.length : Int)) = true := decide_eq_true c33
         (try simp only [hl4_2] at c33b0)
         clear c33
         replace H := gd H; obtain ⟨c34b0, H⟩ := H
         by_cases c35 : x7_3 < (x3_2.length : Int)
         rotate_left
         ·rw [if_neg c35] at H
          exact absurd H (by simp)
         rw [if_pos c35] at H
         have c35b0 : decide (x7_3 < (x3_2.length : Int)) = true := decide_eq_true c35
         (try simp only [hl4_2] at c35b0)
         clear c35
         replace H := gi H; obtain ⟨c36b0, H⟩ | ⟨c36b0, H⟩ := H
         ·have H' := am H
          clear H
          try go_wp2
          replace HO_3 := am (Kd.R_drew HO_3.out)
          replace HO_4 := am (Kd.R_drew HO_4.out)
          replace HB := am (below_drew1 HB.out)
          obtain ⟨⟨ad467, e467, hx467_0⟩, p467, q467⟩ := pq (Kd.at_bool (Kd.R_reads' HO_4.out).2.2 x45_3)
          (try rw [← Nbq28.out] at hx467_0)
          obtain rfl : (⟨go21, 0, none⟩ : Addr) = ad467 := (by injection e467)
          (first | simp only [add_plain] at hx467_0 | simp only [add_at] at hx467_0 | simp only [Addr.add, Nat.zero_add] at hx467_0 | skip)
          obtain ⟨Ao38, co38, eo38⟩ := Kd.R_slice HO_3.out
          (first | subst eo38 | (injection eo38 with f1_ f2_ f3_; have f4_ := f1_.symm; have f5_ := f3_.symm; clear f1_ f2_ f3_; subst f4_; subst f5_))
          obtain ⟨⟨ad468, e468, hx468_0⟩, p468, q468⟩ := pq (Kd.at_int (Kd.R_reads' HO_3.out).2.2 x45_3)
          cases e468
          obtain ⟨⟨ad469, e469, hx469_0⟩, p469, q469⟩ := pq (Kd.at_int (Kd.R_reads' HO_3.out).2.2 x7_3)
          obtain rfl : ad468 = ad469 := (by injection e469)
          refine start_ (n := 20) (S := fun w' => w'.cell? ⟨go21, (x45_3).toNat, none⟩ = some (.bool false) ∧ w'.cell? (ad468.add (x45_3).toNat) = some (.int .i64 (rd x3_2 x45_3)) ∧ w'.cell? (ad468.add (x7_3).toNat) = some (.int .i64 (rd x3_2 x7_3))) (ds := []) (yz 20 0) (by kernel_rfl) rfl rfl ⟨hx467_0, hx468_0, hx469_0⟩ (fun hHeld => ?_); refine with_tabW impl_chained.tab18 impl_chained.bits18 (fun HT_ HW_ => ?_)
          generalize wr.drew = w37 at HO_3 HO_4 HB hx467_0 hx468_0 hx469_0 hHeld ⊢
          refine pa 0 (some 48) (yz 20 1) HT_ ?_
          refine pa 1 (some 49) (yz 20 3) HT_ ?_
          refine pa 2 (some 50) (yz 20 7) HT_ ?_
          refine tk 3 (some 51) (yz 20 15) HT_ HW_ hHeld ?_
          refine pa 4 (some 52) (yz 20 31) HT_ ?_
          refine pa 5 (some 53) (yz 20 63) HT_ ?_
          refine pa 6 (some 54) (yz 20 127) HT_ ?_
          refine pa 7 (some 55) (yz 20 255) HT_ ?_
          refine pa 8 (some 56) (yz 20 511) HT_ ?_
          refine pa 9 (some 57) (yz 20 1023) HT_ ?_
          refine pa 10 (some 58) (yz 20 2047) HT_ ?_
          refine pa 11 (some 59) (yz 20 4095) HT_ ?_
          refine pa 13 (some 61) (yz 20 12287) HT_ ?_
          refine pa 14 (some 62) (yz 20 28671) HT_ ?_
          refine pa 15 (some 63) (yz 20 61439) HT_ ?_
          refine tk 12 (some 60) (yz 20 65535) HT_ HW_ hHeld ?_
          refine tk 16 (some 64) (yz 20 131071) HT_ HW_ hHeld ?_
          refine pa 17 (some 65) (yz 20 262143) HT_ ?_
          refine pa 18 (some 66) (yz 20 524287) HT_ ?_
          refine pa 19 (some 67) (yz 20 1048575) HT_ ?_
          refine done_ (done_of HT_.out (by kernel_rfl)) ?_
          try go_wp2
          go_roundg k3
          case measure => have := HK1.out; have := HK2.out; have := HK3.out; omega
          case rel => exact ⟨(x45_3), (wrap64 (x45_3 + 1)), rr, rr, H', ⟨by have := HK1.out; have := HK2.out; have := HK3.out; omega⟩, ⟨by (try simp only [hl4_2]); (with_reducible repeat (first | apply Kd.R_alloc | apply Kd.R_drewN | apply Kd.R_drew)); exact HO_3.out⟩, ⟨by (try simp only [hl4_2]); (with_reducible repeat (first | apply Kd.R_alloc | apply Kd.R_drewN | apply Kd.R_drew)); exact HO_4.out⟩, ⟨bw⟩⟩
         have H' := am H
         clear H
         try go_wp2
         replace HO_3 := am (Kd.R_drew HO_3.out)
         replace HO_4 := am (Kd.R_drew HO_4.out)
         replace HB := am (below_drew1 HB.out)
         obtain ⟨⟨ad467, e467, hx467_0⟩, p467, q467⟩ := pq (Kd.at_bool (Kd.R_reads' HO_4.out).2.2 x45_3)
         (try rw [← Nbq28.out] at hx467_0)
         obtain rfl : (⟨go21, 0, none⟩ : Addr) = ad467 := (by injection e467)
         (first | simp only [add_plain] at hx467_0 | simp only [add_at] at hx467_0 | simp only [Addr.add, Nat.zero_add] at hx467_0 | skip)
         obtain ⟨Ao40, co40, eo40⟩ := Kd.R_slice HO_3.out
         (first | subst eo40 | (injection eo40 with f1_ f2_ f3_; have f4_ := f1_.symm; have f5_ := f3_.symm; clear f1_ f2_ f3_; subst f4_; subst f5_))
         obtain ⟨⟨ad468, e468, hx468_0⟩, p468, q468⟩ := pq (Kd.at_int (Kd.R_reads' HO_3.out).2.2 x45_3)
         cases e468
         obtain ⟨⟨ad469, e469, hx469_0⟩, p469, q469⟩ := pq (Kd.at_int (Kd.R_reads' HO_3.out).2.2 x7_3)
         obtain rfl : ad468 = ad469 := (by injection e469)
         refine start_ (n := 20) (S := fun w' => w'.cell? ⟨go21, (x45_3).toNat, none⟩ = some (.bool false) ∧ w'.cell? (ad468.add (x45_3).toNat) = some (.int .i64 (rd x3_2 x45_3)) ∧ w'.cell? (ad468.add (x7_3).toNat) = some (.int .i64 (rd x3_2 x7_3))) (ds := []) (yz 20 0) (by kernel_rfl) rfl rfl ⟨hx467_0, hx468_0, hx469_0⟩ (fun hHeld => ?_); refine with_tabW impl_chained.tab18 impl_chained.bits18 (fun HT_ HW_ => ?_)
         generalize wr.drew = w39 at HO_3 HO_4 HB hx467_0 hx468_0 hx469_0 hHeld ⊢
         refine pa 0 (some 48) (yz 20 1) HT_ ?_
         refine pa 1 (some 49) (yz 20 3) HT_ ?_
         refine pa 2 (some 50) (yz 20 7) HT_ ?_
         refine tk 3 (some 51) (yz 20 15) HT_ HW_ hHeld ?_
         refine pa 4 (some 52) (yz 20 31) HT_ ?_
         refine pa 5 (some 53) (yz 20 63) HT_ ?_
         refine pa 6 (some 54) (yz 20 127) HT_ ?_
         refine pa 7 (some 55) (yz 20 255) HT_ ?_
         refine pa 8 (some 56) (yz 20 511) HT_ ?_
         refine pa 9 (some 57) (yz 20 1023) HT_ ?_
         refine pa 10 (some 58) (yz 20 2047) HT_ ?_
         refine pa 11 (some 59) (yz 20 4095) HT_ ?_
         refine pa 13 (some 61) (yz 20 12287) HT_ ?_
         refine pa 14 (some 62) (yz 20 28671) HT_ ?_
         refine pa 15 (some 63) (yz 20 61439) HT_ ?_
         refine tk 12 (some 60) (yz 20 65535) HT_ HW_ hHeld ?_
         refine tk 16 (some 64) (yz 20 131071) HT_ HW_ hHeld ?_
         refine pa 17 (some 65) (yz 20 262143) HT_ ?_
         refine pa 18 (some 66) (yz 20 524287) HT_ ?_
         refine pa 19 (some 67) (yz 20 1048575) HT_ ?_
         refine done_ (done_of HT_.out (by kernel_rfl)) ?_
         try go_wp2
         go_roundg k3
         case measure => have := HK1.out; have := HK2.out; have := HK3.out; omega
         case rel => exact ⟨(x7_3), (wrap64 (x45_3 + 1)), rr, rr, H', ⟨by have := HK1.out; have := HK2.out; have := HK3.out; omega⟩, ⟨by (try simp only [hl4_2]); (with_reducible repeat (first | apply Kd.R_alloc | apply Kd.R_drewN | apply Kd.R_drew)); exact HO_3.out⟩, ⟨by (try simp only [hl4_2]); (with_reducible repeat (first | apply Kd.R_alloc | apply Kd.R_drewN | apply Kd.R_drew)); exact HO_4.out⟩, ⟨bw⟩⟩
        replace H := gd H; obtain ⟨c41b0, H⟩ := H
        by_cases c42 : x7_3 < (x4_2.length : Int)
        rotate_left
        ·rw [if_neg c42] at H
         exact absurd H (by simp)
        rw [if_pos c42] at H
        have c42b0 : decide (x7_3 < (x4_2.length : Int)) = true := decide_eq_true c42
        (try simp only [hl4_2] at c42b0)
        clear c42
        obtain ⟨y470, hy470⟩ : ∃ y_ : List Bool, y_ = (x4_2.set (x7_3 : Int).toNat true) := ⟨_, rfl⟩
        replace H : (if x7_3 < (x3_2.length : Int) then (impl_chained.l3 k3 l0 x3_2 y470 (mx x6_2 (rd x3_2 x7_3)) x7_3 (wrap64 ((l0.length : Int) - 1)) x41_2 (l0.length : Int) 0) else (none)) = some r := by first | (rw [hy470]; with_reducible first | exact H | exact bs H) | (with_reducible first | exact bs H | exact H) | (rw [hy470]; exact H) | exact H
        have Ny470 := am hy470
        clear hy470
        by_cases c44 : x7_3 < (x3_2.length : Int)
        rotate_left
        ·rw [if_neg c44] at H
         exact absurd H (by simp)
        rw [if_pos c44] at H
        have c44b0 : decide (x7_3 < (x3_2.length : Int)) = true := decide_eq_true c44
        (try simp only [hl4_2] at c44b0)
        clear c44
        obtain ⟨ji45, hji45⟩ : ∃ j_ : Int, (mx x6_2 (rd x3_2 x7_3)) = j_ := ⟨_, rfl⟩
        replace H : (impl_chained.l3 k3 l0 x3_2 y470 ji45 x7_3 (wrap64 ((l0.length : Int) - 1)) x41_2 (l0.length : Int) 0) = some r := by first | (rw [hji45] at H; exact H) | (simp only [hji45] at H ⊢; exact H)
        have hji45_ : (if x6_2 < (rd x3_2 x7_3) then (rd x3_2 x7_3) else x6_2) = ji45 := hji45
        have H' := am H
        clear H
        have p43 : 0 ≤ (x7_3 : Int) := of_decide_eq_true (by first | (with_reducible assumption) | assumption)
        have q43 : (x7_3 : Int) < ((x4_2.length : Int) : Int) := of_decide_eq_true (by first | (with_reducible assumption) | assumption)
        obtain ⟨hx43_0, hf43_0⟩ := Kd.R_celln false HO_4.out (x7_3 : Int) p43 q43
        replace p43 := eq_true p43
        replace q43 := eq_true q43
        have HP46 := Kd.R_putg HO_4.out (x7_3 : Int) true
        go_wp2_with (first | ((with_reducible refine gate_store (t := 4) (p := 72) rfl ?_); refine store_event (t := 4) (p := 72) (v := ?vo_w47) (w1 := (wr.setCell ⟨go21, (x7_3 : Int).toNat, none⟩ (.bool true))) ?hg ?ho ?hn ?hr ?_; (case ho => rfl); (case hg => rfl); (case hn => rfl); (case hr => first | (go_simp; done) | (go_simp; rfl)); intro w47 hw; have hg : wr.grownBy w47 (some go21) := (by rw [hw]; exact HP46.2); have hp_ : Kd.R Kd.bool 4 w47 w.heap.size (fun _ => True) (.slice (some ⟨go21, 0, none⟩) x4_2.length co21) y470 := (by rw [hw, Ny470.out]; exact HP46.1); clear HP46; replace HO_3 := am (Kd.R_over' (v := (.slice (some ⟨go21, 0, none⟩) x4_2.length co21)) (ro HO_3.out) (Kd.R_typed HO_4.out) (by decide) hg); replace HO_4 := am (hp_); replace HB := am ((by rw [hw]; exact below_set (HB.out) GB21.out : Below w.heap.size w w47)); clear hg hw hp_; obtain ⟨Ao48, co48, eo48⟩ := Kd.R_slice HO_3.out; subst eo48; have p471 : 0 ≤ (x7_3 : Int) := of_decide_eq_true (by first | (with_reducible assumption) | assumption); have q471 : x7_3 < (x3_2.length : Int) := of_decide_eq_true (by first | (with_reducible assumption) | assumption); obtain ⟨ad471, e471, hx471_0⟩ := Kd.at_int (Kd.R_reads' HO_3.out).2.2 x7_3 p471 q471; cases e471; replace p471 := eq_true p471; replace q471 := eq_true q471))
        go_loopg [81] k3 (fun kq v81 w' => ∃ (x3_4 : List Int) (x81_4 : Int), v81 = .int .i64 x81_4 ∧ Aside0 (impl_chained.l3 kq l0 x3_4 y470 ji45 x7_3 (wrap64 ((l0.length : Int) - 1)) x41_2 (l0.length : Int) x81_4 = some r) ∧ Aside0 (kq ≤ k3) ∧ Aside0 (Kd.R (Kd.int .i64) 3 w' w.heap.size (fun _ => True) (.slice (some ad471) x3_2.length co48) x3_4) ∧ Aside0 (Kd.R Kd.bool 4 w' w.heap.size (fun _ => True) (.slice (some ⟨go21, 0, none⟩) x4_2.length co21) y470) ∧ Aside0 (Below w.heap.size w w'))
        case atStart => exact ⟨(x3_2), (0), rr, H', ⟨Nat.le_refl _⟩, ⟨by (try simp only [hl4_2]); (with_reducible repeat (first | apply Kd.R_alloc | apply Kd.R_drewN | apply Kd.R_drew)); exact HO_3.out⟩, ⟨by (try simp only [hl4_2]); (with_reducible repeat (first | apply Kd.R_alloc | apply Kd.R_drewN | apply Kd.R_drew)); exact HO_4.out⟩, ⟨bw⟩⟩
        case round =>
         clear H'
         try clear c2; try clear c3; try clear c4; try clear c25b0; try clear c27; try clear c31b0; try clear c33; try clear c33b0; try clear c34b0; try clear c35; try clear c35b0; try clear c36b0; try clear c41b0; try clear c42; try clear c42b0; try clear p43; try clear q43; try clear c44; try clear c44b0; try clear hx43_0; try clear hx467_0; try clear hx468_0; try clear hx469_0; try clear hx471_0; try clear p467; try clear p468; try clear p469; try clear p471; try clear q467; try clear q468; try clear q469; try clear q471
         obtain ⟨x3_4, x81_4, rfl, HA, HK4, HO_3, HO_4, HB⟩ := hrel
         have hl3_4 := (Kd.R_reads' HO_3.out).1
         rw [hl3_4] at HO_3
         (try simp only [hl3_4])
         (try simp only [hl3_4] at HO_4)
         have hl4_4 := (Kd.R_reads' HO_4.out).1
         rw [hl4_4] at HO_4
         (try simp only [hl4_4])
         (try simp only [hl4_4] at HO_3)
         cases gk with
         | zero => exact absurd HA.out (by simp [impl_chained.l3])
         | succ k4 =>
          have H := HA.out
          clear HA
          simp only [impl_chained.l3] at H
          replace H := gi H; obtain ⟨c49b0, H⟩ | ⟨c49b0, H⟩ := H
          ·replace H := gd H; obtain ⟨c50b0, H⟩ := H
           by_cases c51 : x81_4 < (x3_4.length : Int)
           rotate_left
           ·rw [if_neg c51] at H
            exact absurd H (by simp)
           rw [if_pos c51] at H
           have c51b0 : decide (x81_4 < (x3_4.length : Int)) = true := decide_eq_true c51
           (try simp only [hl4_2, hl3_4, hl4_4] at c51b0)
           clear c51
           replace H := gd H; obtain ⟨c52b0, H⟩ := H
           replace H := gd H; obtain ⟨c53b0, H⟩ := H
           replace H := gd H; obtain ⟨c54b0, H⟩ := H
           replace H := ga H; obtain ⟨t475, A55, H⟩ := H
           obtain ⟨ji56, hji56⟩ : ∃ j_ : Int, (mn (rd x3_4 x81_4) t475) = j_ := ⟨_, rfl⟩
           replace H : (impl_chained.l3 k4 l0 (x3_4.set (x81_4 : Int).toNat (ji56)) y470 ji45 x7_3 (wrap64 ((l0.length : Int) - 1)) x41_2 (l0.length : Int) (wrap64 (x81_4 + 1))) = some r := by first | (rw [hji56] at H; exact H) | (simp only [hji56] at H ⊢; exact H)
           (try rw [hji56] at A55)
           have hji56_ : (if t475 < (rd x3_4 x81_4) then t475 else (rd x3_4 x81_4)) = ji56 := hji56
           obtain ⟨y476, hy476⟩ : ∃ y_ : List Int, y_ = (x3_4.set (x81_4 : Int).toNat (ji56)) := ⟨_, rfl⟩
           replace H : (impl_chained.l3 k4 l0 y476 y470 ji45 x7_3 (wrap64 ((l0.length : Int) - 1)) x41_2 (l0.length : Int) (wrap64 (x81_4 + 1))) = some r := by first | (rw [hy476]; with_reducible first | exact H | exact bs H) | (with_reducible first | exact bs H | exact H) | (rw [hy476]; exact H) | exact H
           have Ny476 := am hy476
           clear hy476
           have H' := am H
           clear H
           try go_wp2
           replace HO_3 := am (Kd.R_drew HO_3.out)
           replace HO_4 := am (Kd.R_drew HO_4.out)
           replace HB := am (below_drew1 HB.out)
           obtain ⟨⟨ad472, e472, hx472_0⟩, p472, q472⟩ := pq (Kd.at_int (Kd.R_reads' HO_3.out).2.2 x81_4)
           obtain rfl : ad471 = ad472 := (by injection e472)
           have p473 : 0 ≤ (x7_3 : Int) := of_decide_eq_true (by first | (with_reducible assumption) | assumption)
           have q473 : x7_3 < (l0.length : Int) := of_decide_eq_true (by first | (with_reducible assumption) | assumption)
           obtain ⟨ad473, A473_0, c473_0, e473, hx473_0, hl473_0, hi473_0⟩ := at_L2 HR0.out x7_3 p473 q473
           have hw473_0 := hx473_0
           cases e473
           replace hx473_0 := hw HB hx473_0
           have HR473_0 := am hi473_0
           have HC473_0 := am hl473_0
           clear hi473_0 hl473_0
           replace p473 := eq_true p473
           replace q473 := eq_true q473
           have p474 : 0 ≤ (x81_4 : Int) := of_decide_eq_true (by first | (with_reducible assumption) | assumption)
           have q474 : x81_4 < (l0.length : Int) := of_decide_eq_true (by first | (with_reducible assumption) | assumption)
           obtain ⟨ad474, A474_0, c474_0, e474, hx474_0, hl474_0, hi474_0⟩ := at_L2 HR0.out x81_4 p474 q474
           have hw474_0 := hx474_0
           obtain rfl : ad473 = ad474 := (by injection e474)
           replace hx474_0 := hw HB hx474_0
           have HR474_0 := am hi474_0
           have HC474_0 := am hl474_0
           clear hi474_0 hl474_0
           replace p474 := eq_true p474
           replace q474 := eq_true q474
           refine start_ (n := 18) (S := fun w' => w'.cell? (ad471.add (x81_4).toNat) = some (.int .i64 (rd x3_4 x81_4)) ∧ w'.cell? (ad473.add (x7_3).toNat) = some (.slice A473_0 (rd_L2 l0 x7_3).length c473_0) ∧ w'.cell? (ad473.add (x81_4).toNat) = some (.slice A474_0 (rd_L2 l0 x81_4).length c474_0)) (ds := [17]) (yz 18 0) (by kernel_rfl) rfl rfl ⟨hx472_0, ((HB.out.cell (World.block_lt_of_cell? w _ hw473_0)).trans hw473_0), ((HB.out.cell (World.block_lt_of_cell? w _ hw474_0)).trans hw474_0)⟩ (fun hHeld => ?_); refine with_tabW impl_chained.tab26 impl_chained.bits26 (fun HT_ HW_ => ?_)
           generalize wr.drew = w58 at HO_3 HO_4 HB HR473_0 HR474_0 hx472_0 hx473_0 hx474_0 hHeld ⊢
           refine pa 0 (some 84) (yz 18 1) HT_ ?_
           refine pa 1 (some 85) (yz 18 3) HT_ ?_
           refine pa 2 (some 86) (yz 18 7) HT_ ?_
           refine pa 3 (some 87) (yz 18 15) HT_ ?_
           refine pa 4 (some 88) (yz 18 31) HT_ ?_
           refine pa 6 (some 90) (yz 18 95) HT_ ?_
           refine pa 7 (some 91) (yz 18 223) HT_ ?_
           refine pa 8 (some 92) (yz 18 479) HT_ ?_
           refine pa 10 (some 94) (yz 18 1503) HT_ ?_
           refine pa 11 (some 95) (yz 18 3551) HT_ ?_
           refine pa 12 (some 96) (yz 18 7647) HT_ ?_
           refine tk 5 (some 89) (yz 18 7679) HT_ HW_ hHeld ?_
           refine tk 9 (some 93) (yz 18 8191) HT_ HW_ hHeld ?_
           refine tk 13 (some 97) (yz 18 16383) HT_ HW_ hHeld ?_
           refine oa 14 (some 98) (yz 18 32767) HT_ (fun K hK => ?_)
           refine gm Try.func97 #[.slice A473_0 (rd_L2 l0 x7_3).length c473_0, .slice A474_0 (rd_L2 l0 x81_4).length c474_0] ?_
           with_reducible refine (impl_apart.calls k4 _ _ (rd_L2 l0 x7_3) _ _ (rd_L2 l0 x81_4) t475 _ ?side1 ?side2 ?side3 ?side4 A55.out).mono ?_
           (case side1 => exact co (Kd.C_below HR473_0.out HB.out))
           (case side2 => exact HC473_0.out)
           (case side3 => exact co (Kd.C_below HR474_0.out HB.out))
           (case side4 => exact HC474_0.out)
           rintro e w59 ⟨rfl, hb⟩
           have HS0_ := (hb.cell (World.block_lt_of_cell? _ _ (hHeld.1))).trans (hHeld.1)
           refine ⟨_, rfl, ?_⟩
           replace HO_3 := rK HO_3 hb
           replace HO_4 := rK HO_4 hb
           replace HB := am (below_step bw hb)
           clear hb
           have p57 : 0 ≤ (x81_4 : Int) := of_decide_eq_true (by first | (with_reducible assumption) | assumption)
           have q57 : (x81_4 : Int) < ((x3_4.length : Int) : Int) := of_decide_eq_true (by first | (with_reducible assumption) | assumption)
           obtain ⟨go57, co57, eo57, gb57, gl57, cl57, HG57⟩ := Kd.R_form HO_3.out (by omega)
           (first | cases eo57 | (injection eo57 with ea_ en_ ec_; (first | subst ea_ | (injection ea_ with ea_; subst ea_)); subst ec_; clear en_))
           have GB57 := am gb57
           have GG57 := am HG57
           clear gb57 gl57 HG57
           (first | simp only [add_plain] at hx471_0 | skip)
           (first | simp only [add_plain] at hx472_0 | skip)
           obtain ⟨hx57_0, hf57_0⟩ := Kd.R_celln 0 HO_3.out (x81_4 : Int) p57 q57
           replace p57 := eq_true p57
           replace q57 := eq_true q57
           have HP60 := Kd.R_putn HO_3.out (x81_4 : Int) ji56
           rw [← Ny476.out] at HP60
           have HQ60 := am HP60
           clear HP60
           refine hK.out _ _ ⟨HS0_, ((HB.out.cell (World.block_lt_of_cell? w _ hw473_0)).trans hw473_0), ((HB.out.cell (World.block_lt_of_cell? w _ hw474_0)).trans hw474_0)⟩ (fun hHeld => ?_)
           clear hK K
           refine nm (some 98) ?_
           refine pa 15 (some 99) (yz 18 65535) HT_ ?_
           refine pa 16 (some 100) (yz 18 131071) HT_ ?_
           refine last_ (i := 17) (N := none) (yz 18 262143) rfl rfl (one_of HT_.out (by kernel_rfl)) (by decide) (fun K hK => ?_)
           refine skip_ (w1 := ?_) (by rfl) rfl ?_ ?_
           rotate_left
           ·go_simp
            rfl
           refine hK.out _ _ ?_
           clear hK K
           refine done_ (done_of HT_.out (by kernel_rfl)) ?_
           try go_wp2
           (try simp only [← hl3_4, ← hl4_4])
           (try rw [← add_plain go57 (x7_3 : Int).toNat]); go_roundg k4
           case measure => have := HK1.out; have := HK2.out; have := HK3.out; have := HK4.out; omega
           case rel => exact ⟨(y476), (wrap64 (x81_4 + 1)), rr, H', ⟨by have := HK1.out; have := HK2.out; have := HK3.out; have := HK4.out; omega⟩, ⟨by (try simp only [hl4_2]); (try simp only [hl3_4]); (try simp only [hl4_4]); (with_reducible repeat (first | apply Kd.R_alloc | apply Kd.R_drewN | apply Kd.R_drew)); exact HQ60.out⟩, ⟨by (try simp only [hl4_2]); (try simp only [hl3_4]); (try simp only [hl4_4]); (with_reducible repeat (first | apply Kd.R_alloc | apply Kd.R_drewN | apply Kd.R_drew)); exact Kd.R_mono (Kd.R_far (p := ⟨go57, (x81_4 : Int).toNat, none⟩) (Kd.R_types HO_4.out GG57.out (by decide)) (fun _ hk => hk.2) (.int .i64 ji56)) (fun _ hk => trivial)⟩, ⟨bw⟩⟩
          have H' := am H
          clear H
          go_wp2
          (try simp only [← hl4_2, ← hl3_4, ← hl4_4])
          (try rw [← add_plain go57 (x7_3 : Int).toNat]); go_roundg k4
          case measure => have := HK1.out; have := HK2.out; have := HK3.out; have := HK4.out; omega
          case rel => exact ⟨(x3_4), (y470), (ji45), (wrap64 (x41_2 + 1)), (by first | rfl | (simp; done) | (simp only [← hji45] <;> (first | rfl | simp)) | (simp [*]; done)), rr, H', ⟨by have := HK1.out; have := HK2.out; have := HK3.out; have := HK4.out; omega⟩, ⟨by (try simp only [hl4_2]); (try simp only [hl3_4]); (try simp only [hl4_4]); (with_reducible repeat (first | apply Kd.R_alloc | apply Kd.R_drewN | apply Kd.R_drew)); exact HO_3.out⟩, ⟨by (try simp only [hl4_2]); (try simp only [hl3_4]); (try simp only [hl4_4]); (with_reducible repeat (first | apply Kd.R_alloc | apply Kd.R_drewN | apply Kd.R_drew)); exact HO_4.out⟩, ⟨bw⟩⟩
     obtain rfl := Option.some.inj H
     go_wp2
     go_ret
     exact ⟨re, bw⟩

end Go.Proofs.Ytlfdipnhlmjiaaa.C
