/- Contracts of functions of the program: impl_leasts, impl_usable, impl_Generates, impl_IsSemigroup. -/
import Derived.Test.YtlfdipnhlmjiaaaC0
import Derived.Test.YtlfdipnhlmjiaaaC7
namespace Go.Proofs.Ytlfdipnhlmjiaaa.C
open Go.RowKit Go.Proofs.YtlfdipnhlmjiaaaW.PrintWords Go.Proofs.YtlfdipnhlmjiaaaW.PrintLast Go.Proofs.YtlfdipnhlmjiaaaW.PrintMore
attribute [local go_sem] max2_int min2_int max_two min_two max_three min_three max_four min_four
set_option linter.unusedVariables false
set_option linter.unusedSimpArgs false

/-! ### impl_leasts: function 116 -/
mutual
def impl_leasts.l0 : Nat → List Int → Int → List Int → Int → Int → Option (List Int)
 | 0, _, _, _, _, _ => none
 | k + 1, x0, x1, x5, x16, x17 => if x17 < x16 then (if 0 ≤ x17 then (if x17 < (x5.length : Int) then (impl_leasts.l0 k x0 x1 (x5.set (x17 : Int).toNat (-1)) x16 (wrap64 (x17 + 1))) else (none)) else (none)) else (if 0 < (x5.length : Int) then (impl_leasts.l1 k x0 x1 (x5.set (0 : Int).toNat 0) true) else (none))
def impl_leasts.l1 : Nat → List Int → Int → List Int → Bool → Option (List Int)
 | 0, _, _, _, _ => none
 | k + 1, x0, x1, x5, x7 => if x7 = true then (impl_leasts.l2 k x0 x1 x5 false (x5.length : Int) 0) else (some x5)
def impl_leasts.l2 : Nat → List Int → Int → List Int → Bool → Int → Int → Option (List Int)
 | 0, _, _, _, _, _, _ => none
 | k + 1, x0, x1, x5, x7, x28, x29 => if x29 < x28 then (if 0 ≤ x29 then (if x29 < (x5.length : Int) then (if (rd x5 x29) < 0 then (impl_leasts.l2 k x0 x1 x5 x7 x28 (wrap64 (x29 + 1))) else (impl_leasts.l3 k x0 x1 x5 x7 x29 (rd x5 x29) x28 x29 x0 (x0.length : Int) 0)) else (none)) else (none)) else (impl_leasts.l1 k x0 x1 x5 x7)
def impl_leasts.l3 : Nat → List Int → Int → List Int → Bool → Int → Int → Int → Int → List Int → Int → Int → Option (List Int)
 | 0, _, _, _, _, _, _, _, _, _, _, _ => none
 | k + 1, x0, x1, x5, x7, x8, x9, x28, x29, x36, x37, x38 => if x38 < x37 then (if 0 ≤ x38 then (if x38 < (x36.length : Int) then (if x1 = 0 then (none) else (if 0 ≤ (Int.tmod (wrap64 (x8 + (rd x36 x38))) x1) then (if (Int.tmod (wrap64 (x8 + (rd x36 x38))) x1) < (x5.length : Int) then (if (rd x5 (Int.tmod (wrap64 (x8 + (rd x36 x38))) x1)) < 0 then (impl_leasts.l3 k x0 x1 (x5.set ((Int.tmod (wrap64 (x8 + (rd x36 x38))) x1) : Int).toNat (wrap64 (x9 + (rd x36 x38)))) true x8 x9 x28 x29 x36 x37 (wrap64 (x38 + 1))) else (if (wrap64 (x9 + (rd x36 x38))) < (rd x5 (Int.tmod (wrap64 (x8 + (rd x36 x38))) x1)) then (impl_leasts.l3 k x0 x1 (x5.set ((Int.tmod (wrap64 (x8 + (rd x36 x38))) x1) : Int).toNat (wrap64 (x9 + (rd x36 x38)))) true x8 x9 x28 x29 x36 x37 (wrap64 (x38 + 1))) else (impl_leasts.l3 k x0 x1 x5 x7 x8 x9 x28 x29 x36 x37 (wrap64 (x38 + 1))))) else (none)) else (none))) else (none)) else (none)) else (impl_leasts.l2 k x0 x1 x5 x7 x28 (wrap64 (x29 + 1)))
end
def impl_leasts.f (k : Nat) (l0 : List Int) (a1 : Int) : Option (List Int) := if 0 ≤ a1 then (if (a1 : Int).toNat ≤ 35184372088832 then ((some (List.replicate (a1 : Int).toNat 0 : List Int)).bind fun y431 => (impl_leasts.l0 k l0 a1 y431 (y431.length : Int) 0)) else (none)) else (none)
set_option maxHeartbeats 8000000 in
set_option maxRecDepth 100000 in
theorem impl_leasts.calls (k : Nat) (A0 : Option Addr) (c0 : Nat) (l0 : List Int) (a1 : Int) (r : List Int) (w : World) (hr0 : Kd.C (Kd.int .i64) w A0 l0.length l0) (hc0 : l0.length ≤ c0) (h : impl_leasts.f k l0 a1 = some r) :
  Calls Try.prog 116 #[.slice A0 l0.length c0, .int .i64 a1] w fun e w' => ∃ v0_ : Value, e = .returned (v0_) ∧ Kd.R (Kd.int .i64) 3 w' w.heap.size (fun _ => True) v0_ r ∧ Below w.heap.size w w' := by
 have HR0 := am hr0
 have HC0 := am hc0
 clear hr0 hc0
 have HB := am (Below.refl w.heap.size w)
 have H : (if 0 ≤ a1 then (if (a1 : Int).toNat ≤ 35184372088832 then ((some (List.replicate (a1 : Int).toNat 0 : List Int)).bind fun y431 => (impl_leasts.l0 k l0 a1 y431 (y431.length : Int) 0)) else (none)) else (none)) = some r := h
 clear h
 replace H := gp H; obtain ⟨c3, H⟩ := H
 have c3b0 := eq_true c3
 have c3b1 : decide (0 ≤ a1) = true := decide_eq_true c3
 clear c3
 replace H := gp H; obtain ⟨c4, H⟩ := H
 have c4b0 := eq_true c4
 have c4b1 : decide ((a1 : Int).toNat ≤ 35184372088832) = true := decide_eq_true c4
 clear c4
 obtain ⟨y431, hy431⟩ : ∃ y_ : List Int, y_ = (List.replicate (a1 : Int).toNat 0) := ⟨_, rfl⟩
 replace H : (impl_leasts.l0 k l0 a1 y431 (y431.length : Int) 0) = some r := by first | (rw [hy431]; with_reducible first | exact H | exact bs H) | (with_reducible first | exact bs H | exact H) | (rw [hy431]; exact H) | exact H
 have Ny431 := am hy431
 clear hy431
 have H' := am H
 clear H
 go_enter Try.func116, Try.ntmps116
 go_wp2_with (first | ((with_reducible refine gate_dst (N := 14) rfl ?_); refine Kd.R_make (Kd.int .i64) _ 3 rfl (N := 14) rfl 22 _ _ rfl a1 rfl rfl Try.underlying22 (.int .i64 0) 8 info3 rfl (by decide) (by omega) 0 (ok := fun _ => True) (okp := fun _ => True) rfl (fun _ hk => hk) trivial (of_decide_eq_true (by first | (with_reducible assumption) | assumption)) (Nat.le_trans (Nat.mul_le_mul_right _ (of_decide_eq_true (by first | (with_reducible assumption) | assumption) : a1.toNat ≤ 35184372088832)) (by omega)) (Below.refl _ _) (Nat.le_refl _) ?_; intro v432 w5 ho6 hb hg_ hnew_; clear hg_ hnew_; (first | rw [← Ny431.out] at ho6 | (simp only [Int.reduceToNat] at ho6; rw [← Ny431.out] at ho6)); have HO433 := am (Kd.R_lower ho6 (below_size bw)); replace HB := am (below_step bw hb); clear hb ho6; obtain ⟨Ao7, co7, eo7⟩ := Kd.R_slice HO433.out; subst eo7))
 go_loopg [17] k (fun kq v17 w' => ∃ (x5_1 : List Int) (x17_1 : Int), v17 = .int .i64 x17_1 ∧ Aside0 (impl_leasts.l0 kq l0 a1 x5_1 (y431.length : Int) x17_1 = some r) ∧ Aside0 (kq ≤ k) ∧ Aside0 (Kd.R (Kd.int .i64) 3 w' w.heap.size (fun _ => True) (.slice Ao7 y431.length co7) x5_1) ∧ Aside0 (Below w.heap.size w w'))
 case atStart => exact ⟨(y431), (0), rr, H', ⟨Nat.le_refl _⟩, ⟨ro HO433.out⟩, ⟨bw⟩⟩
 case round =>
  clear H'
  try clear c3; try clear c3b0; try clear c3b1; try clear c4; try clear c4b0; try clear c4b1
  obtain ⟨x5_1, x17_1, rfl, HA, HK1, HO_5, HB⟩ := hrel
  have hl5_1 := (Kd.R_reads' HO_5.out).1
  rw [hl5_1] at HO_5
  (try simp only [hl5_1])
  cases gk with
  | zero => exact absurd HA.out (by simp [impl_leasts.l0])
  | succ k1 =>
   have H := HA.out
   clear HA
   simp only [impl_leasts.l0] at H
   by_cases c8 : x17_1 < (y431.length : Int)
   ·rw [if_pos c8] at H
    have c8b0 : decide (x17_1 < (y431.length : Int)) = true := decide_eq_true c8
    (try simp only [hl5_1] at c8b0)
    clear c8
    replace H := gd H; obtain ⟨c9b0, H⟩ := H
    by_cases c10 : x17_1 < (x5_1.length : Int)
    rotate_left
    ·rw [if_neg c10] at H
     exact absurd H (by simp)
    rw [if_pos c10] at H
    have c10b0 : decide (x17_1 < (x5_1.length : Int)) = true := decide_eq_true c10
    (try simp only [hl5_1] at c10b0)
    clear c10
    obtain ⟨y434, hy434⟩ : ∃ y_ : List Int, y_ = (x5_1.set (x17_1 : Int).toNat (-1)) := ⟨_, rfl⟩
    replace H : (impl_leasts.l0 k1 l0 a1 y434 (y431.length : Int) (wrap64 (x17_1 + 1))) = some r := by first | (rw [hy434]; with_reducible first | exact H | exact bs H) | (with_reducible first | exact bs H | exact H) | (rw [hy434]; exact H) | exact H
    have Ny434 := am hy434
    clear hy434
    have H' := am H
    clear H
    have p11 : 0 ≤ (x17_1 : Int) := of_decide_eq_true (by first | (with_reducible assumption) | assumption)
    have q11 : (x17_1 : Int) < ((x5_1.length : Int) : Int) := of_decide_eq_true (by first | (with_reducible assumption) | assumption)
    obtain ⟨go11, co11, eo11, gb11, gl11, cl11, HG11⟩ := Kd.R_form HO_5.out (by omega)
    (first | cases eo11 | (injection eo11 with ea_ en_ ec_; (first | subst ea_ | (injection ea_ with ea_; subst ea_)); subst ec_; clear en_))
    have GB11 := am gb11
    have GG11 := am HG11
    clear gb11 gl11 HG11
    obtain ⟨hx11_0, hf11_0⟩ := Kd.R_celln 0 HO_5.out (x17_1 : Int) p11 q11
    replace p11 := eq_true p11
    replace q11 := eq_true q11
    have HP12 := Kd.R_putg HO_5.out (x17_1 : Int) (-1)
    go_wp2_with (first | ((with_reducible refine gate_store (t := 3) (p := 22) rfl ?_); refine store_event (t := 3) (p := 22) (v := ?vo_w13) (w1 := (wr.setCell ⟨go11, (x17_1 : Int).toNat, none⟩ (.int .i64 (-1)))) ?hg ?ho ?hn ?hr ?_; (case ho => rfl); (case hg => rfl); (case hn => rfl); (case hr => first | (go_simp; done) | (go_simp; rfl)); intro w13 hw; have hg : wr.grownBy w13 (some go11) := (by rw [hw]; exact HP12.2); have hp_ : Kd.R (Kd.int .i64) 3 w13 w.heap.size (fun _ => True) (.slice (some ⟨go11, 0, none⟩) x5_1.length co7) y434 := (by rw [hw, Ny434.out]; exact HP12.1); clear HP12; replace HO_5 := am (hp_); replace HB := am ((by rw [hw]; exact below_set (HB.out) GB11.out : Below w.heap.size w w13)); clear hg hw hp_))
    (try simp only [← hl5_1])
    go_roundg k1
    case measure => have := HK1.out; omega
    case rel => exact ⟨(y434), (wrap64 (x17_1 + 1)), rr, H', ⟨by have := HK1.out; omega⟩, ⟨by (try simp only [hl5_1]); (with_reducible repeat (first | apply Kd.R_alloc | apply Kd.R_drewN | apply Kd.R_drew)); exact HO_5.out⟩, ⟨bw⟩⟩
   rw [if_neg c8] at H
   have c8b0 : decide (x17_1 < (y431.length : Int)) = false := decide_eq_false c8
   (try simp only [hl5_1] at c8b0)
   clear c8
   by_cases c14 : 0 < (x5_1.length : Int)
   rotate_left
   ·rw [if_neg c14] at H
    exact absurd H (by simp)
   rw [if_pos c14] at H
   have c14b0 : decide (0 < (x5_1.length : Int)) = true := decide_eq_true c14
   (try simp only [hl5_1] at c14b0)
   have c14b1 : decide (0 < x5_1.length) = true := decide_eq_true (by omega)
   (try simp only [hl5_1] at c14b1)
   clear c14
   obtain ⟨y435, hy435⟩ : ∃ y_ : List Int, y_ = (x5_1.set (0 : Int).toNat 0) := ⟨_, rfl⟩
   replace H : (impl_leasts.l1 k1 l0 a1 y435 true) = some r := by first | (rw [hy435]; with_reducible first | exact H | exact bs H) | (with_reducible first | exact bs H | exact H) | (rw [hy435]; exact H) | exact H
   have Ny435 := am hy435
   clear hy435
   have H' := am H
   clear H
   have p15 : 0 ≤ (0 : Int) := (by omega)
   have q15 : (0 : Int) < ((x5_1.length : Int) : Int) := of_decide_eq_true (by first | (with_reducible assumption) | assumption)
   have qi15 : (0 < x5_1.length) = True := eq_true (by omega)
   obtain ⟨go15, co15, eo15, gb15, gl15, cl15, HG15⟩ := Kd.R_form HO_5.out (by omega)
   (first | cases eo15 | (injection eo15 with ea_ en_ ec_; (first | subst ea_ | (injection ea_ with ea_; subst ea_)); subst ec_; clear en_))
   have GB15 := am gb15
   have GG15 := am HG15
   clear gb15 gl15 HG15
   obtain ⟨hx15_0, hf15_0⟩ := Kd.R_celln 0 HO_5.out (0 : Int) p15 q15
   (try rw [show ((0 : Int)).toNat = 0 from rfl] at hx15_0)
   (try simp only [Nat.reduceMul, Nat.zero_mul, Nat.zero_add, Nat.reduceAdd] at hx15_0)
   (try rw [show ((0 : Int)).toNat = 0 from rfl] at hf15_0)
   (try simp only [Nat.reduceMul, Nat.zero_mul, Nat.zero_add, Nat.reduceAdd] at hf15_0)
   replace p15 := eq_true p15
   replace q15 := eq_true q15
   have HP16 := Kd.R_putg HO_5.out (0 : Int) 0
   go_wp2_with (first | ((with_reducible refine gate_store (t := 3) (p := 25) rfl ?_); refine store_event (t := 3) (p := 25) (v := ?vo_w17) (w1 := (wr.setCell ⟨go15, (0 : Int).toNat, none⟩ (.int .i64 0))) ?hg ?ho ?hn ?hr ?_; (case ho => rfl); (case hg => rfl); (case hn => rfl); (case hr => first | (go_simp; done) | (go_simp; rfl)); intro w17 hw; have hg : wr.grownBy w17 (some go15) := (by rw [hw]; exact HP16.2); have hp_ : Kd.R (Kd.int .i64) 3 w17 w.heap.size (fun _ => True) (.slice (some ⟨go15, 0, none⟩) x5_1.length co7) y435 := (by rw [hw, Ny435.out]; exact HP16.1); clear HP16; replace HO_5 := am (hp_); replace HB := am ((by rw [hw]; exact below_set (HB.out) GB15.out : Below w.heap.size w w17)); clear hg hw hp_))
   go_loopg [7] k1 (fun kq v7 w' => ∃ (x5_2 : List Int) (x7_2 : Bool), v7 = .bool x7_2 ∧ Aside0 (impl_leasts.l1 kq l0 a1 x5_2 x7_2 = some r) ∧ Aside0 (kq ≤ k1) ∧ Aside0 (Kd.R (Kd.int .i64) 3 w' w.heap.size (fun _ => True) (.slice (some ⟨go15, 0, none⟩) x5_1.length co7) x5_2) ∧ Aside0 (Below w.heap.size w w'))
   case atStart => exact ⟨(y435), (true), rr, H', ⟨Nat.le_refl _⟩, ⟨by (try simp only [hl5_1]); (with_reducible repeat (first | apply Kd.R_alloc | apply Kd.R_drewN | apply Kd.R_drew)); exact HO_5.out⟩, ⟨bw⟩⟩
   case round =>
    clear H'
    try clear c3; try clear c3b0; try clear c3b1; try clear c4; try clear c4b0; try clear c4b1; try clear c8; try clear c8b0; try clear c9b0; try clear c10; try clear c10b0; try clear p11; try clear q11; try clear c14; try clear c14b0; try clear c14b1; try clear p15; try clear q15; try clear qi15; try clear hx11_0; try clear hx15_0
    obtain ⟨x5_2, x7_2, rfl, HA, HK2, HO_5, HB⟩ := hrel
    have hl5_2 := (Kd.R_reads' HO_5.out).1
    rw [hl5_2] at HO_5
    (try simp only [hl5_2])
    cases gk with
    | zero => exact absurd HA.out (by simp [impl_leasts.l1])
    | succ k2 =>
     have H := HA.out
     clear HA
     simp only [impl_leasts.l1] at H
     replace H := gb H; obtain ⟨rfl, H⟩ | ⟨rfl, H⟩ := H
     ·have H' := am H
      clear H
      go_wp2
      go_loopg [7, 29] k2 (fun kq v7 v29 w' => ∃ (x5_3 : List Int) (x7_3 : Bool) (x29_3 : Int), v7 = .bool x7_3 ∧ v29 = .int .i64 x29_3 ∧ Aside0 (impl_leasts.l2 kq l0 a1 x5_3 x7_3 (x5_2.length : Int) x29_3 = some r) ∧ Aside0 (kq ≤ k2) ∧ Aside0 (Kd.R (Kd.int .i64) 3 w' w.heap.size (fun _ => True) (.slice (some ⟨go15, 0, none⟩) x5_2.length co7) x5_3) ∧ Aside0 (Below w.heap.size w w'))
      case atStart => exact ⟨(x5_2), (false), (0), rr, rr, H', ⟨Nat.le_refl _⟩, ⟨by (try simp only [hl5_1]); (try simp only [hl5_2]); (with_reducible repeat (first | apply Kd.R_alloc | apply Kd.R_drewN | apply Kd.R_drew)); exact HO_5.out⟩, ⟨bw⟩⟩
      case round =>
       clear H'
       try clear c3; try clear c3b0; try clear c3b1; try clear c4; try clear c4b0; try clear c4b1; try clear c8; try clear c8b0; try clear c9b0; try clear c10; try clear c10b0; try clear p11; try clear q11; try clear c14; try clear c14b0; try clear c14b1; try clear p15; try clear q15; try clear qi15; try clear hx11_0; try clear hx15_0
       obtain ⟨x5_3, x7_3, x29_3, rfl, rfl, HA, HK3, HO_5, HB⟩ := hrel
       have hl5_3 := (Kd.R_reads' HO_5.out).1
       rw [hl5_3] at HO_5
       (try simp only [hl5_3])
       cases gk with
       | zero => exact absurd HA.out (by simp [impl_leasts.l2])
       | succ k3 =>
        have H := HA.out
        clear HA
        simp only [impl_leasts.l2] at H
        by_cases c19 : x29_3 < (x5_2.length : Int)
        ·rw [if_pos c19] at H
         have c19b0 : decide (x29_3 < (x5_2.length : Int)) = true := decide_eq_true c19
         (try simp only [hl5_1, hl5_2, hl5_3] at c19b0)
         clear c19
         replace H := gd H; obtain ⟨c20b0, H⟩ := H
         by_cases c21 : x29_3 < (x5_3.length : Int)
         rotate_left
         ·rw [if_neg c21] at H
          exact absurd H (by simp)
         rw [if_pos c21] at H
         have c21b0 : decide (x29_3 < (x5_3.length : Int)) = true := decide_eq_true c21
         (try simp only [hl5_1, hl5_2, hl5_3] at c21b0)
         clear c21
         replace H := gi H; obtain ⟨c22b0, H⟩ | ⟨c22b0, H⟩ := H
         ·have H' := am H
          clear H
          obtain ⟨⟨ad436, e436, hx436_0⟩, p436, q436⟩ := pq (Kd.at_int (Kd.R_reads' HO_5.out).2.2 x29_3)
          obtain rfl : (⟨go15, 0, none⟩ : Addr) = ad436 := (by injection e436)
          (first | simp only [add_plain] at hx436_0 | simp only [add_at] at hx436_0 | simp only [Addr.add, Nat.zero_add] at hx436_0 | skip)
          go_wp2
          (try simp only [← hl5_3])
          go_roundg k3
          case measure => have := HK1.out; have := HK2.out; have := HK3.out; omega
          case rel => exact ⟨(x5_3), (x7_3), (wrap64 (x29_3 + 1)), rr, rr, H', ⟨by have := HK1.out; have := HK2.out; have := HK3.out; omega⟩, ⟨by (try simp only [hl5_1]); (try simp only [hl5_2]); (try simp only [hl5_3]); (with_reducible repeat (first | apply Kd.R_alloc | apply Kd.R_drewN | apply Kd.R_drew)); exact HO_5.out⟩, ⟨bw⟩⟩
         have H' := am H
         clear H
         obtain ⟨⟨ad436, e436, hx436_0⟩, p436, q436⟩ := pq (Kd.at_int (Kd.R_reads' HO_5.out).2.2 x29_3)
         obtain rfl : (⟨go15, 0, none⟩ : Addr) = ad436 := (by injection e436)
         (first | simp only [add_plain] at hx436_0 | simp only [add_at] at hx436_0 | simp only [Addr.add, Nat.zero_add] at hx436_0 | skip)
         go_wp2
         go_loopg [7, 38] k3 (fun kq v7 v38 w' => ∃ (x5_4 : List Int) (x7_4 : Bool) (x38_4 : Int), v7 = .bool x7_4 ∧ v38 = .int .i64 x38_4 ∧ Aside0 (impl_leasts.l3 kq l0 a1 x5_4 x7_4 x29_3 (rd x5_3 x29_3) (x5_2.length : Int) x29_3 l0 (l0.length : Int) x38_4 = some r) ∧ Aside0 (kq ≤ k3) ∧ Aside0 (Kd.R (Kd.int .i64) 3 w' w.heap.size (fun _ => True) (.slice (some ⟨go15, 0, none⟩) x5_3.length co7) x5_4) ∧ Aside0 (Below w.heap.size w w'))
         case atStart => exact ⟨(x5_3), (x7_3), (0), rr, rr, H', ⟨Nat.le_refl _⟩, ⟨by (try simp only [hl5_1]); (try simp only [hl5_2]); (try simp only [hl5_3]); (with_reducible repeat (first | apply Kd.R_alloc | apply Kd.R_drewN | apply Kd.R_drew)); exact HO_5.out⟩, ⟨bw⟩⟩
         case round =>
          clear H'
          try clear c3; try clear c3b0; try clear c3b1; try clear c4; try clear c4b0; try clear c4b1; try clear c8; try clear c8b0; try clear c9b0; try clear c10; try clear c10b0; try clear p11; try clear q11; try clear c14; try clear c14b0; try clear c14b1; try clear p15; try clear q15; try clear qi15; try clear c19; try clear c19b0; try clear c20b0; try clear c21; try clear c21b0; try clear c22b0; try clear hx11_0; try clear hx15_0; try clear hx436_0; try clear p436; try clear q436
          obtain ⟨x5_4, x7_4, x38_4, rfl, rfl, HA, HK4, HO_5, HB⟩ := hrel
          have hl5_4 := (Kd.R_reads' HO_5.out).1
          rw [hl5_4] at HO_5
          (try simp only [hl5_4])
          cases gk with
          | zero => exact absurd HA.out (by simp [impl_leasts.l3])
          | succ k4 =>
           have H := HA.out
           clear HA
           simp only [impl_leasts.l3] at H
           replace H := gi H; obtain ⟨c23b0, H⟩ | ⟨c23b0, H⟩ := H
           ·replace H := gd H; obtain ⟨c24b0, H⟩ := H
            replace H := gd H; obtain ⟨c25b0, H⟩ := H
            by_cases c26 : a1 = 0
            ·rw [if_pos c26] at H
             exact absurd H (by simp)
            rw [if_neg c26] at H
            have c26b0 : (a1 == 0) = false := beq_eq_false_iff_ne.mpr c26
            have c26b1 : (a1 != 0) = true := bne_iff_ne.mpr c26
            obtain ⟨ji27, hji27⟩ : ∃ j_ : Int, (Int.tmod (wrap64 (x29_3 + (rd l0 x38_4))) a1) = j_ := ⟨_, rfl⟩
            replace H : (if 0 ≤ (ji27) then (if (ji27) < (x5_4.length : Int) then (if (rd x5_4 (ji27)) < 0 then (impl_leasts.l3 k4 l0 a1 (x5_4.set ((ji27) : Int).toNat (wrap64 ((rd x5_3 x29_3) + (rd l0 x38_4)))) true x29_3 (rd x5_3 x29_3) (x5_2.length : Int) x29_3 l0 (l0.length : Int) (wrap64 (x38_4 + 1))) else (if (wrap64 ((rd x5_3 x29_3) + (rd l0 x38_4))) < (rd x5_4 (ji27)) then (impl_leasts.l3 k4 l0 a1 (x5_4.set ((ji27) : Int).toNat (wrap64 ((rd x5_3 x29_3) + (rd l0 x38_4)))) true x29_3 (rd x5_3 x29_3) (x5_2.length : Int) x29_3 l0 (l0.length : Int) (wrap64 (x38_4 + 1))) else (impl_leasts.l3 k4 l0 a1 x5_4 x7_4 x29_3 (rd x5_3 x29_3) (x5_2.length : Int) x29_3 l0 (l0.length : Int) (wrap64 (x38_4 + 1))))) else (none)) else (none)) = some r := by first | (rw [hji27] at H; exact H) | (simp only [hji27] at H ⊢; exact H)
            replace H := gd H; obtain ⟨c28b0, H⟩ := H
            by_cases c29 : (ji27) < (x5_4.length : Int)
            rotate_left
            ·rw [if_neg c29] at H
             exact absurd H (by simp)
            rw [if_pos c29] at H
            have c29b0 : decide ((ji27) < (x5_4.length : Int)) = true := decide_eq_true c29
            (try simp only [hl5_1, hl5_2, hl5_3, hl5_4] at c29b0)
            clear c29
            replace H := gi H; obtain ⟨c30b0, H⟩ | ⟨c30b0, H⟩ := H
            ·obtain ⟨y439, hy439⟩ : ∃ y_ : List Int, y_ = (x5_4.set ((ji27) : Int).toNat (wrap64 ((rd x5_3 x29_3) + (rd l0 x38_4)))) := ⟨_, rfl⟩
             replace H : (impl_leasts.l3 k4 l0 a1 y439 true x29_3 (rd x5_3 x29_3) (x5_2.length : Int) x29_3 l0 (l0.length : Int) (wrap64 (x38_4 + 1))) = some r := by first | (rw [hy439]; with_reducible first | exact H | exact bs H) | (with_reducible first | exact bs H | exact H) | (rw [hy439]; exact H) | exact H
             have Ny439 := am hy439
             clear hy439
             have H' := am H
             clear H
             obtain ⟨⟨ad437, e437, hx437_0⟩, p437, q437⟩ := pq (Kd.at_int HR0.out x38_4)
             cases e437
             replace hx437_0 := hw HB hx437_0
             obtain ⟨⟨ad438, e438, hx438_0⟩, p438, q438⟩ := pq (Kd.at_int (Kd.R_reads' HO_5.out).2.2 (ji27))
             obtain rfl : (⟨go15, 0, none⟩ : Addr) = ad438 := (by injection e438)
             (first | simp only [add_plain] at hx438_0 | simp only [add_at] at hx438_0 | simp only [Addr.add, Nat.zero_add] at hx438_0 | skip)
             have p31 : 0 ≤ ((ji27) : Int) := of_decide_eq_true (by first | (with_reducible assumption) | assumption)
             have q31 : ((ji27) : Int) < ((x5_4.length : Int) : Int) := of_decide_eq_true (by first | (with_reducible assumption) | assumption)
             obtain ⟨hx31_0, hf31_0⟩ := Kd.R_celln 0 HO_5.out ((ji27) : Int) p31 q31
             replace p31 := eq_true p31
             replace q31 := eq_true q31
             have HP32 := Kd.R_putg HO_5.out ((ji27) : Int) (wrap64 ((rd x5_3 x29_3) + (rd l0 x38_4)))
             go_wp2_with (first | ((with_reducible refine gate_store (t := 3) (p := 67) rfl ?_); refine store_event (t := 3) (p := 67) (v := ?vo_w33) (w1 := (wr.setCell ⟨go15, ((ji27) : Int).toNat, none⟩ (.int .i64 (wrap64 ((rd x5_3 x29_3) + (rd l0 x38_4)))))) ?hg ?ho ?hn ?hr ?_; (case ho => rfl); (case hg => rfl); (case hn => rfl); (case hr => first | (go_simp; done) | (go_simp; rfl)); intro w33 hw; have hg : wr.grownBy w33 (some go15) := (by rw [hw]; exact HP32.2); have hp_ : Kd.R (Kd.int .i64) 3 w33 w.heap.size (fun _ => True) (.slice (some ⟨go15, 0, none⟩) x5_4.length co7) y439 := (by rw [hw, Ny439.out]; exact HP32.1); clear HP32; replace HO_5 := am (hp_); replace HB := am ((by rw [hw]; exact below_set (HB.out) GB15.out : Below w.heap.size w w33)); clear hg hw hp_))
             (try simp only [← hl5_4])
             go_roundg k4
             case measure => have := HK1.out; have := HK2.out; have := HK3.out; have := HK4.out; omega
             case rel => exact ⟨(y439), (true), (wrap64 (x38_4 + 1)), rr, rr, H', ⟨by have := HK1.out; have := HK2.out; have := HK3.out; have := HK4.out; omega⟩, ⟨by (try simp only [hl5_1]); (try simp only [hl5_2]); (try simp only [hl5_3]); (try simp only [hl5_4]); (with_reducible repeat (first | apply Kd.R_alloc | apply Kd.R_drewN | apply Kd.R_drew)); exact HO_5.out⟩, ⟨bw⟩⟩
            replace H := gi H; obtain ⟨c34b0, H⟩ | ⟨c34b0, H⟩ := H
            ·obtain ⟨y441, hy441⟩ : ∃ y_ : List Int, y_ = (x5_4.set ((ji27) : Int).toNat (wrap64 ((rd x5_3 x29_3) + (rd l0 x38_4)))) := ⟨_, rfl⟩
             replace H : (impl_leasts.l3 k4 l0 a1 y441 true x29_3 (rd x5_3 x29_3) (x5_2.length : Int) x29_3 l0 (l0.length : Int) (wrap64 (x38_4 + 1))) = some r := by first | (rw [hy441]; with_reducible first | exact H | exact bs H) | (with_reducible first | exact bs H | exact H) | (rw [hy441]; exact H) | exact H
             have Ny441 := am hy441
             clear hy441
             have H' := am H
             clear H
             obtain ⟨⟨ad437, e437, hx437_0⟩, p437, q437⟩ := pq (Kd.at_int HR0.out x38_4)
             cases e437
             replace hx437_0 := hw HB hx437_0
             obtain ⟨⟨ad438, e438, hx438_0⟩, p438, q438⟩ := pq (Kd.at_int (Kd.R_reads' HO_5.out).2.2 (ji27))
             obtain rfl : (⟨go15, 0, none⟩ : Addr) = ad438 := (by injection e438)
             (first | simp only [add_plain] at hx438_0 | simp only [add_at] at hx438_0 | simp only [Addr.add, Nat.zero_add] at hx438_0 | skip)
             obtain ⟨⟨ad440, e440, hx440_0⟩, p440, q440⟩ := pq (Kd.at_int (Kd.R_reads' HO_5.out).2.2 (ji27))
             obtain rfl : (⟨go15, 0, none⟩ : Addr) = ad440 := (by injection e440)
             (first | simp only [add_plain] at hx440_0 | simp only [add_at] at hx440_0 | simp only [Addr.add, Nat.zero_add] at hx440_0 | skip)
             have p35 : 0 ≤ ((ji27) : Int) := of_decide_eq_true (by first | (with_reducible assumption) | assumption)
             have q35 : ((ji27) : Int) < ((x5_4.length : Int) : Int) := of_decide_eq_true (by first | (with_reducible assumption) | assumption)
             obtain ⟨hx35_0, hf35_0⟩ := Kd.R_celln 0 HO_5.out ((ji27) : Int) p35 q35
             replace p35 := eq_true p35
             replace q35 := eq_true q35
             have HP36 := Kd.R_putg HO_5.out ((ji27) : Int) (wrap64 ((rd x5_3 x29_3) + (rd l0 x38_4)))
             go_wp2_with (first | ((with_reducible refine gate_store (t := 3) (p := 67) rfl ?_); refine store_event (t := 3) (p := 67) (v := ?vo_w37) (w1 := (wr.setCell ⟨go15, ((ji27) : Int).toNat, none⟩ (.int .i64 (wrap64 ((rd x5_3 x29_3) + (rd l0 x38_4)))))) ?hg ?ho ?hn ?hr ?_; (case ho => rfl); (case hg => rfl); (case hn => rfl); (case hr => first | (go_simp; done) | (go_simp; rfl)); intro w37 hw; have hg : wr.grownBy w37 (some go15) := (by rw [hw]; exact HP36.2); have hp_ : Kd.R (Kd.int .i64) 3 w37 w.heap.size (fun _ => True) (.slice (some ⟨go15, 0, none⟩) x5_4.length co7) y441 := (by rw [hw, Ny441.out]; exact HP36.1); clear HP36; replace HO_5 := am (hp_); replace HB := am ((by rw [hw]; exact below_set (HB.out) GB15.out : Below w.heap.size w w37)); clear hg hw hp_))
             (try simp only [← hl5_4])
             go_roundg k4
             case measure => have := HK1.out; have := HK2.out; have := HK3.out; have := HK4.out; omega
             case rel => exact ⟨(y441), (true), (wrap64 (x38_4 + 1)), rr, rr, H', ⟨by have := HK1.out; have := HK2.out; have := HK3.out; have := HK4.out; omega⟩, ⟨by (try simp only [hl5_1]); (try simp only [hl5_2]); (try simp only [hl5_3]); (try simp only [hl5_4]); (with_reducible repeat (first | apply Kd.R_alloc | apply Kd.R_drewN | apply Kd.R_drew)); exact HO_5.out⟩, ⟨bw⟩⟩
            have H' := am H
            clear H
            obtain ⟨⟨ad437, e437, hx437_0⟩, p437, q437⟩ := pq (Kd.at_int HR0.out x38_4)
            cases e437
            replace hx437_0 := hw HB hx437_0
            obtain ⟨⟨ad438, e438, hx438_0⟩, p438, q438⟩ := pq (Kd.at_int (Kd.R_reads' HO_5.out).2.2 (ji27))
            obtain rfl : (⟨go15, 0, none⟩ : Addr) = ad438 := (by injection e438)
            (first | simp only [add_plain] at hx438_0 | simp only [add_at] at hx438_0 | simp only [Addr.add, Nat.zero_add] at hx438_0 | skip)
            obtain ⟨⟨ad440, e440, hx440_0⟩, p440, q440⟩ := pq (Kd.at_int (Kd.R_reads' HO_5.out).2.2 (ji27))
            obtain rfl : (⟨go15, 0, none⟩ : Addr) = ad440 := (by injection e440)
            (first | simp only [add_plain] at hx440_0 | simp only [add_at] at hx440_0 | simp only [Addr.add, Nat.zero_add] at hx440_0 | skip)
            go_wp2
            (try simp only [← hl5_4])
            go_roundg k4
            case measure => have := HK1.out; have := HK2.out; have := HK3.out; have := HK4.out; omega
            case rel => exact ⟨(x5_4), (x7_4), (wrap64 (x38_4 + 1)), rr, rr, H', ⟨by have := HK1.out; have := HK2.out; have := HK3.out; have := HK4.out; omega⟩, ⟨by (try simp only [hl5_1]); (try simp only [hl5_2]); (try simp only [hl5_3]); (try simp only [hl5_4]); (with_reducible repeat (first | apply Kd.R_alloc | apply Kd.R_drewN | apply Kd.R_drew)); exact HO_5.out⟩, ⟨bw⟩⟩
           have H' := am H
           clear H
           go_wp2
           (try simp only [← hl5_3, ← hl5_4])
           go_roundg k4
           case measure => have := HK1.out; have := HK2.out; have := HK3.out; have := HK4.out; omega
           case rel => exact ⟨(x5_4), (x7_4), (wrap64 (x29_3 + 1)), rr, rr, H', ⟨by have := HK1.out; have := HK2.out; have := HK3.out; have := HK4.out; omega⟩, ⟨by (try simp only [hl5_1]); (try simp only [hl5_2]); (try simp only [hl5_3]); (try simp only [hl5_4]); (with_reducible repeat (first | apply Kd.R_alloc | apply Kd.R_drewN | apply Kd.R_drew)); exact HO_5.out⟩, ⟨bw⟩⟩
        rw [if_neg c19] at H
        have c19b0 : decide (x29_3 < (x5_2.length : Int)) = false := decide_eq_false c19
        (try simp only [hl5_1, hl5_2, hl5_3] at c19b0)
        clear c19
        have H' := am H
        clear H
        go_wp2
        (try simp only [← hl5_2, ← hl5_3])
        go_roundg k3
        case measure => have := HK1.out; have := HK2.out; have := HK3.out; omega
        case rel => exact ⟨(x5_3), (x7_3), rr, H', ⟨by have := HK1.out; have := HK2.out; have := HK3.out; omega⟩, ⟨by (try simp only [hl5_1]); (try simp only [hl5_2]); (try simp only [hl5_3]); (with_reducible repeat (first | apply Kd.R_alloc | apply Kd.R_drewN | apply Kd.R_drew)); exact HO_5.out⟩, ⟨bw⟩⟩
     obtain rfl := Option.some.inj H
     go_wp2
     go_ret
     exact ⟨_, re, ro HO_5.out, bw⟩


/-! ### impl_usable: function 140 -/
def impl_usable.f (k : Nat) (l0 : List Int) : Option (Bool) := (impl_within.f (l0.length : Int) 1 20).bind fun t442 => (if t442 = true then ((impl_allWithin.f k l0 1 60).bind fun t443 => (some t443)) else (some false))
set_option maxHeartbeats 8000000 in
set_option maxRecDepth 100000 in
theorem impl_usable.calls (k : Nat) (A0 : Option Addr) (c0 : Nat) (l0 : List Int) (r : Bool) (w : World) (hr0 : Kd.C (Kd.int .i64) w A0 l0.length l0) (hc0 : l0.length ≤ c0) (h : impl_usable.f k l0 = some r) :
  Calls Try.prog 140 #[.slice A0 l0.length c0] w fun e w' => e = .returned (.bool r) ∧ Drawn0 w w' := by
 have HR0 := am hr0
 have HC0 := am hc0
 clear hr0 hc0
 have H : ((impl_within.f (l0.length : Int) 1 20).bind fun t442 => (if t442 = true then ((impl_allWithin.f k l0 1 60).bind fun t443 => (some t443)) else (some false))) = some r := h
 clear h
 replace H := ga H; obtain ⟨t442, A2, H⟩ := H
 replace H := gb H; obtain ⟨rfl, H⟩ | ⟨rfl, H⟩ := H
 ·replace H := ga H; obtain ⟨t443, A4, H⟩ := H
  obtain rfl := Option.some.inj H
  go_enter Try.func140, Try.ntmps140
  go_wp2_with (first | ((with_reducible refine gate_callee (f := 63) rfl ?_); refine gl (some 5) Try.func63 #[.int .i64 (l0.length : Int), .int .i64 1, .int .i64 20] ?_; (with_reducible refine (impl_within.calls (l0.length : Int) 1 20 true _ A2.out).mono ?_); rintro e w' ⟨rfl, ⟨nd, rfl⟩⟩; refine ⟨_, rfl, ?_⟩) | (go_at_call 112; (with_reducible refine (impl_allWithin.calls k _ _ l0 1 60 t443 _ ?side1 ?side2 A4.out).mono ?_); (case side1 => exact co HR0.out); (case side2 => exact HC0.out); rintro e w' ⟨rfl, ⟨nd, rfl⟩⟩))
  go_ret
  exact ⟨rr, dw⟩
 obtain rfl := Option.some.inj H
 go_enter Try.func140, Try.ntmps140
 go_wp2_with (first | ((with_reducible refine gate_callee (f := 63) rfl ?_); refine gl (some 5) Try.func63 #[.int .i64 (l0.length : Int), .int .i64 1, .int .i64 20] ?_; (with_reducible refine (impl_within.calls (l0.length : Int) 1 20 false _ A2.out).mono ?_); rintro e w' ⟨rfl, ⟨nd, rfl⟩⟩; refine ⟨_, rfl, ?_⟩))
 go_ret
 exact ⟨rr, dw⟩


/-! ### impl_Generates: function 115 -/
def impl_Generates.f (k : Nat) (l0 : List Int) (a1 : Int) : Option (Bool) := (impl_usable.f k l0).bind fun t444 => (if t444 = true then ((impl_within.f a1 0 1000000).bind fun t445 => (if t445 = true then (if 0 < (l0.length : Int) then ((impl_leasts.f k l0 (rd l0 0)).bind fun t447 => (if (rd l0 0) = 0 then (none) else (if 0 ≤ (Int.tmod a1 (rd l0 0)) then (if (Int.tmod a1 (rd l0 0)) < (t447.length : Int) then (if (rd t447 (Int.tmod a1 (rd l0 0))) ≥ 0 then (some (decide ((rd t447 (Int.tmod a1 (rd l0 0))) ≤ a1))) else (some false)) else (none)) else (none)))) else (none)) else (some false))) else (some false))
def impl_Generates.T3 : Bool × List (List Nat × List Nat) := (true, [([], []), ([], []), ([1], [1]), ([2], [2]), ([0, 3], [0, 3]), ([], []), ([], []), ([6], [6]), ([7], [7]), ([5, 8], [5, 8]), ([4, 9], [4, 9]), ([10], [10]), ([11, 4, 0, 1, 2, 3, 4, 5, 6, 7, 8, 9, 10, 11], [11])])
def impl_Generates.B3 : List Nat := [0, 0, 2, 6, 15, 0, 0, 64, 192, 480, 1023, 2047, 4095]
theorem impl_Generates.tab3 : rtab .any (opsOf Try.f115 3) = impl_Generates.T3 := by kernel_rfl
theorem impl_Generates.bits3 : waitsOk impl_Generates.T3.2 impl_Generates.B3 = true := by kernel_rfl
set_option maxHeartbeats 8000000 in
set_option maxRecDepth 100000 in
theorem impl_Generates.calls (k : Nat) (A0 : Option Addr) (c0 : Nat) (l0 : List Int) (a1 : Int) (r : Bool) (w : World) (hr0 : Kd.C (Kd.int .i64) w A0 l0.length l0) (hc0 : l0.length ≤ c0) (h : impl_Generates.f k l0 a1 = some r) :
  Calls Try.prog 115 #[.slice A0 l0.length c0, .int .i64 a1] w fun e w' => e = .returned (.bool r) ∧ Below w.heap.size w w' := by
 have HR0 := am hr0
 have HC0 := am hc0
 clear hr0 hc0
 have HB := am (Below.refl w.heap.size w)
 have H : ((impl_usable.f k l0).bind fun t444 => (if t444 = true then ((impl_within.f a1 0 1000000).bind fun t445 => (if t445 = true then (if 0 < (l0.length : Int) then ((impl_leasts.f k l0 (rd l0 0)).bind fun t447 => (if (rd l0 0) = 0 then (none) else (if 0 ≤ (Int.tmod a1 (rd l0 0)) then (if (Int.tmod a1 (rd l0 0)) < (t447.length : Int) then (if (rd t447 (Int.tmod a1 (rd l0 0))) ≥ 0 then (some (decide ((rd t447 (Int.tmod a1 (rd l0 0))) ≤ a1))) else (some false)) else (none)) else (none)))) else (none)) else (some false))) else (some false))) = some r := h
 clear h
 replace H := ga H; obtain ⟨t444, A3, H⟩ := H
 replace H := gb H; obtain ⟨rfl, H⟩ | ⟨rfl, H⟩ := H
 ·replace H := ga H; obtain ⟨t445, A5, H⟩ := H
  replace H := gb H; obtain ⟨rfl, H⟩ | ⟨rfl, H⟩ := H
  ·replace H := gp H; obtain ⟨c7, H⟩ := H
   have c7b0 : decide (0 < (l0.length : Int)) = true := decide_eq_true c7
   have c7b1 : decide (0 < l0.length) = true := decide_eq_true (by omega)
   clear c7
   replace H := ga H; obtain ⟨t447, A8, H⟩ := H
   by_cases c9 : (rd l0 0) = 0
   ·rw [if_pos c9] at H
    exact absurd H (by simp)
   rw [if_neg c9] at H
   have c9b0 : ((rd l0 0) == 0) = false := beq_eq_false_iff_ne.mpr c9
   have c9b1 : ((rd l0 0) != 0) = true := bne_iff_ne.mpr c9
   obtain ⟨ji10, hji10⟩ : ∃ j_ : Int, (Int.tmod a1 (rd l0 0)) = j_ := ⟨_, rfl⟩
   replace H : (if 0 ≤ (ji10) then (if (ji10) < (t447.length : Int) then (if (rd t447 (ji10)) ≥ 0 then (some (decide ((rd t447 (ji10)) ≤ a1))) else (some false)) else (none)) else (none)) = some r := by first | (rw [hji10] at H; exact H) | (simp only [hji10] at H ⊢; exact H)
   (try rw [hji10] at A3)
   (try rw [hji10] at A5)
   (try rw [hji10] at A8)
   replace H := gd H; obtain ⟨c11b0, H⟩ := H
   replace H := gd H; obtain ⟨c12b0, H⟩ := H
   replace H := gj H; obtain ⟨c13, H⟩ | ⟨c13, H⟩ := H
   ·have c13b0 : decide (0 ≤ (rd t447 (ji10))) = true := decide_eq_true c13
    clear c13
    obtain rfl := Option.some.inj H
    go_enter Try.func115, Try.ntmps115
    try go_wp2_with (first | ((with_reducible refine gate_callee (f := 140) rfl ?_); refine gl (some 7) Try.func140 #[.slice A0 l0.length c0] ?_; (with_reducible refine (impl_usable.calls k _ _ l0 true _ ?side1 ?side2 A3.out).mono ?_); (case side1 => exact co HR0.out); (case side2 => exact HC0.out); rintro e w' ⟨rfl, ⟨nda, rfl⟩⟩; refine ⟨_, rfl, ?_⟩) | (go_at_call 63; (with_reducible refine (impl_within.calls a1 0 1000000 true _ A5.out).mono ?_); rintro e w' ⟨rfl, ⟨ndb, rfl⟩⟩))
    replace HB := am (below_drew1 (pw_below_drewN HB.out (nda + ndb)))
    have p446 : 0 ≤ (0 : Int) := (by omega)
    have q446 : 0 < (l0.length : Int) := of_decide_eq_true (by first | (with_reducible assumption) | assumption)
    obtain ⟨ad446, e446, hx446_0⟩ := Kd.at_int HR0.out 0 p446 q446
    have hw446_0 := hx446_0
    (try rw [show ((0 : Int)).toNat = 0 from rfl] at hw446_0)
    (try rw [show 0 * 1 = 0 from rfl] at hw446_0)
    (try rw [Addr.add_zero'] at hw446_0)
    cases e446
    have qi446 : (0 < l0.length) = True := eq_true (by omega)
    (try rw [show ((0 : Int)).toNat = 0 from rfl] at hx446_0)
    (try rw [Addr.add_zero'] at hx446_0)
    replace hx446_0 := hw HB hx446_0
    replace p446 := eq_true p446
    replace q446 := eq_true q446
    have p450 : 0 ≤ (0 : Int) := (by omega)
    have q450 : 0 < (l0.length : Int) := of_decide_eq_true (by first | (with_reducible assumption) | assumption)
    obtain ⟨ad450, e450, hx450_0⟩ := Kd.at_int HR0.out 0 p450 q450
    have hw450_0 := hx450_0
    (try rw [show ((0 : Int)).toNat = 0 from rfl] at hw450_0)
    (try rw [show 0 * 1 = 0 from rfl] at hw450_0)
    (try rw [Addr.add_zero'] at hw450_0)
    obtain rfl : ad446 = ad450 := (by injection e450)
    have qi450 : (0 < l0.length) = True := eq_true (by omega)
    (try rw [show ((0 : Int)).toNat = 0 from rfl] at hx450_0)
    (try rw [Addr.add_zero'] at hx450_0)
    replace hx450_0 := hw HB hx450_0
    replace p450 := eq_true p450
    replace q450 := eq_true q450
    refine start_ (n := 13) (S := fun w' => w'.cell? ad446 = some (.int .i64 (rd l0 0)) ∧ w'.cell? ad446 = some (.int .i64 (rd l0 0))) (ds := []) (yz 13 0) (by kernel_rfl) rfl rfl ⟨((HB.out.cell (World.block_lt_of_cell? w _ hw446_0)).trans hw446_0), ((HB.out.cell (World.block_lt_of_cell? w _ hw450_0)).trans hw450_0)⟩ (fun hHeld => ?_); refine with_tabW impl_Generates.tab3 impl_Generates.bits3 (fun HT_ HW_ => ?_)
    generalize (w.drewN (nda + ndb)).drew = w14 at HB hx446_0 hx450_0 hHeld ⊢
    refine pa 0 (some 14) (yz 13 1) HT_ ?_
    refine pa 1 (some 15) (yz 13 3) HT_ ?_
    refine pa 2 (some 16) (yz 13 7) HT_ ?_
    refine pa 5 (some 19) (yz 13 39) HT_ ?_
    refine pa 6 (some 20) (yz 13 103) HT_ ?_
    refine pa 7 (some 21) (yz 13 231) HT_ ?_
    refine tk 3 (some 17) (yz 13 239) HT_ HW_ hHeld ?_
    refine tk 8 (some 22) (yz 13 495) HT_ HW_ hHeld ?_
    refine pa 9 (some 23) (yz 13 1007) HT_ ?_
    refine oa 4 (some 18) (yz 13 1023) HT_ (fun K hK => ?_)
    refine gm Try.func116 #[.slice (some ad446) l0.length c0, .int .i64 (rd l0 0)] ?_
    with_reducible refine (impl_leasts.calls k _ _ l0 (rd l0 0) t447 _ ?side1 ?side2 A8.out).mono ?_
    (case side1 => exact co (Kd.C_below HR0.out HB.out))
    (case side2 => exact HC0.out)
    rintro e w15 ⟨v448, rfl, ho0, hb⟩
    refine ⟨_, rfl, ?_⟩
    have HO449 := am (Kd.R_lower ho0 (below_size bw))
    replace HB := am (below_step bw hb)
    clear hb ho0
    obtain ⟨Ao16, co16, eo16⟩ := Kd.R_slice HO449.out
    (first | subst eo16 | (injection eo16 with f1_ f2_ f3_; have f4_ := f1_.symm; have f5_ := f3_.symm; clear f1_ f2_ f3_; subst f4_; subst f5_))
    obtain ⟨⟨ad451, e451, hx451_0⟩, p451, q451⟩ := pq (Kd.at_int (Kd.R_reads' HO449.out).2.2 (ji10))
    cases e451
    refine hK.out _ _ ⟨((HB.out.cell (World.block_lt_of_cell? w _ hw446_0)).trans hw446_0), ((HB.out.cell (World.block_lt_of_cell? w _ hw450_0)).trans hw450_0)⟩ (fun hHeld => ?_)
    clear hK K
    refine nm (some 18) ?_
    refine pa 10 (some 24) (yz 13 2047) HT_ ?_
    refine oa 11 (some 25) (yz 13 4095) HT_ (fun K hK => ?_)
    refine value_ (w1 := ?_) (v := ?_) (by rfl) rfl ?_ ?_
    rotate_left 2
    ·go_simp
     constructor
     ·rfl
     rfl
    refine hK.out _ _ hHeld (fun hHeld => ?_)
    clear hK K
    refine nm (some 25) ?_
    refine pa 12 (some 5) (yz 13 8191) HT_ ?_
    refine done_ (done_of HT_.out (by kernel_rfl)) ?_
    try go_wp2
    go_ret
    exact ⟨by first | rfl | (simp [errW_none, errW_some] <;> rfl) | (simp only [← hji10]; first | rfl | (simp [errW_none, errW_some] <;> rfl)) | (simp [*, errW_none, errW_some] <;> rfl), bw⟩
   have c13b0 : decide (0 ≤ (rd t447 (ji10))) = false := decide_eq_false c13
   clear c13
   obtain rfl := Option.some.inj H
   go_enter Try.func115, Try.ntmps115
   try go_wp2_with (first | ((with_reducible refine gate_callee (f := 140) rfl ?_); refine gl (some 7) Try.func140 #[.slice A0 l0.length c0] ?_; (with_reducible refine (impl_usable.calls k _ _ l0 true _ ?side1 ?side2 A3.out).mono ?_); (case side1 => exact co HR0.out); (case side2 => exact HC0.out); rintro e w' ⟨rfl, ⟨nda, rfl⟩⟩; refine ⟨_, rfl, ?_⟩) | (go_at_call 63; (with_reducible refine (impl_within.calls a1 0 1000000 true _ A5.out).mono ?_); rintro e w' ⟨rfl, ⟨ndb, rfl⟩⟩))
   replace HB := am (below_drew1 (pw_below_drewN HB.out (nda + ndb)))
   have p446 : 0 ≤ (0 : Int) := (by omega)
   have q446 : 0 < (l0.length : Int) := of_decide_eq_true (by first | (with_reducible assumption) | assumption)
   obtain ⟨ad446, e446, hx446_0⟩ := Kd.at_int HR0.out 0 p446 q446
   have hw446_0 := hx446_0
   (try rw [show ((0 : Int)).toNat = 0 from rfl] at hw446_0)
   (try rw [show 0 * 1 = 0 from rfl] at hw446_0)
   (try rw [Addr.add_zero'] at hw446_0)
   cases e446
   have qi446 : (0 < l0.length) = True := eq_true (by omega)
   (try rw [show ((0 : Int)).toNat = 0 from rfl] at hx446_0)
   (try rw [Addr.add_zero'] at hx446_0)
   replace hx446_0 := hw HB hx446_0
   replace p446 := eq_true p446
   replace q446 := eq_true q446
   have p450 : 0 ≤ (0 : Int) := (by omega)
   have q450 : 0 < (l0.length : Int) := of_decide_eq_true (by first | (with_reducible assumption) | assumption)
   obtain ⟨ad450, e450, hx450_0⟩ := Kd.at_int HR0.out 0 p450 q450
   have hw450_0 := hx450_0
   (try rw [show ((0 : Int)).toNat = 0 from rfl] at hw450_0)
   (try rw [show 0 * 1 = 0 from rfl] at hw450_0)
   (try rw [Addr.add_zero'] at hw450_0)
   obtain rfl : ad446 = ad450 := (by injection e450)
   have qi450 : (0 < l0.length) = True := eq_true (by omega)
   (try rw [show ((0 : Int)).toNat = 0 from rfl] at hx450_0)
   (try rw [Addr.add_zero'] at hx450_0)
   replace hx450_0 := hw HB hx450_0
   replace p450 := eq_true p450
   replace q450 := eq_true q450
   refine start_ (n := 13) (S := fun w' => w'.cell? ad446 = some (.int .i64 (rd l0 0)) ∧ w'.cell? ad446 = some (.int .i64 (rd l0 0))) (ds := []) (yz 13 0) (by kernel_rfl) rfl rfl ⟨((HB.out.cell (World.block_lt_of_cell? w _ hw446_0)).trans hw446_0), ((HB.out.cell (World.block_lt_of_cell? w _ hw450_0)).trans hw450_0)⟩ (fun hHeld => ?_); refine with_tabW impl_Generates.tab3 impl_Generates.bits3 (fun HT_ HW_ => ?_)
   generalize (w.drewN (nda + ndb)).drew = w17 at HB hx446_0 hx450_0 hHeld ⊢
   refine pa 0 (some 14) (yz 13 1) HT_ ?_
   refine pa 1 (some 15) (yz 13 3) HT_ ?_
   refine pa 2 (some 16) (yz 13 7) HT_ ?_
   refine pa 5 (some 19) (yz 13 39) HT_ ?_
   refine pa 6 (some 20) (yz 13 103) HT_ ?_
   refine pa 7 (some 21) (yz 13 231) HT_ ?_
   refine tk 3 (some 17) (yz 13 239) HT_ HW_ hHeld ?_
   refine tk 8 (some 22) (yz 13 495) HT_ HW_ hHeld ?_
   refine pa 9 (some 23) (yz 13 1007) HT_ ?_
   refine oa 4 (some 18) (yz 13 1023) HT_ (fun K hK => ?_)
   refine gm Try.func116 #[.slice (some ad446) l0.length c0, .int .i64 (rd l0 0)] ?_
   with_reducible refine (impl_leasts.calls k _ _ l0 (rd l0 0) t447 _ ?side1 ?side2 A8.out).mono ?_
   (case side1 => exact co (Kd.C_below HR0.out HB.out))
   (case side2 => exact HC0.out)
   rintro e w18 ⟨v448, rfl, ho0, hb⟩
   refine ⟨_, rfl, ?_⟩
   have HO449 := am (Kd.R_lower ho0 (below_size bw))
   replace HB := am (below_step bw hb)
   clear hb ho0
   obtain ⟨Ao19, co19, eo19⟩ := Kd.R_slice HO449.out
   (first | subst eo19 | (injection eo19 with f1_ f2_ f3_; have f4_ := f1_.symm; have f5_ := f3_.symm; clear f1_ f2_ f3_; subst f4_; subst f5_))
   obtain ⟨⟨ad451, e451, hx451_0⟩, p451, q451⟩ := pq (Kd.at_int (Kd.R_reads' HO449.out).2.2 (ji10))
   cases e451
   refine hK.out _ _ ⟨((HB.out.cell (World.block_lt_of_cell? w _ hw446_0)).trans hw446_0), ((HB.out.cell (World.block_lt_of_cell? w _ hw450_0)).trans hw450_0)⟩ (fun hHeld => ?_)
   clear hK K
   refine nm (some 18) ?_
   refine pa 10 (some 24) (yz 13 2047) HT_ ?_
   refine oa 11 (some 25) (yz 13 4095) HT_ (fun K hK => ?_)
   refine value_ (w1 := ?_) (v := ?_) (by rfl) rfl ?_ ?_
   rotate_left 2
   ·go_simp
    constructor
    ·rfl
    rfl
   refine hK.out _ _ hHeld (fun hHeld => ?_)
   clear hK K
   refine nm (some 25) ?_
   refine pa 12 (some 5) (yz 13 8191) HT_ ?_
   refine done_ (done_of HT_.out (by kernel_rfl)) ?_
   try go_wp2
   go_ret
   exact ⟨by first | rfl | (simp [errW_none, errW_some] <;> rfl) | (simp only [← hji10]; first | rfl | (simp [errW_none, errW_some] <;> rfl)) | (simp [*, errW_none, errW_some] <;> rfl), bw⟩
  obtain rfl := Option.some.inj H
  go_enter Try.func115, Try.ntmps115
  go_wp2_with (first | ((with_reducible refine gate_callee (f := 140) rfl ?_); refine gl (some 7) Try.func140 #[.slice A0 l0.length c0] ?_; (with_reducible refine (impl_usable.calls k _ _ l0 true _ ?side1 ?side2 A3.out).mono ?_); (case side1 => exact co HR0.out); (case side2 => exact HC0.out); rintro e w' ⟨rfl, ⟨nd, rfl⟩⟩; refine ⟨_, rfl, ?_⟩) | (go_at_call 63; (with_reducible refine (impl_within.calls a1 0 1000000 false _ A5.out).mono ?_); rintro e w' ⟨rfl, ⟨nd, rfl⟩⟩))
  go_ret
  exact ⟨re, bw⟩
 obtain rfl := Option.some.inj H
 go_enter Try.func115, Try.ntmps115
 go_wp2_with (first | ((with_reducible refine gate_callee (f := 140) rfl ?_); refine gl (some 7) Try.func140 #[.slice A0 l0.length c0] ?_; (with_reducible refine (impl_usable.calls k _ _ l0 false _ ?side1 ?side2 A3.out).mono ?_); (case side1 => exact co HR0.out); (case side2 => exact HC0.out); rintro e w' ⟨rfl, ⟨nd, rfl⟩⟩; refine ⟨_, rfl, ?_⟩))
 go_ret
 exact ⟨re, bw⟩


/-! ### impl_IsSemigroup: function 62 -/
mutual
def impl_IsSemigroup.j0 : Nat → List Int → Bool → Option (Bool)
 | 0, _, _ => none
 | k + 1, x3, x27 => if x27 = true then (some false) else (impl_IsSemigroup.l0 k x3 1)
def impl_IsSemigroup.l0 : Nat → List Int → Int → Option (Bool)
 | 0, _, _ => none
 | k + 1, x3, x4 => if x4 < (x3.length : Int) then (if 0 ≤ x4 then (if x4 ≤ (x3.length : Int) then ((impl_Generates.f k (x3.take (x4 : Int).toNat) (rd x3 x4)).bind fun t459 => (if t459 = true then (some false) else (impl_IsSemigroup.l0 k x3 (wrap64 (x4 + 1))))) else (none)) else (none)) else (if 0 < (x3.length : Int) then ((impl_leasts.f k x3 (rd x3 0)).bind fun t461 => (impl_IsSemigroup.l1 k x3 t461 (t461.length : Int) 0)) else (none))
def impl_IsSemigroup.l1 : Nat → List Int → List Int → Int → Int → Option (Bool)
 | 0, _, _, _, _ => none
 | k + 1, x3, x46, x47, x48 => if x48 < x47 then (if 0 ≤ x48 then (if x48 < (x46.length : Int) then (if 0 < (x3.length : Int) then (if (wrap64 ((rd x46 x48) - (rd x3 0))) ≥ 200 then (some false) else (impl_IsSemigroup.l1 k x3 x46 x47 (wrap64 (x48 + 1)))) else (none)) else (none)) else (none)) else (some true)
end
def impl_IsSemigroup.f (k : Nat) (l0_0 : List Int) : Option (Bool) := (impl_within.f (l0_0.length : Int) 1 12).bind fun t453 => (if t453 = true then ((impl_allWithin.f k l0_0 1 60).bind fun t454 => (if t454 = true then ((impl_IsAscending.f k l0_0).bind fun t455 => (if t455 = true then ((impl_GcdOfList.f k l0_0).bind fun t456 => (impl_IsSemigroup.j0 k l0_0 (t456 != 1))) else (impl_IsSemigroup.j0 k l0_0 true))) else (impl_IsSemigroup.j0 k l0_0 true))) else (impl_IsSemigroup.j0 k l0_0 true))
def impl_IsSemigroup.T7 : Bool × List (List Nat × List Nat) := (true, [([], []), ([], []), ([0, 1], [0, 1]), ([], []), ([], []), ([3, 4], [3, 4]), ([5], [5]), ([2, 6], [2, 6])])
def impl_IsSemigroup.B7 : List Nat := [0, 0, 3, 0, 0, 24, 56, 127]
theorem impl_IsSemigroup.tab7 : rtab .any (opsOf Try.f62 7) = impl_IsSemigroup.T7 := by kernel_rfl
theorem impl_IsSemigroup.bits7 : waitsOk impl_IsSemigroup.T7.2 impl_IsSemigroup.B7 = true := by kernel_rfl
set_option maxHeartbeats 8000000 in
set_option maxRecDepth 100000 in
theorem impl_IsSemigroup.calls (k : Nat) (A0_0 : Option Addr) (c0_0 : Nat) (l0_0 : List Int) (r : Bool) (w : World) (hr0_0 : Kd.C (Kd.int .i64) w A0_0 l0_0.length l0_0) (hc0_0 : l0_0.length ≤ c0_0) (h : impl_IsSemigroup.f k l0_0 = some r) :
  Calls Try.prog 62 #[.agg #[.slice A0_0 l0_0.length c0_0]] w fun e w' => e = .returned (.bool r) ∧ Below w.heap.size w w' := by
 have hu27 := Try.underlying27
 have HR0_0 := am hr0_0
 have HC0_0 := am hc0_0
 clear hr0_0 hc0_0
 have HB := am (Below.refl w.heap.size w)
 have H : ((impl_within.f (l0_0.length : Int) 1 12).bind fun t453 => (if t453 = true then ((impl_allWithin.f k l0_0 1 60).bind fun t454 => (if t454 = true then ((impl_IsAscending.f k l0_0).bind fun t455 => (if t455 = true then ((impl_GcdOfList.f k l0_0).bind fun t456 => (impl_IsSemigroup.j0 k l0_0 (t456 != 1))) else (impl_IsSemigroup.j0 k l0_0 true))) else (impl_IsSemigroup.j0 k l0_0 true))) else (impl_IsSemigroup.j0 k l0_0 true))) = some r := h
 clear h
 have HC2 := am H
 clear H
 go_enter Try.func62, Try.ntmps62
 go_upto_region 2 with (first | ((with_reducible refine gate_dst (N := 1) rfl ?_); refine bx 1 #[.slice A0_0 l0_0.length c0_0] 27 ?_; intro gb452 hg w3 hbox hb; have BK452 := am (hbox); have GW452 := am (gs hg : w.heap.size ≤ gb452); have GE452 := GW452; replace HB := am (below_step bw hb); clear hb hbox hg; have hcz4_0 := bc BK452 0 (.slice A0_0 l0_0.length c0_0); have hfz4_0 := blk_frozen BK452.out 0))
 (try simp only [Act.put, List.setIfInBounds_toArray, List.set_cons_zero, List.set_cons_succ])
 go_cut [27] (fun v27 wc => ∃ (kq : Nat) (x27_1 : Bool), v27 = .bool x27_1 ∧ Aside0 (impl_IsSemigroup.j0 kq l0_0 x27_1 = some r) ∧ Aside0 (kq ≤ k) ∧ Aside0 (wc.heap[gb452]? = some (.cells #[(.slice A0_0 l0_0.length c0_0)] 27 (0, 0))) ∧ Aside0 (Below w.heap.size w wc))
 case first =>
  have H := HC2.out
  clear HC2
  replace H := ga H; obtain ⟨t453, A5, H⟩ := H
  replace H := gb H; obtain ⟨rfl, H⟩ | ⟨rfl, H⟩ := H
  ·replace H := ga H; obtain ⟨t454, A7, H⟩ := H
   replace H := gb H; obtain ⟨rfl, H⟩ | ⟨rfl, H⟩ := H
   ·replace H := ga H; obtain ⟨t455, A9, H⟩ := H
    replace H := gb H; obtain ⟨rfl, H⟩ | ⟨rfl, H⟩ := H
    ·replace H := ga H; obtain ⟨t456, A11, H⟩ := H
     have H' := am H
     clear H
     go_wp2_with (first | ((with_reducible refine gate_callee (f := 63) rfl ?_); refine gl (some 11) Try.func63 #[.int .i64 (l0_0.length : Int), .int .i64 1, .int .i64 12] ?_; (with_reducible refine (impl_within.calls (l0_0.length : Int) 1 12 true _ A5.out).mono ?_); rintro e w' ⟨rfl, ⟨nd, rfl⟩⟩; refine ⟨_, rfl, ?_⟩) | (go_at_call 112; (with_reducible refine (impl_allWithin.calls k _ _ l0_0 1 60 true _ ?side1 ?side2 A7.out).mono ?_); (case side1 => exact co (Kd.C_below HR0_0.out bw)); (case side2 => exact HC0_0.out); rintro e w' ⟨rfl, ⟨nd, rfl⟩⟩) | (go_at_call 113; (with_reducible refine (impl_IsAscending.calls k _ _ l0_0 true _ ?side1 ?side2 A9.out).mono ?_); (case side1 => exact co (Kd.C_below HR0_0.out bw)); (case side2 => exact HC0_0.out); rintro e w' ⟨rfl, ⟨nd, rfl⟩⟩) | (go_at_call 114; (with_reducible refine (impl_GcdOfList.calls k _ _ l0_0 t456 _ ?side1 ?side2 A11.out).mono ?_); (case side1 => exact co (Kd.C_below HR0_0.out bw)); (case side2 => exact HC0_0.out); rintro e w12 ⟨rfl, hb⟩; replace BK452 := kb BK452 hb; replace HB := am (below_step bw hb); clear hb))
     go_meet
     case rel => exact ⟨_, ((t456 != 1)), rr, H', ⟨om⟩, ⟨bo BK452.out⟩, ⟨bw⟩⟩
    have H' := am H
    clear H
    go_wp2_with (first | ((with_reducible refine gate_callee (f := 63) rfl ?_); refine gl (some 11) Try.func63 #[.int .i64 (l0_0.length : Int), .int .i64 1, .int .i64 12] ?_; (with_reducible refine (impl_within.calls (l0_0.length : Int) 1 12 true _ A5.out).mono ?_); rintro e w' ⟨rfl, ⟨nd, rfl⟩⟩; refine ⟨_, rfl, ?_⟩) | (go_at_call 112; (with_reducible refine (impl_allWithin.calls k _ _ l0_0 1 60 true _ ?side1 ?side2 A7.out).mono ?_); (case side1 => exact co (Kd.C_below HR0_0.out bw)); (case side2 => exact HC0_0.out); rintro e w' ⟨rfl, ⟨nd, rfl⟩⟩) | (go_at_call 113; (with_reducible refine (impl_IsAscending.calls k _ _ l0_0 false _ ?side1 ?side2 A9.out).mono ?_); (case side1 => exact co (Kd.C_below HR0_0.out bw)); (case side2 => exact HC0_0.out); rintro e w' ⟨rfl, ⟨nd, rfl⟩⟩))
    go_meet
    case rel => exact ⟨_, (true), rr, H', ⟨om⟩, ⟨bo BK452.out⟩, ⟨bw⟩⟩
   have H' := am H
   clear H
   go_wp2_with (first | ((with_reducible refine gate_callee (f := 63) rfl ?_); refine gl (some 11) Try.func63 #[.int .i64 (l0_0.length : Int), .int .i64 1, .int .i64 12] ?_; (with_reducible refine (impl_within.calls (l0_0.length : Int) 1 12 true _ A5.out).mono ?_); rintro e w' ⟨rfl, ⟨nd, rfl⟩⟩; refine ⟨_, rfl, ?_⟩) | (go_at_call 112; (with_reducible refine (impl_allWithin.calls k _ _ l0_0 1 60 false _ ?side1 ?side2 A7.out).mono ?_); (case side1 => exact co (Kd.C_below HR0_0.out bw)); (case side2 => exact HC0_0.out); rintro e w' ⟨rfl, ⟨nd, rfl⟩⟩))
   go_meet
   case rel => exact ⟨_, (true), rr, H', ⟨om⟩, ⟨bo BK452.out⟩, ⟨bw⟩⟩
  have H' := am H
  clear H
  go_wp2_with (first | ((with_reducible refine gate_callee (f := 63) rfl ?_); refine gl (some 11) Try.func63 #[.int .i64 (l0_0.length : Int), .int .i64 1, .int .i64 12] ?_; (with_reducible refine (impl_within.calls (l0_0.length : Int) 1 12 false _ A5.out).mono ?_); rintro e w' ⟨rfl, ⟨nd, rfl⟩⟩; refine ⟨_, rfl, ?_⟩))
  go_meet
  case rel => exact ⟨_, (true), rr, H', ⟨om⟩, ⟨bo BK452.out⟩, ⟨bw⟩⟩
 case rest =>
  clear HC2
  try clear hcz4_0; try clear hfz4_0
  obtain ⟨kq, x27_1, rfl, HA, HJ1, BK452, HB⟩ := hcut
  cases kq with
  | zero => exact absurd HA.out (by simp [impl_IsSemigroup.j0])
  | succ kj1 =>
   have H := HA.out
   clear HA
   simp only [impl_IsSemigroup.j0] at H
   replace H := gb H; obtain ⟨rfl, H⟩ | ⟨rfl, H⟩ := H
   ·obtain rfl := Option.some.inj H
    go_wp2
    go_ret
    exact ⟨re, bw⟩
   have H' := am H
   clear H
   go_wp2
   go_loopg [4] kj1 (fun kq v4 w' => ∃ (x4_2 : Int), v4 = .int .i64 x4_2 ∧ Aside0 (impl_IsSemigroup.l0 kq l0_0 x4_2 = some r) ∧ Aside0 (kq ≤ kj1) ∧ Aside0 (w'.heap[gb452]? = some (.cells #[(.slice A0_0 l0_0.length c0_0)] 27 (0, 0))) ∧ Aside0 (Below w.heap.size w w'))
   case atStart => exact ⟨(1), rr, H', ⟨Nat.le_refl _⟩, ⟨bo BK452.out⟩, ⟨bw⟩⟩
   case round =>
    clear H'
    try clear hcz4_0; try clear hfz4_0
    obtain ⟨x4_2, rfl, HA, HK2, BK452, HB⟩ := hrel
    cases gk with
    | zero => exact absurd HA.out (by simp [impl_IsSemigroup.l0])
    | succ k2 =>
     have H := HA.out
     clear HA
     simp only [impl_IsSemigroup.l0] at H
     replace H := gi H; obtain ⟨c14b0, H⟩ | ⟨c14b0, H⟩ := H
     ·replace H := gp H; obtain ⟨c15, H⟩ := H
      have c15b0 := eq_true c15
      have c15b1 : decide (0 ≤ x4_2) = true := decide_eq_true c15
      clear c15
      replace H := gp H; obtain ⟨c16, H⟩ := H
      have c16b0 := eq_true c16
      have c16b1 : decide (x4_2 ≤ (l0_0.length : Int)) = true := decide_eq_true c16
      clear c16
      replace H := ga H; obtain ⟨t459, A17, H⟩ := H
      replace H := gb H; obtain ⟨rfl, H⟩ | ⟨rfl, H⟩ := H
      ·obtain rfl := Option.some.inj H
       try go_wp2
       replace BK452 := bd BK452
       replace HB := am (below_drew1 HB.out)
       obtain ⟨i020, hi020, _, hsz20, _⟩ := info_parts info3
       obtain ⟨hcut20, hA20, hC20⟩ := print_take_of (P := Try.prog) (Value.int .i64) 0 22 3 .i64 Try.underlying22 hi020 hsz20 A0_0 c0_0 l0_0 x4_2 (of_decide_eq_true (by first | (with_reducible assumption) | assumption)) (of_decide_eq_true (by first | (with_reducible assumption) | assumption)) HC0_0.out
       have HR457 := am (Kd.C_of_reads (h1 := fun _ => rfl) (hA20 _ (Kd.reads_of_C HR0_0.out)))
       have HC457 := am hC20
       clear hA20 hC20 hi020 hsz20
       obtain ⟨⟨ad458, e458, hx458_0⟩, p458, q458⟩ := pq (Kd.at_int HR0_0.out x4_2)
       have hw458_0 := hx458_0
       cases e458
       replace hx458_0 := hw HB hx458_0
       refine start_ (n := 8) (S := fun w' => w'.cell? (ad458.add (x4_2).toNat) = some (.int .i64 (rd l0_0 x4_2))) (ds := []) (yz 8 0) (by kernel_rfl) rfl rfl (((HB.out.cell (World.block_lt_of_cell? w _ hw458_0)).trans hw458_0)) (fun hHeld => ?_); refine with_tabW impl_IsSemigroup.tab7 impl_IsSemigroup.bits7 (fun HT_ HW_ => ?_)
       generalize wr.drew = w19 at BK452 HB HR457 hx458_0 hHeld ⊢
       refine pa 0 (some 34) (yz 8 1) HT_ ?_
       refine pa 1 (some 35) (yz 8 3) HT_ ?_
       refine pa 2 (some 36) (yz 8 7) HT_ ?_
       refine pa 3 (some 37) (yz 8 15) HT_ ?_
       refine pa 4 (some 38) (yz 8 31) HT_ ?_
       refine pa 5 (some 39) (yz 8 63) HT_ ?_
       refine tK 6 (some 40) (yz 8 127) HT_ HW_ hHeld ?_
       refine oa 7 (some 41) (yz 8 255) HT_ (fun K hK => ?_)
       refine goes_ Try.func115 (by kernel_rfl) rfl #[.slice (some ad458) (l0_0.take (x4_2 : Int).toNat).length c0_0, .int .i64 (rd l0_0 x4_2)] (by rfl) rfl rfl (by (try simp only [List.map_toArray, List.map_cons, List.map_nil]); first | done | (rw [show (l0_0.take (x4_2 : Int).toNat).length = x4_2.toNat from (by rw [List.length_take]; have h_ : (x4_2 : Int) ≤ (l0_0.length : Int) := of_decide_eq_true (by first | (with_reducible assumption) | assumption); omega)] <;> rfl) | rfl | (simp only [List.length_drop, List.length_take]; rfl)) ?_
       with_reducible refine (impl_Generates.calls k2 _ _ (l0_0.take (x4_2 : Int).toNat) (rd l0_0 x4_2) true _ ?side1 ?side2 A17.out).mono ?_
       (case side1 => exact co (Kd.C_below HR457.out HB.out))
       (case side2 => exact HC457.out)
       rintro e w21 ⟨rfl, hb⟩
       refine ⟨_, rfl, ?_⟩
       replace BK452 := kb BK452 hb
       replace HB := am (below_step bw hb)
       clear hb
       refine hK.out _ _ (((HB.out.cell (World.block_lt_of_cell? w _ hw458_0)).trans hw458_0)) (fun hHeld => ?_)
       clear hK K
       refine nm (some 41) ?_
       refine done_ (done_of HT_.out (by kernel_rfl)) ?_
       try go_wp2
       go_ret
       exact ⟨re, bw⟩
      have H' := am H
      clear H
      try go_wp2
      replace BK452 := bd BK452
      replace HB := am (below_drew1 HB.out)
      obtain ⟨i023, hi023, _, hsz23, _⟩ := info_parts info3
      obtain ⟨hcut23, hA23, hC23⟩ := print_take_of (P := Try.prog) (Value.int .i64) 0 22 3 .i64 Try.underlying22 hi023 hsz23 A0_0 c0_0 l0_0 x4_2 (of_decide_eq_true (by first | (with_reducible assumption) | assumption)) (of_decide_eq_true (by first | (with_reducible assumption) | assumption)) HC0_0.out
      have HR457 := am (Kd.C_of_reads (h1 := fun _ => rfl) (hA23 _ (Kd.reads_of_C HR0_0.out)))
      have HC457 := am hC23
      clear hA23 hC23 hi023 hsz23
      obtain ⟨⟨ad458, e458, hx458_0⟩, p458, q458⟩ := pq (Kd.at_int HR0_0.out x4_2)
      have hw458_0 := hx458_0
      cases e458
      replace hx458_0 := hw HB hx458_0
      refine start_ (n := 8) (S := fun w' => w'.cell? (ad458.add (x4_2).toNat) = some (.int .i64 (rd l0_0 x4_2))) (ds := []) (yz 8 0) (by kernel_rfl) rfl rfl (((HB.out.cell (World.block_lt_of_cell? w _ hw458_0)).trans hw458_0)) (fun hHeld => ?_); refine with_tabW impl_IsSemigroup.tab7 impl_IsSemigroup.bits7 (fun HT_ HW_ => ?_)
      generalize wr.drew = w22 at BK452 HB HR457 hx458_0 hHeld ⊢
      refine pa 0 (some 34) (yz 8 1) HT_ ?_
      refine pa 1 (some 35) (yz 8 3) HT_ ?_
      refine pa 2 (some 36) (yz 8 7) HT_ ?_
      refine pa 3 (some 37) (yz 8 15) HT_ ?_
      refine pa 4 (some 38) (yz 8 31) HT_ ?_
      refine pa 5 (some 39) (yz 8 63) HT_ ?_
      refine tK 6 (some 40) (yz 8 127) HT_ HW_ hHeld ?_
      refine oa 7 (some 41) (yz 8 255) HT_ (fun K hK => ?_)
      refine goes_ Try.func115 (by kernel_rfl) rfl #[.slice (some ad458) (l0_0.take (x4_2 : Int).toNat).length c0_0, .int .i64 (rd l0_0 x4_2)] (by rfl) rfl rfl (by (try simp only [List.map_toArray, List.map_cons, List.map_nil]); first | done | (rw [show (l0_0.take (x4_2 : Int).toNat).length = x4_2.toNat from (by rw [List.length_take]; have h_ : (x4_2 : Int) ≤ (l0_0.length : Int) := of_decide_eq_true (by first | (with_reducible assumption) | assumption); omega)] <;> rfl) | rfl | (simp only [List.length_drop, List.length_take]; rfl)) ?_
      with_reducible refine (impl_Generates.calls k2 _ _ (l0_0.take (x4_2 : Int).toNat) (rd l0_0 x4_2) false _ ?side1 ?side2 A17.out).mono ?_
      (case side1 => exact co (Kd.C_below HR457.out HB.out))
      (case side2 => exact HC457.out)
      rintro e w24 ⟨rfl, hb⟩
      refine ⟨_, rfl, ?_⟩
      replace BK452 := kb BK452 hb
      replace HB := am (below_step bw hb)
      clear hb
      refine hK.out _ _ (((HB.out.cell (World.block_lt_of_cell? w _ hw458_0)).trans hw458_0)) (fun hHeld => ?_)
      clear hK K
      refine nm (some 41) ?_
      refine done_ (done_of HT_.out (by kernel_rfl)) ?_
      try go_wp2
      go_roundg k2
      case measure => have := HJ1.out; have := HK2.out; omega
      case rel => exact ⟨(wrap64 (x4_2 + 1)), rr, H', ⟨by have := HJ1.out; have := HK2.out; omega⟩, ⟨bo BK452.out⟩, ⟨bw⟩⟩
     replace H := gp H; obtain ⟨c25, H⟩ := H
     have c25b0 : decide (0 < (l0_0.length : Int)) = true := decide_eq_true c25
     have c25b1 : decide (0 < l0_0.length) = true := decide_eq_true (by omega)
     clear c25
     replace H := ga H; obtain ⟨t461, A26, H⟩ := H
     have H' := am H
     clear H
     have p460 : 0 ≤ (0 : Int) := (by omega)
     have q460 : 0 < (l0_0.length : Int) := of_decide_eq_true (by first | (with_reducible assumption) | assumption)
     obtain ⟨ad460, e460, hx460_0⟩ := Kd.at_int HR0_0.out 0 p460 q460
     cases e460
     have qi460 : (0 < l0_0.length) = True := eq_true (by omega)
     (try rw [show ((0 : Int)).toNat = 0 from rfl] at hx460_0)
     (try rw [Addr.add_zero'] at hx460_0)
     replace hx460_0 := hw HB hx460_0
     replace p460 := eq_true p460
     replace q460 := eq_true q460
     go_wp2_with (first | ((with_reducible refine gate_callee (f := 116) rfl ?_); refine gl (some 46) Try.func116 #[.slice (some ad460) l0_0.length c0_0, .int .i64 (rd l0_0 0)] ?_; (with_reducible refine (impl_leasts.calls k2 _ _ l0_0 (rd l0_0 0) t461 _ ?side1 ?side2 A26.out).mono ?_); (case side1 => exact co (Kd.C_below HR0_0.out HB.out)); (case side2 => exact HC0_0.out); rintro e w27 ⟨v462, rfl, ho0, hb⟩; refine ⟨_, rfl, ?_⟩; have HO463 := am (Kd.R_lower ho0 (below_size bw)); replace BK452 := kb BK452 hb; replace HB := am (below_step bw hb); clear hb ho0; obtain ⟨Ao28, co28, eo28⟩ := Kd.R_slice HO463.out; subst eo28))
     go_loopg [48] k2 (fun kq v48 w' => ∃ (x48_3 : Int), v48 = .int .i64 x48_3 ∧ Aside0 (impl_IsSemigroup.l1 kq l0_0 t461 (t461.length : Int) x48_3 = some r) ∧ Aside0 (kq ≤ k2) ∧ Aside0 (Kd.R (Kd.int .i64) 3 w' w.heap.size (fun _ => True) (.slice Ao28 t461.length co28) t461) ∧ Aside0 (w'.heap[gb452]? = some (.cells #[(.slice (some ad460) l0_0.length c0_0)] 27 (0, 0))) ∧ Aside0 (Below w.heap.size w w'))
     case atStart => exact ⟨(0), rr, H', ⟨Nat.le_refl _⟩, ⟨ro HO463.out⟩, ⟨bo BK452.out⟩, ⟨bw⟩⟩
     case round =>
      clear H'
      try clear c14b0; try clear c15; try clear c15b0; try clear c15b1; try clear c16; try clear c16b0; try clear c16b1; try clear c25; try clear c25b0; try clear c25b1; try clear hcz4_0; try clear hfz4_0; try clear hx458_0; try clear hx460_0; try clear p458; try clear p460; try clear q458; try clear q460
      obtain ⟨x48_3, rfl, HA, HK3, HO_46, BK452, HB⟩ := hrel
      cases gk with
      | zero => exact absurd HA.out (by simp [impl_IsSemigroup.l1])
      | succ k3 =>
       have H := HA.out
       clear HA
       simp only [impl_IsSemigroup.l1] at H
       replace H := gi H; obtain ⟨c29b0, H⟩ | ⟨c29b0, H⟩ := H
       ·replace H := gd H; obtain ⟨c30b0, H⟩ := H
        replace H := gd H; obtain ⟨c31b0, H⟩ := H
        replace H := gp H; obtain ⟨c32, H⟩ := H
        have c32b0 : decide (0 < (l0_0.length : Int)) = true := decide_eq_true c32
        have c32b1 : decide (0 < l0_0.length) = true := decide_eq_true (by omega)
        clear c32
        replace H := gj H; obtain ⟨c33, H⟩ | ⟨c33, H⟩ := H
        ·have c33b0 : decide (200 ≤ (wrap64 ((rd t461 x48_3) - (rd l0_0 0)))) = true := decide_eq_true c33
         clear c33
         obtain rfl := Option.some.inj H
         obtain ⟨⟨ad464, e464, hx464_0⟩, p464, q464⟩ := pq (Kd.at_int (Kd.R_reads' HO_46.out).2.2 x48_3)
         cases e464
         have p465 : 0 ≤ (0 : Int) := (by omega)
         have q465 : 0 < (l0_0.length : Int) := of_decide_eq_true (by first | (with_reducible assumption) | assumption)
         obtain ⟨ad465, e465, hx465_0⟩ := Kd.at_int HR0_0.out 0 p465 q465
         obtain rfl : ad460 = ad465 := (by injection e465)
         have qi465 : (0 < l0_0.length) = True := eq_true (by omega)
         (try rw [show ((0 : Int)).toNat = 0 from rfl] at hx465_0)
         (try rw [Addr.add_zero'] at hx465_0)
         replace hx465_0 := hw HB hx465_0
         replace p465 := eq_true p465
         replace q465 := eq_true q465
         go_wp2
         go_ret
         exact ⟨re, bw⟩
        have c33b0 : decide (200 ≤ (wrap64 ((rd t461 x48_3) - (rd l0_0 0)))) = false := decide_eq_false c33
        clear c33
        have H' := am H
        clear H
        obtain ⟨⟨ad464, e464, hx464_0⟩, p464, q464⟩ := pq (Kd.at_int (Kd.R_reads' HO_46.out).2.2 x48_3)
        cases e464
        have p465 : 0 ≤ (0 : Int) := (by omega)
        have q465 : 0 < (l0_0.length : Int) := of_decide_eq_true (by first | (with_reducible assumption) | assumption)
        obtain ⟨ad465, e465, hx465_0⟩ := Kd.at_int HR0_0.out 0 p465 q465
        obtain rfl : ad460 = ad465 := (by injection e465)
        have qi465 : (0 < l0_0.length) = True := eq_true (by omega)
        (try rw [show ((0 : Int)).toNat = 0 from rfl] at hx465_0)
        (try rw [Addr.add_zero'] at hx465_0)
        replace hx465_0 := hw HB hx465_0
        replace p465 := eq_true p465
        replace q465 := eq_true q465
        go_wp2
        go_roundg k3
        case measure => have := HJ1.out; have := HK2.out; have := HK3.out; omega
        case rel => exact ⟨(wrap64 (x48_3 + 1)), rr, H', ⟨by have := HJ1.out; have := HK2.out; have := HK3.out; omega⟩, ⟨ro HO_46.out⟩, ⟨bo BK452.out⟩, ⟨bw⟩⟩
       obtain rfl := Option.some.inj H
       go_wp2
       go_ret
       exact ⟨re, bw⟩

end Go.Proofs.Ytlfdipnhlmjiaaa.C
