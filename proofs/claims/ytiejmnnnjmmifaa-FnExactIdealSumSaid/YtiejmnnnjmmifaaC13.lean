/- Contracts of functions of the program: spec_l2All, spec_SumsOf, spec_IdealSum, impl_SumsOf, impl_IdealSum. -/
import Derived.Test.YtiejmnnnjmmifaaC0
import Derived.Test.YtiejmnnnjmmifaaC1
import Derived.Test.YtiejmnnnjmmifaaC4
import Derived.Test.YtiejmnnnjmmifaaC5
import Derived.Test.YtiejmnnnjmmifaaC6
import Derived.Test.YtiejmnnnjmmifaaC7
import Derived.Test.YtiejmnnnjmmifaaC9
namespace Go.Proofs.Ytiejmnnnjmmifaa.C
open Go.RowKit Go.Proofs.YtiejmnnnjmmifaaW.PrintWords Go.Proofs.YtiejmnnnjmmifaaW.PrintLast Go.Proofs.YtiejmnnnjmmifaaW.PrintMore
attribute [local go_sem] max2_int min2_int max_two min_two max_three min_three max_four min_four
set_option linter.unusedVariables false
set_option linter.unusedSimpArgs false

/-! ### spec_l2All: function 102 -/
def spec_l2All.l0 : Nat → List Int → Int → Option (Bool)
 | 0, _, _ => none
 | k + 1, x0, x3 => if x3 < (x0.length : Int) then (if 0 ≤ x3 then ((spec_l2Small.f (rd x0 x3)).bind fun t630 => (if t630 = true then (spec_l2All.l0 k x0 (wrap64 (x3 + 1))) else (some false))) else (none)) else (some (decide ((x0.length : Int) ≤ 300)))
def spec_l2All.f (k : Nat) (l0 : List Int) : Option (Bool) := spec_l2All.l0 k l0 0
set_option maxHeartbeats 8000000 in
set_option maxRecDepth 100000 in
theorem spec_l2All.calls (k : Nat) (A0 : Option Addr) (c0 : Nat) (l0 : List Int) (r : Bool) (w : World) (hr0 : Kd.C (Kd.int .i64) w A0 l0.length l0) (hc0 : l0.length ≤ c0) (h : spec_l2All.f k l0 = some r) :
  Calls Try.prog 102 #[.slice A0 l0.length c0] w fun e w' => e = .returned (.bool r) ∧ Drawn0 w w' := by
 have HR0 := Aside0.mk hr0
 have HC0 := Aside0.mk hc0
 clear hr0 hc0
 have H : (spec_l2All.l0 k l0 0) = some r := h
 clear h
 have H' := Aside0.mk H
 clear H
 go_enter Try.func102, Try.ntmps102
 go_wp2
 go_loopg [3] k (fun kq v3 w' => ∃ (x3_1 : Int), v3 = .int .i64 x3_1 ∧ Aside0 (spec_l2All.l0 kq l0 x3_1 = some r) ∧ Aside0 (kq ≤ k) ∧ Drawn0 w w')
 case atStart => exact ⟨(0), rr, H', ⟨Nat.le_refl _⟩, dw⟩
 case round =>
  clear H'
  obtain ⟨x3_1, rfl, HA, HK1, ⟨m1, rfl⟩⟩ := hrel
  cases gk with
  | zero => exact absurd HA.out (by simp [spec_l2All.l0])
  | succ k1 =>
   have H := HA.out
   clear HA
   simp only [spec_l2All.l0] at H
   replace H := gi H; obtain ⟨c2b0, H⟩ | ⟨c2b0, H⟩ := H
   ·replace H := gd H; obtain ⟨c3b0, H⟩ := H
    replace H := ga H; obtain ⟨t630, A4, H⟩ := H
    replace H := gb H; obtain ⟨rfl, H⟩ | ⟨rfl, H⟩ := H
    ·have H' := Aside0.mk H
     clear H
     obtain ⟨⟨ad629, e629, hx629_0⟩, p629, q629⟩ := pq (Kd.at_int HR0.out x3_1)
     cases e629
     go_wp2_with (first | ((with_reducible refine gate_callee (f := 99) rfl ?_); refine gl (some 14) Try.func99 #[.int .i64 (rd l0 x3_1)] ?_; (with_reducible refine (spec_l2Small.calls (rd l0 x3_1) true _ A4.out).mono ?_); rintro e w' ⟨rfl, ⟨nd, rfl⟩⟩; refine ⟨_, rfl, ?_⟩))
     go_roundg k1
     case measure => have := HK1.out; omega
     case rel => exact ⟨(wrap64 (x3_1 + 1)), rr, H', ⟨by have := HK1.out; omega⟩, dw⟩
    ·obtain rfl := Option.some.inj H
     obtain ⟨⟨ad629, e629, hx629_0⟩, p629, q629⟩ := pq (Kd.at_int HR0.out x3_1)
     cases e629
     go_wp2_with (first | ((with_reducible refine gate_callee (f := 99) rfl ?_); refine gl (some 14) Try.func99 #[.int .i64 (rd l0 x3_1)] ?_; (with_reducible refine (spec_l2Small.calls (rd l0 x3_1) false _ A4.out).mono ?_); rintro e w' ⟨rfl, ⟨nd, rfl⟩⟩; refine ⟨_, rfl, ?_⟩))
     go_ret
     exact ⟨rr, dw⟩
   ·obtain rfl := Option.some.inj H
    go_wp2
    go_ret
    exact ⟨rr, dw⟩


/-! ### spec_SumsOf: function 67 -/
mutual
def spec_SumsOf.j0 : Nat → List Int → List Int → List Int → Bool → Option (List Int)
 | 0, _, _, _, _ => none
 | k + 1, x0, x1, x5, x16 => if x16 = true then (some x5) else (spec_SumsOf.l0 k x0 x1 x5 0)
def spec_SumsOf.l0 : Nat → List Int → List Int → List Int → Int → Option (List Int)
 | 0, _, _, _, _ => none
 | k + 1, x0, x1, x5, x6 => if x6 < (x0.length : Int) then (spec_SumsOf.l1 k x0 x1 x5 x6 0) else ((spec_SortList.f k x5).bind fun t636 => (some t636))
def spec_SumsOf.l1 : Nat → List Int → List Int → List Int → Int → Int → Option (List Int)
 | 0, _, _, _, _, _ => none
 | k + 1, x0, x1, x5, x6, x7 => if x7 < (x1.length : Int) then (if 0 ≤ x6 then (if x6 < (x0.length : Int) then (if 0 ≤ x7 then (if x5.length < 17592186044416 then (spec_SumsOf.l1 k x0 x1 (x5 ++ [wrap64 ((rd x0 x6) + (rd x1 x7))]) x6 (wrap64 (x7 + 1))) else (none)) else (none)) else (none)) else (none)) else (spec_SumsOf.l0 k x0 x1 x5 (wrap64 (x6 + 1)))
end
def spec_SumsOf.f (k : Nat) (l0 : List Int) (l1 : List Int) : Option (List Int) := (some (([] : List Int) : List Int)).bind fun y631 => ((spec_l2All.f k l0).bind fun t634 => (if t634 = true then ((spec_l2All.f k l1).bind fun t635 => (spec_SumsOf.j0 k l0 l1 y631 (!t635))) else (spec_SumsOf.j0 k l0 l1 y631 true)))
def spec_SumsOf.T10 : Bool × List (List Nat × List Nat) := (true, [([], []), ([], []), ([], []), ([1, 2], [1, 2]), ([3], [3]), ([], []), ([], []), ([5, 6], [5, 6]), ([7], [7]), ([4, 8], [4, 8]), ([9], [9]), ([0, 10], [0, 10]), ([11, 11, 0, 1, 2, 3, 4, 5, 6, 7, 8, 9, 10, 11], [0, 11])])
def spec_SumsOf.B10 : List Nat := [0, 0, 0, 6, 14, 0, 0, 96, 224, 510, 1022, 2047, 4095]
theorem spec_SumsOf.tab10 : rtab .any (opsOf Try.f67 10) = spec_SumsOf.T10 := by kernel_rfl
theorem spec_SumsOf.bits10 : waitsOk spec_SumsOf.T10.2 spec_SumsOf.B10 = true := by kernel_rfl
set_option maxHeartbeats 8000000 in
set_option maxRecDepth 100000 in
theorem spec_SumsOf.calls (k : Nat) (A0 : Option Addr) (c0 : Nat) (l0 : List Int) (A1 : Option Addr) (c1 : Nat) (l1 : List Int) (r : List Int) (w : World) (hr0 : Kd.C (Kd.int .i64) w A0 l0.length l0) (hc0 : l0.length ≤ c0) (hr1 : Kd.C (Kd.int .i64) w A1 l1.length l1) (hc1 : l1.length ≤ c1) (h : spec_SumsOf.f k l0 l1 = some r) :
  Calls Try.prog 67 #[.slice A0 l0.length c0, .slice A1 l1.length c1] w fun e w' => ∃ v0_ : Value, e = .returned (v0_) ∧ Kd.R (Kd.int .i64) 3 w' w.heap.size (fun _ => True) v0_ r ∧ Below w.heap.size w w' := by
 have HR0 := Aside0.mk hr0
 have HC0 := Aside0.mk hc0
 clear hr0 hc0
 have HR1 := Aside0.mk hr1
 have HC1 := Aside0.mk hc1
 clear hr1 hc1
 have HB := Aside0.mk (Below.refl w.heap.size w)
 have H : ((some (([] : List Int) : List Int)).bind fun y631 => ((spec_l2All.f k l0).bind fun t634 => (if t634 = true then ((spec_l2All.f k l1).bind fun t635 => (spec_SumsOf.j0 k l0 l1 y631 (!t635))) else (spec_SumsOf.j0 k l0 l1 y631 true)))) = some r := h
 clear h
 obtain ⟨y631, hy631⟩ : ∃ y_ : List Int, y_ = (([] : List Int)) := ⟨_, rfl⟩
 replace H : ((spec_l2All.f k l0).bind fun t634 => (if t634 = true then ((spec_l2All.f k l1).bind fun t635 => (spec_SumsOf.j0 k l0 l1 y631 (!t635))) else (spec_SumsOf.j0 k l0 l1 y631 true))) = some r := by first | (rw [hy631]; with_reducible exact H) | (have H2_ := (Option.bind_some _ _).symm.trans H; rw [hy631]; with_reducible exact H2_) | (have H2_ := (Option.bind_some _ _).symm.trans H; with_reducible exact H2_) | with_reducible exact H | (rw [hy631]; exact H) | exact H
 have Ny631 := Aside0.mk hy631
 clear hy631
 have HC3 := Aside0.mk H
 clear H
 go_enter Try.func67, Try.ntmps67
 go_upto_region 2 with (first | ((with_reducible refine gate_dst (N := 8) rfl ?_); refine Kd.R_lit (Kd.int .i64) _ 3 ?hg (N := 8) ?hd (xs := ([] : List Int)) (inner := []) (ok := fun _ => True) (okp := fun _ => True) ?hr ?hp (fun _ hk => hk) trivial (Below.refl _ _) (Nat.le_refl _) (by simp) ?_; (case hd => rfl); (case hg => rfl); (case hr => first | (go_simp; done) | (go_simp; rfl)); (case hp => exact (Reps.none _ _)); intro v632 w4 ho5 hb hg_ hnew_; clear hg_ hnew_; (first | rw [← Ny631.out] at ho5 | (simp only [Int.reduceToNat] at ho5; rw [← Ny631.out] at ho5)); have HO633 := Aside0.mk (Kd.R_lower ho5 (below_size bw)); replace HB := Aside0.mk (below_step bw hb); clear hb ho5))
 (try simp only [Act.put, List.setIfInBounds_toArray, List.set_cons_zero, List.set_cons_succ])
 go_cut [16] (fun v16 wc => ∃ (kq : Nat) (x16_2 : Bool), v16 = .bool x16_2 ∧ Aside0 (spec_SumsOf.j0 kq l0 l1 y631 x16_2 = some r) ∧ Aside0 (kq ≤ k) ∧ Aside0 (Kd.R (Kd.int .i64) 3 wc w.heap.size (fun _ => True) v632 y631) ∧ Aside0 (Below w.heap.size w wc))
 case first =>
  have H := HC3.out
  clear HC3
  replace H := ga H; obtain ⟨t634, A6, H⟩ := H
  replace H := gb H; obtain ⟨rfl, H⟩ | ⟨rfl, H⟩ := H
  ·replace H := ga H; obtain ⟨t635, A8, H⟩ := H
   have H' := Aside0.mk H
   clear H
   go_wp2_with (first | ((with_reducible refine gate_callee (f := 102) rfl ?_); refine gl (some 10) Try.func102 #[.slice A0 l0.length c0] ?_; (with_reducible refine (spec_l2All.calls k _ _ l0 true _ ?side1 ?side2 A6.out).mono ?_); (case side1 => exact co (Kd.C_below HR0.out HB.out)); (case side2 => exact HC0.out); rintro e w' ⟨rfl, ⟨nd, rfl⟩⟩; refine ⟨_, rfl, ?_⟩) | (go_at_call 102; (with_reducible refine (spec_l2All.calls k _ _ l1 t635 _ ?side1 ?side2 A8.out).mono ?_); (case side1 => exact co (Kd.C_below HR1.out bw)); (case side2 => exact HC1.out); rintro e w' ⟨rfl, ⟨nd, rfl⟩⟩))
   go_meet
   case rel => exact ⟨_, (!t635), rr, H', ⟨om⟩, ⟨ro HO633.out⟩, ⟨bw⟩⟩
  ·have H' := Aside0.mk H
   clear H
   go_wp2_with (first | ((with_reducible refine gate_callee (f := 102) rfl ?_); refine gl (some 10) Try.func102 #[.slice A0 l0.length c0] ?_; (with_reducible refine (spec_l2All.calls k _ _ l0 false _ ?side1 ?side2 A6.out).mono ?_); (case side1 => exact co (Kd.C_below HR0.out HB.out)); (case side2 => exact HC0.out); rintro e w' ⟨rfl, ⟨nd, rfl⟩⟩; refine ⟨_, rfl, ?_⟩))
   go_meet
   case rel => exact ⟨_, (true), rr, H', ⟨om⟩, ⟨ro HO633.out⟩, ⟨bw⟩⟩
 case rest =>
  clear HC3
  try clear c1
  obtain ⟨kq, x16_2, rfl, HA, HJ2, HO_5, HB⟩ := hcut
  cases kq with
  | zero => exact absurd HA.out (by simp [spec_SumsOf.j0])
  | succ kj2 =>
   have H := HA.out
   clear HA
   simp only [spec_SumsOf.j0] at H
   replace H := gb H; obtain ⟨rfl, H⟩ | ⟨rfl, H⟩ := H
   ·obtain rfl := Option.some.inj H
    go_wp2
    go_ret
    exact ⟨_, re, ro HO_5.out, bw⟩
   ·have H' := Aside0.mk H
    clear H
    go_wp2
    go_loopg [5, 6] kj2 (fun kq v5 v6 w' => ∃ (x5_2 : List Int) (x6_2 : Int), v6 = .int .i64 x6_2 ∧ Aside0 (spec_SumsOf.l0 kq l0 l1 x5_2 x6_2 = some r) ∧ Aside0 (kq ≤ kj2) ∧ Aside0 (Kd.R (Kd.int .i64) 3 w' w.heap.size (fun _ => True) v5 x5_2) ∧ Aside0 (Below w.heap.size w w'))
    case atStart => exact ⟨(y631), (0), rr, H', ⟨Nat.le_refl _⟩, ⟨ro HO_5.out⟩, ⟨bw⟩⟩
    case round =>
     clear H'
     try clear c1
     obtain ⟨x5_2, x6_2, rfl, HA, HK2, HO_5, HB⟩ := hrel
     cases gk with
     | zero => exact absurd HA.out (by simp [spec_SumsOf.l0])
     | succ k2 =>
      have H := HA.out
      clear HA
      simp only [spec_SumsOf.l0] at H
      replace H := gi H; obtain ⟨c10b0, H⟩ | ⟨c10b0, H⟩ := H
      ·have H' := Aside0.mk H
       clear H
       go_wp2
       go_loopg [5, 7] k2 (fun kq v5 v7 w' => ∃ (x5_3 : List Int) (x7_3 : Int), v7 = .int .i64 x7_3 ∧ Aside0 (spec_SumsOf.l1 kq l0 l1 x5_3 x6_2 x7_3 = some r) ∧ Aside0 (kq ≤ k2) ∧ Aside0 (Kd.R (Kd.int .i64) 3 w' w.heap.size (fun _ => True) v5 x5_3) ∧ Aside0 (Below w.heap.size w w'))
       case atStart => exact ⟨(x5_2), (0), rr, H', ⟨Nat.le_refl _⟩, ⟨ro HO_5.out⟩, ⟨bw⟩⟩
       case round =>
        clear H'
        try clear c1; try clear c10b0
        obtain ⟨x5_3, x7_3, rfl, HA, HK3, HO_5, HB⟩ := hrel
        cases gk with
        | zero => exact absurd HA.out (by simp [spec_SumsOf.l1])
        | succ k3 =>
         have H := HA.out
         clear HA
         simp only [spec_SumsOf.l1] at H
         replace H := gi H; obtain ⟨c11b0, H⟩ | ⟨c11b0, H⟩ := H
         ·replace H := gd H; obtain ⟨c12b0, H⟩ := H
          replace H := gd H; obtain ⟨c13b0, H⟩ := H
          replace H := gd H; obtain ⟨c14b0, H⟩ := H
          by_cases c15 : x5_3.length < 17592186044416
          rotate_left
          ·rw [if_neg c15] at H
           exact absurd H (by simp)
          rw [if_pos c15] at H
          have LMc15 := Aside0.mk c15
          clear c15
          obtain ⟨y641, hy641⟩ : ∃ y_ : List Int, y_ = (x5_3 ++ [wrap64 ((rd l0 x6_2) + (rd l1 x7_3))]) := ⟨_, rfl⟩
          replace H : (spec_SumsOf.l1 k3 l0 l1 y641 x6_2 (wrap64 (x7_3 + 1))) = some r := by first | (rw [hy641]; with_reducible exact H) | (have H2_ := (Option.bind_some _ _).symm.trans H; rw [hy641]; with_reducible exact H2_) | (have H2_ := (Option.bind_some _ _).symm.trans H; with_reducible exact H2_) | with_reducible exact H | (rw [hy641]; exact H) | exact H
          have Ny641 := Aside0.mk hy641
          clear hy641
          have H' := Aside0.mk H
          clear H
          try go_wp2
          replace HO_5 := Aside0.mk (Kd.R_drew HO_5.out)
          replace HB := Aside0.mk (below_drew1 HB.out)
          obtain ⟨⟨ad639, e639, hx639_0⟩, p639, q639⟩ := pq (Kd.at_int HR0.out x6_2)
          have hw639_0 := hx639_0
          cases e639
          replace hx639_0 := (HB.out.cell (World.block_lt_of_cell? w _ hx639_0)).trans hx639_0
          obtain ⟨⟨ad640, e640, hx640_0⟩, p640, q640⟩ := pq (Kd.at_int HR1.out x7_3)
          have hw640_0 := hx640_0
          cases e640
          replace hx640_0 := (HB.out.cell (World.block_lt_of_cell? w _ hx640_0)).trans hx640_0
          refine start_ (n := 13) (S := fun w' => w'.cell? (ad639.add (x6_2).toNat) = some (.int .i64 (rd l0 x6_2)) ∧ w'.cell? (ad640.add (x7_3).toNat) = some (.int .i64 (rd l1 x7_3))) (ds := []) #[Z,Z,Z,Z,Z,Z,Z,Z,Z,Z,Z,Z,Z] (by kernel_rfl) rfl rfl ⟨((HB.out.cell (World.block_lt_of_cell? w _ hw639_0)).trans hw639_0), ((HB.out.cell (World.block_lt_of_cell? w _ hw640_0)).trans hw640_0)⟩ (fun hHeld => ?_); refine with_tabW spec_SumsOf.tab10 spec_SumsOf.bits10 (fun HT_ HW_ => ?_)
          generalize wr.drew = w16 at HO_5 HB hx639_0 hx640_0 hHeld ⊢
          refine pa 0 (some 30) #[Y,Z,Z,Z,Z,Z,Z,Z,Z,Z,Z,Z,Z] HT_ ?_
          refine pa 1 (some 31) #[Y,Y,Z,Z,Z,Z,Z,Z,Z,Z,Z,Z,Z] HT_ ?_
          refine pa 2 (some 32) #[Y,Y,Y,Z,Z,Z,Z,Z,Z,Z,Z,Z,Z] HT_ ?_
          refine pa 3 (some 33) #[Y,Y,Y,Y,Z,Z,Z,Z,Z,Z,Z,Z,Z] HT_ ?_
          refine pa 5 (some 35) #[Y,Y,Y,Y,Z,Y,Z,Z,Z,Z,Z,Z,Z] HT_ ?_
          refine pa 6 (some 36) #[Y,Y,Y,Y,Z,Y,Y,Z,Z,Z,Z,Z,Z] HT_ ?_
          refine pa 7 (some 37) #[Y,Y,Y,Y,Z,Y,Y,Y,Z,Z,Z,Z,Z] HT_ ?_
          refine take_ (i := 4) (N := some 34) (v := ?_) (a' := ?_) #[Y,Y,Y,Y,Y,Y,Y,Y,Z,Z,Z,Z,Z] rfl rfl (take_ofW HT_.out HW_.out (by kernel_rfl)) (fun _ _ _ h => h) (Or.inl ⟨by rfl, ?_⟩) hHeld ?_ ?_
          rotate_left
          ·rintro w' ⟨s0, s1⟩
           go_simp
           with_reducible rfl
          rotate_left
          ·simp only [Act.put, qa, qb, qc, i64_w, i32_w]
           rfl
          refine take_ (i := 8) (N := some 38) (v := ?_) (a' := ?_) #[Y,Y,Y,Y,Y,Y,Y,Y,Y,Z,Z,Z,Z] rfl rfl (take_ofW HT_.out HW_.out (by kernel_rfl)) (fun _ _ _ h => h) (Or.inl ⟨by rfl, ?_⟩) hHeld ?_ ?_
          rotate_left
          ·rintro w' ⟨s0, s1⟩
           go_simp
           with_reducible rfl
          rotate_left
          ·simp only [Act.put, qa, qb, qc, i64_w, i32_w]
           rfl
          refine pa 9 (some 39) #[Y,Y,Y,Y,Y,Y,Y,Y,Y,Y,Z,Z,Z] HT_ ?_
          refine oa 10 (some 40) #[Y,Y,Y,Y,Y,Y,Y,Y,Y,Y,Y,Z,Z] HT_ (fun K hK => ?_)
          refine value_ (w1 := ?_) (v := ?_) (by rfl) rfl ?_ ?_
          rotate_left 2
          ·go_simp
           constructor
           ·rfl
           ·rfl
          refine hK.out _ _ ⟨(World.cell?_alloc_lt _ _ _ (World.block_lt_of_cell? _ _ (((HB.out.cell (World.block_lt_of_cell? w _ hw639_0)).trans hw639_0)))).trans (((HB.out.cell (World.block_lt_of_cell? w _ hw639_0)).trans hw639_0)), (World.cell?_alloc_lt _ _ _ (World.block_lt_of_cell? _ _ (((HB.out.cell (World.block_lt_of_cell? w _ hw640_0)).trans hw640_0)))).trans (((HB.out.cell (World.block_lt_of_cell? w _ hw640_0)).trans hw640_0))⟩ (fun hHeld => ?_)
          clear hK K
          refine norm_ (a' := ?_) ?_ ?_
          rotate_left
          ·show Act.put _ (some 40) _ = _
           simp only [Act.put, qa, qb, qc, i64_w, i32_w]
           rfl
          refine oa 11 (some 41) #[Y,Y,Y,Y,Y,Y,Y,Y,Y,Y,Y,Y,Z] HT_ (fun K hK => ?_)
          refine Kd.R_append_step (Kd.int .i64) (w0 := w) w.heap.size (by rfl) (.tmp 30) (.tmp 40) 22 3 (.int .i64 0) 8 rfl Try.underlying22 info3 rfl (by decide) (by omega) u5 x5_3 (wrap64 ((rd l0 x6_2) + (rd l1 x7_3))) [.int .i64 (wrap64 ((rd l0 x6_2) + (rd l1 x7_3)))] (fun _ => True) (fun _ => False) rfl rfl ?aP (fun _ hk => hk.elim) ?aF ?aO ?aB ?aS ?aL ?_
          (case aP => exact rfl)
          (case aB => exact bw)
          (case aF => exact (fun _ _ => trivial))
          (case aO => exact (ro HO_5.out))
          (case aS => exact (below_size bw))
          (case aL => have := LMc15.out; omega)
          intro v642 w17 ho hb hg hat
          rw [← Ny641.out] at ho
          replace HB := Aside0.mk (hb)
          have HO643 := Aside0.mk (ho)
          clear HO_5 ho hb hg hat
          refine hK.out _ _ ⟨((HB.out.cell (World.block_lt_of_cell? w _ hw639_0)).trans hw639_0), ((HB.out.cell (World.block_lt_of_cell? w _ hw640_0)).trans hw640_0)⟩ (fun hHeld => ?_)
          clear hK K
          refine norm_ (a' := ?_) ?_ ?_
          rotate_left
          ·show Act.put _ (some 41) _ = _
           simp only [Act.put, qa, qb, qc, i64_w, i32_w]
           rfl
          refine pa 12 (some 5) #[Y,Y,Y,Y,Y,Y,Y,Y,Y,Y,Y,Y,Y] HT_ ?_
          refine done_ (done_of HT_.out (by kernel_rfl)) ?_
          try go_wp2
          go_roundg k3
          case measure => have := HJ2.out; have := HK2.out; have := HK3.out; omega
          case rel => exact ⟨(y641), (wrap64 (x7_3 + 1)), rr, H', ⟨by have := HJ2.out; have := HK2.out; have := HK3.out; omega⟩, ⟨ro HO643.out⟩, ⟨bw⟩⟩
         ·have H' := Aside0.mk H
          clear H
          go_wp2
          go_roundg k3
          case measure => have := HJ2.out; have := HK2.out; have := HK3.out; omega
          case rel => exact ⟨(x5_3), (wrap64 (x6_2 + 1)), rr, H', ⟨by have := HJ2.out; have := HK2.out; have := HK3.out; omega⟩, ⟨ro HO_5.out⟩, ⟨bw⟩⟩
      ·replace H := ga H; obtain ⟨t636, A18, H⟩ := H
       obtain rfl := Option.some.inj H
       obtain ⟨Ao19, co19, eo19⟩ := Kd.R_slice HO_5.out
       subst eo19
       go_wp2_with (first | ((with_reducible refine gate_callee (f := 57) rfl ?_); refine gl (some 43) Try.func57 #[.slice Ao19 x5_2.length co19] ?_; (with_reducible refine (spec_SortList.calls k2 _ _ x5_2 t636 _ ?side1 ?side2 A18.out).mono ?_); (case side1 => exact co (Kd.R_reads' HO_5.out).2.2); (case side2 => exact (Kd.R_reads' HO_5.out).2.1); rintro e w20 ⟨v637, rfl, ho0, hb⟩; refine ⟨_, rfl, ?_⟩; have HO638 := Aside0.mk (Kd.R_lower (Kd.R_new' ho0 (Kd.R_lt (ro HO_5.out))) (below_size bw)); replace HO_5 := Aside0.mk (Kd.R_elder' (ro HO_5.out) (Kd.R_base ho0) hb); replace HB := Aside0.mk (below_step bw hb); clear hb ho0))
       go_ret
       exact ⟨_, re, by (with_reducible repeat (first | apply Kd.R_alloc | apply Kd.R_drewN | apply Kd.R_drew)); exact Kd.R_mono HO638.out (fun _ hk => trivial), bw⟩


/-! ### spec_IdealSum: function 35 -/
def spec_IdealSum.j0 : Nat → List Int → List Int → Bool → List Int → Option (List Int)
 | 0, _, _, _, _ => none
 | k + 1, x1, x2, x14, x645000 => if x14 = true then (some (([] : List Int))) else ((spec_SumsOf.f k x1 x2).bind fun t650 => ((spec_MinimalIn.f k x645000 t650).bind fun t653 => (some t653)))
def spec_IdealSum.f (k : Nat) (l0_0 : List Int) (l1 : List Int) (l2 : List Int) : Option (List Int) := (spec_l16Valid.f k l1).bind fun t645 => (if t645 = true then ((spec_l16Valid.f k l2).bind fun t646 => (spec_IdealSum.j0 k l1 l2 (!t646) l0_0)) else (spec_IdealSum.j0 k l1 l2 true l0_0))
set_option maxHeartbeats 8000000 in
set_option maxRecDepth 100000 in
theorem spec_IdealSum.calls (k : Nat) (A0_0 : Option Addr) (c0_0 : Nat) (l0_0 : List Int) (A1 : Option Addr) (c1 : Nat) (l1 : List Int) (A2 : Option Addr) (c2 : Nat) (l2 : List Int) (r : List Int) (w : World) (hr0_0 : Kd.C (Kd.int .i64) w A0_0 l0_0.length l0_0) (hc0_0 : l0_0.length ≤ c0_0) (hr1 : Kd.C (Kd.int .i64) w A1 l1.length l1) (hc1 : l1.length ≤ c1) (hr2 : Kd.C (Kd.int .i64) w A2 l2.length l2) (hc2 : l2.length ≤ c2) (h : spec_IdealSum.f k l0_0 l1 l2 = some r) :
  Calls Try.prog 35 #[.agg #[.slice A0_0 l0_0.length c0_0], .slice A1 l1.length c1, .slice A2 l2.length c2] w fun e w' => ∃ v0_ : Value, e = .returned (v0_) ∧ Kd.R (Kd.int .i64) 3 w' w.heap.size (fun _ => True) v0_ r ∧ Below w.heap.size w w' := by
 have hu27 := Try.underlying27
 have HR0_0 := Aside0.mk hr0_0
 have HC0_0 := Aside0.mk hc0_0
 clear hr0_0 hc0_0
 have HR1 := Aside0.mk hr1
 have HC1 := Aside0.mk hc1
 clear hr1 hc1
 have HR2 := Aside0.mk hr2
 have HC2 := Aside0.mk hc2
 clear hr2 hc2
 have HB := Aside0.mk (Below.refl w.heap.size w)
 have H : ((spec_l16Valid.f k l1).bind fun t645 => (if t645 = true then ((spec_l16Valid.f k l2).bind fun t646 => (spec_IdealSum.j0 k l1 l2 (!t646) l0_0)) else (spec_IdealSum.j0 k l1 l2 true l0_0))) = some r := h
 clear h
 have HC4 := Aside0.mk H
 clear H
 go_enter Try.func35, Try.ntmps35
 go_upto_region 1 with (first | ((with_reducible refine gate_dst (N := 3) rfl ?_); refine bx 3 #[.slice A0_0 l0_0.length c0_0] 27 ?_; intro gb644 hg w5 hbox hb; have BK644 := Aside0.mk (hbox); have GW644 := Aside0.mk (gs hg : w.heap.size ≤ gb644); have GE644 := Aside0.mk (gs hg : w.heap.size ≤ gb644); replace HB := Aside0.mk (below_step bw hb); clear hb hbox hg))
 (try simp only [Act.put, List.setIfInBounds_toArray, List.set_cons_zero, List.set_cons_succ])
 go_cut [14] (fun v14 wc => ∃ (kq : Nat) (x14_3 : Bool), v14 = .bool x14_3 ∧ Aside0 (spec_IdealSum.j0 kq l1 l2 x14_3 l0_0 = some r) ∧ Aside0 (kq ≤ k) ∧ Aside0 (wc.heap[gb644]? = some (.cells #[(.slice A0_0 l0_0.length c0_0)] 27 (0, 0))) ∧ Aside0 (Below w.heap.size w wc))
 case first =>
  have H := HC4.out
  clear HC4
  replace H := ga H; obtain ⟨t645, A6, H⟩ := H
  replace H := gb H; obtain ⟨rfl, H⟩ | ⟨rfl, H⟩ := H
  ·replace H := ga H; obtain ⟨t646, A8, H⟩ := H
   have H' := Aside0.mk H
   clear H
   go_wp2_with (first | ((with_reducible refine gate_callee (f := 63) rfl ?_); refine gl (some 8) Try.func63 #[.slice A1 l1.length c1] ?_; (with_reducible refine (spec_l16Valid.calls k _ _ l1 true _ ?side1 ?side2 A6.out).mono ?_); (case side1 => exact co (Kd.C_below HR1.out HB.out)); (case side2 => exact HC1.out); rintro e w' ⟨rfl, ⟨nd, rfl⟩⟩; refine ⟨_, rfl, ?_⟩) | (go_at_call 63; (with_reducible refine (spec_l16Valid.calls k _ _ l2 t646 _ ?side1 ?side2 A8.out).mono ?_); (case side1 => exact co (Kd.C_below HR2.out bw)); (case side2 => exact HC2.out); rintro e w' ⟨rfl, ⟨nd, rfl⟩⟩))
   go_meet
   case rel => exact ⟨_, (!t646), rr, H', ⟨om⟩, ⟨bo BK644.out⟩, ⟨bw⟩⟩
  ·have H' := Aside0.mk H
   clear H
   go_wp2_with (first | ((with_reducible refine gate_callee (f := 63) rfl ?_); refine gl (some 8) Try.func63 #[.slice A1 l1.length c1] ?_; (with_reducible refine (spec_l16Valid.calls k _ _ l1 false _ ?side1 ?side2 A6.out).mono ?_); (case side1 => exact co (Kd.C_below HR1.out HB.out)); (case side2 => exact HC1.out); rintro e w' ⟨rfl, ⟨nd, rfl⟩⟩; refine ⟨_, rfl, ?_⟩))
   go_meet
   case rel => exact ⟨_, (true), rr, H', ⟨om⟩, ⟨bo BK644.out⟩, ⟨bw⟩⟩
 case rest =>
  clear HC4
  try clear c1; try clear c2
  obtain ⟨kq, x14_3, rfl, HA, HJ3, BK644, HB⟩ := hcut
  cases kq with
  | zero => exact absurd HA.out (by simp [spec_IdealSum.j0])
  | succ kj3 =>
   have H := HA.out
   clear HA
   simp only [spec_IdealSum.j0] at H
   replace H := gb H; obtain ⟨rfl, H⟩ | ⟨rfl, H⟩ := H
   ·obtain ⟨y647, hy647⟩ : ∃ y_ : List Int, y_ = (([] : List Int)) := ⟨_, rfl⟩
    replace H : (some y647) = some r := by first | (rw [hy647]; with_reducible exact H) | (have H2_ := (Option.bind_some _ _).symm.trans H; rw [hy647]; with_reducible exact H2_) | (have H2_ := (Option.bind_some _ _).symm.trans H; with_reducible exact H2_) | with_reducible exact H | (rw [hy647]; exact H) | exact H
    have Ny647 := Aside0.mk hy647
    clear hy647
    obtain rfl := Option.some.inj H
    go_wp2_with (first | ((with_reducible refine gate_dst (N := 15) rfl ?_); refine Kd.R_lit (Kd.int .i64) _ 3 ?hg (N := 15) ?hd (xs := ([] : List Int)) (inner := []) (ok := fun _ => True) (okp := fun _ => True) ?hr ?hp (fun _ hk => hk) trivial (Below.refl _ _) (Nat.le_refl _) (by simp) ?_; (case hd => rfl); (case hg => rfl); (case hr => first | (go_simp; done) | (go_simp; rfl)); (case hp => exact (Reps.none _ _)); intro v648 w10 ho11 hb hg_ hnew_; clear hg_ hnew_; (first | rw [← Ny647.out] at ho11 | (simp only [Int.reduceToNat] at ho11; rw [← Ny647.out] at ho11)); have HO649 := Aside0.mk (Kd.R_lower ho11 (below_size bw)); replace BK644 := Aside0.mk (blk_below (g := gb644) (o := .cells #[.slice A0_0 l0_0.length c0_0] 27 (0, 0)) (bo BK644.out) hb); replace HB := Aside0.mk (below_step bw hb); clear hb ho11))
    go_ret
    exact ⟨_, re, ro HO649.out, bw⟩
   ·replace H := ga H; obtain ⟨t650, A12, H⟩ := H
    replace H := ga H; obtain ⟨t653, A13, H⟩ := H
    obtain rfl := Option.some.inj H
    try go_wp2
    replace BK644 := Aside0.mk (blk_drew BK644.out)
    replace HB := Aside0.mk (below_drew1 HB.out)
    refine start_ (n := 6) (S := fun w' => w'.cell? ⟨gb644, 0, none⟩ = some (.slice A0_0 l0_0.length c0_0)) (ds := []) #[Z,Z,Z,Z,Z,Z] (by kernel_rfl) rfl rfl ((blk_cell BK644.out 0).trans rfl) (fun hHeld => ?_)
    generalize wc.drew = w14 at BK644 HB hHeld ⊢
    refine pure_ (i := 1) (N := some 17) (v := ?_) (a' := ?_) #[Z,Y,Z,Z,Z,Z] rfl rfl (by kernel_rfl) (fun _ _ _ h => h) (Or.inl ⟨by rfl, ?_⟩) ?_ ?_
    rotate_left
    ·intro w'
     go_simp
     with_reducible rfl
    rotate_left
    ·simp only [Act.put, qa, qb, qc, i64_w, i32_w]
     rfl
    refine pure_ (i := 2) (N := some 18) (v := ?_) (a' := ?_) #[Z,Y,Y,Z,Z,Z] rfl rfl (by kernel_rfl) (fun _ _ _ h => h) (Or.inl ⟨by rfl, ?_⟩) ?_ ?_
    rotate_left
    ·intro w'
     go_simp
     with_reducible rfl
    rotate_left
    ·simp only [Act.put, qa, qb, qc, i64_w, i32_w]
     rfl
    refine take_ (i := 0) (N := some 16) (v := ?_) (a' := ?_) #[Y,Y,Y,Z,Z,Z] rfl rfl (by kernel_rfl) (fun _ _ _ h => h) (Or.inl ⟨by rfl, ?_⟩) hHeld ?_ ?_
    rotate_left
    ·intro w' s0
     go_simp
     with_reducible rfl
    rotate_left
    ·simp only [Act.put, qa, qb, qc, i64_w, i32_w]
     rfl
    refine one_ (i := 3) (N := some 19) #[Y,Y,Y,Y,Z,Z] rfl rfl (by kernel_rfl) (by decide) (fun K hK => ?_)
    refine gm Try.func67 #[.slice A1 l1.length c1, .slice A2 l2.length c2] ?_
    with_reducible refine (spec_SumsOf.calls kj3 _ _ l1 _ _ l2 t650 _ ?side1 ?side2 ?side3 ?side4 A12.out).mono ?_
    (case side1 => exact co (Kd.C_below HR1.out HB.out))
    (case side2 => exact HC1.out)
    (case side3 => exact co (Kd.C_below HR2.out HB.out))
    (case side4 => exact HC2.out)
    rintro e w15 ⟨v651, rfl, ho0, hb⟩
    refine ⟨_, rfl, ?_⟩
    have HO652 := Aside0.mk (Kd.R_lower ho0 (below_size bw))
    replace BK644 := Aside0.mk (blk_below (g := gb644) (o := .cells #[.slice A0_0 l0_0.length c0_0] 27 (0, 0)) (bo BK644.out) hb)
    replace HB := Aside0.mk (below_step bw hb)
    clear hb ho0
    obtain ⟨Ao16, co16, eo16⟩ := Kd.R_slice HO652.out
    (first | subst eo16 | (injection eo16 with f1_ f2_ f3_; have f4_ := f1_.symm; have f5_ := f3_.symm; clear f1_ f2_ f3_; subst f4_; subst f5_))
    refine hK.out _ _ ((blk_cell BK644.out 0).trans rfl) (fun hHeld => ?_)
    clear hK K
    refine norm_ (a' := ?_) ?_ ?_
    rotate_left
    ·show Act.put _ (some 19) _ = _
     simp only [Act.put, qa, qb, qc, i64_w, i32_w]
     rfl
    refine one_ (i := 4) (N := some 20) #[Y,Y,Y,Y,Y,Z] rfl rfl (by kernel_rfl) (by decide) (fun K hK => ?_)
    refine gm Try.func25 #[.agg #[.slice A0_0 l0_0.length c0_0], .slice Ao16 t650.length co16] ?_
    with_reducible refine (spec_MinimalIn.calls kj3 _ _ l0_0 _ _ t650 t653 _ ?side1 ?side2 ?side3 ?side4 A13.out).mono ?_
    (case side1 => exact co (Kd.C_below HR0_0.out HB.out))
    (case side2 => exact HC0_0.out)
    (case side3 => exact co (Kd.R_reads' HO652.out).2.2)
    (case side4 => exact (Kd.R_reads' HO652.out).2.1)
    rintro e w17 ⟨v654, rfl, ho0, hb⟩
    refine ⟨_, rfl, ?_⟩
    have HO655 := Aside0.mk (Kd.R_lower (Kd.R_new' ho0 (Kd.R_lt (ro HO652.out))) (below_size bw))
    replace HO652 := Aside0.mk (Kd.R_elder' (ro HO652.out) (Kd.R_base ho0) hb)
    replace BK644 := Aside0.mk (blk_below (g := gb644) (o := .cells #[.slice A0_0 l0_0.length c0_0] 27 (0, 0)) (bo BK644.out) hb)
    replace HB := Aside0.mk (below_step bw hb)
    clear hb ho0
    refine hK.out _ _ ((blk_cell BK644.out 0).trans rfl) (fun hHeld => ?_)
    clear hK K
    refine norm_ (a' := ?_) ?_ ?_
    rotate_left
    ·show Act.put _ (some 20) _ = _
     simp only [Act.put, qa, qb, qc, i64_w, i32_w]
     rfl
    refine pure_ (i := 5) (N := some 6) (v := ?_) (a' := ?_) #[Y,Y,Y,Y,Y,Y] rfl rfl (by kernel_rfl) (fun _ _ _ h => h) (Or.inl ⟨by rfl, ?_⟩) ?_ ?_
    rotate_left
    ·intro w'
     go_simp
     with_reducible rfl
    rotate_left
    ·simp only [Act.put, qa, qb, qc, i64_w, i32_w]
     rfl
    refine done_ (by kernel_rfl) ?_
    try go_wp2
    go_ret
    exact ⟨_, re, by (with_reducible repeat (first | apply Kd.R_alloc | apply Kd.R_drewN | apply Kd.R_drew)); exact Kd.R_mono HO655.out (fun _ hk => trivial), bw⟩


/-! ### impl_SumsOf: function 68 -/
mutual
def impl_SumsOf.j0 : Nat → List Int → List Int → Bool → Option (List Int)
 | 0, _, _, _ => none
 | k + 1, x0, x1, x27 => if x27 = true then (some ([] : List Int)) else (impl_SumsOf.l0 k x1 (([] : List Int)) x0 (x0.length : Int) 0)
def impl_SumsOf.l0 : Nat → List Int → List Int → List Int → Int → Int → Option (List Int)
 | 0, _, _, _, _, _ => none
 | k + 1, x1, x5, x29, x30, x31 => if x31 < x30 then (if 0 ≤ x31 then (if x31 < (x29.length : Int) then (impl_SumsOf.l1 k x1 x5 (rd x29 x31) x29 x30 x31 x1 (x1.length : Int) 0) else (none)) else (none)) else ((impl_SortList.f x5).bind fun t661 => (some t661))
def impl_SumsOf.l1 : Nat → List Int → List Int → Int → List Int → Int → Int → List Int → Int → Int → Option (List Int)
 | 0, _, _, _, _, _, _, _, _, _ => none
 | k + 1, x1, x5, x7, x29, x30, x31, x35, x36, x37 => if x37 < x36 then (if 0 ≤ x37 then (if x37 < (x35.length : Int) then (if x5.length < 17592186044416 then (impl_SumsOf.l1 k x1 (x5 ++ [wrap64 (x7 + (rd x35 x37))]) x7 x29 x30 x31 x35 x36 (wrap64 (x37 + 1))) else (none)) else (none)) else (none)) else (impl_SumsOf.l0 k x1 x5 x29 x30 (wrap64 (x31 + 1)))
end
def impl_SumsOf.f (k : Nat) (l0 : List Int) (l1 : List Int) : Option (List Int) := (impl_allWithin.f k l0 (-1000000) 1000000).bind fun t656 => (if t656 = true then ((impl_allWithin.f k l1 (-1000000) 1000000).bind fun t657 => (if t657 = true then (if (l0.length : Int) > 300 then (impl_SumsOf.j0 k l0 l1 true) else (impl_SumsOf.j0 k l0 l1 (decide ((l1.length : Int) > 300)))) else (impl_SumsOf.j0 k l0 l1 true))) else (impl_SumsOf.j0 k l0 l1 true))
set_option maxHeartbeats 8000000 in
set_option maxRecDepth 100000 in
theorem impl_SumsOf.calls (k : Nat) (A0 : Option Addr) (c0 : Nat) (l0 : List Int) (A1 : Option Addr) (c1 : Nat) (l1 : List Int) (r : List Int) (w : World) (hr0 : Kd.C (Kd.int .i64) w A0 l0.length l0) (hc0 : l0.length ≤ c0) (hr1 : Kd.C (Kd.int .i64) w A1 l1.length l1) (hc1 : l1.length ≤ c1) (h : impl_SumsOf.f k l0 l1 = some r) :
  Calls Try.prog 68 #[.slice A0 l0.length c0, .slice A1 l1.length c1] w fun e w' => ∃ v0_ : Value, e = .returned (v0_) ∧ Kd.R (Kd.int .i64) 3 w' w.heap.size (fun _ => True) v0_ r ∧ Below w.heap.size w w' := by
 have HR0 := Aside0.mk hr0
 have HC0 := Aside0.mk hc0
 clear hr0 hc0
 have HR1 := Aside0.mk hr1
 have HC1 := Aside0.mk hc1
 clear hr1 hc1
 have HB := Aside0.mk (Below.refl w.heap.size w)
 have H : ((impl_allWithin.f k l0 (-1000000) 1000000).bind fun t656 => (if t656 = true then ((impl_allWithin.f k l1 (-1000000) 1000000).bind fun t657 => (if t657 = true then (if (l0.length : Int) > 300 then (impl_SumsOf.j0 k l0 l1 true) else (impl_SumsOf.j0 k l0 l1 (decide ((l1.length : Int) > 300)))) else (impl_SumsOf.j0 k l0 l1 true))) else (impl_SumsOf.j0 k l0 l1 true))) = some r := h
 clear h
 have HC3 := Aside0.mk H
 clear H
 go_enter Try.func68, Try.ntmps68
 go_upto_region 1 with (fail)
 go_cut [27] (fun v27 wc => ∃ (kq : Nat) (x27_2 : Bool), v27 = .bool x27_2 ∧ Aside0 (impl_SumsOf.j0 kq l0 l1 x27_2 = some r) ∧ Aside0 (kq ≤ k) ∧ Aside0 (Below w.heap.size w wc))
 case first =>
  have H := HC3.out
  clear HC3
  replace H := ga H; obtain ⟨t656, A4, H⟩ := H
  replace H := gb H; obtain ⟨rfl, H⟩ | ⟨rfl, H⟩ := H
  ·replace H := ga H; obtain ⟨t657, A6, H⟩ := H
   replace H := gb H; obtain ⟨rfl, H⟩ | ⟨rfl, H⟩ := H
   ·replace H := gj H; obtain ⟨c8, H⟩ | ⟨c8, H⟩ := H
    ·have c8b0 : decide (300 < (l0.length : Int)) = true := decide_eq_true c8
     have c8b1 : decide (300 < l0.length) = true := decide_eq_true (by omega)
     clear c8
     (first | rw [c8b0] | (simp only [i64_w, i32_w]; rw [c8b0]) | skip)
     have H' := Aside0.mk H
     clear H
     go_wp2_with (first | ((with_reducible refine gate_callee (f := 90) rfl ?_); refine gl (some 11) Try.func90 #[.slice A0 l0.length c0, .int .i64 (-1000000), .int .i64 1000000] ?_; (with_reducible refine (impl_allWithin.calls k _ _ l0 (-1000000) 1000000 true _ ?side1 ?side2 A4.out).mono ?_); (case side1 => exact co (Kd.C_below HR0.out HB.out)); (case side2 => exact HC0.out); rintro e w' ⟨rfl, ⟨nd, rfl⟩⟩; refine ⟨_, rfl, ?_⟩) | (go_at_call 90; (with_reducible refine (impl_allWithin.calls k _ _ l1 (-1000000) 1000000 true _ ?side1 ?side2 A6.out).mono ?_); (case side1 => exact co (Kd.C_below HR1.out bw)); (case side2 => exact HC1.out); rintro e w' ⟨rfl, ⟨nd, rfl⟩⟩))
     go_meet
     case rel => exact ⟨_, (true), rr, H', ⟨om⟩, ⟨bw⟩⟩
    ·have c8b0 : decide (300 < (l0.length : Int)) = false := decide_eq_false c8
     have c8b1 : decide (300 < l0.length) = false := decide_eq_false (by omega)
     clear c8
     (first | rw [c8b0] | (simp only [i64_w, i32_w]; rw [c8b0]) | skip)
     have H' := Aside0.mk H
     clear H
     go_wp2_with (first | ((with_reducible refine gate_callee (f := 90) rfl ?_); refine gl (some 11) Try.func90 #[.slice A0 l0.length c0, .int .i64 (-1000000), .int .i64 1000000] ?_; (with_reducible refine (impl_allWithin.calls k _ _ l0 (-1000000) 1000000 true _ ?side1 ?side2 A4.out).mono ?_); (case side1 => exact co (Kd.C_below HR0.out HB.out)); (case side2 => exact HC0.out); rintro e w' ⟨rfl, ⟨nd, rfl⟩⟩; refine ⟨_, rfl, ?_⟩) | (go_at_call 90; (with_reducible refine (impl_allWithin.calls k _ _ l1 (-1000000) 1000000 true _ ?side1 ?side2 A6.out).mono ?_); (case side1 => exact co (Kd.C_below HR1.out bw)); (case side2 => exact HC1.out); rintro e w' ⟨rfl, ⟨nd, rfl⟩⟩))
     go_meet
     case rel => exact ⟨_, (decide ((l1.length : Int) > 300)), rr, H', ⟨om⟩, ⟨bw⟩⟩
   ·have H' := Aside0.mk H
    clear H
    go_wp2_with (first | ((with_reducible refine gate_callee (f := 90) rfl ?_); refine gl (some 11) Try.func90 #[.slice A0 l0.length c0, .int .i64 (-1000000), .int .i64 1000000] ?_; (with_reducible refine (impl_allWithin.calls k _ _ l0 (-1000000) 1000000 true _ ?side1 ?side2 A4.out).mono ?_); (case side1 => exact co (Kd.C_below HR0.out HB.out)); (case side2 => exact HC0.out); rintro e w' ⟨rfl, ⟨nd, rfl⟩⟩; refine ⟨_, rfl, ?_⟩) | (go_at_call 90; (with_reducible refine (impl_allWithin.calls k _ _ l1 (-1000000) 1000000 false _ ?side1 ?side2 A6.out).mono ?_); (case side1 => exact co (Kd.C_below HR1.out bw)); (case side2 => exact HC1.out); rintro e w' ⟨rfl, ⟨nd, rfl⟩⟩))
    go_meet
    case rel => exact ⟨_, (true), rr, H', ⟨om⟩, ⟨bw⟩⟩
  ·have H' := Aside0.mk H
   clear H
   go_wp2_with (first | ((with_reducible refine gate_callee (f := 90) rfl ?_); refine gl (some 11) Try.func90 #[.slice A0 l0.length c0, .int .i64 (-1000000), .int .i64 1000000] ?_; (with_reducible refine (impl_allWithin.calls k _ _ l0 (-1000000) 1000000 false _ ?side1 ?side2 A4.out).mono ?_); (case side1 => exact co (Kd.C_below HR0.out HB.out)); (case side2 => exact HC0.out); rintro e w' ⟨rfl, ⟨nd, rfl⟩⟩; refine ⟨_, rfl, ?_⟩))
   go_meet
   case rel => exact ⟨_, (true), rr, H', ⟨om⟩, ⟨bw⟩⟩
 case rest =>
  clear HC3
  try clear c1; try clear c8; try clear c8b0; try clear c8b1
  obtain ⟨kq, x27_2, rfl, HA, HJ2, HB⟩ := hcut
  cases kq with
  | zero => exact absurd HA.out (by simp [impl_SumsOf.j0])
  | succ kj2 =>
   have H := HA.out
   clear HA
   simp only [impl_SumsOf.j0] at H
   replace H := gb H; obtain ⟨rfl, H⟩ | ⟨rfl, H⟩ := H
   ·obtain rfl := Option.some.inj H
    go_wp2
    go_ret
    exact ⟨_, re, by first | exact Kd.R_nil _ _ _ _ _ | exact Kd.N_nil _ _ _ _ _ | exact Kd.V_nil _ _ _ _ _ | exact Kd.Q_nil _ _ _ _ _ | exact Kd.S_nil _ _ _ _ _, bw⟩
   ·obtain ⟨y658, hy658⟩ : ∃ y_ : List Int, y_ = (([] : List Int)) := ⟨_, rfl⟩
    replace H : (impl_SumsOf.l0 kj2 l1 y658 l0 (l0.length : Int) 0) = some r := by first | (rw [hy658]; with_reducible exact H) | (have H2_ := (Option.bind_some _ _).symm.trans H; rw [hy658]; with_reducible exact H2_) | (have H2_ := (Option.bind_some _ _).symm.trans H; with_reducible exact H2_) | with_reducible exact H | (rw [hy658]; exact H) | exact H
    have Ny658 := Aside0.mk hy658
    clear hy658
    have H' := Aside0.mk H
    clear H
    go_wp2_with (first | ((with_reducible refine gate_dst (N := 28) rfl ?_); (try (refine gate_guard (by rfl) ?_; dsimp only)); refine Kd.R_lit (Kd.int .i64) _ 3 ?hg (N := 28) ?hd (xs := ([] : List Int)) (inner := []) (ok := fun _ => True) (okp := fun _ => True) ?hr ?hp (fun _ hk => hk) trivial (Below.refl _ _) (Nat.le_refl _) (by simp) ?_; (case hd => rfl); (case hg => rfl); (case hr => first | (go_simp; done) | (go_simp; rfl)); (case hp => exact (Reps.none _ _)); intro v659 w10 ho11 hb hg_ hnew_; clear hg_ hnew_; (first | rw [← Ny658.out] at ho11 | (simp only [Int.reduceToNat] at ho11; rw [← Ny658.out] at ho11)); have HO660 := Aside0.mk (Kd.R_lower ho11 (below_size bw)); replace HB := Aside0.mk (below_step bw hb); clear hb ho11))
    go_loopg [5, 31] kj2 (fun kq v5 v31 w' => ∃ (x5_2 : List Int) (x31_2 : Int), v31 = .int .i64 x31_2 ∧ Aside0 (impl_SumsOf.l0 kq l1 x5_2 l0 (l0.length : Int) x31_2 = some r) ∧ Aside0 (kq ≤ kj2) ∧ Aside0 (Kd.R (Kd.int .i64) 3 w' w.heap.size (fun _ => True) v5 x5_2) ∧ Aside0 (Below w.heap.size w w'))
    case atStart => exact ⟨(y658), (0), rr, H', ⟨Nat.le_refl _⟩, ⟨ro HO660.out⟩, ⟨bw⟩⟩
    case round =>
     clear H'
     try clear c1; try clear c8; try clear c8b0; try clear c8b1
     obtain ⟨x5_2, x31_2, rfl, HA, HK2, HO_5, HB⟩ := hrel
     cases gk with
     | zero => exact absurd HA.out (by simp [impl_SumsOf.l0])
     | succ k2 =>
      have H := HA.out
      clear HA
      simp only [impl_SumsOf.l0] at H
      replace H := gi H; obtain ⟨c12b0, H⟩ | ⟨c12b0, H⟩ := H
      ·replace H := gd H; obtain ⟨c13b0, H⟩ := H
       replace H := gd H; obtain ⟨c14b0, H⟩ := H
       have H' := Aside0.mk H
       clear H
       obtain ⟨⟨ad664, e664, hx664_0⟩, p664, q664⟩ := pq (Kd.at_int HR0.out x31_2)
       cases e664
       replace hx664_0 := (HB.out.cell (World.block_lt_of_cell? w _ hx664_0)).trans hx664_0
       go_wp2
       go_loopg [5, 37] k2 (fun kq v5 v37 w' => ∃ (x5_3 : List Int) (x37_3 : Int), v37 = .int .i64 x37_3 ∧ Aside0 (impl_SumsOf.l1 kq l1 x5_3 (rd l0 x31_2) l0 (l0.length : Int) x31_2 l1 (l1.length : Int) x37_3 = some r) ∧ Aside0 (kq ≤ k2) ∧ Aside0 (Kd.R (Kd.int .i64) 3 w' w.heap.size (fun _ => True) v5 x5_3) ∧ Aside0 (Below w.heap.size w w'))
       case atStart => exact ⟨(x5_2), (0), rr, H', ⟨Nat.le_refl _⟩, ⟨ro HO_5.out⟩, ⟨bw⟩⟩
       case round =>
        clear H'
        try clear c1; try clear c8; try clear c8b0; try clear c8b1; try clear c12b0; try clear c13b0; try clear c14b0; try clear hx664_0; try clear p664; try clear q664
        obtain ⟨x5_3, x37_3, rfl, HA, HK3, HO_5, HB⟩ := hrel
        cases gk with
        | zero => exact absurd HA.out (by simp [impl_SumsOf.l1])
        | succ k3 =>
         have H := HA.out
         clear HA
         simp only [impl_SumsOf.l1] at H
         replace H := gi H; obtain ⟨c15b0, H⟩ | ⟨c15b0, H⟩ := H
         ·replace H := gd H; obtain ⟨c16b0, H⟩ := H
          replace H := gd H; obtain ⟨c17b0, H⟩ := H
          by_cases c18 : x5_3.length < 17592186044416
          rotate_left
          ·rw [if_neg c18] at H
           exact absurd H (by simp)
          rw [if_pos c18] at H
          have LMc18 := Aside0.mk c18
          clear c18
          obtain ⟨y666, hy666⟩ : ∃ y_ : List Int, y_ = (x5_3 ++ [wrap64 ((rd l0 x31_2) + (rd l1 x37_3))]) := ⟨_, rfl⟩
          replace H : (impl_SumsOf.l1 k3 l1 y666 (rd l0 x31_2) l0 (l0.length : Int) x31_2 l1 (l1.length : Int) (wrap64 (x37_3 + 1))) = some r := by first | (rw [hy666]; with_reducible exact H) | (have H2_ := (Option.bind_some _ _).symm.trans H; rw [hy666]; with_reducible exact H2_) | (have H2_ := (Option.bind_some _ _).symm.trans H; with_reducible exact H2_) | with_reducible exact H | (rw [hy666]; exact H) | exact H
          have Ny666 := Aside0.mk hy666
          clear hy666
          have H' := Aside0.mk H
          clear H
          obtain ⟨⟨ad665, e665, hx665_0⟩, p665, q665⟩ := pq (Kd.at_int HR1.out x37_3)
          cases e665
          replace hx665_0 := (HB.out.cell (World.block_lt_of_cell? w _ hx665_0)).trans hx665_0
          go_wp2_with (first | ((with_reducible refine gate_builtin (b := .append) (xs := #[.tmp 41, .tmp 45]) rfl ?_); (try (refine gate_guard (by rfl) ?_; dsimp only)); at_builtin; refine Kd.R_append (Kd.int .i64) (w0 := w) w.heap.size rfl (.tmp 41) (.tmp 45) 22 3 (.int .i64 0) 8 rfl Try.underlying22 info3 rfl (by decide) (by omega) u5 x5_3 (wrap64 ((rd l0 x31_2) + (rd l1 x37_3))) [.int .i64 (wrap64 ((rd l0 x31_2) + (rd l1 x37_3)))] (fun _ => True) (fun _ => False) rfl rfl ?aP (fun _ hk => hk.elim) ?aF ?aO ?aB ?aS ?aL ?_; (case aP => exact rfl); (case aB => exact bw); (case aF => exact (fun _ _ => trivial)); (case aO => exact (ro HO_5.out)); (case aS => exact (below_size bw)); (case aL => have := LMc18.out; omega); intro v667 w19 ho hb hg hat; rw [← Ny666.out] at ho; replace HB := Aside0.mk (hb); have HO668 := Aside0.mk (ho); clear HO_5 ho hb hg hat))
          go_roundg k3
          case measure => have := HJ2.out; have := HK2.out; have := HK3.out; omega
          case rel => exact ⟨(y666), (wrap64 (x37_3 + 1)), rr, H', ⟨by have := HJ2.out; have := HK2.out; have := HK3.out; omega⟩, ⟨ro HO668.out⟩, ⟨bw⟩⟩
         ·have H' := Aside0.mk H
          clear H
          go_wp2
          go_roundg k3
          case measure => have := HJ2.out; have := HK2.out; have := HK3.out; omega
          case rel => exact ⟨(x5_3), (wrap64 (x31_2 + 1)), rr, H', ⟨by have := HJ2.out; have := HK2.out; have := HK3.out; omega⟩, ⟨ro HO_5.out⟩, ⟨bw⟩⟩
      ·replace H := ga H; obtain ⟨t661, A20, H⟩ := H
       obtain rfl := Option.some.inj H
       obtain ⟨Ao21, co21, eo21⟩ := Kd.R_slice HO_5.out
       subst eo21
       go_wp2_with (first | ((with_reducible refine gate_callee (f := 62) rfl ?_); refine gl (some 50) Try.func62 #[.slice Ao21 x5_2.length co21] ?_; (with_reducible refine (impl_SortList.calls _ _ x5_2 t661 _ ?side1 ?side2 A20.out).mono ?_); (case side1 => exact co (Kd.R_reads' HO_5.out).2.2); (case side2 => exact (Kd.R_reads' HO_5.out).2.1); rintro e w22 ⟨v662, rfl, ho0, hb⟩; refine ⟨_, rfl, ?_⟩; have HO663 := Aside0.mk (Kd.R_lower (Kd.R_new' ho0 (Kd.R_lt (ro HO_5.out))) (below_size bw)); replace HO_5 := Aside0.mk (Kd.R_elder' (ro HO_5.out) (Kd.R_base ho0) hb); replace HB := Aside0.mk (below_step bw hb); clear hb ho0))
       go_ret
       exact ⟨_, re, by (with_reducible repeat (first | apply Kd.R_alloc | apply Kd.R_drewN | apply Kd.R_drew)); exact Kd.R_mono HO663.out (fun _ hk => trivial), bw⟩


/-! ### impl_IdealSum: function 36 -/
def impl_IdealSum.j0 : Nat → List Int → List Int → Bool → List Int → Option (List Int)
 | 0, _, _, _, _ => none
 | k + 1, x1, x2, x19, x670000 => if x19 = true then (some ([] : List Int)) else ((impl_SumsOf.f k x1 x2).bind fun t673 => ((impl_MinimalIn.f k x670000 t673).bind fun t676 => (some t676)))
def impl_IdealSum.f (k : Nat) (l0_0 : List Int) (l1 : List Int) (l2 : List Int) : Option (List Int) := (impl_IsSemigroup.f k l0_0).bind fun t670 => (if t670 = true then ((impl_idealList.f k l1).bind fun t671 => (if t671 = true then ((impl_idealList.f k l2).bind fun t672 => (impl_IdealSum.j0 k l1 l2 (!t672) l0_0)) else (impl_IdealSum.j0 k l1 l2 true l0_0))) else (impl_IdealSum.j0 k l1 l2 true l0_0))
set_option maxHeartbeats 8000000 in
set_option maxRecDepth 100000 in
theorem impl_IdealSum.calls (k : Nat) (A0_0 : Option Addr) (c0_0 : Nat) (l0_0 : List Int) (A1 : Option Addr) (c1 : Nat) (l1 : List Int) (A2 : Option Addr) (c2 : Nat) (l2 : List Int) (r : List Int) (w : World) (hr0_0 : Kd.C (Kd.int .i64) w A0_0 l0_0.length l0_0) (hc0_0 : l0_0.length ≤ c0_0) (hr1 : Kd.C (Kd.int .i64) w A1 l1.length l1) (hc1 : l1.length ≤ c1) (hr2 : Kd.C (Kd.int .i64) w A2 l2.length l2) (hc2 : l2.length ≤ c2) (h : impl_IdealSum.f k l0_0 l1 l2 = some r) :
  Calls Try.prog 36 #[.agg #[.slice A0_0 l0_0.length c0_0], .slice A1 l1.length c1, .slice A2 l2.length c2] w fun e w' => ∃ v0_ : Value, e = .returned (v0_) ∧ Kd.R (Kd.int .i64) 3 w' w.heap.size (fun _ => True) v0_ r ∧ Below w.heap.size w w' := by
 have hu27 := Try.underlying27
 have HR0_0 := Aside0.mk hr0_0
 have HC0_0 := Aside0.mk hc0_0
 clear hr0_0 hc0_0
 have HR1 := Aside0.mk hr1
 have HC1 := Aside0.mk hc1
 clear hr1 hc1
 have HR2 := Aside0.mk hr2
 have HC2 := Aside0.mk hc2
 clear hr2 hc2
 have HB := Aside0.mk (Below.refl w.heap.size w)
 have H : ((impl_IsSemigroup.f k l0_0).bind fun t670 => (if t670 = true then ((impl_idealList.f k l1).bind fun t671 => (if t671 = true then ((impl_idealList.f k l2).bind fun t672 => (impl_IdealSum.j0 k l1 l2 (!t672) l0_0)) else (impl_IdealSum.j0 k l1 l2 true l0_0))) else (impl_IdealSum.j0 k l1 l2 true l0_0))) = some r := h
 clear h
 have HC4 := Aside0.mk H
 clear H
 go_enter Try.func36, Try.ntmps36
 go_upto_region 1 with (first | ((with_reducible refine gate_dst (N := 3) rfl ?_); refine bx 3 #[.slice A0_0 l0_0.length c0_0] 27 ?_; intro gb669 hg w5 hbox hb; have BK669 := Aside0.mk (hbox); have GW669 := Aside0.mk (gs hg : w.heap.size ≤ gb669); have GE669 := Aside0.mk (gs hg : w.heap.size ≤ gb669); replace HB := Aside0.mk (below_step bw hb); clear hb hbox hg))
 (try simp only [Act.put, List.setIfInBounds_toArray, List.set_cons_zero, List.set_cons_succ])
 go_cut [19] (fun v19 wc => ∃ (kq : Nat) (x19_3 : Bool), v19 = .bool x19_3 ∧ Aside0 (impl_IdealSum.j0 kq l1 l2 x19_3 l0_0 = some r) ∧ Aside0 (kq ≤ k) ∧ Aside0 (wc.heap[gb669]? = some (.cells #[(.slice A0_0 l0_0.length c0_0)] 27 (0, 0))) ∧ Aside0 (Below w.heap.size w wc))
 case first =>
  have H := HC4.out
  clear HC4
  replace H := ga H; obtain ⟨t670, A6, H⟩ := H
  replace H := gb H; obtain ⟨rfl, H⟩ | ⟨rfl, H⟩ := H
  ·replace H := ga H; obtain ⟨t671, A8, H⟩ := H
   replace H := gb H; obtain ⟨rfl, H⟩ | ⟨rfl, H⟩ := H
   ·replace H := ga H; obtain ⟨t672, A10, H⟩ := H
    have H' := Aside0.mk H
    clear H
    have hcz11_0 := bc BK669 0 (.slice A0_0 l0_0.length c0_0)
    have hfz11_0 := blk_frozen BK669.out 0
    go_wp2_with (first | ((with_reducible refine gate_callee (f := 58) rfl ?_); refine gl (some 8) Try.func58 #[.agg #[.slice A0_0 l0_0.length c0_0]] ?_; (with_reducible refine (impl_IsSemigroup.calls k _ _ l0_0 true _ ?side1 ?side2 A6.out).mono ?_); (case side1 => exact co (Kd.C_below HR0_0.out HB.out)); (case side2 => exact HC0_0.out); rintro e w12 ⟨rfl, hb⟩; refine ⟨_, rfl, ?_⟩; replace BK669 := Aside0.mk (blk_below (g := gb669) (o := .cells #[.slice A0_0 l0_0.length c0_0] 27 (0, 0)) (bo BK669.out) hb); replace HB := Aside0.mk (below_step bw hb); clear hb) | (go_at_call 64; (with_reducible refine (impl_idealList.calls k _ _ l1 true _ ?side1 ?side2 A8.out).mono ?_); (case side1 => exact co (Kd.C_below HR1.out HB.out)); (case side2 => exact HC1.out); rintro e w' ⟨rfl, ⟨nd, rfl⟩⟩) | (go_at_call 64; (with_reducible refine (impl_idealList.calls k _ _ l2 t672 _ ?side1 ?side2 A10.out).mono ?_); (case side1 => exact co (Kd.C_below HR2.out bw)); (case side2 => exact HC2.out); rintro e w' ⟨rfl, ⟨nd, rfl⟩⟩))
    go_meet
    case rel => exact ⟨_, (!t672), rr, H', ⟨om⟩, ⟨bo BK669.out⟩, ⟨bw⟩⟩
   ·have H' := Aside0.mk H
    clear H
    have hcz13_0 := bc BK669 0 (.slice A0_0 l0_0.length c0_0)
    have hfz13_0 := blk_frozen BK669.out 0
    go_wp2_with (first | ((with_reducible refine gate_callee (f := 58) rfl ?_); refine gl (some 8) Try.func58 #[.agg #[.slice A0_0 l0_0.length c0_0]] ?_; (with_reducible refine (impl_IsSemigroup.calls k _ _ l0_0 true _ ?side1 ?side2 A6.out).mono ?_); (case side1 => exact co (Kd.C_below HR0_0.out HB.out)); (case side2 => exact HC0_0.out); rintro e w14 ⟨rfl, hb⟩; refine ⟨_, rfl, ?_⟩; replace BK669 := Aside0.mk (blk_below (g := gb669) (o := .cells #[.slice A0_0 l0_0.length c0_0] 27 (0, 0)) (bo BK669.out) hb); replace HB := Aside0.mk (below_step bw hb); clear hb) | (go_at_call 64; (with_reducible refine (impl_idealList.calls k _ _ l1 false _ ?side1 ?side2 A8.out).mono ?_); (case side1 => exact co (Kd.C_below HR1.out HB.out)); (case side2 => exact HC1.out); rintro e w' ⟨rfl, ⟨nd, rfl⟩⟩))
    go_meet
    case rel => exact ⟨_, (true), rr, H', ⟨om⟩, ⟨bo BK669.out⟩, ⟨bw⟩⟩
  ·have H' := Aside0.mk H
   clear H
   have hcz15_0 := bc BK669 0 (.slice A0_0 l0_0.length c0_0)
   have hfz15_0 := blk_frozen BK669.out 0
   go_wp2_with (first | ((with_reducible refine gate_callee (f := 58) rfl ?_); refine gl (some 8) Try.func58 #[.agg #[.slice A0_0 l0_0.length c0_0]] ?_; (with_reducible refine (impl_IsSemigroup.calls k _ _ l0_0 false _ ?side1 ?side2 A6.out).mono ?_); (case side1 => exact co (Kd.C_below HR0_0.out HB.out)); (case side2 => exact HC0_0.out); rintro e w16 ⟨rfl, hb⟩; refine ⟨_, rfl, ?_⟩; replace BK669 := Aside0.mk (blk_below (g := gb669) (o := .cells #[.slice A0_0 l0_0.length c0_0] 27 (0, 0)) (bo BK669.out) hb); replace HB := Aside0.mk (below_step bw hb); clear hb))
   go_meet
   case rel => exact ⟨_, (true), rr, H', ⟨om⟩, ⟨bo BK669.out⟩, ⟨bw⟩⟩
 case rest =>
  clear HC4
  try clear c1; try clear c2; try clear hcz11_0; try clear hcz13_0; try clear hcz15_0; try clear hfz11_0; try clear hfz13_0; try clear hfz15_0
  obtain ⟨kq, x19_3, rfl, HA, HJ3, BK669, HB⟩ := hcut
  cases kq with
  | zero => exact absurd HA.out (by simp [impl_IdealSum.j0])
  | succ kj3 =>
   have H := HA.out
   clear HA
   simp only [impl_IdealSum.j0] at H
   replace H := gb H; obtain ⟨rfl, H⟩ | ⟨rfl, H⟩ := H
   ·obtain rfl := Option.some.inj H
    go_wp2
    go_ret
    exact ⟨_, re, by first | exact Kd.R_nil _ _ _ _ _ | exact Kd.N_nil _ _ _ _ _ | exact Kd.V_nil _ _ _ _ _ | exact Kd.Q_nil _ _ _ _ _ | exact Kd.S_nil _ _ _ _ _, bw⟩
   ·replace H := ga H; obtain ⟨t673, A18, H⟩ := H
    replace H := ga H; obtain ⟨t676, A19, H⟩ := H
    obtain rfl := Option.some.inj H
    try go_wp2
    replace BK669 := Aside0.mk (blk_drew BK669.out)
    replace HB := Aside0.mk (below_drew1 HB.out)
    refine start_ (n := 6) (S := fun w' => w'.cell? ⟨gb669, 0, none⟩ = some (.slice A0_0 l0_0.length c0_0)) (ds := []) #[Z,Z,Z,Z,Z,Z] (by kernel_rfl) rfl rfl ((blk_cell BK669.out 0).trans rfl) (fun hHeld => ?_)
    generalize wc.drew = w20 at BK669 HB hHeld ⊢
    refine pure_ (i := 1) (N := some 21) (v := ?_) (a' := ?_) #[Z,Y,Z,Z,Z,Z] rfl rfl (by kernel_rfl) (fun _ _ _ h => h) (Or.inl ⟨by rfl, ?_⟩) ?_ ?_
    rotate_left
    ·intro w'
     go_simp
     with_reducible rfl
    rotate_left
    ·simp only [Act.put, qa, qb, qc, i64_w, i32_w]
     rfl
    refine pure_ (i := 2) (N := some 22) (v := ?_) (a' := ?_) #[Z,Y,Y,Z,Z,Z] rfl rfl (by kernel_rfl) (fun _ _ _ h => h) (Or.inl ⟨by rfl, ?_⟩) ?_ ?_
    rotate_left
    ·intro w'
     go_simp
     with_reducible rfl
    rotate_left
    ·simp only [Act.put, qa, qb, qc, i64_w, i32_w]
     rfl
    refine take_ (i := 0) (N := some 20) (v := ?_) (a' := ?_) #[Y,Y,Y,Z,Z,Z] rfl rfl (by kernel_rfl) (fun _ _ _ h => h) (Or.inl ⟨by rfl, ?_⟩) hHeld ?_ ?_
    rotate_left
    ·intro w' s0
     go_simp
     with_reducible rfl
    rotate_left
    ·simp only [Act.put, qa, qb, qc, i64_w, i32_w]
     rfl
    refine one_ (i := 3) (N := some 23) #[Y,Y,Y,Y,Z,Z] rfl rfl (by kernel_rfl) (by decide) (fun K hK => ?_)
    refine gm Try.func68 #[.slice A1 l1.length c1, .slice A2 l2.length c2] ?_
    with_reducible refine (impl_SumsOf.calls kj3 _ _ l1 _ _ l2 t673 _ ?side1 ?side2 ?side3 ?side4 A18.out).mono ?_
    (case side1 => exact co (Kd.C_below HR1.out HB.out))
    (case side2 => exact HC1.out)
    (case side3 => exact co (Kd.C_below HR2.out HB.out))
    (case side4 => exact HC2.out)
    rintro e w21 ⟨v674, rfl, ho0, hb⟩
    refine ⟨_, rfl, ?_⟩
    have HO675 := Aside0.mk (Kd.R_lower ho0 (below_size bw))
    replace BK669 := Aside0.mk (blk_below (g := gb669) (o := .cells #[.slice A0_0 l0_0.length c0_0] 27 (0, 0)) (bo BK669.out) hb)
    replace HB := Aside0.mk (below_step bw hb)
    clear hb ho0
    obtain ⟨Ao22, co22, eo22⟩ := Kd.R_slice HO675.out
    (first | subst eo22 | (injection eo22 with f1_ f2_ f3_; have f4_ := f1_.symm; have f5_ := f3_.symm; clear f1_ f2_ f3_; subst f4_; subst f5_))
    refine hK.out _ _ ((blk_cell BK669.out 0).trans rfl) (fun hHeld => ?_)
    clear hK K
    refine norm_ (a' := ?_) ?_ ?_
    rotate_left
    ·show Act.put _ (some 23) _ = _
     simp only [Act.put, qa, qb, qc, i64_w, i32_w]
     rfl
    refine one_ (i := 4) (N := some 24) #[Y,Y,Y,Y,Y,Z] rfl rfl (by kernel_rfl) (by decide) (fun K hK => ?_)
    refine gm Try.func26 #[.agg #[.slice A0_0 l0_0.length c0_0], .slice Ao22 t673.length co22] ?_
    with_reducible refine (impl_MinimalIn.calls kj3 _ _ l0_0 _ _ t673 t676 _ ?side1 ?side2 ?side3 ?side4 A19.out).mono ?_
    (case side1 => exact co (Kd.C_below HR0_0.out HB.out))
    (case side2 => exact HC0_0.out)
    (case side3 => exact co (Kd.R_reads' HO675.out).2.2)
    (case side4 => exact (Kd.R_reads' HO675.out).2.1)
    rintro e w23 ⟨v677, rfl, ho0, hb⟩
    refine ⟨_, rfl, ?_⟩
    have HO678 := Aside0.mk (Kd.R_lower (Kd.R_new' ho0 (Kd.R_lt (ro HO675.out))) (below_size bw))
    replace HO675 := Aside0.mk (Kd.R_elder' (ro HO675.out) (Kd.R_base ho0) hb)
    replace BK669 := Aside0.mk (blk_below (g := gb669) (o := .cells #[.slice A0_0 l0_0.length c0_0] 27 (0, 0)) (bo BK669.out) hb)
    replace HB := Aside0.mk (below_step bw hb)
    clear hb ho0
    refine hK.out _ _ ((blk_cell BK669.out 0).trans rfl) (fun hHeld => ?_)
    clear hK K
    refine norm_ (a' := ?_) ?_ ?_
    rotate_left
    ·show Act.put _ (some 24) _ = _
     simp only [Act.put, qa, qb, qc, i64_w, i32_w]
     rfl
    refine pure_ (i := 5) (N := some 6) (v := ?_) (a' := ?_) #[Y,Y,Y,Y,Y,Y] rfl rfl (by kernel_rfl) (fun _ _ _ h => h) (Or.inl ⟨by rfl, ?_⟩) ?_ ?_
    rotate_left
    ·intro w'
     go_simp
     with_reducible rfl
    rotate_left
    ·simp only [Act.put, qa, qb, qc, i64_w, i32_w]
     rfl
    refine done_ (by kernel_rfl) ?_
    try go_wp2
    go_ret
    exact ⟨_, re, by (with_reducible repeat (first | apply Kd.R_alloc | apply Kd.R_drewN | apply Kd.R_drew)); exact Kd.R_mono HO678.out (fun _ hk => trivial), bw⟩

end Go.Proofs.Ytiejmnnnjmmifaa.C
