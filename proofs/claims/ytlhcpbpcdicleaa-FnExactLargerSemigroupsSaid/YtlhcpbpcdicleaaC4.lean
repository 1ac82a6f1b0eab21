/- Contracts of functions of the program: laws_eqSemigroupS, laws_markSemigroupS, laws_heldIntS, laws_heldSemigroupS, spec_l1In, spec_l3Gens, spec_IsAscending, spec_l2Small, spec_l1Max, spec_GcdOf, spec_GcdOfList, spec_SortList. -/
import Derived.Test.YtlhcpbpcdicleaaC0
import Derived.Test.YtlhcpbpcdicleaaC3
namespace Go.Proofs.Ytlhcpbpcdicleaa.C
open Go.RowKit Go.Proofs.YtlhcpbpcdicleaaW.PrintWords Go.Proofs.YtlhcpbpcdicleaaW.PrintLast Go.Proofs.YtlhcpbpcdicleaaW.PrintMore
attribute [local go_sem] max2_int min2_int max_two min_two max_three min_three max_four min_four
set_option linter.unusedVariables false
set_option linter.unusedSimpArgs false
set_option maxHeartbeats 8000000
set_option maxRecDepth 100000

/-! ### laws_eqSemigroupS: function 15 -/
def laws_eqSemigroupS.l0 : Nat → List (S26) → List (S26) → Int → Option (Bool)
 | 0, _, _, _ => none
 | k + 1, x0, x1, x5 => if x5 < (x0.length : Int) then (if 0 ≤ x5 then (if x5 < (x1.length : Int) then ((laws_eqSemigroup.f k ((rd_T26 x0 x5).f0) ((rd_T26 x1 x5).f0)).bind fun t250 => (if t250 = true then (laws_eqSemigroupS.l0 k x0 x1 (wrap64 (x5 + 1))) else (some false))) else (none)) else (none)) else (some true)
def laws_eqSemigroupS.f (k : Nat) (l0 : List (S26)) (l1 : List (S26)) : Option (Bool) := if (l0.length : Int) = (l1.length : Int) then (laws_eqSemigroupS.l0 k l0 l1 0) else (some false)
def laws_eqSemigroupS.T6 : Bool × List (List Nat × List Nat) := (true, [([], []), ([], []), ([0, 1], [0, 1]), ([2], [2]), ([], []), ([], []), ([4, 5], [4, 5]), ([6], [6]), ([3, 7], [3, 7]), ([8], [8])])
def laws_eqSemigroupS.B6 : List Nat := [0, 0, 3, 7, 0, 0, 48, 112, 255, 511]
theorem laws_eqSemigroupS.tab6 : rtab .any (opsOf Try.f15 6) = laws_eqSemigroupS.T6 := by kernel_rfl
theorem laws_eqSemigroupS.bits6 : waitsOk laws_eqSemigroupS.T6.2 laws_eqSemigroupS.B6 = true := by kernel_rfl
theorem laws_eqSemigroupS.calls (k : Nat) (A0 : Option Addr) (c0 : Nat) (l0 : List (S26)) (A1 : Option Addr) (c1 : Nat) (l1 : List (S26)) (r : Bool) (w : World) (hr0 : Kd.C k26 w A0 l0.length l0) (hc0 : l0.length ≤ c0) (hr1 : Kd.C k26 w A1 l1.length l1) (hc1 : l1.length ≤ c1) (h : laws_eqSemigroupS.f k l0 l1 = some r) :
  Calls Try.prog 15 #[.slice A0 l0.length c0, .slice A1 l1.length c1] w fun e w' => e = .returned (.bool r) ∧ Below w.heap.size w w' := by
 have hu26 := Try.underlying26
 have HR0 := am hr0
 have HC0 := am hc0
 clear hr0 hc0
 have HR1 := am hr1
 have HC1 := am hc1
 clear hr1 hc1
 have HB := am (Below.refl w.heap.size w)
 unfold laws_eqSemigroupS.f at h
 have H := h
 clear h
 by_cases c3 : (l0.length : Int) = (l1.length : Int)
 ·rw [if_pos c3] at H
  have c3b0 : ((l0.length : Int) == (l1.length : Int)) = true := beq_iff_eq.mpr c3
  have c3b1 : ((l0.length : Int) != (l1.length : Int)) = false := bne_eq_false_iff_eq.mpr c3
  have c3b2 : (l0.length == l1.length) = true := by first | simpa using c3 | (simp at c3 ⊢; omega)
  clear c3
  have H' := am H
  clear H
  go_enter Try.func15, Try.ntmps15
  go_wp2
  go_loopg [5] k (fun kq v5 w' => ∃ (x5_1 : Int), v5 = .int .i64 x5_1 ∧ Aside0 (laws_eqSemigroupS.l0 kq l0 l1 x5_1 = some r) ∧ Aside0 (kq ≤ k) ∧ Aside0 (Below w.heap.size w w'))
  case atStart => exact ⟨(0), rr, H', ⟨Nat.le_refl _⟩, ⟨bw⟩⟩
  case round =>
   clear H'
   try clear c1; try clear c3; try clear c3b0; try clear c3b1; try clear c3b2
   obtain ⟨x5_1, rfl, HA, HK1, HB⟩ := hrel
   cases gk with
   | zero => exact absurd HA.out (by simp [laws_eqSemigroupS.l0])
   | succ k1 =>
    have H := HA.out
    clear HA
    simp only [laws_eqSemigroupS.l0] at H
    replace H := gi H; obtain ⟨c4b0, H⟩ | ⟨c4b0, H⟩ := H
    ·replace H := gd H; obtain ⟨c5b0, H⟩ := H
     replace H := gd H; obtain ⟨c6b0, H⟩ := H
     replace H := ga H; obtain ⟨t250, A7, H⟩ := H
     replace H := gb H; obtain ⟨rfl, H⟩ | ⟨rfl, H⟩ := H
     ·have H' := am H
      clear H
      try go_wp2
      replace HB := am (below_drew1 HB.out)
      have p248 : 0 ≤ (x5_1 : Int) := od
      have q248 : x5_1 < (l0.length : Int) := od
      obtain ⟨ad248, A248_0, c248_0, e248, hx248_0, hl248_0, hi248_0⟩ := at_T26 HR0.out x5_1 p248 q248
      have hw248_0 := hx248_0
      cases e248
      replace hx248_0 := hw HB hx248_0
      have HR248_0 := am hi248_0
      have HC248_0 := am hl248_0
      clear hi248_0 hl248_0
      replace p248 := eq_true p248
      replace q248 := eq_true q248
      have p249 : 0 ≤ (x5_1 : Int) := od
      have q249 : x5_1 < (l1.length : Int) := od
      obtain ⟨ad249, A249_0, c249_0, e249, hx249_0, hl249_0, hi249_0⟩ := at_T26 HR1.out x5_1 p249 q249
      have hw249_0 := hx249_0
      cases e249
      replace hx249_0 := hw HB hx249_0
      have HR249_0 := am hi249_0
      have HC249_0 := am hl249_0
      clear hi249_0 hl249_0
      replace p249 := eq_true p249
      replace q249 := eq_true q249
      refine start_ (n := 10) (S := fun w' => w'.cell? (ad248.add (x5_1).toNat) = some (.slice A248_0 ((rd_T26 l0 x5_1).f0).length c248_0) ∧ w'.cell? (ad249.add (x5_1).toNat) = some (.slice A249_0 ((rd_T26 l1 x5_1).f0).length c249_0)) (ds := []) (yz 10 0) (by kernel_rfl) rfl rfl ⟨((HB.out.cell (World.block_lt_of_cell? w _ hw248_0)).trans hw248_0), ((HB.out.cell (World.block_lt_of_cell? w _ hw249_0)).trans hw249_0)⟩ (fun hHeld => ?_); refine with_tabW laws_eqSemigroupS.tab6 laws_eqSemigroupS.bits6 (fun HT_ HW_ => ?_)
      generalize wr.drew = w9 at HB HR248_0 HR249_0 hx248_0 hx249_0 hHeld ⊢
      refine pa 0 (some 17) (yz 10 1) HT_ ?_
      refine pa 1 (some 18) (yz 10 3) HT_ ?_
      refine pa 2 (some 19) (yz 10 7) HT_ ?_
      refine pa 4 (some 21) (yz 10 23) HT_ ?_
      refine pa 5 (some 22) (yz 10 55) HT_ ?_
      refine pa 6 (some 23) (yz 10 119) HT_ ?_
      refine tk 3 (some 20) (yz 10 127) HT_ HW_ hHeld ?_
      refine tk 7 (some 24) (yz 10 255) HT_ HW_ hHeld ?_
      refine oa 8 (some 25) (yz 10 511) HT_ (fun K hK => ?_)
      refine gm Try.func10 #[.agg #[.slice A248_0 ((rd_T26 l0 x5_1).f0).length c248_0], .agg #[.slice A249_0 ((rd_T26 l1 x5_1).f0).length c249_0]] ?_
      with_reducible refine (laws_eqSemigroup.calls k1 _ _ ((rd_T26 l0 x5_1).f0) _ _ ((rd_T26 l1 x5_1).f0) true _ ?side1 ?side2 ?side3 ?side4 A7.out).mono ?_
      (case side1 => exact co (Kd.C_below HR248_0.out HB.out))
      (case side2 => exact HC248_0.out)
      (case side3 => exact co (Kd.C_below HR249_0.out HB.out))
      (case side4 => exact HC249_0.out)
      rintro e w10 ⟨rfl, hb⟩
      refine ⟨_, rfl, ?_⟩
      replace HB := am (below_step bw hb)
      clear hb
      refine hK.out _ _ ⟨((HB.out.cell (World.block_lt_of_cell? w _ hw248_0)).trans hw248_0), ((HB.out.cell (World.block_lt_of_cell? w _ hw249_0)).trans hw249_0)⟩ (fun hHeld => ?_)
      clear hK K
      refine nm (some 25) ?_
      refine pa 9 (some 26) (yz 10 1023) HT_ ?_
      refine done_ (done_of HT_.out (by kernel_rfl)) ?_
      try go_wp2
      go_roundg k1
      case measure => have := HK1.out; omega
      case rel => exact ⟨(wrap64 (x5_1 + 1)), rr, H', ⟨by have := HK1.out; omega⟩, ⟨bw⟩⟩
     obtain rfl := Option.some.inj H
     try go_wp2
     replace HB := am (below_drew1 HB.out)
     have p248 : 0 ≤ (x5_1 : Int) := od
     have q248 : x5_1 < (l0.length : Int) := od
     obtain ⟨ad248, A248_0, c248_0, e248, hx248_0, hl248_0, hi248_0⟩ := at_T26 HR0.out x5_1 p248 q248
     have hw248_0 := hx248_0
     cases e248
     replace hx248_0 := hw HB hx248_0
     have HR248_0 := am hi248_0
     have HC248_0 := am hl248_0
     clear hi248_0 hl248_0
     replace p248 := eq_true p248
     replace q248 := eq_true q248
     have p249 : 0 ≤ (x5_1 : Int) := od
     have q249 : x5_1 < (l1.length : Int) := od
     obtain ⟨ad249, A249_0, c249_0, e249, hx249_0, hl249_0, hi249_0⟩ := at_T26 HR1.out x5_1 p249 q249
     have hw249_0 := hx249_0
     cases e249
     replace hx249_0 := hw HB hx249_0
     have HR249_0 := am hi249_0
     have HC249_0 := am hl249_0
     clear hi249_0 hl249_0
     replace p249 := eq_true p249
     replace q249 := eq_true q249
     refine start_ (n := 10) (S := fun w' => w'.cell? (ad248.add (x5_1).toNat) = some (.slice A248_0 ((rd_T26 l0 x5_1).f0).length c248_0) ∧ w'.cell? (ad249.add (x5_1).toNat) = some (.slice A249_0 ((rd_T26 l1 x5_1).f0).length c249_0)) (ds := []) (yz 10 0) (by kernel_rfl) rfl rfl ⟨((HB.out.cell (World.block_lt_of_cell? w _ hw248_0)).trans hw248_0), ((HB.out.cell (World.block_lt_of_cell? w _ hw249_0)).trans hw249_0)⟩ (fun hHeld => ?_); refine with_tabW laws_eqSemigroupS.tab6 laws_eqSemigroupS.bits6 (fun HT_ HW_ => ?_)
     generalize wr.drew = w11 at HB HR248_0 HR249_0 hx248_0 hx249_0 hHeld ⊢
     refine pa 0 (some 17) (yz 10 1) HT_ ?_
     refine pa 1 (some 18) (yz 10 3) HT_ ?_
     refine pa 2 (some 19) (yz 10 7) HT_ ?_
     refine pa 4 (some 21) (yz 10 23) HT_ ?_
     refine pa 5 (some 22) (yz 10 55) HT_ ?_
     refine pa 6 (some 23) (yz 10 119) HT_ ?_
     refine tk 3 (some 20) (yz 10 127) HT_ HW_ hHeld ?_
     refine tk 7 (some 24) (yz 10 255) HT_ HW_ hHeld ?_
     refine oa 8 (some 25) (yz 10 511) HT_ (fun K hK => ?_)
     refine gm Try.func10 #[.agg #[.slice A248_0 ((rd_T26 l0 x5_1).f0).length c248_0], .agg #[.slice A249_0 ((rd_T26 l1 x5_1).f0).length c249_0]] ?_
     with_reducible refine (laws_eqSemigroup.calls k1 _ _ ((rd_T26 l0 x5_1).f0) _ _ ((rd_T26 l1 x5_1).f0) false _ ?side1 ?side2 ?side3 ?side4 A7.out).mono ?_
     (case side1 => exact co (Kd.C_below HR248_0.out HB.out))
     (case side2 => exact HC248_0.out)
     (case side3 => exact co (Kd.C_below HR249_0.out HB.out))
     (case side4 => exact HC249_0.out)
     rintro e w12 ⟨rfl, hb⟩
     refine ⟨_, rfl, ?_⟩
     replace HB := am (below_step bw hb)
     clear hb
     refine hK.out _ _ ⟨((HB.out.cell (World.block_lt_of_cell? w _ hw248_0)).trans hw248_0), ((HB.out.cell (World.block_lt_of_cell? w _ hw249_0)).trans hw249_0)⟩ (fun hHeld => ?_)
     clear hK K
     refine nm (some 25) ?_
     refine pa 9 (some 26) (yz 10 1023) HT_ ?_
     refine done_ (done_of HT_.out (by kernel_rfl)) ?_
     try go_wp2
     go_ret
     exact ⟨re, bw⟩
    obtain rfl := Option.some.inj H
    go_wp2
    go_ret
    exact ⟨re, bw⟩
 rw [if_neg c3] at H
 have c3b0 : ((l0.length : Int) == (l1.length : Int)) = false := beq_eq_false_iff_ne.mpr c3
 have c3b1 : ((l0.length : Int) != (l1.length : Int)) = true := bne_iff_ne.mpr c3
 have c3b2 : (l0.length == l1.length) = false := by first | simpa using c3 | (simp at c3 ⊢; omega)
 obtain rfl := Option.some.inj H
 go_enter Try.func15, Try.ntmps15
 go_wp2
 go_ret
 exact ⟨re, bw⟩


/-! ### laws_markSemigroupS: function 16 -/
def laws_markSemigroupS.l0 : Nat → List S26 → Int → Int → Option (Int × List S26)
 | 0, _, _, _ => none
 | k + 1, x0, x1, x5 => if x5 < (x0.length : Int) then (if 0 ≤ x5 then ((laws_markIntS.f k (rd_T26 x0 x5).f0 x1).bind fun t => laws_markSemigroupS.l0 k (x0.set (x5 : Int).toNat ⟨t.2⟩) t.1 (wrap64 (x5 + 1))) else none) else some (x1, x0)
def laws_markSemigroupS.f (k : Nat) (l0 : List S26) (a1 : Int) : Option (Int × List S26) := laws_markSemigroupS.l0 k l0 a1 0
theorem laws_markSemigroupS.calls (k : Nat) (P0_ : Nat → Prop) (u9000_ : Value) (l0 : List S26) (a1 : Int) (r1 : Int) (r2 : List S26) (w0 w : World) (hB : Below w0.heap.size w0 w) (ho0 : Kd.S k26 26 w w0.heap.size P0_ u9000_ l0) (h : laws_markSemigroupS.f k l0 a1 = some (r1, r2)) :
  Calls Try.prog 16 #[u9000_, .int .i64 a1] w fun e w' => e = .returned (.int .i64 r1) ∧ Kd.S k26 26 w' w0.heap.size (fun k_ => (P0_ k_ ∨ w.heap.size ≤ k_)) u9000_ r2 ∧ Below w0.heap.size w0 w' ∧ Kept w w' (fun k_ => P0_ k_) := by
 have HO0 := Aside0.mk (show Kd.S k26 26 w w0.heap.size (fun k_ => (P0_ k_ ∨ w.heap.size ≤ k_)) u9000_ l0 from Kd.S_mono ho0 (fun k_ hk => (.inl hk)))
 have HK := Aside0.mk (Kept.refl w (fun k_ => P0_ k_))
 have HB := Aside0.mk hB
 clear hB ho0
 have H' : Aside0 (laws_markSemigroupS.l0 k l0 a1 0 = some (r1, r2)) := ⟨h⟩
 clear h
 go_enter Try.func16, Try.ntmps16
 go_wp2
 go_loopg [1, 5] k (fun kq v1 v5 w' => ∃ (x0_1 : List S26) (x1_1 : Int) (x5_1 : Int), v1 = .int .i64 x1_1 ∧ v5 = .int .i64 x5_1 ∧ Aside0 (laws_markSemigroupS.l0 kq x0_1 x1_1 x5_1 = some (r1, r2)) ∧ Aside0 (kq ≤ k) ∧ Aside0 (Kd.S k26 26 w' w0.heap.size (fun k_ => (P0_ k_ ∨ w.heap.size ≤ k_)) u9000_ x0_1) ∧ Aside0 (Kept w w' (fun k_ => P0_ k_)) ∧ Aside0 (Below w0.heap.size w0 w'))
 case atStart => exact ⟨(l0), (a1), (0), rr, rr, H', ⟨Nat.le_refl _⟩, ⟨(by (with_reducible repeat (first | apply Kd.S_alloc | apply Kd.S_drewN | apply Kd.S_drew)); exact HO0.out)⟩, ⟨(by repeat (first | (with_reducible first | exact HK.out | apply Kept.alloc | apply Kept.drewN | apply Kept.drew) | exact HK.out))⟩, ⟨bw⟩⟩
 case round =>
  clear H' HO0
  obtain ⟨x0_1, x1_1, x5_1, rfl, rfl, HA, HK1, HO_0, HK, HB⟩ := hrel
  cases gk with
  | zero => exact absurd HA.out (by simp [laws_markSemigroupS.l0])
  | succ k1 =>
   have H := HA.out
   clear HA
   simp only [laws_markSemigroupS.l0] at H
   replace H := gi H; obtain ⟨c3b0, H⟩ | ⟨c3b0, H⟩ := H
   ·replace H := gd H; obtain ⟨c4b0, H⟩ := H
    replace H := ga H; obtain ⟨⟨t1, t2⟩, A5, H⟩ := H
    have H' := Aside0.mk H
    clear H
    have p5 : 0 ≤ (x5_1 : Int) := of_decide_eq_true c4b0
    have q5 : (x5_1 : Int) < ((x0_1.length : Int) : Int) := of_decide_eq_true c3b0
    obtain ⟨go5, co5, eo5, gb5, gl5, _⟩ := Kd.S_form HO_0.out (by omega)
    subst eo5
    obtain ⟨oki, c5, hc5, hM5, hx5, hoki, hH5⟩ := Kd.S_lend HO_0.out z26 x5_1 p5 q5
    replace hM5 : k26.M _ w0.heap.size oki (rd_T26 x0_1 x5_1) c5 := hM5
    obtain ⟨vi, rfl, hRi⟩ := k26_openM hM5
    obtain ⟨Ai, ci, ei⟩ := Kd.R_slice hRi
    subst ei
    replace hx5 := hx5 0 _ rfl
    rw [show x5_1.toNat * k26.sz + 0 = x5_1.toNat from Nat.mul_one _] at hx5
    have HRi := Aside0.mk hRi
    have HH5 := Aside0.mk hH5
    have HKI := Aside0.mk hoki
    clear hRi hH5 hoki hc5 gb5 gl5
    replace p5 := eq_true p5
    replace q5 := eq_true q5
    go_wp2_with (first | ((with_reducible refine gate_callee (f := 33) rfl ?_); refine gl (some 18) Try.func33 #[.slice Ai (rd_T26 x0_1 x5_1).f0.length ci, .int .i64 x1_1] ?_; (with_reducible refine (laws_markIntS.calls k1 oki _ (rd_T26 x0_1 x5_1).f0 x1_1 t1 t2 w0 _ ?side1 ?side2 A5.out).mono ?_); (case side1 => exact bw); (case side2 => exact ro HRi.out); rintro e w8 ⟨rfl, hR8, hb8, hk8⟩; refine ⟨_, rfl, ?_⟩; have HK8 := Aside0.mk (Kept.then_ (S := (fun k_ => P0_ k_)) (by repeat (first | (with_reducible first | exact HK.out | apply Kept.alloc | apply Kept.drewN | apply Kept.drew) | exact HK.out)) hk8 (fun k_ e_ => (HKI.out k_ e_).1)); have HO8 := Aside0.mk (Kd.H_back (Kd.H_kept (Kd.H_widen HH5.out) hk8 (fun k_ _ hn_ hs_ => hn_ (.inl hs_))) (x' := (⟨t2⟩ : S26)) (okp := fun k_ => oki k_ ∨ wr.heap.size ≤ k_) (k26_mkM _ _ _ (⟨t2⟩ : S26) hR8) (fun k_ h_ => Or.elim h_ (fun h1_ => Or.inl h1_) (fun h1_ => Or.inr ⟨Or.inr (Nat.le_trans HK.out.1 h1_), h1_⟩))); clear HB; have HB := Aside0.mk hb8; clear HK HO_0 HH5 HRi hb8 hR8 hk8; have HK := HK8; clear HK8))
    go_roundg k1
    case measure => have := HK1.out; omega
    case rel => exact ⟨(x0_1.set (x5_1 : Int).toNat ⟨t2⟩), t1, (wrap64 (x5_1 + 1)), rr, rr, H', ⟨by have := HK1.out; omega⟩, ⟨(by (with_reducible repeat (first | apply Kd.S_alloc | apply Kd.S_drewN | apply Kd.S_drew)); exact HO8.out)⟩, ⟨(by repeat (first | (with_reducible first | exact HK.out | apply Kept.alloc | apply Kept.drewN | apply Kept.drew) | exact HK.out))⟩, ⟨bw⟩⟩
   ·simp only [Option.some.injEq, Prod.mk.injEq] at H
    obtain ⟨rfl, rfl⟩ := H
    obtain ⟨Ao9, co9, eo9⟩ := Kd.S_slice HO_0.out
    subst eo9
    go_wp2
    go_ret
    exact ⟨re, (by (with_reducible repeat (first | apply Kd.S_alloc | apply Kd.S_drewN | apply Kd.S_drew)); exact HO_0.out), bw, (by repeat (first | (with_reducible first | exact HK.out | apply Kept.alloc | apply Kept.drewN | apply Kept.drew) | exact HK.out))⟩


/-! ### laws_heldIntS: function 34 -/
def laws_heldIntS.l0 : Nat → List Int → Int → Int → Option (Int)
 | 0, _, _, _ => none
 | k + 1, x0, x1, x5 => if x5 < (x0.length : Int) then (if 0 ≤ x5 then (if (rd x0 x5) = x1 then (laws_heldIntS.l0 k x0 (wrap64 (x1 + 1)) (wrap64 (x5 + 1))) else (some (-1))) else (none)) else (some x1)
def laws_heldIntS.f (k : Nat) (l0 : List Int) (a1 : Int) : Option (Int) := laws_heldIntS.l0 k l0 a1 0
theorem laws_heldIntS.calls (k : Nat) (A0 : Option Addr) (c0 : Nat) (l0 : List Int) (a1 : Int) (r : Int) (w : World) (hr0 : Kd.C (Kd.int .i64) w A0 l0.length l0) (hc0 : l0.length ≤ c0) (h : laws_heldIntS.f k l0 a1 = some r) :
  Calls Try.prog 34 #[.slice A0 l0.length c0, .int .i64 a1] w fun e w' => e = .returned (.int .i64 r) ∧ Drawn0 w w' := by
 have HR0 := am hr0
 have HC0 := am hc0
 clear hr0 hc0
 unfold laws_heldIntS.f at h
 have H := h
 clear h
 have H' := am H
 clear H
 go_enter Try.func34, Try.ntmps34
 go_wp2
 go_loopg [1, 5] k (fun kq v1 v5 w' => ∃ (x1_1 : Int) (x5_1 : Int), v1 = .int .i64 x1_1 ∧ v5 = .int .i64 x5_1 ∧ Aside0 (laws_heldIntS.l0 kq l0 x1_1 x5_1 = some r) ∧ Aside0 (kq ≤ k) ∧ Drawn0 w w')
 case atStart => exact ⟨(a1), (0), rr, rr, H', ⟨Nat.le_refl _⟩, dw⟩
 case round =>
  clear H'
  obtain ⟨x1_1, x5_1, rfl, rfl, HA, HK1, ⟨m1, rfl⟩⟩ := hrel
  cases gk with
  | zero => exact absurd HA.out (by simp [laws_heldIntS.l0])
  | succ k1 =>
   have H := HA.out
   clear HA
   simp only [laws_heldIntS.l0] at H
   replace H := gi H; obtain ⟨c3b0, H⟩ | ⟨c3b0, H⟩ := H
   ·replace H := gd H; obtain ⟨c4b0, H⟩ := H
    by_cases c5 : (rd l0 x5_1) = x1_1
    ·rw [if_pos c5] at H
     have c5b0 : ((rd l0 x5_1) == x1_1) = true := beq_iff_eq.mpr c5
     have c5b1 : ((rd l0 x5_1) != x1_1) = false := bne_eq_false_iff_eq.mpr c5
     clear c5
     have H' := am H
     clear H
     obtain ⟨⟨ad251, e251, hx251_0⟩, p251, q251⟩ := pq (Kd.at_int HR0.out x5_1)
     cases e251
     go_wp2
     go_roundg k1
     case measure => have := HK1.out; omega
     case rel => exact ⟨(wrap64 (x1_1 + 1)), (wrap64 (x5_1 + 1)), rr, rr, H', ⟨by have := HK1.out; omega⟩, dw⟩
    rw [if_neg c5] at H
    have c5b0 : ((rd l0 x5_1) == x1_1) = false := beq_eq_false_iff_ne.mpr c5
    have c5b1 : ((rd l0 x5_1) != x1_1) = true := bne_iff_ne.mpr c5
    obtain rfl := Option.some.inj H
    obtain ⟨⟨ad251, e251, hx251_0⟩, p251, q251⟩ := pq (Kd.at_int HR0.out x5_1)
    cases e251
    go_wp2
    go_ret
    exact ⟨rr, dw⟩
   obtain rfl := Option.some.inj H
   go_wp2
   go_ret
   exact ⟨rr, dw⟩


/-! ### laws_heldSemigroupS: function 17 -/
def laws_heldSemigroupS.l0 : Nat → List (S26) → Int → Int → Option (Int)
 | 0, _, _, _ => none
 | k + 1, x0, x1, x5 => if x5 < (x0.length : Int) then (if 0 ≤ x5 then ((laws_heldIntS.f k ((rd_T26 x0 x5).f0) x1).bind fun t253 => (if t253 < 0 then (some (-1)) else (laws_heldSemigroupS.l0 k x0 t253 (wrap64 (x5 + 1))))) else (none)) else (some x1)
def laws_heldSemigroupS.f (k : Nat) (l0 : List (S26)) (a1 : Int) : Option (Int) := laws_heldSemigroupS.l0 k l0 a1 0
theorem laws_heldSemigroupS.calls (k : Nat) (A0 : Option Addr) (c0 : Nat) (l0 : List (S26)) (a1 : Int) (r : Int) (w : World) (hr0 : Kd.C k26 w A0 l0.length l0) (hc0 : l0.length ≤ c0) (h : laws_heldSemigroupS.f k l0 a1 = some r) :
  Calls Try.prog 17 #[.slice A0 l0.length c0, .int .i64 a1] w fun e w' => e = .returned (.int .i64 r) ∧ Drawn0 w w' := by
 have HR0 := am hr0
 have HC0 := am hc0
 clear hr0 hc0
 unfold laws_heldSemigroupS.f at h
 have H := h
 clear h
 have H' := am H
 clear H
 go_enter Try.func17, Try.ntmps17
 go_wp2
 go_loopg [1, 5] k (fun kq v1 v5 w' => ∃ (x1_1 : Int) (x5_1 : Int), v1 = .int .i64 x1_1 ∧ v5 = .int .i64 x5_1 ∧ Aside0 (laws_heldSemigroupS.l0 kq l0 x1_1 x5_1 = some r) ∧ Aside0 (kq ≤ k) ∧ Drawn0 w w')
 case atStart => exact ⟨(a1), (0), rr, rr, H', ⟨Nat.le_refl _⟩, dw⟩
 case round =>
  clear H'
  obtain ⟨x1_1, x5_1, rfl, rfl, HA, HK1, ⟨m1, rfl⟩⟩ := hrel
  cases gk with
  | zero => exact absurd HA.out (by simp [laws_heldSemigroupS.l0])
  | succ k1 =>
   have H := HA.out
   clear HA
   simp only [laws_heldSemigroupS.l0] at H
   replace H := gi H; obtain ⟨c3b0, H⟩ | ⟨c3b0, H⟩ := H
   ·replace H := gd H; obtain ⟨c4b0, H⟩ := H
    replace H := ga H; obtain ⟨t253, A5, H⟩ := H
    replace H := gi H; obtain ⟨c6b0, H⟩ | ⟨c6b0, H⟩ := H
    ·obtain rfl := Option.some.inj H
     obtain ⟨⟨ad252, A252_0, c252_0, e252, hx252_0, hl252_0, hi252_0⟩, p252, q252⟩ := pq (at_T26 HR0.out x5_1)
     cases e252
     have HR252_0 := am hi252_0
     have HC252_0 := am hl252_0
     clear hi252_0 hl252_0
     go_wp2_with (first | ((with_reducible refine gate_callee (f := 34) rfl ?_); refine gl (some 18) Try.func34 #[.slice A252_0 ((rd_T26 l0 x5_1).f0).length c252_0, .int .i64 x1_1] ?_; (with_reducible refine (laws_heldIntS.calls k1 _ _ ((rd_T26 l0 x5_1).f0) x1_1 t253 _ ?side1 ?side2 A5.out).mono ?_); (case side1 => exact co HR252_0.out); (case side2 => exact HC252_0.out); rintro e w' ⟨rfl, ⟨nd, rfl⟩⟩; refine ⟨_, rfl, ?_⟩))
     go_ret
     exact ⟨rr, dw⟩
    have H' := am H
    clear H
    obtain ⟨⟨ad252, A252_0, c252_0, e252, hx252_0, hl252_0, hi252_0⟩, p252, q252⟩ := pq (at_T26 HR0.out x5_1)
    cases e252
    have HR252_0 := am hi252_0
    have HC252_0 := am hl252_0
    clear hi252_0 hl252_0
    go_wp2_with (first | ((with_reducible refine gate_callee (f := 34) rfl ?_); refine gl (some 18) Try.func34 #[.slice A252_0 ((rd_T26 l0 x5_1).f0).length c252_0, .int .i64 x1_1] ?_; (with_reducible refine (laws_heldIntS.calls k1 _ _ ((rd_T26 l0 x5_1).f0) x1_1 t253 _ ?side1 ?side2 A5.out).mono ?_); (case side1 => exact co HR252_0.out); (case side2 => exact HC252_0.out); rintro e w' ⟨rfl, ⟨nd, rfl⟩⟩; refine ⟨_, rfl, ?_⟩))
    go_roundg k1
    case measure => have := HK1.out; omega
    case rel => exact ⟨(t253), (wrap64 (x5_1 + 1)), rr, rr, H', ⟨by have := HK1.out; omega⟩, dw⟩
   obtain rfl := Option.some.inj H
   go_wp2
   go_ret
   exact ⟨rr, dw⟩


/-! ### spec_l1In: function 37 -/
def spec_l1In.f (a0 : Int) (a1 : Int) (a2 : Int) : Option (Bool) := if a0 ≥ a1 then (some (decide (a0 ≤ a2))) else (some false)
theorem spec_l1In.calls (a0 : Int) (a1 : Int) (a2 : Int) (r : Bool) (w : World) (h : spec_l1In.f a0 a1 a2 = some r) :
  Calls Try.prog 37 #[.int .i64 a0, .int .i64 a1, .int .i64 a2] w fun e w' => e = .returned (.bool r) ∧ Drawn0 w w' := by
 unfold spec_l1In.f at h
 have H := h
 clear h
 replace H := gj H; obtain ⟨c4, H⟩ | ⟨c4, H⟩ := H
 ·have c4b0 : decide (a1 ≤ a0) = true := decide_eq_true c4
  clear c4
  obtain rfl := Option.some.inj H
  go_enter Try.func37, Try.ntmps37
  go_wp2
  go_ret
  exact ⟨rr, dw⟩
 have c4b0 : decide (a1 ≤ a0) = false := decide_eq_false c4
 clear c4
 obtain rfl := Option.some.inj H
 go_enter Try.func37, Try.ntmps37
 go_wp2
 go_ret
 exact ⟨rr, dw⟩


/-! ### spec_l3Gens: function 45 -/
def spec_l3Gens.l0 : Nat → List Int → Int → Option (Bool)
 | 0, _, _ => none
 | k + 1, x0, x3 => if x3 < (x0.length : Int) then (if 0 ≤ x3 then ((spec_l1In.f (rd x0 x3) 1 60).bind fun t255 => (if t255 = true then (spec_l3Gens.l0 k x0 (wrap64 (x3 + 1))) else (some false))) else (none)) else ((spec_l1In.f (x0.length : Int) 1 20).bind fun t256 => (some t256))
def spec_l3Gens.f (k : Nat) (l0 : List Int) : Option (Bool) := spec_l3Gens.l0 k l0 0
theorem spec_l3Gens.calls (k : Nat) (A0 : Option Addr) (c0 : Nat) (l0 : List Int) (r : Bool) (w : World) (hr0 : Kd.C (Kd.int .i64) w A0 l0.length l0) (hc0 : l0.length ≤ c0) (h : spec_l3Gens.f k l0 = some r) :
  Calls Try.prog 45 #[.slice A0 l0.length c0] w fun e w' => e = .returned (.bool r) ∧ Drawn0 w w' := by
 have HR0 := am hr0
 have HC0 := am hc0
 clear hr0 hc0
 unfold spec_l3Gens.f at h
 have H := h
 clear h
 have H' := am H
 clear H
 go_enter Try.func45, Try.ntmps45
 go_wp2
 go_loopg [3] k (fun kq v3 w' => ∃ (x3_1 : Int), v3 = .int .i64 x3_1 ∧ Aside0 (spec_l3Gens.l0 kq l0 x3_1 = some r) ∧ Aside0 (kq ≤ k) ∧ Drawn0 w w')
 case atStart => exact ⟨(0), rr, H', ⟨Nat.le_refl _⟩, dw⟩
 case round =>
  clear H'
  obtain ⟨x3_1, rfl, HA, HK1, ⟨m1, rfl⟩⟩ := hrel
  cases gk with
  | zero => exact absurd HA.out (by simp [spec_l3Gens.l0])
  | succ k1 =>
   have H := HA.out
   clear HA
   simp only [spec_l3Gens.l0] at H
   replace H := gi H; obtain ⟨c2b0, H⟩ | ⟨c2b0, H⟩ := H
   ·replace H := gd H; obtain ⟨c3b0, H⟩ := H
    replace H := ga H; obtain ⟨t255, A4, H⟩ := H
    replace H := gb H; obtain ⟨rfl, H⟩ | ⟨rfl, H⟩ := H
    ·have H' := am H
     clear H
     obtain ⟨⟨ad254, e254, hx254_0⟩, p254, q254⟩ := pq (Kd.at_int HR0.out x3_1)
     cases e254
     go_wp2_with (first | ((with_reducible refine gate_callee (f := 37) rfl ?_); refine gl (some 14) Try.func37 #[.int .i64 (rd l0 x3_1), .int .i64 1, .int .i64 60] ?_; (with_reducible refine (spec_l1In.calls (rd l0 x3_1) 1 60 true _ A4.out).mono ?_); rintro e w' ⟨rfl, ⟨nd, rfl⟩⟩; refine ⟨_, rfl, ?_⟩))
     go_roundg k1
     case measure => have := HK1.out; omega
     case rel => exact ⟨(wrap64 (x3_1 + 1)), rr, H', ⟨by have := HK1.out; omega⟩, dw⟩
    obtain rfl := Option.some.inj H
    obtain ⟨⟨ad254, e254, hx254_0⟩, p254, q254⟩ := pq (Kd.at_int HR0.out x3_1)
    cases e254
    go_wp2_with (first | ((with_reducible refine gate_callee (f := 37) rfl ?_); refine gl (some 14) Try.func37 #[.int .i64 (rd l0 x3_1), .int .i64 1, .int .i64 60] ?_; (with_reducible refine (spec_l1In.calls (rd l0 x3_1) 1 60 false _ A4.out).mono ?_); rintro e w' ⟨rfl, ⟨nd, rfl⟩⟩; refine ⟨_, rfl, ?_⟩))
    go_ret
    exact ⟨rr, dw⟩
   replace H := ga H; obtain ⟨t256, A6, H⟩ := H
   obtain rfl := Option.some.inj H
   go_wp2_with (first | ((with_reducible refine gate_callee (f := 37) rfl ?_); refine gl (some 18) Try.func37 #[.int .i64 (l0.length : Int), .int .i64 1, .int .i64 20] ?_; (with_reducible refine (spec_l1In.calls (l0.length : Int) 1 20 t256 _ A6.out).mono ?_); rintro e w' ⟨rfl, ⟨nd, rfl⟩⟩; refine ⟨_, rfl, ?_⟩))
   go_ret
   exact ⟨rr, dw⟩


/-! ### spec_IsAscending: function 46 -/
def spec_IsAscending.l0 : Nat → List Int → Int → Option (Bool)
 | 0, _, _ => none
 | k + 1, x0, x3 => if x3 < (x0.length : Int) then (if 0 ≤ (wrap64 (x3 - 1)) then (if (wrap64 (x3 - 1)) < (x0.length : Int) then (if 0 ≤ x3 then (if (rd x0 (wrap64 (x3 - 1))) ≥ (rd x0 x3) then (some false) else (spec_IsAscending.l0 k x0 (wrap64 (x3 + 1)))) else (none)) else (none)) else (none)) else (some true)
def spec_IsAscending.f (k : Nat) (l0 : List Int) : Option (Bool) := spec_IsAscending.l0 k l0 1
theorem spec_IsAscending.calls (k : Nat) (A0 : Option Addr) (c0 : Nat) (l0 : List Int) (r : Bool) (w : World) (hr0 : Kd.C (Kd.int .i64) w A0 l0.length l0) (hc0 : l0.length ≤ c0) (h : spec_IsAscending.f k l0 = some r) :
  Calls Try.prog 46 #[.slice A0 l0.length c0] w fun e w' => e = .returned (.bool r) ∧ Drawn0 w w' := by
 have HR0 := am hr0
 have HC0 := am hc0
 clear hr0 hc0
 unfold spec_IsAscending.f at h
 have H := h
 clear h
 have H' := am H
 clear H
 go_enter Try.func46, Try.ntmps46
 go_wp2
 repeat (go_quiet (fail); try go_wp2)
 go_loopg [3] k (fun kq v3 w' => ∃ (x3_1 : Int), v3 = .int .i64 x3_1 ∧ Aside0 (spec_IsAscending.l0 kq l0 x3_1 = some r) ∧ Aside0 (kq ≤ k) ∧ Drawn0 w w')
 case atStart => exact ⟨(1), rr, H', ⟨Nat.le_refl _⟩, dw⟩
 case round =>
  clear H'
  obtain ⟨x3_1, rfl, HA, HK1, ⟨m1, rfl⟩⟩ := hrel
  cases gk with
  | zero => exact absurd HA.out (by simp [spec_IsAscending.l0])
  | succ k1 =>
   have H := HA.out
   clear HA
   simp only [spec_IsAscending.l0] at H
   replace H := gi H; obtain ⟨c2b0, H⟩ | ⟨c2b0, H⟩ := H
   ·obtain ⟨ji3, hji3⟩ : ∃ j_ : Int, (wrap64 (x3_1 - 1)) = j_ := ⟨_, rfl⟩
    replace H : (if 0 ≤ (ji3) then (if (ji3) < (l0.length : Int) then (if 0 ≤ x3_1 then (if (rd l0 (ji3)) ≥ (rd l0 x3_1) then (some false) else (spec_IsAscending.l0 k1 l0 (wrap64 (x3_1 + 1)))) else (none)) else (none)) else (none)) = some r := by first | (rw [hji3] at H; exact H) | (simp only [hji3] at H ⊢; exact H)
    have hji3w : (IntKind.i64.wrap (x3_1 - 1)) = ji3 := (i64_w _).trans hji3
    replace H := gd H; obtain ⟨c4b0, H⟩ := H
    replace H := gd H; obtain ⟨c5b0, H⟩ := H
    replace H := gd H; obtain ⟨c6b0, H⟩ := H
    replace H := gj H; obtain ⟨c7, H⟩ | ⟨c7, H⟩ := H
    ·have c7b0 : decide ((rd l0 x3_1) ≤ (rd l0 (ji3))) = true := decide_eq_true c7
     clear c7
     obtain rfl := Option.some.inj H
     obtain ⟨⟨ad257, e257, hx257_0⟩, p257, q257⟩ := pq (Kd.at_int HR0.out (ji3))
     cases e257
     obtain ⟨⟨ad258, e258, hx258_0⟩, p258, q258⟩ := pq (Kd.at_int HR0.out x3_1)
     obtain rfl : ad257 = ad258 := (by injection e258)
     go_wp2
     repeat (go_quiet (fail); try go_wp2)
     go_ret
     exact ⟨by first | rfl | (simp; done) | (simp only [← hji3] <;> (first | rfl | simp)) | (simp [*]; done), dw⟩
    have c7b0 : decide ((rd l0 x3_1) ≤ (rd l0 (ji3))) = false := decide_eq_false c7
    clear c7
    have H' := am H
    clear H
    obtain ⟨⟨ad257, e257, hx257_0⟩, p257, q257⟩ := pq (Kd.at_int HR0.out (ji3))
    cases e257
    obtain ⟨⟨ad258, e258, hx258_0⟩, p258, q258⟩ := pq (Kd.at_int HR0.out x3_1)
    obtain rfl : ad257 = ad258 := (by injection e258)
    go_wp2
    repeat (go_quiet (fail); try go_wp2)
    go_roundg k1
    case measure => have := HK1.out; omega
    case rel => exact ⟨(wrap64 (x3_1 + 1)), rr, H', ⟨by have := HK1.out; omega⟩, dw⟩
   obtain rfl := Option.some.inj H
   go_wp2
   repeat (go_quiet (fail); try go_wp2)
   go_ret
   exact ⟨rr, dw⟩


/-! ### spec_l2Small: function 83 -/
def spec_l2Small.f (a0 : Int) : Option (Bool) := (spec_l1In.f a0 (-1000000) 1000000).bind fun t259 => (some t259)
theorem spec_l2Small.calls (a0 : Int) (r : Bool) (w : World) (h : spec_l2Small.f a0 = some r) :
  Calls Try.prog 83 #[.int .i64 a0] w fun e w' => e = .returned (.bool r) ∧ Drawn0 w w' := by
 unfold spec_l2Small.f at h
 have H := h
 clear h
 replace H := ga H; obtain ⟨t259, A2, H⟩ := H
 obtain rfl := Option.some.inj H
 go_enter Try.func83, Try.ntmps83
 go_wp2_with (first | ((with_reducible refine gate_callee (f := 37) rfl ?_); refine gl (some 4) Try.func37 #[.int .i64 a0, .int .i64 (-1000000), .int .i64 1000000] ?_; (with_reducible refine (spec_l1In.calls a0 (-1000000) 1000000 t259 _ A2.out).mono ?_); rintro e w' ⟨rfl, ⟨nd, rfl⟩⟩; refine ⟨_, rfl, ?_⟩))
 go_ret
 exact ⟨rr, dw⟩


/-! ### spec_l1Max: function 84 -/
def spec_l1Max.f (a0 : Int) (a1 : Int) : Option (Int) := if a0 > a1 then (some a0) else (some a1)
theorem spec_l1Max.calls (a0 : Int) (a1 : Int) (r : Int) (w : World) (h : spec_l1Max.f a0 a1 = some r) :
  Calls Try.prog 84 #[.int .i64 a0, .int .i64 a1] w fun e w' => e = .returned (.int .i64 r) ∧ Drawn0 w w' := by
 unfold spec_l1Max.f at h
 have H := h
 clear h
 replace H := gj H; obtain ⟨c3, H⟩ | ⟨c3, H⟩ := H
 ·have c3b0 : decide (a1 < a0) = true := decide_eq_true c3
  clear c3
  obtain rfl := Option.some.inj H
  go_enter Try.func84, Try.ntmps84
  go_wp2
  go_ret
  exact ⟨rr, dw⟩
 have c3b0 : decide (a1 < a0) = false := decide_eq_false c3
 clear c3
 obtain rfl := Option.some.inj H
 go_enter Try.func84, Try.ntmps84
 go_wp2
 go_ret
 exact ⟨rr, dw⟩


/-! ### spec_GcdOf: function 76 -/
mutual
def spec_GcdOf.j0 : Nat → Int → Int → Bool → Option (Int)
 | 0, _, _, _ => none
 | k + 1, x0, x1, x13 => if x13 = true then (some 0) else ((spec_l1Max.f x0 (wrap64 (-x0))).bind fun t262 => ((spec_l1Max.f x1 (wrap64 (-x1))).bind fun t263 => (spec_GcdOf.l0 k t262 t263)))
def spec_GcdOf.l0 : Nat → Int → Int → Option (Int)
 | 0, _, _ => none
 | k + 1, x0, x1 => if x1 > 0 then (if x1 = 0 then (none) else (spec_GcdOf.l0 k x1 (Int.tmod x0 x1))) else (some x0)
end
def spec_GcdOf.f (k : Nat) (a0 : Int) (a1 : Int) : Option (Int) := (spec_l2Small.f a0).bind fun t260 => (if t260 = true then ((spec_l2Small.f a1).bind fun t261 => (spec_GcdOf.j0 k a0 a1 (!t261))) else (spec_GcdOf.j0 k a0 a1 true))
theorem spec_GcdOf.calls (k : Nat) (a0 : Int) (a1 : Int) (r : Int) (w : World) (h : spec_GcdOf.f k a0 a1 = some r) :
  Calls Try.prog 76 #[.int .i64 a0, .int .i64 a1] w fun e w' => e = .returned (.int .i64 r) ∧ Drawn0 w w' := by
 unfold spec_GcdOf.f at h
 have H := h
 clear h
 have HC3 := am H
 clear H
 go_enter Try.func76, Try.ntmps76
 go_upto_region 1 with (fail)
 go_cut [13] (fun v13 wc => ∃ (kq : Nat) (x13_2 : Bool), v13 = .bool x13_2 ∧ Aside0 (spec_GcdOf.j0 kq a0 a1 x13_2 = some r) ∧ Aside0 (kq ≤ k) ∧ Drawn0 w wc)
 case first =>
  have H := HC3.out
  clear HC3
  replace H := ga H; obtain ⟨t260, A4, H⟩ := H
  replace H := gb H; obtain ⟨rfl, H⟩ | ⟨rfl, H⟩ := H
  ·replace H := ga H; obtain ⟨t261, A6, H⟩ := H
   have H' := am H
   clear H
   go_wp2_with (first | ((with_reducible refine gate_callee (f := 83) rfl ?_); refine gl (some 7) Try.func83 #[.int .i64 a0] ?_; (with_reducible refine (spec_l2Small.calls a0 true _ A4.out).mono ?_); rintro e w' ⟨rfl, ⟨nd, rfl⟩⟩; refine ⟨_, rfl, ?_⟩) | (go_at_call 83; (with_reducible refine (spec_l2Small.calls a1 t261 _ A6.out).mono ?_); rintro e w' ⟨rfl, ⟨nd, rfl⟩⟩))
   go_meet
   case rel => exact ⟨_, (!t261), rr, H', ⟨om⟩, dw⟩
  have H' := am H
  clear H
  go_wp2_with (first | ((with_reducible refine gate_callee (f := 83) rfl ?_); refine gl (some 7) Try.func83 #[.int .i64 a0] ?_; (with_reducible refine (spec_l2Small.calls a0 false _ A4.out).mono ?_); rintro e w' ⟨rfl, ⟨nd, rfl⟩⟩; refine ⟨_, rfl, ?_⟩))
  go_meet
  case rel => exact ⟨_, (true), rr, H', ⟨om⟩, dw⟩
 case rest =>
  clear HC3
  obtain ⟨kq, x13_2, rfl, HA, HJ2, ⟨mc2, rfl⟩⟩ := hcut
  cases kq with
  | zero => exact absurd HA.out (by simp [spec_GcdOf.j0])
  | succ kj2 =>
   have H := HA.out
   clear HA
   simp only [spec_GcdOf.j0] at H
   replace H := gb H; obtain ⟨rfl, H⟩ | ⟨rfl, H⟩ := H
   ·obtain rfl := Option.some.inj H
    go_wp2
    go_ret
    exact ⟨rr, dw⟩
   replace H := ga H; obtain ⟨t262, A8, H⟩ := H
   replace H := ga H; obtain ⟨t263, A9, H⟩ := H
   have H' := am H
   clear H
   go_wp2_with (first | ((with_reducible refine gate_callee (f := 84) rfl ?_); refine gl (some 17) Try.func84 #[.int .i64 a0, .int .i64 (wrap64 (-a0))] ?_; (with_reducible refine (spec_l1Max.calls a0 (wrap64 (-a0)) t262 _ A8.out).mono ?_); rintro e w' ⟨rfl, ⟨nd, rfl⟩⟩; refine ⟨_, rfl, ?_⟩) | ((with_reducible refine gate_callee (f := 84) rfl ?_); refine gl (some 21) Try.func84 #[.int .i64 a1, .int .i64 (wrap64 (-a1))] ?_; (with_reducible refine (spec_l1Max.calls a1 (wrap64 (-a1)) t263 _ A9.out).mono ?_); rintro e w' ⟨rfl, ⟨nd, rfl⟩⟩; refine ⟨_, rfl, ?_⟩))
   go_loopg [0, 1] kj2 (fun kq v0 v1 w' => ∃ (x0_2 : Int) (x1_2 : Int), v0 = .int .i64 x0_2 ∧ v1 = .int .i64 x1_2 ∧ Aside0 (spec_GcdOf.l0 kq x0_2 x1_2 = some r) ∧ Aside0 (kq ≤ kj2) ∧ Drawn0 w w')
   case atStart => exact ⟨(t262), (t263), rr, rr, H', ⟨Nat.le_refl _⟩, dw⟩
   case round =>
    clear H'
    obtain ⟨x0_2, x1_2, rfl, rfl, HA, HK2, ⟨m2, rfl⟩⟩ := hrel
    cases gk with
    | zero => exact absurd HA.out (by simp [spec_GcdOf.l0])
    | succ k2 =>
     have H := HA.out
     clear HA
     simp only [spec_GcdOf.l0] at H
     replace H := gj H; obtain ⟨c10, H⟩ | ⟨c10, H⟩ := H
     ·have c10b0 : decide (0 < x1_2) = true := decide_eq_true c10
      clear c10
      by_cases c11 : x1_2 = 0
      ·rw [if_pos c11] at H
       exact absurd H (by simp)
      rw [if_neg c11] at H
      have c11b0 : (x1_2 == 0) = false := beq_eq_false_iff_ne.mpr c11
      have c11b1 : (x1_2 != 0) = true := bne_iff_ne.mpr c11
      have H' := am H
      clear H
      go_wp2
      go_roundg k2
      case measure => have := HJ2.out; have := HK2.out; omega
      case rel => exact ⟨(x1_2), (Int.tmod x0_2 x1_2), rr, rr, H', ⟨by have := HJ2.out; have := HK2.out; omega⟩, dw⟩
     have c10b0 : decide (0 < x1_2) = false := decide_eq_false c10
     clear c10
     obtain rfl := Option.some.inj H
     go_wp2
     go_ret
     exact ⟨rr, dw⟩


/-! ### spec_GcdOfList: function 47 -/
def spec_GcdOfList.l0 : Nat → List Int → Int → Int → Option (Int)
 | 0, _, _, _ => none
 | k + 1, x0, x3, x4 => if x4 < (x0.length : Int) then (if 0 ≤ x4 then ((spec_GcdOf.f k x3 (rd x0 x4)).bind fun t265 => (spec_GcdOfList.l0 k x0 t265 (wrap64 (x4 + 1)))) else (none)) else (some x3)
def spec_GcdOfList.f (k : Nat) (l0 : List Int) : Option (Int) := spec_GcdOfList.l0 k l0 0 0
theorem spec_GcdOfList.calls (k : Nat) (A0 : Option Addr) (c0 : Nat) (l0 : List Int) (r : Int) (w : World) (hr0 : Kd.C (Kd.int .i64) w A0 l0.length l0) (hc0 : l0.length ≤ c0) (h : spec_GcdOfList.f k l0 = some r) :
  Calls Try.prog 47 #[.slice A0 l0.length c0] w fun e w' => e = .returned (.int .i64 r) ∧ Drawn0 w w' := by
 have HR0 := am hr0
 have HC0 := am hc0
 clear hr0 hc0
 unfold spec_GcdOfList.f at h
 have H := h
 clear h
 have H' := am H
 clear H
 go_enter Try.func47, Try.ntmps47
 go_wp2
 go_loopg [3, 4] k (fun kq v3 v4 w' => ∃ (x3_1 : Int) (x4_1 : Int), v3 = .int .i64 x3_1 ∧ v4 = .int .i64 x4_1 ∧ Aside0 (spec_GcdOfList.l0 kq l0 x3_1 x4_1 = some r) ∧ Aside0 (kq ≤ k) ∧ Drawn0 w w')
 case atStart => exact ⟨(0), (0), rr, rr, H', ⟨Nat.le_refl _⟩, dw⟩
 case round =>
  clear H'
  obtain ⟨x3_1, x4_1, rfl, rfl, HA, HK1, ⟨m1, rfl⟩⟩ := hrel
  cases gk with
  | zero => exact absurd HA.out (by simp [spec_GcdOfList.l0])
  | succ k1 =>
   have H := HA.out
   clear HA
   simp only [spec_GcdOfList.l0] at H
   replace H := gi H; obtain ⟨c2b0, H⟩ | ⟨c2b0, H⟩ := H
   ·replace H := gd H; obtain ⟨c3b0, H⟩ := H
    replace H := ga H; obtain ⟨t265, A4, H⟩ := H
    have H' := am H
    clear H
    obtain ⟨⟨ad264, e264, hx264_0⟩, p264, q264⟩ := pq (Kd.at_int HR0.out x4_1)
    cases e264
    go_wp2_with (first | ((with_reducible refine gate_callee (f := 76) rfl ?_); refine gl (some 16) Try.func76 #[.int .i64 x3_1, .int .i64 (rd l0 x4_1)] ?_; (with_reducible refine (spec_GcdOf.calls k1 x3_1 (rd l0 x4_1) t265 _ A4.out).mono ?_); rintro e w' ⟨rfl, ⟨nd, rfl⟩⟩; refine ⟨_, rfl, ?_⟩))
    go_roundg k1
    case measure => have := HK1.out; omega
    case rel => exact ⟨(t265), (wrap64 (x4_1 + 1)), rr, rr, H', ⟨by have := HK1.out; omega⟩, dw⟩
   obtain rfl := Option.some.inj H
   go_wp2
   go_ret
   exact ⟨rr, dw⟩


/-! ### spec_SortList: function 24 -/
mutual
def spec_SortList.l0 : Nat → List Int → List Int → Int → Option (List Int)
 | 0, _, _, _ => none
 | k + 1, x0, x3, x4 => if x4 < (x0.length : Int) then (spec_SortList.l1 k x0 x3 x4 (x3.length : Int)) else (some x3)
def spec_SortList.l1 : Nat → List Int → List Int → Int → Int → Option (List Int)
 | 0, _, _, _, _ => none
 | k + 1, x0, x3, x4, x5 => if x5 > 0 then (if 0 ≤ (wrap64 (x5 - 1)) then (if (wrap64 (x5 - 1)) < (x3.length : Int) then (if 0 ≤ x4 then (if x4 < (x0.length : Int) then (if (rd x3 (wrap64 (x5 - 1))) > (rd x0 x4) then (spec_SortList.l1 k x0 x3 x4 (wrap64 (x5 - 1))) else (if (rd x3 (wrap64 (x5 - 1))) = (rd x0 x4) then (spec_SortList.l0 k x0 x3 (wrap64 (x4 + 1))) else ((some (([] : List Int) : List Int)).bind fun y273 => (if 0 ≤ x5 then (if x5 ≤ (x3.length : Int) then ((some (x3.drop (x5 : Int).toNat : List Int)).bind fun y276 => (if y273.length + y276.length < 17592186044416 then ((some (y273 ++ y276 : List Int)).bind fun y280 => ((some (x3.take (x5 : Int).toNat : List Int)).bind fun y283 => (if y283.length < 17592186044416 then ((some (y283 ++ [rd x0 x4] : List Int)).bind fun y287 => (if y287.length + y280.length < 17592186044416 then (spec_SortList.l0 k x0 (y287 ++ y280) (wrap64 (x4 + 1))) else (none))) else (none)))) else (none))) else (none)) else (none))))) else (none)) else (none)) else (none)) else (none)) else ((some (([] : List Int) : List Int)).bind fun y293 => (if 0 ≤ x5 then (if x5 ≤ (x3.length : Int) then ((some (x3.drop (x5 : Int).toNat : List Int)).bind fun y296 => (if y293.length + y296.length < 17592186044416 then ((some (y293 ++ y296 : List Int)).bind fun y300 => ((some (x3.take (x5 : Int).toNat : List Int)).bind fun y303 => (if 0 ≤ x4 then (if x4 < (x0.length : Int) then (if y303.length < 17592186044416 then ((some (y303 ++ [rd x0 x4] : List Int)).bind fun y307 => (if y307.length + y300.length < 17592186044416 then (spec_SortList.l0 k x0 (y307 ++ y300) (wrap64 (x4 + 1))) else (none))) else (none)) else (none)) else (none)))) else (none))) else (none)) else (none)))
end
def spec_SortList.f (k : Nat) (l0 : List Int) : Option (List Int) := spec_SortList.l0 k l0 (([] : List Int)) 0
def spec_SortList.T6 : Bool × List (List Nat × List Nat) := (true, [([], []), ([0], [0]), ([1], [1]), ([2], [2]), ([2], [2]), ([4, 2], [2, 4]), ([3, 5, 2], [2, 3, 5]), ([6, 2], [2, 6]), ([2], [2]), ([2], [2]), ([8, 9, 2], [2, 8, 9]), ([10, 2], [2, 10]), ([7, 11, 2], [2, 7, 11]), ([2, 12], [2, 12])])
def spec_SortList.B6 : List Nat := [0, 1, 3, 7, 7, 23, 63, 127, 7, 7, 775, 1799, 4095, 8191]
theorem spec_SortList.tab6 : rtab .any (opsOf Try.f24 6) = spec_SortList.T6 := by kernel_rfl
theorem spec_SortList.bits6 : waitsOk spec_SortList.T6.2 spec_SortList.B6 = true := by kernel_rfl
def spec_SortList.T8 : Bool × List (List Nat × List Nat) := (true, [([], []), ([0], [0]), ([1], [1]), ([2], [2]), ([2], [2]), ([4, 2], [2, 4]), ([3, 5, 2], [2, 3, 5]), ([6, 2], [2, 6]), ([2], [2]), ([2], [2]), ([8, 9, 2], [2, 8, 9]), ([10, 2], [2, 10]), ([7, 11, 2], [2, 7, 11]), ([2, 12], [2, 12])])
def spec_SortList.B8 : List Nat := [0, 1, 3, 7, 7, 23, 63, 127, 7, 7, 775, 1799, 4095, 8191]
theorem spec_SortList.tab8 : rtab .any (opsOf Try.f24 8) = spec_SortList.T8 := by kernel_rfl
theorem spec_SortList.bits8 : waitsOk spec_SortList.T8.2 spec_SortList.B8 = true := by kernel_rfl
def spec_SortList.T10 : Bool × List (List Nat × List Nat) := (true, [([], []), ([], []), ([0, 1], [0, 1]), ([], []), ([], []), ([3, 4], [3, 4]), ([5], [5]), ([6], [6]), ([2, 7], [2, 7]), ([], []), ([8, 9, 8], [8, 9]), ([10, 10, 0, 1, 2, 3, 4, 5, 6, 7, 8, 9, 10], [0, 10])])
def spec_SortList.B10 : List Nat := [0, 0, 3, 0, 0, 24, 56, 120, 255, 0, 1023, 2047]
theorem spec_SortList.tab10 : rtab .any (opsOf Try.f24 10) = spec_SortList.T10 := by kernel_rfl
theorem spec_SortList.bits10 : waitsOk spec_SortList.T10.2 spec_SortList.B10 = true := by kernel_rfl
theorem spec_SortList.calls (k : Nat) (A0 : Option Addr) (c0 : Nat) (l0 : List Int) (r : List Int) (w : World) (hr0 : Kd.C (Kd.int .i64) w A0 l0.length l0) (hc0 : l0.length ≤ c0) (h : spec_SortList.f k l0 = some r) :
  Calls Try.prog 24 #[.slice A0 l0.length c0] w fun e w' => ∃ v0_ : Value, e = .returned (v0_) ∧ Kd.R (Kd.int .i64) 3 w' w.heap.size (fun _ => True) v0_ r ∧ Below w.heap.size w w' := by
 have HR0 := am hr0
 have HC0 := am hc0
 clear hr0 hc0
 have HB := am (Below.refl w.heap.size w)
 unfold spec_SortList.f at h
 have H := h
 clear h
 obtain ⟨y266, hy266⟩ : ∃ y_ : List Int, y_ = (([] : List Int)) := ⟨_, rfl⟩
 replace H : (spec_SortList.l0 k l0 y266 0) = some r := by first | (rw [hy266]; with_reducible first | exact H | exact bs H) | (with_reducible first | exact bs H | exact H) | (rw [hy266]; exact H) | exact H
 have Ny266 := am hy266
 clear hy266
 have H' := am H
 clear H
 go_enter Try.func24, Try.ntmps24
 go_wp2_with (first | ((with_reducible refine gate_dst (N := 7) rfl ?_); refine Kd.R_lit (Kd.int .i64) _ 3 ?hg (N := 7) ?hd (xs := ([] : List Int)) (inner := []) (ok := fun _ => True) (okp := fun _ => True) ?hr ?hp (fun _ hk => hk) trivial (Below.refl _ _) (Nat.le_refl _) (by simp) ?_; (case hd => rfl); (case hg => rfl); (case hr => first | (go_simp; done) | (go_simp; rfl)); (case hp => exact (Reps.none _ _)); intro v267 w2 ho3 hb hg_ hnew_; clear hg_ hnew_; (first | rw [← Ny266.out] at ho3 | (simp only [Int.reduceToNat] at ho3; rw [← Ny266.out] at ho3)); have HO268 := am (Kd.R_lower ho3 (below_size bw)); replace HB := am (below_step bw hb); clear hb ho3))
 go_loopg [3, 4] k (fun kq v3 v4 w' => ∃ (x3_1 : List Int) (x4_1 : Int), v4 = .int .i64 x4_1 ∧ Aside0 (spec_SortList.l0 kq l0 x3_1 x4_1 = some r) ∧ Aside0 (kq ≤ k) ∧ Aside0 (Kd.R (Kd.int .i64) 3 w' w.heap.size (fun _ => True) v3 x3_1) ∧ Aside0 (Below w.heap.size w w'))
 case atStart => exact ⟨(y266), (0), rr, H', ⟨Nat.le_refl _⟩, ⟨ro HO268.out⟩, ⟨bw⟩⟩
 case round =>
  clear H'
  obtain ⟨x3_1, x4_1, rfl, HA, HK1, HO_3, HB⟩ := hrel
  cases gk with
  | zero => exact absurd HA.out (by simp [spec_SortList.l0])
  | succ k1 =>
   have H := HA.out
   clear HA
   simp only [spec_SortList.l0] at H
   replace H := gi H; obtain ⟨c4b0, H⟩ | ⟨c4b0, H⟩ := H
   ·have H' := am H
    clear H
    obtain ⟨Ao5, co5, eo5⟩ := Kd.R_slice HO_3.out
    subst eo5
    go_wp2
    go_loopg [5] k1 (fun kq v5 w' => ∃ (x5_2 : Int), v5 = .int .i64 x5_2 ∧ Aside0 (spec_SortList.l1 kq l0 x3_1 x4_1 x5_2 = some r) ∧ Aside0 (kq ≤ k1) ∧ Aside0 (Kd.R (Kd.int .i64) 3 w' w.heap.size (fun _ => True) (.slice Ao5 x3_1.length co5) x3_1) ∧ Aside0 (Below w.heap.size w w'))
    case atStart => exact ⟨((x3_1.length : Int)), rr, H', ⟨Nat.le_refl _⟩, ⟨ro HO_3.out⟩, ⟨bw⟩⟩
    case round =>
     clear H'
     try clear c4b0
     obtain ⟨x5_2, rfl, HA, HK2, HO_3, HB⟩ := hrel
     cases gk with
     | zero => exact absurd HA.out (by simp [spec_SortList.l1])
     | succ k2 =>
      have H := HA.out
      clear HA
      simp only [spec_SortList.l1] at H
      replace H := gj H; obtain ⟨c6, H⟩ | ⟨c6, H⟩ := H
      ·have c6b0 : decide (0 < x5_2) = true := decide_eq_true c6
       clear c6
       obtain ⟨ji7, hji7⟩ : ∃ j_ : Int, (wrap64 (x5_2 - 1)) = j_ := ⟨_, rfl⟩
       replace H : (if 0 ≤ (ji7) then (if (ji7) < (x3_1.length : Int) then (if 0 ≤ x4_1 then (if x4_1 < (l0.length : Int) then (if (rd x3_1 (ji7)) > (rd l0 x4_1) then (spec_SortList.l1 k2 l0 x3_1 x4_1 ji7) else (if (rd x3_1 (ji7)) = (rd l0 x4_1) then (spec_SortList.l0 k2 l0 x3_1 (wrap64 (x4_1 + 1))) else ((some (([] : List Int) : List Int)).bind fun y273 => (if 0 ≤ x5_2 then (if x5_2 ≤ (x3_1.length : Int) then ((some (x3_1.drop (x5_2 : Int).toNat : List Int)).bind fun y276 => (if y273.length + y276.length < 17592186044416 then ((some (y273 ++ y276 : List Int)).bind fun y280 => ((some (x3_1.take (x5_2 : Int).toNat : List Int)).bind fun y283 => (if y283.length < 17592186044416 then ((some (y283 ++ [rd l0 x4_1] : List Int)).bind fun y287 => (if y287.length + y280.length < 17592186044416 then (spec_SortList.l0 k2 l0 (y287 ++ y280) (wrap64 (x4_1 + 1))) else (none))) else (none)))) else (none))) else (none)) else (none))))) else (none)) else (none)) else (none)) else (none)) = some r := by first | (rw [hji7] at H; exact H) | (simp only [hji7] at H ⊢; exact H)
       have hji7w : (IntKind.i64.wrap (x5_2 - 1)) = ji7 := (i64_w _).trans hji7
       replace H := gd H; obtain ⟨c8b0, H⟩ := H
       replace H := gd H; obtain ⟨c9b0, H⟩ := H
       replace H := gd H; obtain ⟨c10b0, H⟩ := H
       replace H := gd H; obtain ⟨c11b0, H⟩ := H
       replace H := gj H; obtain ⟨c12, H⟩ | ⟨c12, H⟩ := H
       ·have c12b0 : decide ((rd l0 x4_1) < (rd x3_1 (ji7))) = true := decide_eq_true c12
        clear c12
        have H' := am H
        clear H
        try go_wp2
        replace HO_3 := am (Kd.R_drew HO_3.out)
        replace HB := am (below_drew1 HB.out)
        obtain ⟨⟨ad269, e269, hx269_0⟩, p269, q269⟩ := pq (Kd.at_int (Kd.R_reads' HO_3.out).2.2 (ji7))
        cases e269
        obtain ⟨⟨ad270, e270, hx270_0⟩, p270, q270⟩ := pq (Kd.at_int HR0.out x4_1)
        have hw270_0 := hx270_0
        cases e270
        replace hx270_0 := hw HB hx270_0
        refine start_ (n := 14) (S := fun w' => w'.cell? (ad269.add ((ji7)).toNat) = some (.int .i64 (rd x3_1 (ji7))) ∧ w'.cell? (ad270.add (x4_1).toNat) = some (.int .i64 (rd l0 x4_1))) (ds := []) (yz 14 0) (by kernel_rfl) rfl rfl ⟨hx269_0, ((HB.out.cell (World.block_lt_of_cell? w _ hw270_0)).trans hw270_0)⟩ (fun hHeld => ?_); refine with_tabW spec_SortList.tab6 spec_SortList.bits6 (fun HT_ HW_ => ?_)
        generalize wr.drew = w13 at HO_3 HB hx269_0 hx270_0 hHeld ⊢
        refine pa 0 (some 16) (yz 14 1) HT_ ?_
        refine pa 1 (some 17) (yz 14 3) HT_ ?_
        refine pa 2 (some 18) (yz 14 7) HT_ ?_
        refine pa 3 (some 19) (yz 14 15) HT_ ?_
        refine pa 4 (some 20) (yz 14 31) HT_ ?_
        refine pa 5 (some 21) (yz 14 63) HT_ ?_
        refine pa 6 (some 22) (yz 14 127) HT_ ?_
        refine pa 8 (some 24) (yz 14 383) HT_ ?_
        refine pa 9 (some 25) (yz 14 895) HT_ ?_
        refine pa 10 (some 26) (yz 14 1919) HT_ ?_
        refine tk 7 (some 23) (yz 14 2047) HT_ HW_ hHeld ?_
        refine tk 11 (some 27) (yz 14 4095) HT_ HW_ hHeld ?_
        refine pa 12 (some 28) (yz 14 8191) HT_ ?_
        refine pa 13 (some 29) (yz 14 16383) HT_ ?_
        refine done_ (done_of HT_.out (by kernel_rfl)) ?_
        try go_wp2
        go_roundg k2
        case measure => have := HK1.out; have := HK2.out; omega
        case rel => exact ⟨(ji7), (by first | rfl | (simp; done) | (simp only [← hji7] <;> (first | rfl | simp)) | (simp [*]; done)), H', ⟨by have := HK1.out; have := HK2.out; omega⟩, ⟨ro HO_3.out⟩, ⟨bw⟩⟩
       have c12b0 : decide ((rd l0 x4_1) < (rd x3_1 (ji7))) = false := decide_eq_false c12
       clear c12
       by_cases c14 : (rd x3_1 (ji7)) = (rd l0 x4_1)
       ·rw [if_pos c14] at H
        have c14b0 : ((rd x3_1 (ji7)) == (rd l0 x4_1)) = true := beq_iff_eq.mpr c14
        have c14b1 : ((rd x3_1 (ji7)) != (rd l0 x4_1)) = false := bne_eq_false_iff_eq.mpr c14
        clear c14
        have H' := am H
        clear H
        try go_wp2
        replace HO_3 := am (Kd.R_drew HO_3.out)
        replace HB := am (below_drew1 HB.out)
        obtain ⟨⟨ad269, e269, hx269_0⟩, p269, q269⟩ := pq (Kd.at_int (Kd.R_reads' HO_3.out).2.2 (ji7))
        cases e269
        obtain ⟨⟨ad270, e270, hx270_0⟩, p270, q270⟩ := pq (Kd.at_int HR0.out x4_1)
        have hw270_0 := hx270_0
        cases e270
        replace hx270_0 := hw HB hx270_0
        refine start_ (n := 14) (S := fun w' => w'.cell? (ad269.add ((ji7)).toNat) = some (.int .i64 (rd x3_1 (ji7))) ∧ w'.cell? (ad270.add (x4_1).toNat) = some (.int .i64 (rd l0 x4_1))) (ds := []) (yz 14 0) (by kernel_rfl) rfl rfl ⟨hx269_0, ((HB.out.cell (World.block_lt_of_cell? w _ hw270_0)).trans hw270_0)⟩ (fun hHeld => ?_); refine with_tabW spec_SortList.tab6 spec_SortList.bits6 (fun HT_ HW_ => ?_)
        generalize wr.drew = w15 at HO_3 HB hx269_0 hx270_0 hHeld ⊢
        refine pa 0 (some 16) (yz 14 1) HT_ ?_
        refine pa 1 (some 17) (yz 14 3) HT_ ?_
        refine pa 2 (some 18) (yz 14 7) HT_ ?_
        refine pa 3 (some 19) (yz 14 15) HT_ ?_
        refine pa 4 (some 20) (yz 14 31) HT_ ?_
        refine pa 5 (some 21) (yz 14 63) HT_ ?_
        refine pa 6 (some 22) (yz 14 127) HT_ ?_
        refine pa 8 (some 24) (yz 14 383) HT_ ?_
        refine pa 9 (some 25) (yz 14 895) HT_ ?_
        refine pa 10 (some 26) (yz 14 1919) HT_ ?_
        refine tk 7 (some 23) (yz 14 2047) HT_ HW_ hHeld ?_
        refine tk 11 (some 27) (yz 14 4095) HT_ HW_ hHeld ?_
        refine pa 12 (some 28) (yz 14 8191) HT_ ?_
        refine pa 13 (some 29) (yz 14 16383) HT_ ?_
        refine done_ (done_of HT_.out (by kernel_rfl)) ?_
        try go_wp2
        replace HO_3 := am (Kd.R_drew HO_3.out)
        replace HB := am (below_drew1 HB.out)
        obtain ⟨⟨ad271, e271, hx271_0⟩, p271, q271⟩ := pq (Kd.at_int (Kd.R_reads' HO_3.out).2.2 (ji7))
        obtain rfl : ad269 = ad271 := (by injection e271)
        obtain ⟨⟨ad272, e272, hx272_0⟩, p272, q272⟩ := pq (Kd.at_int HR0.out x4_1)
        have hw272_0 := hx272_0
        obtain rfl : ad270 = ad272 := (by injection e272)
        replace hx272_0 := hw HB hx272_0
        refine start_ (n := 14) (S := fun w' => w'.cell? (ad269.add ((ji7)).toNat) = some (.int .i64 (rd x3_1 (ji7))) ∧ w'.cell? (ad270.add (x4_1).toNat) = some (.int .i64 (rd l0 x4_1))) (ds := []) (yz 14 0) (by kernel_rfl) rfl rfl ⟨hx271_0, ((HB.out.cell (World.block_lt_of_cell? w _ hw272_0)).trans hw272_0)⟩ (fun hHeld => ?_); refine with_tabW spec_SortList.tab8 spec_SortList.bits8 (fun HT_ HW_ => ?_)
        generalize w15.drew = w16 at HO_3 HB hx271_0 hx272_0 hHeld ⊢
        refine pa 0 (some 32) (yz 14 1) HT_ ?_
        refine pa 1 (some 33) (yz 14 3) HT_ ?_
        refine pa 2 (some 34) (yz 14 7) HT_ ?_
        refine pa 3 (some 35) (yz 14 15) HT_ ?_
        refine pa 4 (some 36) (yz 14 31) HT_ ?_
        refine pa 5 (some 37) (yz 14 63) HT_ ?_
        refine pa 6 (some 38) (yz 14 127) HT_ ?_
        refine pa 8 (some 40) (yz 14 383) HT_ ?_
        refine pa 9 (some 41) (yz 14 895) HT_ ?_
        refine pa 10 (some 42) (yz 14 1919) HT_ ?_
        refine tk 7 (some 39) (yz 14 2047) HT_ HW_ hHeld ?_
        refine tk 11 (some 43) (yz 14 4095) HT_ HW_ hHeld ?_
        refine pa 12 (some 44) (yz 14 8191) HT_ ?_
        refine pa 13 (some 45) (yz 14 16383) HT_ ?_
        refine done_ (done_of HT_.out (by kernel_rfl)) ?_
        try go_wp2
        go_roundg k2
        case measure => have := HK1.out; have := HK2.out; omega
        case rel => exact ⟨(x3_1), (wrap64 (x4_1 + 1)), rr, H', ⟨by have := HK1.out; have := HK2.out; omega⟩, ⟨ro HO_3.out⟩, ⟨bw⟩⟩
       rw [if_neg c14] at H
       have c14b0 : ((rd x3_1 (ji7)) == (rd l0 x4_1)) = false := beq_eq_false_iff_ne.mpr c14
       have c14b1 : ((rd x3_1 (ji7)) != (rd l0 x4_1)) = true := bne_iff_ne.mpr c14
       obtain ⟨y273, hy273, H⟩ := gy H
       have Ny273 := am hy273
       clear hy273
       replace H := gp H; obtain ⟨c17, H⟩ := H
       have c17b0 := eq_true c17
       have c17b1 : decide (0 ≤ x5_2) = true := decide_eq_true c17
       clear c17
       replace H := gp H; obtain ⟨c18, H⟩ := H
       have c18b0 := eq_true c18
       have c18b1 : decide (x5_2 ≤ (x3_1.length : Int)) = true := decide_eq_true c18
       clear c18
       obtain ⟨y276, hy276, H⟩ := gy H
       have Ny276 := am hy276
       clear hy276
       by_cases c19 : y273.length + y276.length < 17592186044416
       rotate_left
       ·rw [if_neg c19] at H
        exact absurd H (by simp)
       rw [if_pos c19] at H
       have LMc19 := am c19
       clear c19
       obtain ⟨y280, hy280, H⟩ := gy H
       have Ny280 := am hy280
       clear hy280
       have c20b0 := eq_true (od : x5_2 ≤ (x3_1.length : Int))
       obtain ⟨y283, hy283, H⟩ := gy H
       have Ny283 := am hy283
       clear hy283
       by_cases c21 : y283.length < 17592186044416
       rotate_left
       ·rw [if_neg c21] at H
        exact absurd H (by simp)
       rw [if_pos c21] at H
       have LMc21 := am c21
       clear c21
       obtain ⟨y287, hy287, H⟩ := gy H
       have Ny287 := am hy287
       clear hy287
       by_cases c22 : y287.length + y280.length < 17592186044416
       rotate_left
       ·rw [if_neg c22] at H
        exact absurd H (by simp)
       rw [if_pos c22] at H
       have LMc22 := am c22
       clear c22
       obtain ⟨y290, hy290⟩ : ∃ y_ : List Int, y_ = (y287 ++ y280) := ⟨_, rfl⟩
       replace H : (spec_SortList.l0 k2 l0 y290 (wrap64 (x4_1 + 1))) = some r := by first | (rw [hy290]; with_reducible first | exact H | exact bs H) | (with_reducible first | exact bs H | exact H) | (rw [hy290]; exact H) | exact H
       have Ny290 := am hy290
       clear hy290
       have H' := am H
       clear H
       try go_wp2
       replace HO_3 := am (Kd.R_drew HO_3.out)
       replace HB := am (below_drew1 HB.out)
       obtain ⟨⟨ad269, e269, hx269_0⟩, p269, q269⟩ := pq (Kd.at_int (Kd.R_reads' HO_3.out).2.2 (ji7))
       cases e269
       obtain ⟨⟨ad270, e270, hx270_0⟩, p270, q270⟩ := pq (Kd.at_int HR0.out x4_1)
       have hw270_0 := hx270_0
       cases e270
       replace hx270_0 := hw HB hx270_0
       refine start_ (n := 14) (S := fun w' => w'.cell? (ad269.add ((ji7)).toNat) = some (.int .i64 (rd x3_1 (ji7))) ∧ w'.cell? (ad270.add (x4_1).toNat) = some (.int .i64 (rd l0 x4_1))) (ds := []) (yz 14 0) (by kernel_rfl) rfl rfl ⟨hx269_0, ((HB.out.cell (World.block_lt_of_cell? w _ hw270_0)).trans hw270_0)⟩ (fun hHeld => ?_); refine with_tabW spec_SortList.tab6 spec_SortList.bits6 (fun HT_ HW_ => ?_)
       generalize wr.drew = w23 at HO_3 HB hx269_0 hx270_0 hHeld ⊢
       refine pa 0 (some 16) (yz 14 1) HT_ ?_
       refine pa 1 (some 17) (yz 14 3) HT_ ?_
       refine pa 2 (some 18) (yz 14 7) HT_ ?_
       refine pa 3 (some 19) (yz 14 15) HT_ ?_
       refine pa 4 (some 20) (yz 14 31) HT_ ?_
       refine pa 5 (some 21) (yz 14 63) HT_ ?_
       refine pa 6 (some 22) (yz 14 127) HT_ ?_
       refine pa 8 (some 24) (yz 14 383) HT_ ?_
       refine pa 9 (some 25) (yz 14 895) HT_ ?_
       refine pa 10 (some 26) (yz 14 1919) HT_ ?_
       refine tk 7 (some 23) (yz 14 2047) HT_ HW_ hHeld ?_
       refine tk 11 (some 27) (yz 14 4095) HT_ HW_ hHeld ?_
       refine pa 12 (some 28) (yz 14 8191) HT_ ?_
       refine pa 13 (some 29) (yz 14 16383) HT_ ?_
       refine done_ (done_of HT_.out (by kernel_rfl)) ?_
       try go_wp2
       replace HO_3 := am (Kd.R_drew HO_3.out)
       replace HB := am (below_drew1 HB.out)
       obtain ⟨⟨ad271, e271, hx271_0⟩, p271, q271⟩ := pq (Kd.at_int (Kd.R_reads' HO_3.out).2.2 (ji7))
       obtain rfl : ad269 = ad271 := (by injection e271)
       obtain ⟨⟨ad272, e272, hx272_0⟩, p272, q272⟩ := pq (Kd.at_int HR0.out x4_1)
       have hw272_0 := hx272_0
       obtain rfl : ad270 = ad272 := (by injection e272)
       replace hx272_0 := hw HB hx272_0
       refine start_ (n := 14) (S := fun w' => w'.cell? (ad269.add ((ji7)).toNat) = some (.int .i64 (rd x3_1 (ji7))) ∧ w'.cell? (ad270.add (x4_1).toNat) = some (.int .i64 (rd l0 x4_1))) (ds := []) (yz 14 0) (by kernel_rfl) rfl rfl ⟨hx271_0, ((HB.out.cell (World.block_lt_of_cell? w _ hw272_0)).trans hw272_0)⟩ (fun hHeld => ?_); refine with_tabW spec_SortList.tab8 spec_SortList.bits8 (fun HT_ HW_ => ?_)
       generalize w23.drew = w24 at HO_3 HB hx271_0 hx272_0 hHeld ⊢
       refine pa 0 (some 32) (yz 14 1) HT_ ?_
       refine pa 1 (some 33) (yz 14 3) HT_ ?_
       refine pa 2 (some 34) (yz 14 7) HT_ ?_
       refine pa 3 (some 35) (yz 14 15) HT_ ?_
       refine pa 4 (some 36) (yz 14 31) HT_ ?_
       refine pa 5 (some 37) (yz 14 63) HT_ ?_
       refine pa 6 (some 38) (yz 14 127) HT_ ?_
       refine pa 8 (some 40) (yz 14 383) HT_ ?_
       refine pa 9 (some 41) (yz 14 895) HT_ ?_
       refine pa 10 (some 42) (yz 14 1919) HT_ ?_
       refine tk 7 (some 39) (yz 14 2047) HT_ HW_ hHeld ?_
       refine tk 11 (some 43) (yz 14 4095) HT_ HW_ hHeld ?_
       refine pa 12 (some 44) (yz 14 8191) HT_ ?_
       refine pa 13 (some 45) (yz 14 16383) HT_ ?_
       refine done_ (done_of HT_.out (by kernel_rfl)) ?_
       try go_wp2_with (first | ((with_reducible refine gate_dst (N := 46) rfl ?_); refine Kd.R_lit (Kd.int .i64) _ 3 ?hg (N := 46) ?hd (xs := ([] : List Int)) (inner := []) (ok := fun _ => True) (okp := fun _ => True) ?hr ?hp (fun _ hk => hk) trivial (Below.refl _ _) (Nat.le_refl _) (by simp) ?_; (case hd => rfl); (case hg => rfl); (case hr => first | (go_simp; done) | (go_simp; rfl)); (case hp => exact (Reps.none _ _)); intro v274 w25 ho26 hb hg_ hnew_; clear hg_ hnew_; (first | rw [← Ny273.out] at ho26 | (simp only [Int.reduceToNat] at ho26; rw [← Ny273.out] at ho26)); have HO275 := am (Kd.R_lower (Kd.R_new' ho26 (Kd.R_lt (ro HO_3.out))) (below_size bw)); replace HO_3 := am (Kd.R_elder' (ro HO_3.out) (Kd.R_base ho26) hb); replace HB := am (below_step bw hb); clear hb ho26; have q27 : (x5_2 : Int) ≤ ((x3_1.length : Int) : Int) := od; obtain ⟨i027, hi027, _, hsz27, _⟩ := info_parts info3; have hroom27 : x3_1.length ≤ co5 := (Kd.R_reads' HO_3.out).2.1; have hC27 : Kd.C (Kd.int .i64) _ (some ad269) x3_1.length x3_1 := (Kd.R_reads' HO_3.out).2.2; have q027 : (0 : Int) ≤ (x5_2 : Int) := od; have hcut27 := cut_from (P := Try.prog) 22 3 .i64 Try.underlying22 hi027 1 hsz27 (some ad269) x3_1.length co5 x5_2 q027 q27; have hr27 := Kd.C_drop (m := (x5_2 : Int).toNat) (c := co5) hC27 (by omega) hroom27; obtain ⟨A27, hA27⟩ : ∃ A1, A1 = (if co5 = (x5_2 : Int).toNat then (some ad269) else ((some ad269) : Option Addr).map (·.add ((x5_2 : Int).toNat * 1))) := ⟨_, rfl⟩; obtain ⟨c27, hc27⟩ : ∃ c1, c1 = co5 - (x5_2 : Int).toNat := ⟨_, rfl⟩; have hy27 : y276.length = x3_1.length - (x5_2 : Int).toNat := (by rw [Ny276.out, List.length_drop] <;> omega); rw [show (x3_1).drop (x5_2 : Int).toNat = y276 from Ny276.out.symm] at hr27; replace hr27 : Kd.C (Kd.int .i64) _ A27 y276.length y276 := (by rw [hA27]; exact hr27); rw [← hy27, ← hA27, ← hc27] at hcut27; have HR279 := am hr27; have HC279 := am (show y276.length ≤ c27 from by rw [hy27, hc27]; exact Nat.sub_le_sub_right hroom27 _); clear hr27 hC27 hroom27 hi027 hsz27 hc27; have KY27 := am hy27; have KA27 := am hA27; clear hy27 hA27; have KL27 := am (show (x5_2 : Int).toNat ≤ x3_1.length from by omega); replace q27 := eq_true q27) | ((with_reducible refine gate_builtin (b := .append) (xs := #[.tmp 46, .tmp 49]) rfl ?_); at_builtin; refine Kd.R_append_rows (Kd.int .i64) (w0 := w) w.heap.size rfl (.tmp 46) (.tmp 49) 22 3 (.int .i64 0) 8 rfl Try.underlying22 info3 rfl (by decide) (by omega) v274 y273 y276 _ _ _ (fun k_ => some k_ ≠ (.slice (some ad269) x3_1.length co5 : Value).ownBlock) (fun _ => False) rfl rfl ?aO ?aR (fun _ _ h => h) (fun _ h => h.elim) ?aF ?aB ?aS ?aL ?_; (case aR => exact co HR279.out); (case aB => exact bw); (case aF => exact (fun k_ hk => Kd.fresh' (Kd.R_lt (ro HO_3.out)) k_ hk)); (case aO => exact (rM HO275.out (fun _ hk => hk.2))); (case aS => exact (below_size bw)); (case aL => have := LMc19.out; omega); intro v281 w28 ho hb hg hat; rw [← Ny280.out] at ho; replace HB := am (hb); replace HR279 := am ((show Kd.C (Kd.int .i64) w28 A27 y276.length y276 from by rw [Ny276.out, KA27.out]; exact Kd.C_drop (m := (x5_2 : Int).toNat) (c := co5) ((Kd.R_reads' (Kd.R_after (ok := (fun _ => True)) (ro HO_3.out) hg hat)).2.2) KL27.out ((Kd.R_reads' (Kd.R_after (ok := (fun _ => True)) (ro HO_3.out) hg hat)).2.1))); replace HO_3 := am (Kd.R_after (ok := (fun _ => True)) (ro HO_3.out) hg hat); have HO282 := am (ho); clear HO275 ho hb hg hat))
       replace HO_3 := am (Kd.R_drew HO_3.out)
       replace HO282 := am (Kd.R_drew HO282.out)
       replace HR279 := am (Kd.C_drew HR279.out)
       replace HB := am (below_drew1 HB.out)
       have q30 : (x5_2 : Int) ≤ ((x3_1.length : Int) : Int) := od
       obtain ⟨i030, hi030, _, hsz30, _⟩ := info_parts info3
       have hcut30 := cut_to (P := Try.prog) 22 3 .i64 Try.underlying22 hi030 (some ad269) x3_1.length co5 x5_2 (od) q30 (Kd.R_reads' HO_3.out).2.1
       have hr30 := Kd.R_take (m := (x5_2 : Int).toNat) HO_3.out (by omega)
       have hy30 : y283.length = (x5_2 : Int).toNat := (by rw [Ny283.out, List.length_take]; omega)
       rw [← Ny283.out] at hr30
       rw [← hy30] at hr30 hcut30
       clear hy30 hi030 hsz30 HO_3
       have HO285 := am hr30
       clear hr30
       replace q30 := eq_true q30
       obtain ⟨⟨ad286, e286, hx286_0⟩, p286, q286⟩ := pq (Kd.at_int HR0.out x4_1)
       have hw286_0 := hx286_0
       obtain rfl : ad270 = ad286 := (by injection e286)
       replace hx286_0 := hw HB hx286_0
       refine start_ (n := 12) (S := fun w' => w'.cell? (ad270.add (x4_1).toNat) = some (.int .i64 (rd l0 x4_1))) (ds := []) (yz 12 0) (by kernel_rfl) rfl rfl (((HB.out.cell (World.block_lt_of_cell? w _ hw286_0)).trans hw286_0)) (fun hHeld => ?_); refine with_tabW spec_SortList.tab10 spec_SortList.bits10 (fun HT_ HW_ => ?_)
       generalize w28.drew = w29 at HO_3 HO282 HR279 HB HO285 hx286_0 hHeld ⊢
       refine pa 0 (some 51) (yz 12 1) HT_ ?_
       refine pa 1 (some 52) (yz 12 3) HT_ ?_
       refine pa 2 (some 53) (yz 12 7) HT_ ?_
       refine pa 3 (some 54) (yz 12 15) HT_ ?_
       refine pa 4 (some 55) (yz 12 31) HT_ ?_
       refine pa 5 (some 56) (yz 12 63) HT_ ?_
       refine pa 9 (some 60) (yz 12 575) HT_ ?_
       refine tK 6 (some 57) (yz 12 639) HT_ HW_ hHeld ?_
       refine oa 7 (some 58) (yz 12 767) HT_ (fun K hK => ?_)
       refine value_ (w1 := ?_) (v := ?_) (by rfl) rfl ?_ ?_
       rotate_left 2
       ·go_simp
        constructor
        ·rfl
        rfl
       refine hK.out _ _ ((World.cell?_alloc_lt _ _ _ (World.block_lt_of_cell? _ _ (((HB.out.cell (World.block_lt_of_cell? w _ hw286_0)).trans hw286_0)))).trans (((HB.out.cell (World.block_lt_of_cell? w _ hw286_0)).trans hw286_0))) (fun hHeld => ?_)
       clear hK K
       refine nm (some 58) ?_
       refine oa 8 (some 59) (yz 12 1023) HT_ (fun K hK => ?_)
       refine Kd.R_append_step (Kd.int .i64) (w0 := w) w.heap.size (by rfl) (.tmp 53) (.tmp 58) 22 3 (.int .i64 0) 8 rfl Try.underlying22 info3 rfl (by decide) (by omega) (.slice (some ad269) y283.length co5) y283 (rd l0 x4_1) [.int .i64 (rd l0 x4_1)] (fun k_ => some k_ ≠ (v281 : Value).ownBlock) (fun _ => False) rfl rfl ?aP (fun _ hk => hk.elim) ?aF ?aO ?aB ?aS ?aL ?_
       (case aP => exact rfl)
       (case aB => exact bw)
       (case aF => exact (fun k_ hk => Kd.fresh' (Kd.R_lt (ro HO282.out)) k_ hk))
       (case aO => exact (rM HO285.out (fun _ hk => hk.2)))
       (case aS => exact (below_size bw))
       (case aL => have := LMc21.out; omega)
       intro v288 w31 ho hb hg hat
       rw [← Ny287.out] at ho
       replace HO282 := am (Kd.R_after (ok := (fun _ => True)) (rM HO282.out (fun _ hk => ⟨trivial, by first | exact hk | exact (by intro a n m c x h; cases a <;> exact h : ∀ (a : Option Addr) (n m c x : Nat), some x ≠ (Value.slice a n c).ownBlock → some x ≠ (Value.slice a m c).ownBlock) _ _ _ _ _ hk⟩)) hg hat)
       replace HB := am (hb)
       have HO289 := am (ho)
       clear HO285 ho hb hg hat
       obtain ⟨Ao33, co33, eo33⟩ := Kd.R_slice HO282.out
       (first | subst eo33 | (injection eo33 with f1_ f2_ f3_; have f4_ := f1_.symm; have f5_ := f3_.symm; clear f1_ f2_ f3_; subst f4_; subst f5_))
       refine hK.out _ _ (((HB.out.cell (World.block_lt_of_cell? w _ hw286_0)).trans hw286_0)) (fun hHeld => ?_)
       clear hK K
       refine nm (some 59) ?_
       refine oa 10 (some 61) (yz 12 2047) HT_ (fun K hK => ?_)
       refine Kd.R_append_rows_step (Kd.int .i64) (w0 := w) w.heap.size (by rfl) (.tmp 59) (.tmp 60) 22 3 (.int .i64 0) 8 rfl Try.underlying22 info3 rfl (by decide) (by omega) v288 y287 y280 _ _ _ (fun k_ => nb k_ Ao33 y280 co33) (fun _ => False) rfl rfl ?aO ?aR (fun _ _ h => h) (fun _ h => h.elim) ?aF ?aB ?aS ?aL ?_
       (case aR => exact co (Kd.R_reads' HO282.out).2.2)
       (case aB => exact bw)
       (case aF => exact (fun k_ hk => Kd.fresh' (Kd.R_lt (ro HO282.out)) k_ hk))
       (case aO => exact (ro HO289.out))
       (case aS => exact (below_size bw))
       (case aL => have := LMc22.out; omega)
       intro v291 w32 ho hb hg hat
       rw [← Ny290.out] at ho
       replace HO282 := am (Kd.R_after (ok := (fun _ => True)) (ro HO282.out) hg hat)
       replace HB := am (hb)
       have HO292 := am (ho)
       clear HO289 ho hb hg hat
       refine hK.out _ _ (((HB.out.cell (World.block_lt_of_cell? w _ hw286_0)).trans hw286_0)) (fun hHeld => ?_)
       clear hK K
       refine nm (some 61) ?_
       refine pa 11 (some 3) (yz 12 4095) HT_ ?_
       refine done_ (done_of HT_.out (by kernel_rfl)) ?_
       try go_wp2
       go_roundg k2
       case measure => have := HK1.out; have := HK2.out; omega
       case rel => exact ⟨(y290), (wrap64 (x4_1 + 1)), rr, H', ⟨by have := HK1.out; have := HK2.out; omega⟩, ⟨rM HO292.out (fun _ hk => trivial)⟩, ⟨bw⟩⟩
      have c6b0 : decide (0 < x5_2) = false := decide_eq_false c6
      clear c6
      obtain ⟨y293, hy293, H⟩ := gy H
      have Ny293 := am hy293
      clear hy293
      replace H := gp H; obtain ⟨c34, H⟩ := H
      have c34b0 := eq_true c34
      have c34b1 : decide (0 ≤ x5_2) = true := decide_eq_true c34
      clear c34
      replace H := gp H; obtain ⟨c35, H⟩ := H
      have c35b0 := eq_true c35
      have c35b1 : decide (x5_2 ≤ (x3_1.length : Int)) = true := decide_eq_true c35
      clear c35
      obtain ⟨y296, hy296, H⟩ := gy H
      have Ny296 := am hy296
      clear hy296
      by_cases c36 : y293.length + y296.length < 17592186044416
      rotate_left
      ·rw [if_neg c36] at H
       exact absurd H (by simp)
      rw [if_pos c36] at H
      have LMc36 := am c36
      clear c36
      obtain ⟨y300, hy300, H⟩ := gy H
      have Ny300 := am hy300
      clear hy300
      have c37b0 := eq_true (od : x5_2 ≤ (x3_1.length : Int))
      obtain ⟨y303, hy303, H⟩ := gy H
      have Ny303 := am hy303
      clear hy303
      replace H := gd H; obtain ⟨c38b0, H⟩ := H
      replace H := gd H; obtain ⟨c39b0, H⟩ := H
      by_cases c40 : y303.length < 17592186044416
      rotate_left
      ·rw [if_neg c40] at H
       exact absurd H (by simp)
      rw [if_pos c40] at H
      have LMc40 := am c40
      clear c40
      obtain ⟨y307, hy307, H⟩ := gy H
      have Ny307 := am hy307
      clear hy307
      by_cases c41 : y307.length + y300.length < 17592186044416
      rotate_left
      ·rw [if_neg c41] at H
       exact absurd H (by simp)
      rw [if_pos c41] at H
      have LMc41 := am c41
      clear c41
      obtain ⟨y310, hy310⟩ : ∃ y_ : List Int, y_ = (y307 ++ y300) := ⟨_, rfl⟩
      replace H : (spec_SortList.l0 k2 l0 y310 (wrap64 (x4_1 + 1))) = some r := by first | (rw [hy310]; with_reducible first | exact H | exact bs H) | (with_reducible first | exact bs H | exact H) | (rw [hy310]; exact H) | exact H
      have Ny310 := am hy310
      clear hy310
      have H' := am H
      clear H
      try go_wp2
      replace HO_3 := am (Kd.R_drew HO_3.out)
      replace HB := am (below_drew1 HB.out)
      refine start_ (n := 14) (S := fun w' => True) (ds := []) (yz 14 0) (by kernel_rfl) rfl rfl trivial (fun hHeld => ?_); refine with_tabW spec_SortList.tab6 spec_SortList.bits6 (fun HT_ HW_ => ?_)
      generalize wr.drew = w42 at HO_3 HB hHeld ⊢
      refine pa 0 (some 16) (yz 14 1) HT_ ?_
      refine pa 1 (some 17) (yz 14 3) HT_ ?_
      refine pa 2 (some 18) (yz 14 7) HT_ ?_
      refine pu 3 (some 19) (yz 14 15) HT_ ?_
      refine pu 4 (some 20) (yz 14 31) HT_ ?_
      refine pu 5 (some 21) (yz 14 63) HT_ ?_
      refine pu 6 (some 22) (yz 14 127) HT_ ?_
      refine pu 7 (some 23) (yz 14 255) HT_ ?_
      refine pu 8 (some 24) (yz 14 511) HT_ ?_
      refine pu 9 (some 25) (yz 14 1023) HT_ ?_
      refine pu 10 (some 26) (yz 14 2047) HT_ ?_
      refine pu 11 (some 27) (yz 14 4095) HT_ ?_
      refine pu 12 (some 28) (yz 14 8191) HT_ ?_
      refine pa 13 (some 29) (yz 14 16383) HT_ ?_
      refine done_ (done_of HT_.out (by kernel_rfl)) ?_
      try go_wp2
      replace HO_3 := am (Kd.R_drew HO_3.out)
      replace HB := am (below_drew1 HB.out)
      refine start_ (n := 14) (S := fun w' => True) (ds := []) (yz 14 0) (by kernel_rfl) rfl rfl trivial (fun hHeld => ?_); refine with_tabW spec_SortList.tab8 spec_SortList.bits8 (fun HT_ HW_ => ?_)
      generalize w42.drew = w43 at HO_3 HB hHeld ⊢
      refine pa 0 (some 32) (yz 14 1) HT_ ?_
      refine pa 1 (some 33) (yz 14 3) HT_ ?_
      refine pa 2 (some 34) (yz 14 7) HT_ ?_
      refine pu 3 (some 35) (yz 14 15) HT_ ?_
      refine pu 4 (some 36) (yz 14 31) HT_ ?_
      refine pu 5 (some 37) (yz 14 63) HT_ ?_
      refine pu 6 (some 38) (yz 14 127) HT_ ?_
      refine pu 7 (some 39) (yz 14 255) HT_ ?_
      refine pu 8 (some 40) (yz 14 511) HT_ ?_
      refine pu 9 (some 41) (yz 14 1023) HT_ ?_
      refine pu 10 (some 42) (yz 14 2047) HT_ ?_
      refine pu 11 (some 43) (yz 14 4095) HT_ ?_
      refine pu 12 (some 44) (yz 14 8191) HT_ ?_
      refine pa 13 (some 45) (yz 14 16383) HT_ ?_
      refine done_ (done_of HT_.out (by kernel_rfl)) ?_
      try go_wp2_with (first | ((with_reducible refine gate_dst (N := 46) rfl ?_); refine Kd.R_lit (Kd.int .i64) _ 3 ?hg (N := 46) ?hd (xs := ([] : List Int)) (inner := []) (ok := fun _ => True) (okp := fun _ => True) ?hr ?hp (fun _ hk => hk) trivial (Below.refl _ _) (Nat.le_refl _) (by simp) ?_; (case hd => rfl); (case hg => rfl); (case hr => first | (go_simp; done) | (go_simp; rfl)); (case hp => exact (Reps.none _ _)); intro v294 w44 ho45 hb hg_ hnew_; clear hg_ hnew_; (first | rw [← Ny293.out] at ho45 | (simp only [Int.reduceToNat] at ho45; rw [← Ny293.out] at ho45)); have HO295 := am (Kd.R_lower (Kd.R_new' ho45 (Kd.R_lt (ro HO_3.out))) (below_size bw)); replace HO_3 := am (Kd.R_elder' (ro HO_3.out) (Kd.R_base ho45) hb); replace HB := am (below_step bw hb); clear hb ho45; have q46 : (x5_2 : Int) ≤ ((x3_1.length : Int) : Int) := od; obtain ⟨i046, hi046, _, hsz46, _⟩ := info_parts info3; have hroom46 : x3_1.length ≤ co5 := (Kd.R_reads' HO_3.out).2.1; have hC46 : Kd.C (Kd.int .i64) _ Ao5 x3_1.length x3_1 := (Kd.R_reads' HO_3.out).2.2; have q046 : (0 : Int) ≤ (x5_2 : Int) := od; have hcut46 := cut_from (P := Try.prog) 22 3 .i64 Try.underlying22 hi046 1 hsz46 Ao5 x3_1.length co5 x5_2 q046 q46; have hr46 := Kd.C_drop (m := (x5_2 : Int).toNat) (c := co5) hC46 (by omega) hroom46; obtain ⟨A46, hA46⟩ : ∃ A1, A1 = (if co5 = (x5_2 : Int).toNat then Ao5 else (Ao5 : Option Addr).map (·.add ((x5_2 : Int).toNat * 1))) := ⟨_, rfl⟩; obtain ⟨c46, hc46⟩ : ∃ c1, c1 = co5 - (x5_2 : Int).toNat := ⟨_, rfl⟩; have hy46 : y296.length = x3_1.length - (x5_2 : Int).toNat := (by rw [Ny296.out, List.length_drop] <;> omega); rw [show (x3_1).drop (x5_2 : Int).toNat = y296 from Ny296.out.symm] at hr46; replace hr46 : Kd.C (Kd.int .i64) _ A46 y296.length y296 := (by rw [hA46]; exact hr46); rw [← hy46, ← hA46, ← hc46] at hcut46; have HR299 := am hr46; have HC299 := am (show y296.length ≤ c46 from by rw [hy46, hc46]; exact Nat.sub_le_sub_right hroom46 _); clear hr46 hC46 hroom46 hi046 hsz46 hc46; have KY46 := am hy46; have KA46 := am hA46; clear hy46 hA46; have KL46 := am (show (x5_2 : Int).toNat ≤ x3_1.length from by omega); replace q46 := eq_true q46) | ((with_reducible refine gate_builtin (b := .append) (xs := #[.tmp 46, .tmp 49]) rfl ?_); at_builtin; refine Kd.R_append_rows (Kd.int .i64) (w0 := w) w.heap.size rfl (.tmp 46) (.tmp 49) 22 3 (.int .i64 0) 8 rfl Try.underlying22 info3 rfl (by decide) (by omega) v294 y293 y296 _ _ _ (fun k_ => nb k_ Ao5 x3_1 co5) (fun _ => False) rfl rfl ?aO ?aR (fun _ _ h => h) (fun _ h => h.elim) ?aF ?aB ?aS ?aL ?_; (case aR => exact co HR299.out); (case aB => exact bw); (case aF => exact (fun k_ hk => Kd.fresh' (Kd.R_lt (ro HO_3.out)) k_ hk)); (case aO => exact (rM HO295.out (fun _ hk => hk.2))); (case aS => exact (below_size bw)); (case aL => have := LMc36.out; omega); intro v301 w47 ho hb hg hat; rw [← Ny300.out] at ho; replace HB := am (hb); replace HR299 := am ((show Kd.C (Kd.int .i64) w47 A46 y296.length y296 from by rw [Ny296.out, KA46.out]; exact Kd.C_drop (m := (x5_2 : Int).toNat) (c := co5) ((Kd.R_reads' (Kd.R_after (ok := (fun _ => True)) (ro HO_3.out) hg hat)).2.2) KL46.out ((Kd.R_reads' (Kd.R_after (ok := (fun _ => True)) (ro HO_3.out) hg hat)).2.1))); replace HO_3 := am (Kd.R_after (ok := (fun _ => True)) (ro HO_3.out) hg hat); have HO302 := am (ho); clear HO295 ho hb hg hat))
      replace HO_3 := am (Kd.R_drew HO_3.out)
      replace HO302 := am (Kd.R_drew HO302.out)
      replace HR299 := am (Kd.C_drew HR299.out)
      replace HB := am (below_drew1 HB.out)
      have q49 : (x5_2 : Int) ≤ ((x3_1.length : Int) : Int) := od
      obtain ⟨i049, hi049, _, hsz49, _⟩ := info_parts info3
      have hcut49 := cut_to (P := Try.prog) 22 3 .i64 Try.underlying22 hi049 Ao5 x3_1.length co5 x5_2 (od) q49 (Kd.R_reads' HO_3.out).2.1
      have hr49 := Kd.R_take (m := (x5_2 : Int).toNat) HO_3.out (by omega)
      have hy49 : y303.length = (x5_2 : Int).toNat := (by rw [Ny303.out, List.length_take]; omega)
      rw [← Ny303.out] at hr49
      rw [← hy49] at hr49 hcut49
      clear hy49 hi049 hsz49 HO_3
      have HO305 := am hr49
      clear hr49
      replace q49 := eq_true q49
      obtain ⟨⟨ad306, e306, hx306_0⟩, p306, q306⟩ := pq (Kd.at_int HR0.out x4_1)
      have hw306_0 := hx306_0
      cases e306
      replace hx306_0 := hw HB hx306_0
      refine start_ (n := 12) (S := fun w' => w'.cell? (ad306.add (x4_1).toNat) = some (.int .i64 (rd l0 x4_1))) (ds := []) (yz 12 0) (by kernel_rfl) rfl rfl (((HB.out.cell (World.block_lt_of_cell? w _ hw306_0)).trans hw306_0)) (fun hHeld => ?_); refine with_tabW spec_SortList.tab10 spec_SortList.bits10 (fun HT_ HW_ => ?_)
      generalize w47.drew = w48 at HO_3 HO302 HR299 HB HO305 hx306_0 hHeld ⊢
      refine pa 0 (some 51) (yz 12 1) HT_ ?_
      refine pa 1 (some 52) (yz 12 3) HT_ ?_
      refine pa 2 (some 53) (yz 12 7) HT_ ?_
      refine pa 3 (some 54) (yz 12 15) HT_ ?_
      refine pa 4 (some 55) (yz 12 31) HT_ ?_
      refine pa 5 (some 56) (yz 12 63) HT_ ?_
      refine pa 9 (some 60) (yz 12 575) HT_ ?_
      refine tK 6 (some 57) (yz 12 639) HT_ HW_ hHeld ?_
      refine oa 7 (some 58) (yz 12 767) HT_ (fun K hK => ?_)
      refine value_ (w1 := ?_) (v := ?_) (by rfl) rfl ?_ ?_
      rotate_left 2
      ·go_simp
       constructor
       ·rfl
       rfl
      refine hK.out _ _ ((World.cell?_alloc_lt _ _ _ (World.block_lt_of_cell? _ _ (((HB.out.cell (World.block_lt_of_cell? w _ hw306_0)).trans hw306_0)))).trans (((HB.out.cell (World.block_lt_of_cell? w _ hw306_0)).trans hw306_0))) (fun hHeld => ?_)
      clear hK K
      refine nm (some 58) ?_
      refine oa 8 (some 59) (yz 12 1023) HT_ (fun K hK => ?_)
      refine Kd.R_append_step (Kd.int .i64) (w0 := w) w.heap.size (by rfl) (.tmp 53) (.tmp 58) 22 3 (.int .i64 0) 8 rfl Try.underlying22 info3 rfl (by decide) (by omega) (.slice Ao5 y303.length co5) y303 (rd l0 x4_1) [.int .i64 (rd l0 x4_1)] (fun k_ => some k_ ≠ (v301 : Value).ownBlock) (fun _ => False) rfl rfl ?aP (fun _ hk => hk.elim) ?aF ?aO ?aB ?aS ?aL ?_
      (case aP => exact rfl)
      (case aB => exact bw)
      (case aF => exact (fun k_ hk => Kd.fresh' (Kd.R_lt (ro HO302.out)) k_ hk))
      (case aO => exact (rM HO305.out (fun _ hk => hk.2)))
      (case aS => exact (below_size bw))
      (case aL => have := LMc40.out; omega)
      intro v308 w50 ho hb hg hat
      rw [← Ny307.out] at ho
      replace HO302 := am (Kd.R_after (ok := (fun _ => True)) (rM HO302.out (fun _ hk => ⟨trivial, by first | exact hk | exact (by intro a n m c x h; cases a <;> exact h : ∀ (a : Option Addr) (n m c x : Nat), some x ≠ (Value.slice a n c).ownBlock → some x ≠ (Value.slice a m c).ownBlock) _ _ _ _ _ hk⟩)) hg hat)
      replace HB := am (hb)
      have HO309 := am (ho)
      clear HO305 ho hb hg hat
      obtain ⟨Ao52, co52, eo52⟩ := Kd.R_slice HO302.out
      (first | subst eo52 | (injection eo52 with f1_ f2_ f3_; have f4_ := f1_.symm; have f5_ := f3_.symm; clear f1_ f2_ f3_; subst f4_; subst f5_))
      refine hK.out _ _ (((HB.out.cell (World.block_lt_of_cell? w _ hw306_0)).trans hw306_0)) (fun hHeld => ?_)
      clear hK K
      refine nm (some 59) ?_
      refine oa 10 (some 61) (yz 12 2047) HT_ (fun K hK => ?_)
      refine Kd.R_append_rows_step (Kd.int .i64) (w0 := w) w.heap.size (by rfl) (.tmp 59) (.tmp 60) 22 3 (.int .i64 0) 8 rfl Try.underlying22 info3 rfl (by decide) (by omega) v308 y307 y300 _ _ _ (fun k_ => nb k_ Ao52 y300 co52) (fun _ => False) rfl rfl ?aO ?aR (fun _ _ h => h) (fun _ h => h.elim) ?aF ?aB ?aS ?aL ?_
      (case aR => exact co (Kd.R_reads' HO302.out).2.2)
      (case aB => exact bw)
      (case aF => exact (fun k_ hk => Kd.fresh' (Kd.R_lt (ro HO302.out)) k_ hk))
      (case aO => exact (ro HO309.out))
      (case aS => exact (below_size bw))
      (case aL => have := LMc41.out; omega)
      intro v311 w51 ho hb hg hat
      rw [← Ny310.out] at ho
      replace HO302 := am (Kd.R_after (ok := (fun _ => True)) (ro HO302.out) hg hat)
      replace HB := am (hb)
      have HO312 := am (ho)
      clear HO309 ho hb hg hat
      refine hK.out _ _ (((HB.out.cell (World.block_lt_of_cell? w _ hw306_0)).trans hw306_0)) (fun hHeld => ?_)
      clear hK K
      refine nm (some 61) ?_
      refine pa 11 (some 3) (yz 12 4095) HT_ ?_
      refine done_ (done_of HT_.out (by kernel_rfl)) ?_
      try go_wp2
      go_roundg k2
      case measure => have := HK1.out; have := HK2.out; omega
      case rel => exact ⟨(y310), (wrap64 (x4_1 + 1)), rr, H', ⟨by have := HK1.out; have := HK2.out; omega⟩, ⟨rM HO312.out (fun _ hk => trivial)⟩, ⟨bw⟩⟩
   obtain rfl := Option.some.inj H
   go_wp2
   go_ret
   exact ⟨_, re, ro HO_3.out, bw⟩

end Go.Proofs.Ytlhcpbpcdicleaa.C
