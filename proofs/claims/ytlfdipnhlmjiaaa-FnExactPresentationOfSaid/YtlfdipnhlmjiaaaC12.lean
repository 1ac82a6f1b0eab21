/- Contracts of functions of the program: laws_eqRelationS, laws_markRelationS, laws_heldIntS, laws_heldRelationS. -/
import Derived.Test.YtlfdipnhlmjiaaaC0
import Derived.Test.YtlfdipnhlmjiaaaC1
import Derived.Test.YtlfdipnhlmjiaaaC11
namespace Go.Proofs.Ytlfdipnhlmjiaaa.C
open Go.RowKit Go.Proofs.YtlfdipnhlmjiaaaW.PrintWords Go.Proofs.YtlfdipnhlmjiaaaW.PrintLast Go.Proofs.YtlfdipnhlmjiaaaW.PrintMore
attribute [local go_sem] max2_int min2_int max_two min_two max_three min_three max_four min_four
set_option linter.unusedVariables false
set_option linter.unusedSimpArgs false

/-! ### laws_eqRelationS: function 52 -/
def laws_eqRelationS.l0 : Nat → List (S86) → List (S86) → Int → Option (Bool)
 | 0, _, _, _ => none
 | k + 1, x0, x1, x5 => if x5 < (x0.length : Int) then (if 0 ≤ x5 then (if x5 < (x1.length : Int) then ((laws_eqRelation.f k ((rd_T86 x0 x5).f0) ((rd_T86 x0 x5).f1) ((rd_T86 x1 x5).f0) ((rd_T86 x1 x5).f1)).bind fun t609 => (if t609 = true then (laws_eqRelationS.l0 k x0 x1 (wrap64 (x5 + 1))) else (some false))) else (none)) else (none)) else (some true)
def laws_eqRelationS.f (k : Nat) (l0 : List (S86)) (l1 : List (S86)) : Option (Bool) := if (l0.length : Int) = (l1.length : Int) then (laws_eqRelationS.l0 k l0 l1 0) else (some false)
def laws_eqRelationS.T6 : Bool × List (List Nat × List Nat) := (true, [([], []), ([], []), ([0, 1], [0, 1]), ([2], [2]), ([], []), ([], []), ([4, 5], [4, 5]), ([6], [6]), ([3, 7], [3, 7]), ([8], [8])])
def laws_eqRelationS.B6 : List Nat := [0, 0, 3, 7, 0, 0, 48, 112, 255, 511]
theorem laws_eqRelationS.tab6 : rtab .any (opsOf Try.f52 6) = laws_eqRelationS.T6 := by kernel_rfl
theorem laws_eqRelationS.bits6 : waitsOk laws_eqRelationS.T6.2 laws_eqRelationS.B6 = true := by kernel_rfl
set_option maxHeartbeats 8000000 in
set_option maxRecDepth 100000 in
theorem laws_eqRelationS.calls (k : Nat) (A0 : Option Addr) (c0 : Nat) (l0 : List (S86)) (A1 : Option Addr) (c1 : Nat) (l1 : List (S86)) (r : Bool) (w : World) (hr0 : Kd.C k86 w A0 l0.length l0) (hc0 : l0.length ≤ c0) (hr1 : Kd.C k86 w A1 l1.length l1) (hc1 : l1.length ≤ c1) (h : laws_eqRelationS.f k l0 l1 = some r) :
  Calls Try.prog 52 #[.slice A0 l0.length c0, .slice A1 l1.length c1] w fun e w' => e = .returned (.bool r) ∧ Below w.heap.size w w' := by
 have hu86 := Try.underlying86
 have HR0 := am hr0
 have HC0 := am hc0
 clear hr0 hc0
 have HR1 := am hr1
 have HC1 := am hc1
 clear hr1 hc1
 have HB := am (Below.refl w.heap.size w)
 have H : (if (l0.length : Int) = (l1.length : Int) then (laws_eqRelationS.l0 k l0 l1 0) else (some false)) = some r := h
 clear h
 by_cases c3 : (l0.length : Int) = (l1.length : Int)
 ·rw [if_pos c3] at H
  have c3b0 : ((l0.length : Int) == (l1.length : Int)) = true := beq_iff_eq.mpr c3
  have c3b1 : ((l0.length : Int) != (l1.length : Int)) = false := bne_eq_false_iff_eq.mpr c3
  have c3b2 : (l0.length == l1.length) = true := by first | simpa using c3 | (simp at c3 ⊢; omega)
  clear c3
  have H' := am H
  clear H
  go_enter Try.func52, Try.ntmps52
  go_wp2
  go_loopg [5] k (fun kq v5 w' => ∃ (x5_1 : Int), v5 = .int .i64 x5_1 ∧ Aside0 (laws_eqRelationS.l0 kq l0 l1 x5_1 = some r) ∧ Aside0 (kq ≤ k) ∧ Aside0 (Below w.heap.size w w'))
  case atStart => exact ⟨(0), rr, H', ⟨Nat.le_refl _⟩, ⟨bw⟩⟩
  case round =>
   clear H'
   try clear c1; try clear c3; try clear c3b0; try clear c3b1; try clear c3b2
   obtain ⟨x5_1, rfl, HA, HK1, HB⟩ := hrel
   cases gk with
   | zero => exact absurd HA.out (by simp [laws_eqRelationS.l0])
   | succ k1 =>
    have H := HA.out
    clear HA
    simp only [laws_eqRelationS.l0] at H
    replace H := gi H; obtain ⟨c4b0, H⟩ | ⟨c4b0, H⟩ := H
    ·replace H := gd H; obtain ⟨c5b0, H⟩ := H
     replace H := gd H; obtain ⟨c6b0, H⟩ := H
     replace H := ga H; obtain ⟨t609, A7, H⟩ := H
     replace H := gb H; obtain ⟨rfl, H⟩ | ⟨rfl, H⟩ := H
     ·have H' := am H
      clear H
      try go_wp2
      replace HB := am (below_drew1 HB.out)
      have p607 : 0 ≤ (x5_1 : Int) := of_decide_eq_true (by first | (with_reducible assumption) | assumption)
      have q607 : x5_1 < (l0.length : Int) := of_decide_eq_true (by first | (with_reducible assumption) | assumption)
      obtain ⟨ad607, A607_0, c607_0, A607_1, c607_1, e607, hx607_0, hx607_1, hl607_0, hi607_0, hl607_1, hi607_1⟩ := at_T86 HR0.out x5_1 p607 q607
      have hw607_1 := hx607_1
      have hw607_0 := hx607_0
      cases e607
      replace hx607_0 := hw HB hx607_0
      replace hx607_1 := hw HB hx607_1
      have HR607_0 := am hi607_0
      have HC607_0 := am hl607_0
      clear hi607_0 hl607_0
      have HR607_1 := am hi607_1
      have HC607_1 := am hl607_1
      clear hi607_1 hl607_1
      replace p607 := eq_true p607
      replace q607 := eq_true q607
      have p608 : 0 ≤ (x5_1 : Int) := of_decide_eq_true (by first | (with_reducible assumption) | assumption)
      have q608 : x5_1 < (l1.length : Int) := of_decide_eq_true (by first | (with_reducible assumption) | assumption)
      obtain ⟨ad608, A608_0, c608_0, A608_1, c608_1, e608, hx608_0, hx608_1, hl608_0, hi608_0, hl608_1, hi608_1⟩ := at_T86 HR1.out x5_1 p608 q608
      have hw608_1 := hx608_1
      have hw608_0 := hx608_0
      cases e608
      replace hx608_0 := hw HB hx608_0
      replace hx608_1 := hw HB hx608_1
      have HR608_0 := am hi608_0
      have HC608_0 := am hl608_0
      clear hi608_0 hl608_0
      have HR608_1 := am hi608_1
      have HC608_1 := am hl608_1
      clear hi608_1 hl608_1
      replace p608 := eq_true p608
      replace q608 := eq_true q608
      refine start_ (n := 10) (S := fun w' => w'.cell? (ad607.add ((x5_1).toNat * 2)) = some (.slice A607_0 ((rd_T86 l0 x5_1).f0).length c607_0) ∧ w'.cell? ⟨(ad607.add ((x5_1).toNat * 2)).block, (ad607.add ((x5_1).toNat * 2)).off + 1, none⟩ = some (.slice A607_1 ((rd_T86 l0 x5_1).f1).length c607_1) ∧ w'.cell? (ad608.add ((x5_1).toNat * 2)) = some (.slice A608_0 ((rd_T86 l1 x5_1).f0).length c608_0) ∧ w'.cell? ⟨(ad608.add ((x5_1).toNat * 2)).block, (ad608.add ((x5_1).toNat * 2)).off + 1, none⟩ = some (.slice A608_1 ((rd_T86 l1 x5_1).f1).length c608_1)) (ds := []) (yz 10 0) (by kernel_rfl) rfl rfl ⟨((HB.out.cell (World.block_lt_of_cell? w _ hw607_0)).trans hw607_0), ((HB.out.cell (World.block_lt_of_cell? w _ hw607_1)).trans hw607_1), ((HB.out.cell (World.block_lt_of_cell? w _ hw608_0)).trans hw608_0), ((HB.out.cell (World.block_lt_of_cell? w _ hw608_1)).trans hw608_1)⟩ (fun hHeld => ?_); refine with_tabW laws_eqRelationS.tab6 laws_eqRelationS.bits6 (fun HT_ HW_ => ?_)
      generalize wr.drew = w9 at HB HR607_0 HR607_1 HR608_0 HR608_1 hx607_0 hx607_1 hx608_0 hx608_1 hHeld ⊢
      refine pa 0 (some 17) (yz 10 1) HT_ ?_
      refine pa 1 (some 18) (yz 10 3) HT_ ?_
      refine pa 2 (some 19) (yz 10 7) HT_ ?_
      refine pa 4 (some 21) (yz 10 23) HT_ ?_
      refine pa 5 (some 22) (yz 10 55) HT_ ?_
      refine pa 6 (some 23) (yz 10 119) HT_ ?_
      refine tk 3 (some 20) (yz 10 127) HT_ HW_ hHeld ?_
      refine tk 7 (some 24) (yz 10 255) HT_ HW_ hHeld ?_
      refine oa 8 (some 25) (yz 10 511) HT_ (fun K hK => ?_)
      refine gm Try.func103 #[.agg #[.slice A607_0 ((rd_T86 l0 x5_1).f0).length c607_0, .slice A607_1 ((rd_T86 l0 x5_1).f1).length c607_1], .agg #[.slice A608_0 ((rd_T86 l1 x5_1).f0).length c608_0, .slice A608_1 ((rd_T86 l1 x5_1).f1).length c608_1]] ?_
      with_reducible refine (laws_eqRelation.calls k1 _ _ ((rd_T86 l0 x5_1).f0) _ _ ((rd_T86 l0 x5_1).f1) _ _ ((rd_T86 l1 x5_1).f0) _ _ ((rd_T86 l1 x5_1).f1) true _ ?side1 ?side2 ?side3 ?side4 ?side5 ?side6 ?side7 ?side8 A7.out).mono ?_
      (case side1 => exact co (Kd.C_below HR607_0.out HB.out))
      (case side2 => exact HC607_0.out)
      (case side3 => exact co (Kd.C_below HR607_1.out HB.out))
      (case side4 => exact HC607_1.out)
      (case side5 => exact co (Kd.C_below HR608_0.out HB.out))
      (case side6 => exact HC608_0.out)
      (case side7 => exact co (Kd.C_below HR608_1.out HB.out))
      (case side8 => exact HC608_1.out)
      rintro e w10 ⟨rfl, hb⟩
      refine ⟨_, rfl, ?_⟩
      replace HB := am (below_step bw hb)
      clear hb
      refine hK.out _ _ ⟨((HB.out.cell (World.block_lt_of_cell? w _ hw607_0)).trans hw607_0), ((HB.out.cell (World.block_lt_of_cell? w _ hw607_1)).trans hw607_1), ((HB.out.cell (World.block_lt_of_cell? w _ hw608_0)).trans hw608_0), ((HB.out.cell (World.block_lt_of_cell? w _ hw608_1)).trans hw608_1)⟩ (fun hHeld => ?_)
      clear hK K
      refine nm (some 25) ?_
      refine pa 9 (some 26) (yz 10 1023) HT_ ?_
      refine done_ (done_of HT_.out (by kernel_rfl)) ?_
      try go_wp2
      go_roundg k1
      case measure => have := HK1.out; omega
      case rel => exact ⟨(wrap64 (x5_1 + 1)), rr, H', ⟨by have := HK1.out; omega⟩, ⟨bw⟩⟩
     obtain rfl := Option.some.inj H
     try go_wp2
     replace HB := am (below_drew1 HB.out)
     have p607 : 0 ≤ (x5_1 : Int) := of_decide_eq_true (by first | (with_reducible assumption) | assumption)
     have q607 : x5_1 < (l0.length : Int) := of_decide_eq_true (by first | (with_reducible assumption) | assumption)
     obtain ⟨ad607, A607_0, c607_0, A607_1, c607_1, e607, hx607_0, hx607_1, hl607_0, hi607_0, hl607_1, hi607_1⟩ := at_T86 HR0.out x5_1 p607 q607
     have hw607_1 := hx607_1
     have hw607_0 := hx607_0
     cases e607
     replace hx607_0 := hw HB hx607_0
     replace hx607_1 := hw HB hx607_1
     have HR607_0 := am hi607_0
     have HC607_0 := am hl607_0
     clear hi607_0 hl607_0
     have HR607_1 := am hi607_1
     have HC607_1 := am hl607_1
     clear hi607_1 hl607_1
     replace p607 := eq_true p607
     replace q607 := eq_true q607
     have p608 : 0 ≤ (x5_1 : Int) := of_decide_eq_true (by first | (with_reducible assumption) | assumption)
     have q608 : x5_1 < (l1.length : Int) := of_decide_eq_true (by first | (with_reducible assumption) | assumption)
     obtain ⟨ad608, A608_0, c608_0, A608_1, c608_1, e608, hx608_0, hx608_1, hl608_0, hi608_0, hl608_1, hi608_1⟩ := at_T86 HR1.out x5_1 p608 q608
     have hw608_1 := hx608_1
     have hw608_0 := hx608_0
     cases e608
     replace hx608_0 := hw HB hx608_0
     replace hx608_1 := hw HB hx608_1
     have HR608_0 := am hi608_0
     have HC608_0 := am hl608_0
     clear hi608_0 hl608_0
     have HR608_1 := am hi608_1
     have HC608_1 := am hl608_1
     clear hi608_1 hl608_1
     replace p608 := eq_true p608
     replace q608 := eq_true q608
     refine start_ (n := 10) (S := fun w' => w'.cell? (ad607.add ((x5_1).toNat * 2)) = some (.slice A607_0 ((rd_T86 l0 x5_1).f0).length c607_0) ∧ w'.cell? ⟨(ad607.add ((x5_1).toNat * 2)).block, (ad607.add ((x5_1).toNat * 2)).off + 1, none⟩ = some (.slice A607_1 ((rd_T86 l0 x5_1).f1).length c607_1) ∧ w'.cell? (ad608.add ((x5_1).toNat * 2)) = some (.slice A608_0 ((rd_T86 l1 x5_1).f0).length c608_0) ∧ w'.cell? ⟨(ad608.add ((x5_1).toNat * 2)).block, (ad608.add ((x5_1).toNat * 2)).off + 1, none⟩ = some (.slice A608_1 ((rd_T86 l1 x5_1).f1).length c608_1)) (ds := []) (yz 10 0) (by kernel_rfl) rfl rfl ⟨((HB.out.cell (World.block_lt_of_cell? w _ hw607_0)).trans hw607_0), ((HB.out.cell (World.block_lt_of_cell? w _ hw607_1)).trans hw607_1), ((HB.out.cell (World.block_lt_of_cell? w _ hw608_0)).trans hw608_0), ((HB.out.cell (World.block_lt_of_cell? w _ hw608_1)).trans hw608_1)⟩ (fun hHeld => ?_); refine with_tabW laws_eqRelationS.tab6 laws_eqRelationS.bits6 (fun HT_ HW_ => ?_)
     generalize wr.drew = w11 at HB HR607_0 HR607_1 HR608_0 HR608_1 hx607_0 hx607_1 hx608_0 hx608_1 hHeld ⊢
     refine pa 0 (some 17) (yz 10 1) HT_ ?_
     refine pa 1 (some 18) (yz 10 3) HT_ ?_
     refine pa 2 (some 19) (yz 10 7) HT_ ?_
     refine pa 4 (some 21) (yz 10 23) HT_ ?_
     refine pa 5 (some 22) (yz 10 55) HT_ ?_
     refine pa 6 (some 23) (yz 10 119) HT_ ?_
     refine tk 3 (some 20) (yz 10 127) HT_ HW_ hHeld ?_
     refine tk 7 (some 24) (yz 10 255) HT_ HW_ hHeld ?_
     refine oa 8 (some 25) (yz 10 511) HT_ (fun K hK => ?_)
     refine gm Try.func103 #[.agg #[.slice A607_0 ((rd_T86 l0 x5_1).f0).length c607_0, .slice A607_1 ((rd_T86 l0 x5_1).f1).length c607_1], .agg #[.slice A608_0 ((rd_T86 l1 x5_1).f0).length c608_0, .slice A608_1 ((rd_T86 l1 x5_1).f1).length c608_1]] ?_
     with_reducible refine (laws_eqRelation.calls k1 _ _ ((rd_T86 l0 x5_1).f0) _ _ ((rd_T86 l0 x5_1).f1) _ _ ((rd_T86 l1 x5_1).f0) _ _ ((rd_T86 l1 x5_1).f1) false _ ?side1 ?side2 ?side3 ?side4 ?side5 ?side6 ?side7 ?side8 A7.out).mono ?_
     (case side1 => exact co (Kd.C_below HR607_0.out HB.out))
     (case side2 => exact HC607_0.out)
     (case side3 => exact co (Kd.C_below HR607_1.out HB.out))
     (case side4 => exact HC607_1.out)
     (case side5 => exact co (Kd.C_below HR608_0.out HB.out))
     (case side6 => exact HC608_0.out)
     (case side7 => exact co (Kd.C_below HR608_1.out HB.out))
     (case side8 => exact HC608_1.out)
     rintro e w12 ⟨rfl, hb⟩
     refine ⟨_, rfl, ?_⟩
     replace HB := am (below_step bw hb)
     clear hb
     refine hK.out _ _ ⟨((HB.out.cell (World.block_lt_of_cell? w _ hw607_0)).trans hw607_0), ((HB.out.cell (World.block_lt_of_cell? w _ hw607_1)).trans hw607_1), ((HB.out.cell (World.block_lt_of_cell? w _ hw608_0)).trans hw608_0), ((HB.out.cell (World.block_lt_of_cell? w _ hw608_1)).trans hw608_1)⟩ (fun hHeld => ?_)
     clear hK K
     refine nm (some 25) ?_
     refine pa 9 (some 26) (yz 10 1023) HT_ ?_
     refine done_ (done_of HT_.out (by kernel_rfl)) ?_
     try go_wp2
     go_ret
     exact ⟨re, bw⟩
    obtain rfl := Option.some.inj H
    go_wp2
    go_ret
    exact ⟨re, bw⟩
 rw [if_neg c3] at H
 have c3b0 : ((l0.length : Int) == (l1.length : Int)) = false := beq_eq_false_iff_ne.mpr c3
 have c3b1 : ((l0.length : Int) != (l1.length : Int)) = true := bne_iff_ne.mpr c3
 have c3b2 : (l0.length == l1.length) = false := by first | simpa using c3 | (simp at c3 ⊢; omega)
 obtain rfl := Option.some.inj H
 go_enter Try.func52, Try.ntmps52
 go_wp2
 go_ret
 exact ⟨re, bw⟩


/-! ### laws_markRelationS: function 53 -/
def laws_markRelationS.l0 : Nat → List S86 → Int → Int → Option (Int × List S86)
 | 0, _, _, _ => none
 | k + 1, x0, x1, x5 => if x5 < (x0.length : Int) then (if 0 ≤ x5 then ((laws_markIntS.f k (rd_T86 x0 x5).f0 x1).bind fun t => (laws_markIntS.f k (rd_T86 x0 x5).f1 t.1).bind fun u => laws_markRelationS.l0 k (x0.set (x5 : Int).toNat ⟨t.2, u.2⟩) u.1 (wrap64 (x5 + 1))) else none) else some (x1, x0)
def laws_markRelationS.f (k : Nat) (l0 : List S86) (a1 : Int) : Option (Int × List S86) := laws_markRelationS.l0 k l0 a1 0
set_option maxHeartbeats 8000000 in
set_option maxRecDepth 100000 in
theorem laws_markRelationS.calls (k : Nat) (P0_ : Nat → Prop) (u9000_ : Value) (l0 : List S86) (a1 : Int) (r1 : Int) (r2 : List S86) (w0 w : World) (hB : Below w0.heap.size w0 w) (ho0 : Kd.S kpr 86 w w0.heap.size P0_ u9000_ l0) (h : laws_markRelationS.f k l0 a1 = some (r1, r2)) :
  Calls Try.prog 53 #[u9000_, .int .i64 a1] w fun e w' => e = .returned (.int .i64 r1) ∧ Kd.S kpr 86 w' w0.heap.size (fun k_ => (P0_ k_ ∨ w.heap.size ≤ k_)) u9000_ r2 ∧ Below w0.heap.size w0 w' ∧ Kept w w' (fun k_ => P0_ k_) := by
 have HO0 := Aside0.mk (show Kd.S kpr 86 w w0.heap.size (fun k_ => (P0_ k_ ∨ w.heap.size ≤ k_)) u9000_ l0 from Kd.S_mono ho0 (fun k_ hk => (.inl hk)))
 have HK := Aside0.mk (Kept.refl w (fun k_ => P0_ k_))
 have HB := Aside0.mk hB
 clear hB ho0
 have H' : Aside0 (laws_markRelationS.l0 k l0 a1 0 = some (r1, r2)) := ⟨h⟩
 clear h
 go_enter Try.func53, Try.ntmps53
 go_wp2
 go_loopg [1, 5] k (fun kq v1 v5 w' => ∃ (x0_1 : List S86) (x1_1 : Int) (x5_1 : Int), v1 = .int .i64 x1_1 ∧ v5 = .int .i64 x5_1 ∧ Aside0 (laws_markRelationS.l0 kq x0_1 x1_1 x5_1 = some (r1, r2)) ∧ Aside0 (kq ≤ k) ∧ Aside0 (Kd.S kpr 86 w' w0.heap.size (fun k_ => (P0_ k_ ∨ w.heap.size ≤ k_)) u9000_ x0_1) ∧ Aside0 (Kept w w' (fun k_ => P0_ k_)) ∧ Aside0 (Below w0.heap.size w0 w'))
 case atStart => exact ⟨(l0), (a1), (0), rr, rr, H', ⟨Nat.le_refl _⟩, ⟨(by (with_reducible repeat (first | apply Kd.S_alloc | apply Kd.S_drewN | apply Kd.S_drew)); exact HO0.out)⟩, ⟨(by repeat (first | (with_reducible first | exact HK.out | apply Kept.alloc | apply Kept.drewN | apply Kept.drew) | exact HK.out))⟩, ⟨bw⟩⟩
 case round =>
  clear H' HO0
  obtain ⟨x0_1, x1_1, x5_1, rfl, rfl, HA, HK1, HO_0, HK, HB⟩ := hrel
  cases gk with
  | zero => exact absurd HA.out (by simp [laws_markRelationS.l0])
  | succ k1 =>
   have H := HA.out
   clear HA
   simp only [laws_markRelationS.l0] at H
   replace H := gi H; obtain ⟨c3b0, H⟩ | ⟨c3b0, H⟩ := H
   ·replace H := gd H; obtain ⟨c4b0, H⟩ := H
    replace H := ga H; obtain ⟨⟨t1, t2⟩, A5, H⟩ := H
    replace H := ga H; obtain ⟨⟨s1, s2⟩, A6, H⟩ := H
    have H' := Aside0.mk H
    clear H
    have p5 : 0 ≤ (x5_1 : Int) := of_decide_eq_true c4b0
    have q5 : (x5_1 : Int) < ((x0_1.length : Int) : Int) := of_decide_eq_true c3b0
    obtain ⟨go5, co5, eo5, gb5, gl5, _⟩ := Kd.S_form HO_0.out (by omega)
    subst eo5
    obtain ⟨oki, c5, hc5, hM5, hx5, hoki, hH5⟩ := Kd.S_lend HO_0.out z86 x5_1 p5 q5
    replace hM5 : kpr.M _ w0.heap.size oki (rd_T86 x0_1 x5_1) c5 := hM5
    obtain ⟨vi, vj, rfl, hRi, hRj, hap⟩ := kpr_openA hM5
    obtain ⟨Ai, ci, ei⟩ := Kd.R_slice hRi
    subst ei
    obtain ⟨Aj, cj, ej⟩ := Kd.R_slice hRj
    subst ej
    have hx5_0 := hx5 0 _ rfl
    rw [show x5_1.toNat * kpr.sz + 0 = x5_1.toNat * 2 from rfl] at hx5_0
    have HOI := am (show ∀ k_, some k_ = (.slice Ai (rd_T86 x0_1 x5_1).f0.length ci : Value).ownBlock → oki k_ from fun k_ h_ => hRi.1 k_ h_.symm)
    have HOJ := am (show ∀ k_, some k_ = (.slice Aj (rd_T86 x0_1 x5_1).f1.length cj : Value).ownBlock → oki k_ from fun k_ h_ => hRj.1 k_ h_.symm)
    have HPi := am (show Kd.R (Kd.int .i64) 3 _ w0.heap.size (fun k_ => some k_ = (.slice Ai (rd_T86 x0_1 x5_1).f0.length ci : Value).ownBlock) (.slice Ai (rd_T86 x0_1 x5_1).f0.length ci : Value) (rd_T86 x0_1 x5_1).f0 from Kd.R_tight rfl hRi)
    have HPj := am (show Kd.R (Kd.int .i64) 3 _ w0.heap.size (fun k_ => some k_ = (.slice Aj (rd_T86 x0_1 x5_1).f1.length cj : Value).ownBlock) (.slice Aj (rd_T86 x0_1 x5_1).f1.length cj : Value) (rd_T86 x0_1 x5_1).f1 from Kd.R_tight rfl hRj)
    have HAP := am hap
    have HH5 := am hH5
    have HKI := am hoki
    have HP_ := am p5
    have HQ_ := am q5
    clear hRi hRj hap hH5 hoki hc5 gb5 gl5 hx5 HO_0
    replace p5 := eq_true p5
    replace q5 := eq_true q5
    go_wp2_with (first | ((with_reducible refine gate_callee (f := 23) rfl ?_); refine gl (some 18) Try.func23 #[(.slice Ai (rd_T86 x0_1 x5_1).f0.length ci), .int .i64 x1_1] ?_; (with_reducible refine (laws_markIntS.calls k1 (fun k_ => some k_ = (.slice Ai (rd_T86 x0_1 x5_1).f0.length ci : Value).ownBlock) _ (rd_T86 x0_1 x5_1).f0 x1_1 t1 t2 w0 _ ?side1 ?side2 A5.out).mono ?_); (case side1 => exact bw); (case side2 => exact ro HPi.out); rintro e w8 ⟨rfl, hR8, hb8, hk8⟩; refine ⟨_, rfl, ?_⟩; have m0_ := am (Kd.R_tight rfl hR8); have m1_ := am (Kd.R_step (ok := fun k_ => some k_ = (.slice Aj (rd_T86 x0_1 x5_1).f1.length cj : Value).ownBlock) (v := (.slice Aj (rd_T86 x0_1 x5_1).f1.length cj : Value)) (xs := (rd_T86 x0_1 x5_1).f1) (d := Kd.int .i64) (e := 3) (base := w0.heap.size) (ro HPj.out) (fun k_ ho_ hlt_ => hk8.2 k_ hlt_ (fun hp_ => HAP.out k_ (Eq.symm hp_) (Eq.symm ho_)))); have m2_ := am (Kd.H_kept HH5.out hk8 (fun k_ _ hn_ hs_ => hn_ (HOI.out k_ hs_))); have m3_ := am (Kept.then_ (S := (fun k_ => P0_ k_)) (by repeat (first | (with_reducible first | exact HK.out | apply Kept.alloc | apply Kept.drewN | apply Kept.drew) | exact HK.out)) hk8 (fun k_ e_ => (HKI.out k_ (HOI.out k_ e_)).1)); have hx5_1 := (Kd.H_raw m2_.out HP_.out HQ_.out).choose_spec.2.2.2.2.1 1 _ rfl; rw [show x5_1.toNat * kpr.sz + 1 = x5_1.toNat * 2 + 1 from rfl] at hx5_1; clear HB HK HH5 HPi HPj hx5_0; have HB := am hb8; have HK := m3_; have HH5 := m2_; have HPi := m0_; have HPj := m1_; clear m0_ m1_ m2_ m3_ hb8 hR8 hk8) | ((with_reducible refine gate_callee (f := 23) rfl ?_); refine gl (some 25) Try.func23 #[(.slice Aj (rd_T86 x0_1 x5_1).f1.length cj), .int .i64 t1] ?_; (with_reducible refine (laws_markIntS.calls k1 (fun k_ => some k_ = (.slice Aj (rd_T86 x0_1 x5_1).f1.length cj : Value).ownBlock) _ (rd_T86 x0_1 x5_1).f1 t1 s1 s2 w0 _ ?side1 ?side2 A6.out).mono ?_); (case side1 => exact bw); (case side2 => exact ro HPj.out); rintro e w9 ⟨rfl, hR8, hb8, hk8⟩; refine ⟨_, rfl, ?_⟩; have m0_ := Kd.R_tight rfl hR8; have m1_ := Kd.R_step (ok := fun k_ => some k_ = (.slice Ai (rd_T86 x0_1 x5_1).f0.length ci : Value).ownBlock) (v := (.slice Ai (rd_T86 x0_1 x5_1).f0.length ci : Value)) (xs := t2) (d := Kd.int .i64) (e := 3) (base := w0.heap.size) (ro HPi.out) (fun k_ ho_ hlt_ => hk8.2 k_ hlt_ (fun hp_ => HAP.out k_ (Eq.symm ho_) (Eq.symm hp_))); have m2_ := Kd.H_kept HH5.out hk8 (fun k_ _ hn_ hs_ => hn_ (HOJ.out k_ hs_)); have m3_ := am (Kept.then_ (S := (fun k_ => P0_ k_)) (by repeat (first | (with_reducible first | exact HK.out | apply Kept.alloc | apply Kept.drewN | apply Kept.drew) | exact HK.out)) hk8 (fun k_ e_ => (HKI.out k_ (HOJ.out k_ e_)).1)); have HO8 := am (Kd.H_back m2_ (x' := (⟨t2, s2⟩ : S86)) (okp := fun k_ => some k_ = (.slice Ai (rd_T86 x0_1 x5_1).f0.length ci : Value).ownBlock ∨ some k_ = (.slice Aj (rd_T86 x0_1 x5_1).f1.length cj : Value).ownBlock) (kpr_mkM _ _ _ (⟨t2, s2⟩ : S86) (Kd.R_mono m1_ (fun _ h_ => Or.inl h_)) (Kd.R_mono m0_ (fun _ h_ => Or.inr h_)) HAP.out) (fun k_ h_ => h_.elim (HOI.out k_) (HOJ.out k_))); clear HB HK HH5 HPi HPj; have HB := am hb8; have HK := m3_; clear m0_ m1_ m2_ m3_ hb8 hR8 hk8))
    go_roundg k1
    case measure => have := HK1.out; omega
    case rel => exact ⟨(x0_1.set (x5_1 : Int).toNat ⟨t2, s2⟩), s1, (wrap64 (x5_1 + 1)), rr, rr, H', ⟨by have := HK1.out; omega⟩, ⟨(by (with_reducible repeat (first | apply Kd.S_alloc | apply Kd.S_drewN | apply Kd.S_drew)); exact HO8.out)⟩, ⟨(by repeat (first | (with_reducible first | exact HK.out | apply Kept.alloc | apply Kept.drewN | apply Kept.drew) | exact HK.out))⟩, ⟨bw⟩⟩
   ·simp only [Option.some.injEq, Prod.mk.injEq] at H
    obtain ⟨rfl, rfl⟩ := H
    obtain ⟨Ao9, co9, eo9⟩ := Kd.S_slice HO_0.out
    subst eo9
    go_wp2
    go_ret
    exact ⟨re, (by (with_reducible repeat (first | apply Kd.S_alloc | apply Kd.S_drewN | apply Kd.S_drew)); exact HO_0.out), bw, (by repeat (first | (with_reducible first | exact HK.out | apply Kept.alloc | apply Kept.drewN | apply Kept.drew) | exact HK.out))⟩


/-! ### laws_heldIntS: function 24 -/
def laws_heldIntS.l0 : Nat → List Int → Int → Int → Option (Int)
 | 0, _, _, _ => none
 | k + 1, x0, x1, x5 => if x5 < (x0.length : Int) then (if 0 ≤ x5 then (if (rd x0 x5) = x1 then (laws_heldIntS.l0 k x0 (wrap64 (x1 + 1)) (wrap64 (x5 + 1))) else (some (-1))) else (none)) else (some x1)
def laws_heldIntS.f (k : Nat) (l0 : List Int) (a1 : Int) : Option (Int) := laws_heldIntS.l0 k l0 a1 0
set_option maxHeartbeats 8000000 in
set_option maxRecDepth 100000 in
theorem laws_heldIntS.calls (k : Nat) (A0 : Option Addr) (c0 : Nat) (l0 : List Int) (a1 : Int) (r : Int) (w : World) (hr0 : Kd.C (Kd.int .i64) w A0 l0.length l0) (hc0 : l0.length ≤ c0) (h : laws_heldIntS.f k l0 a1 = some r) :
  Calls Try.prog 24 #[.slice A0 l0.length c0, .int .i64 a1] w fun e w' => e = .returned (.int .i64 r) ∧ Drawn0 w w' := by
 have HR0 := am hr0
 have HC0 := am hc0
 clear hr0 hc0
 have H : (laws_heldIntS.l0 k l0 a1 0) = some r := h
 clear h
 have H' := am H
 clear H
 go_enter Try.func24, Try.ntmps24
 go_wp2
 go_loopg [1, 5] k (fun kq v1 v5 w' => ∃ (x1_1 : Int) (x5_1 : Int), v1 = .int .i64 x1_1 ∧ v5 = .int .i64 x5_1 ∧ Aside0 (laws_heldIntS.l0 kq l0 x1_1 x5_1 = some r) ∧ Aside0 (kq ≤ k) ∧ Drawn0 w w')
 case atStart => exact ⟨(a1), (0), rr, rr, H', ⟨Nat.le_refl _⟩, dw⟩
 case round =>
  clear H'
  obtain ⟨x1_1, x5_1, rfl, rfl, HA, HK1, ⟨m1, rfl⟩⟩ := hrel
  cases gk with
  | zero => exact absurd HA.out (by simp [laws_heldIntS.l0])
  | succ k1 =>
   have H := HA.out
   clear HA
   simp only [laws_heldIntS.l0] at H
   replace H := gi H; obtain ⟨c3b0, H⟩ | ⟨c3b0, H⟩ := H
   ·replace H := gd H; obtain ⟨c4b0, H⟩ := H
    by_cases c5 : (rd l0 x5_1) = x1_1
    ·rw [if_pos c5] at H
     have c5b0 : ((rd l0 x5_1) == x1_1) = true := beq_iff_eq.mpr c5
     have c5b1 : ((rd l0 x5_1) != x1_1) = false := bne_eq_false_iff_eq.mpr c5
     clear c5
     have H' := am H
     clear H
     obtain ⟨⟨ad610, e610, hx610_0⟩, p610, q610⟩ := pq (Kd.at_int HR0.out x5_1)
     cases e610
     go_wp2
     go_roundg k1
     case measure => have := HK1.out; omega
     case rel => exact ⟨(wrap64 (x1_1 + 1)), (wrap64 (x5_1 + 1)), rr, rr, H', ⟨by have := HK1.out; omega⟩, dw⟩
    rw [if_neg c5] at H
    have c5b0 : ((rd l0 x5_1) == x1_1) = false := beq_eq_false_iff_ne.mpr c5
    have c5b1 : ((rd l0 x5_1) != x1_1) = true := bne_iff_ne.mpr c5
    obtain rfl := Option.some.inj H
    obtain ⟨⟨ad610, e610, hx610_0⟩, p610, q610⟩ := pq (Kd.at_int HR0.out x5_1)
    cases e610
    go_wp2
    go_ret
    exact ⟨rr, dw⟩
   obtain rfl := Option.some.inj H
   go_wp2
   go_ret
   exact ⟨rr, dw⟩


/-! ### laws_heldRelationS: function 54 -/
def laws_heldRelationS.l0 : Nat → List (S86) → Int → Int → Option (Int)
 | 0, _, _, _ => none
 | k + 1, x0, x1, x5 => if x5 < (x0.length : Int) then (if 0 ≤ x5 then ((laws_heldIntS.f k ((rd_T86 x0 x5).f0) x1).bind fun t612 => (if t612 < 0 then (some (-1)) else ((laws_heldIntS.f k ((rd_T86 x0 x5).f1) t612).bind fun t614 => (if t614 < 0 then (some (-1)) else (laws_heldRelationS.l0 k x0 t614 (wrap64 (x5 + 1))))))) else (none)) else (some x1)
def laws_heldRelationS.f (k : Nat) (l0 : List (S86)) (a1 : Int) : Option (Int) := laws_heldRelationS.l0 k l0 a1 0
set_option maxHeartbeats 8000000 in
set_option maxRecDepth 100000 in
theorem laws_heldRelationS.calls (k : Nat) (A0 : Option Addr) (c0 : Nat) (l0 : List (S86)) (a1 : Int) (r : Int) (w : World) (hr0 : Kd.C k86 w A0 l0.length l0) (hc0 : l0.length ≤ c0) (h : laws_heldRelationS.f k l0 a1 = some r) :
  Calls Try.prog 54 #[.slice A0 l0.length c0, .int .i64 a1] w fun e w' => e = .returned (.int .i64 r) ∧ Drawn0 w w' := by
 have HR0 := am hr0
 have HC0 := am hc0
 clear hr0 hc0
 have H : (laws_heldRelationS.l0 k l0 a1 0) = some r := h
 clear h
 have H' := am H
 clear H
 go_enter Try.func54, Try.ntmps54
 go_wp2
 go_loopg [1, 5] k (fun kq v1 v5 w' => ∃ (x1_1 : Int) (x5_1 : Int), v1 = .int .i64 x1_1 ∧ v5 = .int .i64 x5_1 ∧ Aside0 (laws_heldRelationS.l0 kq l0 x1_1 x5_1 = some r) ∧ Aside0 (kq ≤ k) ∧ Drawn0 w w')
 case atStart => exact ⟨(a1), (0), rr, rr, H', ⟨Nat.le_refl _⟩, dw⟩
 case round =>
  clear H'
  obtain ⟨x1_1, x5_1, rfl, rfl, HA, HK1, ⟨m1, rfl⟩⟩ := hrel
  cases gk with
  | zero => exact absurd HA.out (by simp [laws_heldRelationS.l0])
  | succ k1 =>
   have H := HA.out
   clear HA
   simp only [laws_heldRelationS.l0] at H
   replace H := gi H; obtain ⟨c3b0, H⟩ | ⟨c3b0, H⟩ := H
   ·replace H := gd H; obtain ⟨c4b0, H⟩ := H
    replace H := ga H; obtain ⟨t612, A5, H⟩ := H
    replace H := gi H; obtain ⟨c6b0, H⟩ | ⟨c6b0, H⟩ := H
    ·obtain rfl := Option.some.inj H
     have p611 : 0 ≤ (x5_1 : Int) := of_decide_eq_true (by first | (with_reducible assumption) | assumption)
     have q611 : x5_1 < (l0.length : Int) := of_decide_eq_true (by first | (with_reducible assumption) | assumption)
     obtain ⟨ad611, A611_0, c611_0, A611_1, c611_1, e611, hx611_0, hx611_1, hl611_0, hi611_0, hl611_1, hi611_1⟩ := at_T86 HR0.out x5_1 p611 q611
     cases e611
     have HR611_0 := am hi611_0
     have HC611_0 := am hl611_0
     clear hi611_0 hl611_0
     have HR611_1 := am hi611_1
     have HC611_1 := am hl611_1
     clear hi611_1 hl611_1
     replace p611 := eq_true p611
     replace q611 := eq_true q611
     go_wp2_with (first | ((with_reducible refine gate_callee (f := 24) rfl ?_); refine gl (some 18) Try.func24 #[.slice A611_0 ((rd_T86 l0 x5_1).f0).length c611_0, .int .i64 x1_1] ?_; (with_reducible refine (laws_heldIntS.calls k1 _ _ ((rd_T86 l0 x5_1).f0) x1_1 t612 _ ?side1 ?side2 A5.out).mono ?_); (case side1 => exact co HR611_0.out); (case side2 => exact HC611_0.out); rintro e w' ⟨rfl, ⟨nd, rfl⟩⟩; refine ⟨_, rfl, ?_⟩))
     go_ret
     exact ⟨rr, dw⟩
    replace H := ga H; obtain ⟨t614, A7, H⟩ := H
    replace H := gi H; obtain ⟨c8b0, H⟩ | ⟨c8b0, H⟩ := H
    ·obtain rfl := Option.some.inj H
     have p611 : 0 ≤ (x5_1 : Int) := of_decide_eq_true (by first | (with_reducible assumption) | assumption)
     have q611 : x5_1 < (l0.length : Int) := of_decide_eq_true (by first | (with_reducible assumption) | assumption)
     obtain ⟨ad611, A611_0, c611_0, A611_1, c611_1, e611, hx611_0, hx611_1, hl611_0, hi611_0, hl611_1, hi611_1⟩ := at_T86 HR0.out x5_1 p611 q611
     cases e611
     have HR611_0 := am hi611_0
     have HC611_0 := am hl611_0
     clear hi611_0 hl611_0
     have HR611_1 := am hi611_1
     have HC611_1 := am hl611_1
     clear hi611_1 hl611_1
     replace p611 := eq_true p611
     replace q611 := eq_true q611
     go_wp2_with (first | ((with_reducible refine gate_callee (f := 24) rfl ?_); refine gl (some 18) Try.func24 #[.slice A611_0 ((rd_T86 l0 x5_1).f0).length c611_0, .int .i64 x1_1] ?_; (with_reducible refine (laws_heldIntS.calls k1 _ _ ((rd_T86 l0 x5_1).f0) x1_1 t612 _ ?side1 ?side2 A5.out).mono ?_); (case side1 => exact co HR611_0.out); (case side2 => exact HC611_0.out); rintro e w' ⟨rfl, ⟨nd, rfl⟩⟩; refine ⟨_, rfl, ?_⟩; have p613 : 0 ≤ (x5_1 : Int) := of_decide_eq_true (by first | (with_reducible assumption) | assumption); have q613 : x5_1 < (l0.length : Int) := of_decide_eq_true (by first | (with_reducible assumption) | assumption); obtain ⟨ad613, A613_0, c613_0, A613_1, c613_1, e613, hx613_0, hx613_1, hl613_0, hi613_0, hl613_1, hi613_1⟩ := at_T86 HR0.out x5_1 p613 q613; obtain rfl : ad611 = ad613 := (by injection e613); have HR613_0 := am hi613_0; have HC613_0 := am hl613_0; clear hi613_0 hl613_0; have HR613_1 := am hi613_1; have HC613_1 := am hl613_1; clear hi613_1 hl613_1; replace p613 := eq_true p613; replace q613 := eq_true q613; have ea_ := Option.some.inj (hx611_0.symm.trans hx613_0); injection ea_ with ea_ en_ ec_; subst ea_; subst ec_; clear en_; have ea_ := Option.some.inj (hx611_1.symm.trans hx613_1); injection ea_ with ea_ en_ ec_; subst ea_; subst ec_; clear en_) | ((with_reducible refine gate_callee (f := 24) rfl ?_); refine gl (some 27) Try.func24 #[.slice A611_1 ((rd_T86 l0 x5_1).f1).length c611_1, .int .i64 t612] ?_; (with_reducible refine (laws_heldIntS.calls k1 _ _ ((rd_T86 l0 x5_1).f1) t612 t614 _ ?side1 ?side2 A7.out).mono ?_); (case side1 => exact co HR613_1.out); (case side2 => exact HC613_1.out); rintro e w' ⟨rfl, ⟨nd, rfl⟩⟩; refine ⟨_, rfl, ?_⟩))
     go_ret
     exact ⟨rr, dw⟩
    have H' := am H
    clear H
    have p611 : 0 ≤ (x5_1 : Int) := of_decide_eq_true (by first | (with_reducible assumption) | assumption)
    have q611 : x5_1 < (l0.length : Int) := of_decide_eq_true (by first | (with_reducible assumption) | assumption)
    obtain ⟨ad611, A611_0, c611_0, A611_1, c611_1, e611, hx611_0, hx611_1, hl611_0, hi611_0, hl611_1, hi611_1⟩ := at_T86 HR0.out x5_1 p611 q611
    cases e611
    have HR611_0 := am hi611_0
    have HC611_0 := am hl611_0
    clear hi611_0 hl611_0
    have HR611_1 := am hi611_1
    have HC611_1 := am hl611_1
    clear hi611_1 hl611_1
    replace p611 := eq_true p611
    replace q611 := eq_true q611
    go_wp2_with (first | ((with_reducible refine gate_callee (f := 24) rfl ?_); refine gl (some 18) Try.func24 #[.slice A611_0 ((rd_T86 l0 x5_1).f0).length c611_0, .int .i64 x1_1] ?_; (with_reducible refine (laws_heldIntS.calls k1 _ _ ((rd_T86 l0 x5_1).f0) x1_1 t612 _ ?side1 ?side2 A5.out).mono ?_); (case side1 => exact co HR611_0.out); (case side2 => exact HC611_0.out); rintro e w' ⟨rfl, ⟨nd, rfl⟩⟩; refine ⟨_, rfl, ?_⟩; have p613 : 0 ≤ (x5_1 : Int) := of_decide_eq_true (by first | (with_reducible assumption) | assumption); have q613 : x5_1 < (l0.length : Int) := of_decide_eq_true (by first | (with_reducible assumption) | assumption); obtain ⟨ad613, A613_0, c613_0, A613_1, c613_1, e613, hx613_0, hx613_1, hl613_0, hi613_0, hl613_1, hi613_1⟩ := at_T86 HR0.out x5_1 p613 q613; obtain rfl : ad611 = ad613 := (by injection e613); have HR613_0 := am hi613_0; have HC613_0 := am hl613_0; clear hi613_0 hl613_0; have HR613_1 := am hi613_1; have HC613_1 := am hl613_1; clear hi613_1 hl613_1; replace p613 := eq_true p613; replace q613 := eq_true q613; have ea_ := Option.some.inj (hx611_0.symm.trans hx613_0); injection ea_ with ea_ en_ ec_; subst ea_; subst ec_; clear en_; have ea_ := Option.some.inj (hx611_1.symm.trans hx613_1); injection ea_ with ea_ en_ ec_; subst ea_; subst ec_; clear en_) | ((with_reducible refine gate_callee (f := 24) rfl ?_); refine gl (some 27) Try.func24 #[.slice A611_1 ((rd_T86 l0 x5_1).f1).length c611_1, .int .i64 t612] ?_; (with_reducible refine (laws_heldIntS.calls k1 _ _ ((rd_T86 l0 x5_1).f1) t612 t614 _ ?side1 ?side2 A7.out).mono ?_); (case side1 => exact co HR613_1.out); (case side2 => exact HC613_1.out); rintro e w' ⟨rfl, ⟨nd, rfl⟩⟩; refine ⟨_, rfl, ?_⟩))
    go_roundg k1
    case measure => have := HK1.out; omega
    case rel => exact ⟨(t614), (wrap64 (x5_1 + 1)), rr, rr, H', ⟨by have := HK1.out; omega⟩, dw⟩
   obtain rfl := Option.some.inj H
   go_wp2
   go_ret
   exact ⟨rr, dw⟩

end Go.Proofs.Ytlfdipnhlmjiaaa.C
