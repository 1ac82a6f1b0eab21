/- Contracts of functions of the program: laws_eqSemigroupS, laws_markSemigroupS, laws_heldIntS, laws_heldSemigroupS. -/
import Derived.Test.YtlfdipnhlmjiaaaC0
import Derived.Test.YtlfdipnhlmjiaaaC1
namespace Go.Proofs.Ytlfdipnhlmjiaaa.C
open Go.RowKit Go.Proofs.YtlfdipnhlmjiaaaW.PrintWords Go.Proofs.YtlfdipnhlmjiaaaW.PrintLast Go.Proofs.YtlfdipnhlmjiaaaW.PrintMore
attribute [local go_sem] max2_int min2_int max_two min_two max_three min_three max_four min_four
set_option linter.unusedVariables false
set_option linter.unusedSimpArgs false

/-! ### laws_eqSemigroupS: function 39 -/
def laws_eqSemigroupS.l0 : Nat → List (S27) → List (S27) → Int → Option (Bool)
 | 0, _, _, _ => none
 | k + 1, x0, x1, x5 => if x5 < (x0.length : Int) then (if 0 ≤ x5 then (if x5 < (x1.length : Int) then ((laws_eqSemigroup.f k ((rd_T27 x0 x5).f0) ((rd_T27 x1 x5).f0)).bind fun t476 => (if t476 = true then (laws_eqSemigroupS.l0 k x0 x1 (wrap64 (x5 + 1))) else (some false))) else (none)) else (none)) else (some true)
def laws_eqSemigroupS.f (k : Nat) (l0 : List (S27)) (l1 : List (S27)) : Option (Bool) := if (l0.length : Int) = (l1.length : Int) then (laws_eqSemigroupS.l0 k l0 l1 0) else (some false)
def laws_eqSemigroupS.T6 : Bool × List (List Nat × List Nat) := (true, [([], []), ([], []), ([0, 1], [0, 1]), ([2], [2]), ([], []), ([], []), ([4, 5], [4, 5]), ([6], [6]), ([3, 7], [3, 7]), ([8], [8])])
def laws_eqSemigroupS.B6 : List Nat := [0, 0, 3, 7, 0, 0, 48, 112, 255, 511]
theorem laws_eqSemigroupS.tab6 : rtab .any (opsOf Try.f39 6) = laws_eqSemigroupS.T6 := by kernel_rfl
theorem laws_eqSemigroupS.bits6 : waitsOk laws_eqSemigroupS.T6.2 laws_eqSemigroupS.B6 = true := by kernel_rfl
set_option maxHeartbeats 8000000 in
set_option maxRecDepth 100000 in
theorem laws_eqSemigroupS.calls (k : Nat) (A0 : Option Addr) (c0 : Nat) (l0 : List (S27)) (A1 : Option Addr) (c1 : Nat) (l1 : List (S27)) (r : Bool) (w : World) (hr0 : Kd.C k27 w A0 l0.length l0) (hc0 : l0.length ≤ c0) (hr1 : Kd.C k27 w A1 l1.length l1) (hc1 : l1.length ≤ c1) (h : laws_eqSemigroupS.f k l0 l1 = some r) :
  Calls Try.prog 39 #[.slice A0 l0.length c0, .slice A1 l1.length c1] w fun e w' => e = .returned (.bool r) ∧ Below w.heap.size w w' := by
 have hu27 := Try.underlying27
 have HR0 := am hr0
 have HC0 := am hc0
 clear hr0 hc0
 have HR1 := am hr1
 have HC1 := am hc1
 clear hr1 hc1
 have HB := am (Below.refl w.heap.size w)
 have H : (if (l0.length : Int) = (l1.length : Int) then (laws_eqSemigroupS.l0 k l0 l1 0) else (some false)) = some r := h
 clear h
 by_cases c3 : (l0.length : Int) = (l1.length : Int)
 ·rw [if_pos c3] at H
  have c3b0 : ((l0.length : Int) == (l1.length : Int)) = true := beq_iff_eq.mpr c3
  have c3b1 : ((l0.length : Int) != (l1.length : Int)) = false := bne_eq_false_iff_eq.mpr c3
  have c3b2 : (l0.length == l1.length) = true := by first | simpa using c3 | (simp at c3 ⊢; omega)
  clear c3
  have H' := am H
  clear H
  go_enter Try.func39, Try.ntmps39
  go_wp2
  go_loopg [5] k (fun kq v5 w' => ∃ (x5_1 : Int), v5 = .int .i64 x5_1 ∧ Aside0 (laws_eqSemigroupS.l0 kq l0 l1 x5_1 = some r) ∧ Aside0 (kq ≤ k) ∧ Aside0 (Below w.heap.size w w'))
  case atStart => exact ⟨(0), rr, H', ⟨Nat.le_refl _⟩, ⟨bw⟩⟩
  case round =>
   clear H'
   try clear c1; try clear c3; try clear c3b0; try clear c3b1; try clear c3b2
   obtain ⟨x5_1, rfl, HA, HK1, HB⟩ := hrel
   cases gk with
   | zero => exact absurd HA.out (by simp [laws_eqSemigroupS.l0])
   | succ k1 =>
    have H := HA.out
    clear HA
    simp only [laws_eqSemigroupS.l0] at H
    replace H := gi H; obtain ⟨c4b0, H⟩ | ⟨c4b0, H⟩ := H
    ·replace H := gd H; obtain ⟨c5b0, H⟩ := H
     replace H := gd H; obtain ⟨c6b0, H⟩ := H
     replace H := ga H; obtain ⟨t476, A7, H⟩ := H
     replace H := gb H; obtain ⟨rfl, H⟩ | ⟨rfl, H⟩ := H
     ·have H' := am H
      clear H
      try go_wp2
      replace HB := am (below_drew1 HB.out)
      have p474 : 0 ≤ (x5_1 : Int) := of_decide_eq_true (by first | (with_reducible assumption) | assumption)
      have q474 : x5_1 < (l0.length : Int) := of_decide_eq_true (by first | (with_reducible assumption) | assumption)
      obtain ⟨ad474, A474_0, c474_0, e474, hx474_0, hl474_0, hi474_0⟩ := at_T27 HR0.out x5_1 p474 q474
      have hw474_0 := hx474_0
      cases e474
      replace hx474_0 := hw HB hx474_0
      have HR474_0 := am hi474_0
      have HC474_0 := am hl474_0
      clear hi474_0 hl474_0
      replace p474 := eq_true p474
      replace q474 := eq_true q474
      have p475 : 0 ≤ (x5_1 : Int) := of_decide_eq_true (by first | (with_reducible assumption) | assumption)
      have q475 : x5_1 < (l1.length : Int) := of_decide_eq_true (by first | (with_reducible assumption) | assumption)
      obtain ⟨ad475, A475_0, c475_0, e475, hx475_0, hl475_0, hi475_0⟩ := at_T27 HR1.out x5_1 p475 q475
      have hw475_0 := hx475_0
      cases e475
      replace hx475_0 := hw HB hx475_0
      have HR475_0 := am hi475_0
      have HC475_0 := am hl475_0
      clear hi475_0 hl475_0
      replace p475 := eq_true p475
      replace q475 := eq_true q475
      refine start_ (n := 10) (S := fun w' => w'.cell? (ad474.add (x5_1).toNat) = some (.slice A474_0 ((rd_T27 l0 x5_1).f0).length c474_0) ∧ w'.cell? (ad475.add (x5_1).toNat) = some (.slice A475_0 ((rd_T27 l1 x5_1).f0).length c475_0)) (ds := []) (yz 10 0) (by kernel_rfl) rfl rfl ⟨((HB.out.cell (World.block_lt_of_cell? w _ hw474_0)).trans hw474_0), ((HB.out.cell (World.block_lt_of_cell? w _ hw475_0)).trans hw475_0)⟩ (fun hHeld => ?_); refine with_tabW laws_eqSemigroupS.tab6 laws_eqSemigroupS.bits6 (fun HT_ HW_ => ?_)
      generalize wr.drew = w9 at HB HR474_0 HR475_0 hx474_0 hx475_0 hHeld ⊢
      refine pa 0 (some 17) (yz 10 1) HT_ ?_
      refine pa 1 (some 18) (yz 10 3) HT_ ?_
      refine pa 2 (some 19) (yz 10 7) HT_ ?_
      refine pa 4 (some 21) (yz 10 23) HT_ ?_
      refine pa 5 (some 22) (yz 10 55) HT_ ?_
      refine pa 6 (some 23) (yz 10 119) HT_ ?_
      refine tk 3 (some 20) (yz 10 127) HT_ HW_ hHeld ?_
      refine tk 7 (some 24) (yz 10 255) HT_ HW_ hHeld ?_
      refine oa 8 (some 25) (yz 10 511) HT_ (fun K hK => ?_)
      refine gm Try.func18 #[.agg #[.slice A474_0 ((rd_T27 l0 x5_1).f0).length c474_0], .agg #[.slice A475_0 ((rd_T27 l1 x5_1).f0).length c475_0]] ?_
      with_reducible refine (laws_eqSemigroup.calls k1 _ _ ((rd_T27 l0 x5_1).f0) _ _ ((rd_T27 l1 x5_1).f0) true _ ?side1 ?side2 ?side3 ?side4 A7.out).mono ?_
      (case side1 => exact co (Kd.C_below HR474_0.out HB.out))
      (case side2 => exact HC474_0.out)
      (case side3 => exact co (Kd.C_below HR475_0.out HB.out))
      (case side4 => exact HC475_0.out)
      rintro e w10 ⟨rfl, hb⟩
      refine ⟨_, rfl, ?_⟩
      replace HB := am (below_step bw hb)
      clear hb
      refine hK.out _ _ ⟨((HB.out.cell (World.block_lt_of_cell? w _ hw474_0)).trans hw474_0), ((HB.out.cell (World.block_lt_of_cell? w _ hw475_0)).trans hw475_0)⟩ (fun hHeld => ?_)
      clear hK K
      refine nm (some 25) ?_
      refine pa 9 (some 26) (yz 10 1023) HT_ ?_
      refine done_ (done_of HT_.out (by kernel_rfl)) ?_
      try go_wp2
      go_roundg k1
      case measure => have := HK1.out; omega
      case rel => exact ⟨(wrap64 (x5_1 + 1)), rr, H', ⟨by have := HK1.out; omega⟩, ⟨bw⟩⟩
     obtain rfl := Option.some.inj H
     try go_wp2
     replace HB := am (below_drew1 HB.out)
     have p474 : 0 ≤ (x5_1 : Int) := of_decide_eq_true (by first | (with_reducible assumption) | assumption)
     have q474 : x5_1 < (l0.length : Int) := of_decide_eq_true (by first | (with_reducible assumption) | assumption)
     obtain ⟨ad474, A474_0, c474_0, e474, hx474_0, hl474_0, hi474_0⟩ := at_T27 HR0.out x5_1 p474 q474
     have hw474_0 := hx474_0
     cases e474
     replace hx474_0 := hw HB hx474_0
     have HR474_0 := am hi474_0
     have HC474_0 := am hl474_0
     clear hi474_0 hl474_0
     replace p474 := eq_true p474
     replace q474 := eq_true q474
     have p475 : 0 ≤ (x5_1 : Int) := of_decide_eq_true (by first | (with_reducible assumption) | assumption)
     have q475 : x5_1 < (l1.length : Int) := of_decide_eq_true (by first | (with_reducible assumption) | assumption)
     obtain ⟨ad475, A475_0, c475_0, e475, hx475_0, hl475_0, hi475_0⟩ := at_T27 HR1.out x5_1 p475 q475
     have hw475_0 := hx475_0
     cases e475
     replace hx475_0 := hw HB hx475_0
     have HR475_0 := am hi475_0
     have HC475_0 := am hl475_0
     clear hi475_0 hl475_0
     replace p475 := eq_true p475
     replace q475 := eq_true q475
     refine start_ (n := 10) (S := fun w' => w'.cell? (ad474.add (x5_1).toNat) = some (.slice A474_0 ((rd_T27 l0 x5_1).f0).length c474_0) ∧ w'.cell? (ad475.add (x5_1).toNat) = some (.slice A475_0 ((rd_T27 l1 x5_1).f0).length c475_0)) (ds := []) (yz 10 0) (by kernel_rfl) rfl rfl ⟨((HB.out.cell (World.block_lt_of_cell? w _ hw474_0)).trans hw474_0), ((HB.out.cell (World.block_lt_of_cell? w _ hw475_0)).trans hw475_0)⟩ (fun hHeld => ?_); refine with_tabW laws_eqSemigroupS.tab6 laws_eqSemigroupS.bits6 (fun HT_ HW_ => ?_)
     generalize wr.drew = w11 at HB HR474_0 HR475_0 hx474_0 hx475_0 hHeld ⊢
     refine pa 0 (some 17) (yz 10 1) HT_ ?_
     refine pa 1 (some 18) (yz 10 3) HT_ ?_
     refine pa 2 (some 19) (yz 10 7) HT_ ?_
     refine pa 4 (some 21) (yz 10 23) HT_ ?_
     refine pa 5 (some 22) (yz 10 55) HT_ ?_
     refine pa 6 (some 23) (yz 10 119) HT_ ?_
     refine tk 3 (some 20) (yz 10 127) HT_ HW_ hHeld ?_
     refine tk 7 (some 24) (yz 10 255) HT_ HW_ hHeld ?_
     refine oa 8 (some 25) (yz 10 511) HT_ (fun K hK => ?_)
     refine gm Try.func18 #[.agg #[.slice A474_0 ((rd_T27 l0 x5_1).f0).length c474_0], .agg #[.slice A475_0 ((rd_T27 l1 x5_1).f0).length c475_0]] ?_
     with_reducible refine (laws_eqSemigroup.calls k1 _ _ ((rd_T27 l0 x5_1).f0) _ _ ((rd_T27 l1 x5_1).f0) false _ ?side1 ?side2 ?side3 ?side4 A7.out).mono ?_
     (case side1 => exact co (Kd.C_below HR474_0.out HB.out))
     (case side2 => exact HC474_0.out)
     (case side3 => exact co (Kd.C_below HR475_0.out HB.out))
     (case side4 => exact HC475_0.out)
     rintro e w12 ⟨rfl, hb⟩
     refine ⟨_, rfl, ?_⟩
     replace HB := am (below_step bw hb)
     clear hb
     refine hK.out _ _ ⟨((HB.out.cell (World.block_lt_of_cell? w _ hw474_0)).trans hw474_0), ((HB.out.cell (World.block_lt_of_cell? w _ hw475_0)).trans hw475_0)⟩ (fun hHeld => ?_)
     clear hK K
     refine nm (some 25) ?_
     refine pa 9 (some 26) (yz 10 1023) HT_ ?_
     refine done_ (done_of HT_.out (by kernel_rfl)) ?_
     try go_wp2
     go_ret
     exact ⟨re, bw⟩
    obtain rfl := Option.some.inj H
    go_wp2
    go_ret
    exact ⟨re, bw⟩
 rw [if_neg c3] at H
 have c3b0 : ((l0.length : Int) == (l1.length : Int)) = false := beq_eq_false_iff_ne.mpr c3
 have c3b1 : ((l0.length : Int) != (l1.length : Int)) = true := bne_iff_ne.mpr c3
 have c3b2 : (l0.length == l1.length) = false := by first | simpa using c3 | (simp at c3 ⊢; omega)
 obtain rfl := Option.some.inj H
 go_enter Try.func39, Try.ntmps39
 go_wp2
 go_ret
 exact ⟨re, bw⟩


/-! ### laws_markSemigroupS: function 40 -/
def laws_markSemigroupS.l0 : Nat → List S27 → Int → Int → Option (Int × List S27)
 | 0, _, _, _ => none
 | k + 1, x0, x1, x5 => if x5 < (x0.length : Int) then (if 0 ≤ x5 then ((laws_markIntS.f k (rd_T27 x0 x5).f0 x1).bind fun t => laws_markSemigroupS.l0 k (x0.set (x5 : Int).toNat ⟨t.2⟩) t.1 (wrap64 (x5 + 1))) else none) else some (x1, x0)
def laws_markSemigroupS.f (k : Nat) (l0 : List S27) (a1 : Int) : Option (Int × List S27) := laws_markSemigroupS.l0 k l0 a1 0
set_option maxHeartbeats 8000000 in
set_option maxRecDepth 100000 in
theorem laws_markSemigroupS.calls (k : Nat) (P0_ : Nat → Prop) (u9000_ : Value) (l0 : List S27) (a1 : Int) (r1 : Int) (r2 : List S27) (w0 w : World) (hB : Below w0.heap.size w0 w) (ho0 : Kd.S k27 27 w w0.heap.size P0_ u9000_ l0) (h : laws_markSemigroupS.f k l0 a1 = some (r1, r2)) :
  Calls Try.prog 40 #[u9000_, .int .i64 a1] w fun e w' => e = .returned (.int .i64 r1) ∧ Kd.S k27 27 w' w0.heap.size (fun k_ => (P0_ k_ ∨ w.heap.size ≤ k_)) u9000_ r2 ∧ Below w0.heap.size w0 w' ∧ Kept w w' (fun k_ => P0_ k_) := by
 have HO0 := Aside0.mk (show Kd.S k27 27 w w0.heap.size (fun k_ => (P0_ k_ ∨ w.heap.size ≤ k_)) u9000_ l0 from Kd.S_mono ho0 (fun k_ hk => (.inl hk)))
 have HK := Aside0.mk (Kept.refl w (fun k_ => P0_ k_))
 have HB := Aside0.mk hB
 clear hB ho0
 have H' : Aside0 (laws_markSemigroupS.l0 k l0 a1 0 = some (r1, r2)) := ⟨h⟩
 clear h
 go_enter Try.func40, Try.ntmps40
 go_wp2
 go_loopg [1, 5] k (fun kq v1 v5 w' => ∃ (x0_1 : List S27) (x1_1 : Int) (x5_1 : Int), v1 = .int .i64 x1_1 ∧ v5 = .int .i64 x5_1 ∧ Aside0 (laws_markSemigroupS.l0 kq x0_1 x1_1 x5_1 = some (r1, r2)) ∧ Aside0 (kq ≤ k) ∧ Aside0 (Kd.S k27 27 w' w0.heap.size (fun k_ => (P0_ k_ ∨ w.heap.size ≤ k_)) u9000_ x0_1) ∧ Aside0 (Kept w w' (fun k_ => P0_ k_)) ∧ Aside0 (Below w0.heap.size w0 w'))
 case atStart => exact ⟨(l0), (a1), (0), rr, rr, H', ⟨Nat.le_refl _⟩, ⟨(by (with_reducible repeat (first | apply Kd.S_alloc | apply Kd.S_drewN | apply Kd.S_drew)); exact HO0.out)⟩, ⟨(by repeat (first | (with_reducible first | exact HK.out | apply Kept.alloc | apply Kept.drewN | apply Kept.drew) | exact HK.out))⟩, ⟨bw⟩⟩
 case round =>
  clear H' HO0
  obtain ⟨x0_1, x1_1, x5_1, rfl, rfl, HA, HK1, HO_0, HK, HB⟩ := hrel
  cases gk with
  | zero => exact absurd HA.out (by simp [laws_markSemigroupS.l0])
  | succ k1 =>
   have H := HA.out
   clear HA
   simp only [laws_markSemigroupS.l0] at H
   replace H := gi H; obtain ⟨c3b0, H⟩ | ⟨c3b0, H⟩ := H
   ·replace H := gd H; obtain ⟨c4b0, H⟩ := H
    replace H := ga H; obtain ⟨⟨t1, t2⟩, A5, H⟩ := H
    have H' := Aside0.mk H
    clear H
    have p5 : 0 ≤ (x5_1 : Int) := of_decide_eq_true c4b0
    have q5 : (x5_1 : Int) < ((x0_1.length : Int) : Int) := of_decide_eq_true c3b0
    obtain ⟨go5, co5, eo5, gb5, gl5, _⟩ := Kd.S_form HO_0.out (by omega)
    subst eo5
    obtain ⟨oki, c5, hc5, hM5, hx5, hoki, hH5⟩ := Kd.S_lend HO_0.out z27 x5_1 p5 q5
    replace hM5 : k27.M _ w0.heap.size oki (rd_T27 x0_1 x5_1) c5 := hM5
    obtain ⟨vi, rfl, hRi⟩ := k27_openM hM5
    obtain ⟨Ai, ci, ei⟩ := Kd.R_slice hRi
    subst ei
    replace hx5 := hx5 0 _ rfl
    rw [show x5_1.toNat * k27.sz + 0 = x5_1.toNat from Nat.mul_one _] at hx5
    have HRi := Aside0.mk hRi
    have HH5 := Aside0.mk hH5
    have HKI := Aside0.mk hoki
    clear hRi hH5 hoki hc5 gb5 gl5
    replace p5 := eq_true p5
    replace q5 := eq_true q5
    go_wp2_with (first | ((with_reducible refine gate_callee (f := 23) rfl ?_); refine gl (some 18) Try.func23 #[.slice Ai (rd_T27 x0_1 x5_1).f0.length ci, .int .i64 x1_1] ?_; (with_reducible refine (laws_markIntS.calls k1 oki _ (rd_T27 x0_1 x5_1).f0 x1_1 t1 t2 w0 _ ?side1 ?side2 A5.out).mono ?_); (case side1 => exact bw); (case side2 => exact ro HRi.out); rintro e w8 ⟨rfl, hR8, hb8, hk8⟩; refine ⟨_, rfl, ?_⟩; have HK8 := Aside0.mk (Kept.then_ (S := (fun k_ => P0_ k_)) (by repeat (first | (with_reducible first | exact HK.out | apply Kept.alloc | apply Kept.drewN | apply Kept.drew) | exact HK.out)) hk8 (fun k_ e_ => (HKI.out k_ e_).1)); have HO8 := Aside0.mk (Kd.H_back (Kd.H_kept (Kd.H_widen HH5.out) hk8 (fun k_ _ hn_ hs_ => hn_ (.inl hs_))) (x' := (⟨t2⟩ : S27)) (okp := fun k_ => oki k_ ∨ wr.heap.size ≤ k_) (k27_mkM _ _ _ (⟨t2⟩ : S27) hR8) (fun k_ h_ => Or.elim h_ (fun h1_ => Or.inl h1_) (fun h1_ => Or.inr ⟨Or.inr (Nat.le_trans HK.out.1 h1_), h1_⟩))); clear HB; have HB := Aside0.mk hb8; clear HK HO_0 HH5 HRi hb8 hR8 hk8; have HK := HK8; clear HK8))
    go_roundg k1
    case measure => have := HK1.out; omega
    case rel => exact ⟨(x0_1.set (x5_1 : Int).toNat ⟨t2⟩), t1, (wrap64 (x5_1 + 1)), rr, rr, H', ⟨by have := HK1.out; omega⟩, ⟨(by (with_reducible repeat (first | apply Kd.S_alloc | apply Kd.S_drewN | apply Kd.S_drew)); exact HO8.out)⟩, ⟨(by repeat (first | (with_reducible first | exact HK.out | apply Kept.alloc | apply Kept.drewN | apply Kept.drew) | exact HK.out))⟩, ⟨bw⟩⟩
   ·simp only [Option.some.injEq, Prod.mk.injEq] at H
    obtain ⟨rfl, rfl⟩ := H
    obtain ⟨Ao9, co9, eo9⟩ := Kd.S_slice HO_0.out
    subst eo9
    go_wp2
    go_ret
    exact ⟨re, (by (with_reducible repeat (first | apply Kd.S_alloc | apply Kd.S_drewN | apply Kd.S_drew)); exact HO_0.out), bw, (by repeat (first | (with_reducible first | exact HK.out | apply Kept.alloc | apply Kept.drewN | apply Kept.drew) | exact HK.out))⟩


/-! ### laws_heldIntS: function 24 -/
def laws_heldIntS.l0 : Nat → List Int → Int → Int → Option (Int)
 | 0, _, _, _ => none
 | k + 1, x0, x1, x5 => if x5 < (x0.length : Int) then (if 0 ≤ x5 then (if (rd x0 x5) = x1 then (laws_heldIntS.l0 k x0 (wrap64 (x1 + 1)) (wrap64 (x5 + 1))) else (some (-1))) else (none)) else (some x1)
def laws_heldIntS.f (k : Nat) (l0 : List Int) (a1 : Int) : Option (Int) := laws_heldIntS.l0 k l0 a1 0
set_option maxHeartbeats 8000000 in
set_option maxRecDepth 100000 in
theorem laws_heldIntS.calls (k : Nat) (A0 : Option Addr) (c0 : Nat) (l0 : List Int) (a1 : Int) (r : Int) (w : World) (hr0 : Kd.C (Kd.int .i64) w A0 l0.length l0) (hc0 : l0.length ≤ c0) (h : laws_heldIntS.f k l0 a1 = some r) :
  Calls Try.prog 24 #[.slice A0 l0.length c0, .int .i64 a1] w fun e w' => e = .returned (.int .i64 r) ∧ Drawn0 w w' := by
 have HR0 := am hr0
 have HC0 := am hc0
 clear hr0 hc0
 have H : (laws_heldIntS.l0 k l0 a1 0) = some r := h
 clear h
 have H' := am H
 clear H
 go_enter Try.func24, Try.ntmps24
 go_wp2
 go_loopg [1, 5] k (fun kq v1 v5 w' => ∃ (x1_1 : Int) (x5_1 : Int), v1 = .int .i64 x1_1 ∧ v5 = .int .i64 x5_1 ∧ Aside0 (laws_heldIntS.l0 kq l0 x1_1 x5_1 = some r) ∧ Aside0 (kq ≤ k) ∧ Drawn0 w w')
 case atStart => exact ⟨(a1), (0), rr, rr, H', ⟨Nat.le_refl _⟩, dw⟩
 case round =>
  clear H'
  obtain ⟨x1_1, x5_1, rfl, rfl, HA, HK1, ⟨m1, rfl⟩⟩ := hrel
  cases gk with
  | zero => exact absurd HA.out (by simp [laws_heldIntS.l0])
  | succ k1 =>
   have H := HA.out
   clear HA
   simp only [laws_heldIntS.l0] at H
   replace H := gi H; obtain ⟨c3b0, H⟩ | ⟨c3b0, H⟩ := H
   ·replace H := gd H; obtain ⟨c4b0, H⟩ := H
    by_cases c5 : (rd l0 x5_1) = x1_1
    ·rw [if_pos c5] at H
     have c5b0 : ((rd l0 x5_1) == x1_1) = true := beq_iff_eq.mpr c5
     have c5b1 : ((rd l0 x5_1) != x1_1) = false := bne_eq_false_iff_eq.mpr c5
     clear c5
     have H' := am H
     clear H
     obtain ⟨⟨ad477, e477, hx477_0⟩, p477, q477⟩ := pq (Kd.at_int HR0.out x5_1)
     cases e477
     go_wp2
     go_roundg k1
     case measure => have := HK1.out; omega
     case rel => exact ⟨(wrap64 (x1_1 + 1)), (wrap64 (x5_1 + 1)), rr, rr, H', ⟨by have := HK1.out; omega⟩, dw⟩
    rw [if_neg c5] at H
    have c5b0 : ((rd l0 x5_1) == x1_1) = false := beq_eq_false_iff_ne.mpr c5
    have c5b1 : ((rd l0 x5_1) != x1_1) = true := bne_iff_ne.mpr c5
    obtain rfl := Option.some.inj H
    obtain ⟨⟨ad477, e477, hx477_0⟩, p477, q477⟩ := pq (Kd.at_int HR0.out x5_1)
    cases e477
    go_wp2
    go_ret
    exact ⟨rr, dw⟩
   obtain rfl := Option.some.inj H
   go_wp2
   go_ret
   exact ⟨rr, dw⟩


/-! ### laws_heldSemigroupS: function 41 -/
def laws_heldSemigroupS.l0 : Nat → List (S27) → Int → Int → Option (Int)
 | 0, _, _, _ => none
 | k + 1, x0, x1, x5 => if x5 < (x0.length : Int) then (if 0 ≤ x5 then ((laws_heldIntS.f k ((rd_T27 x0 x5).f0) x1).bind fun t479 => (if t479 < 0 then (some (-1)) else (laws_heldSemigroupS.l0 k x0 t479 (wrap64 (x5 + 1))))) else (none)) else (some x1)
def laws_heldSemigroupS.f (k : Nat) (l0 : List (S27)) (a1 : Int) : Option (Int) := laws_heldSemigroupS.l0 k l0 a1 0
set_option maxHeartbeats 8000000 in
set_option maxRecDepth 100000 in
theorem laws_heldSemigroupS.calls (k : Nat) (A0 : Option Addr) (c0 : Nat) (l0 : List (S27)) (a1 : Int) (r : Int) (w : World) (hr0 : Kd.C k27 w A0 l0.length l0) (hc0 : l0.length ≤ c0) (h : laws_heldSemigroupS.f k l0 a1 = some r) :
  Calls Try.prog 41 #[.slice A0 l0.length c0, .int .i64 a1] w fun e w' => e = .returned (.int .i64 r) ∧ Drawn0 w w' := by
 have HR0 := am hr0
 have HC0 := am hc0
 clear hr0 hc0
 have H : (laws_heldSemigroupS.l0 k l0 a1 0) = some r := h
 clear h
 have H' := am H
 clear H
 go_enter Try.func41, Try.ntmps41
 go_wp2
 go_loopg [1, 5] k (fun kq v1 v5 w' => ∃ (x1_1 : Int) (x5_1 : Int), v1 = .int .i64 x1_1 ∧ v5 = .int .i64 x5_1 ∧ Aside0 (laws_heldSemigroupS.l0 kq l0 x1_1 x5_1 = some r) ∧ Aside0 (kq ≤ k) ∧ Drawn0 w w')
 case atStart => exact ⟨(a1), (0), rr, rr, H', ⟨Nat.le_refl _⟩, dw⟩
 case round =>
  clear H'
  obtain ⟨x1_1, x5_1, rfl, rfl, HA, HK1, ⟨m1, rfl⟩⟩ := hrel
  cases gk with
  | zero => exact absurd HA.out (by simp [laws_heldSemigroupS.l0])
  | succ k1 =>
   have H := HA.out
   clear HA
   simp only [laws_heldSemigroupS.l0] at H
   replace H := gi H; obtain ⟨c3b0, H⟩ | ⟨c3b0, H⟩ := H
   ·replace H := gd H; obtain ⟨c4b0, H⟩ := H
    replace H := ga H; obtain ⟨t479, A5, H⟩ := H
    replace H := gi H; obtain ⟨c6b0, H⟩ | ⟨c6b0, H⟩ := H
    ·obtain rfl := Option.some.inj H
     obtain ⟨⟨ad478, A478_0, c478_0, e478, hx478_0, hl478_0, hi478_0⟩, p478, q478⟩ := pq (at_T27 HR0.out x5_1)
     cases e478
     have HR478_0 := am hi478_0
     have HC478_0 := am hl478_0
     clear hi478_0 hl478_0
     go_wp2_with (first | ((with_reducible refine gate_callee (f := 24) rfl ?_); refine gl (some 18) Try.func24 #[.slice A478_0 ((rd_T27 l0 x5_1).f0).length c478_0, .int .i64 x1_1] ?_; (with_reducible refine (laws_heldIntS.calls k1 _ _ ((rd_T27 l0 x5_1).f0) x1_1 t479 _ ?side1 ?side2 A5.out).mono ?_); (case side1 => exact co HR478_0.out); (case side2 => exact HC478_0.out); rintro e w' ⟨rfl, ⟨nd, rfl⟩⟩; refine ⟨_, rfl, ?_⟩))
     go_ret
     exact ⟨rr, dw⟩
    have H' := am H
    clear H
    obtain ⟨⟨ad478, A478_0, c478_0, e478, hx478_0, hl478_0, hi478_0⟩, p478, q478⟩ := pq (at_T27 HR0.out x5_1)
    cases e478
    have HR478_0 := am hi478_0
    have HC478_0 := am hl478_0
    clear hi478_0 hl478_0
    go_wp2_with (first | ((with_reducible refine gate_callee (f := 24) rfl ?_); refine gl (some 18) Try.func24 #[.slice A478_0 ((rd_T27 l0 x5_1).f0).length c478_0, .int .i64 x1_1] ?_; (with_reducible refine (laws_heldIntS.calls k1 _ _ ((rd_T27 l0 x5_1).f0) x1_1 t479 _ ?side1 ?side2 A5.out).mono ?_); (case side1 => exact co HR478_0.out); (case side2 => exact HC478_0.out); rintro e w' ⟨rfl, ⟨nd, rfl⟩⟩; refine ⟨_, rfl, ?_⟩))
    go_roundg k1
    case measure => have := HK1.out; omega
    case rel => exact ⟨(t479), (wrap64 (x5_1 + 1)), rr, rr, H', ⟨by have := HK1.out; omega⟩, dw⟩
   obtain rfl := Option.some.inj H
   go_wp2
   go_ret
   exact ⟨rr, dw⟩

end Go.Proofs.Ytlfdipnhlmjiaaa.C
