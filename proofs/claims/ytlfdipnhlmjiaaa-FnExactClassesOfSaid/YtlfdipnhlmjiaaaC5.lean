/- Contracts of functions of the program: impl_IsSemigroup, laws_markIntS, laws_markSemigroup, laws_heldIntS. -/
import Derived.Test.YtlfdipnhlmjiaaaC0
import Derived.Test.YtlfdipnhlmjiaaaC3
import Derived.Test.YtlfdipnhlmjiaaaC4
namespace Go.Proofs.Ytlfdipnhlmjiaaa.C
open Go.RowKit Go.Proofs.YtlfdipnhlmjiaaaW.PrintWords Go.Proofs.YtlfdipnhlmjiaaaW.PrintLast Go.Proofs.YtlfdipnhlmjiaaaW.PrintMore
attribute [local go_sem] max2_int min2_int max_two min_two max_three min_three max_four min_four
set_option linter.unusedVariables false
set_option linter.unusedSimpArgs false

/-! ### impl_IsSemigroup: function 62 -/
mutual
def impl_IsSemigroup.j0 : Nat → List Int → Bool → Option (Bool)
 | 0, _, _ => none
 | k + 1, x3, x27 => if x27 = true then (some false) else (impl_IsSemigroup.l0 k x3 1)
def impl_IsSemigroup.l0 : Nat → List Int → Int → Option (Bool)
 | 0, _, _ => none
 | k + 1, x3, x4 => if x4 < (x3.length : Int) then (if 0 ≤ x4 then (if x4 ≤ (x3.length : Int) then ((impl_Generates.f k (x3.take (x4 : Int).toNat) (rd x3 x4)).bind fun t339 => (if t339 = true then (some false) else (impl_IsSemigroup.l0 k x3 (wrap64 (x4 + 1))))) else (none)) else (none)) else (if 0 < (x3.length : Int) then ((impl_leasts.f k x3 (rd x3 0)).bind fun t341 => (impl_IsSemigroup.l1 k x3 t341 (t341.length : Int) 0)) else (none))
def impl_IsSemigroup.l1 : Nat → List Int → List Int → Int → Int → Option (Bool)
 | 0, _, _, _, _ => none
 | k + 1, x3, x46, x47, x48 => if x48 < x47 then (if 0 ≤ x48 then (if x48 < (x46.length : Int) then (if 0 < (x3.length : Int) then (if (wrap64 ((rd x46 x48) - (rd x3 0))) ≥ 200 then (some false) else (impl_IsSemigroup.l1 k x3 x46 x47 (wrap64 (x48 + 1)))) else (none)) else (none)) else (none)) else (some true)
end
def impl_IsSemigroup.f (k : Nat) (l0_0 : List Int) : Option (Bool) := (impl_within.f (l0_0.length : Int) 1 12).bind fun t333 => (if t333 = true then ((impl_allWithin.f k l0_0 1 60).bind fun t334 => (if t334 = true then ((impl_IsAscending.f k l0_0).bind fun t335 => (if t335 = true then ((impl_GcdOfList.f k l0_0).bind fun t336 => (impl_IsSemigroup.j0 k l0_0 (t336 != 1))) else (impl_IsSemigroup.j0 k l0_0 true))) else (impl_IsSemigroup.j0 k l0_0 true))) else (impl_IsSemigroup.j0 k l0_0 true))
def impl_IsSemigroup.T7 : Bool × List (List Nat × List Nat) := (true, [([], []), ([], []), ([0, 1], [0, 1]), ([], []), ([], []), ([3, 4], [3, 4]), ([5], [5]), ([2, 6], [2, 6])])
def impl_IsSemigroup.B7 : List Nat := [0, 0, 3, 0, 0, 24, 56, 127]
theorem impl_IsSemigroup.tab7 : rtab .any (opsOf Try.f62 7) = impl_IsSemigroup.T7 := by kernel_rfl
theorem impl_IsSemigroup.bits7 : waitsOk impl_IsSemigroup.T7.2 impl_IsSemigroup.B7 = true := by kernel_rfl
set_option maxHeartbeats 8000000 in
set_option maxRecDepth 100000 in
theorem impl_IsSemigroup.calls (k : Nat) (A0_0 : Option Addr) (c0_0 : Nat) (l0_0 : List Int) (r : Bool) (w : World) (hr0_0 : Kd.C (Kd.int .i64) w A0_0 l0_0.length l0_0) (hc0_0 : l0_0.length ≤ c0_0) (h : impl_IsSemigroup.f k l0_0 = some r) :
  Calls Try.prog 62 #[.agg #[.slice A0_0 l0_0.length c0_0]] w fun e w' => e = .returned (.bool r) ∧ Below w.heap.size w w' := by
 have hu27 := Try.underlying27
 have HR0_0 := am hr0_0
 have HC0_0 := am hc0_0
 clear hr0_0 hc0_0
 have HB := am (Below.refl w.heap.size w)
 have H : ((impl_within.f (l0_0.length : Int) 1 12).bind fun t333 => (if t333 = true then ((impl_allWithin.f k l0_0 1 60).bind fun t334 => (if t334 = true then ((impl_IsAscending.f k l0_0).bind fun t335 => (if t335 = true then ((impl_GcdOfList.f k l0_0).bind fun t336 => (impl_IsSemigroup.j0 k l0_0 (t336 != 1))) else (impl_IsSemigroup.j0 k l0_0 true))) else (impl_IsSemigroup.j0 k l0_0 true))) else (impl_IsSemigroup.j0 k l0_0 true))) = some r := h
 clear h
 have HC2 := am H
 clear H
 go_enter Try.func62, Try.ntmps62
 go_upto_region 2 with (first | ((with_reducible refine gate_dst (N := 1) rfl ?_); refine bx 1 #[.slice A0_0 l0_0.length c0_0] 27 ?_; intro gb332 hg w3 hbox hb; have BK332 := am (hbox); have GW332 := am (gs hg : w.heap.size ≤ gb332); have GE332 := GW332; replace HB := am (below_step bw hb); clear hb hbox hg; have hcz4_0 := bc BK332 0 (.slice A0_0 l0_0.length c0_0); have hfz4_0 := blk_frozen BK332.out 0))
 (try simp only [Act.put, List.setIfInBounds_toArray, List.set_cons_zero, List.set_cons_succ])
 go_cut [27] (fun v27 wc => ∃ (kq : Nat) (x27_1 : Bool), v27 = .bool x27_1 ∧ Aside0 (impl_IsSemigroup.j0 kq l0_0 x27_1 = some r) ∧ Aside0 (kq ≤ k) ∧ Aside0 (wc.heap[gb332]? = some (.cells #[(.slice A0_0 l0_0.length c0_0)] 27 (0, 0))) ∧ Aside0 (Below w.heap.size w wc))
 case first =>
  have H := HC2.out
  clear HC2
  replace H := ga H; obtain ⟨t333, A5, H⟩ := H
  replace H := gb H; obtain ⟨rfl, H⟩ | ⟨rfl, H⟩ := H
  ·replace H := ga H; obtain ⟨t334, A7, H⟩ := H
   replace H := gb H; obtain ⟨rfl, H⟩ | ⟨rfl, H⟩ := H
   ·replace H := ga H; obtain ⟨t335, A9, H⟩ := H
    replace H := gb H; obtain ⟨rfl, H⟩ | ⟨rfl, H⟩ := H
    ·replace H := ga H; obtain ⟨t336, A11, H⟩ := H
     have H' := am H
     clear H
     go_wp2_with (first | ((with_reducible refine gate_callee (f := 63) rfl ?_); refine gl (some 11) Try.func63 #[.int .i64 (l0_0.length : Int), .int .i64 1, .int .i64 12] ?_; (with_reducible refine (impl_within.calls (l0_0.length : Int) 1 12 true _ A5.out).mono ?_); rintro e w' ⟨rfl, ⟨nd, rfl⟩⟩; refine ⟨_, rfl, ?_⟩) | (go_at_call 112; (with_reducible refine (impl_allWithin.calls k _ _ l0_0 1 60 true _ ?side1 ?side2 A7.out).mono ?_); (case side1 => exact co (Kd.C_below HR0_0.out bw)); (case side2 => exact HC0_0.out); rintro e w' ⟨rfl, ⟨nd, rfl⟩⟩) | (go_at_call 113; (with_reducible refine (impl_IsAscending.calls k _ _ l0_0 true _ ?side1 ?side2 A9.out).mono ?_); (case side1 => exact co (Kd.C_below HR0_0.out bw)); (case side2 => exact HC0_0.out); rintro e w' ⟨rfl, ⟨nd, rfl⟩⟩) | (go_at_call 114; (with_reducible refine (impl_GcdOfList.calls k _ _ l0_0 t336 _ ?side1 ?side2 A11.out).mono ?_); (case side1 => exact co (Kd.C_below HR0_0.out bw)); (case side2 => exact HC0_0.out); rintro e w12 ⟨rfl, hb⟩; replace BK332 := kb BK332 hb; replace HB := am (below_step bw hb); clear hb))
     go_meet
     case rel => exact ⟨_, ((t336 != 1)), rr, H', ⟨om⟩, ⟨bo BK332.out⟩, ⟨bw⟩⟩
    have H' := am H
    clear H
    go_wp2_with (first | ((with_reducible refine gate_callee (f := 63) rfl ?_); refine gl (some 11) Try.func63 #[.int .i64 (l0_0.length : Int), .int .i64 1, .int .i64 12] ?_; (with_reducible refine (impl_within.calls (l0_0.length : Int) 1 12 true _ A5.out).mono ?_); rintro e w' ⟨rfl, ⟨nd, rfl⟩⟩; refine ⟨_, rfl, ?_⟩) | (go_at_call 112; (with_reducible refine (impl_allWithin.calls k _ _ l0_0 1 60 true _ ?side1 ?side2 A7.out).mono ?_); (case side1 => exact co (Kd.C_below HR0_0.out bw)); (case side2 => exact HC0_0.out); rintro e w' ⟨rfl, ⟨nd, rfl⟩⟩) | (go_at_call 113; (with_reducible refine (impl_IsAscending.calls k _ _ l0_0 false _ ?side1 ?side2 A9.out).mono ?_); (case side1 => exact co (Kd.C_below HR0_0.out bw)); (case side2 => exact HC0_0.out); rintro e w' ⟨rfl, ⟨nd, rfl⟩⟩))
    go_meet
    case rel => exact ⟨_, (true), rr, H', ⟨om⟩, ⟨bo BK332.out⟩, ⟨bw⟩⟩
   have H' := am H
   clear H
   go_wp2_with (first | ((with_reducible refine gate_callee (f := 63) rfl ?_); refine gl (some 11) Try.func63 #[.int .i64 (l0_0.length : Int), .int .i64 1, .int .i64 12] ?_; (with_reducible refine (impl_within.calls (l0_0.length : Int) 1 12 true _ A5.out).mono ?_); rintro e w' ⟨rfl, ⟨nd, rfl⟩⟩; refine ⟨_, rfl, ?_⟩) | (go_at_call 112; (with_reducible refine (impl_allWithin.calls k _ _ l0_0 1 60 false _ ?side1 ?side2 A7.out).mono ?_); (case side1 => exact co (Kd.C_below HR0_0.out bw)); (case side2 => exact HC0_0.out); rintro e w' ⟨rfl, ⟨nd, rfl⟩⟩))
   go_meet
   case rel => exact ⟨_, (true), rr, H', ⟨om⟩, ⟨bo BK332.out⟩, ⟨bw⟩⟩
  have H' := am H
  clear H
  go_wp2_with (first | ((with_reducible refine gate_callee (f := 63) rfl ?_); refine gl (some 11) Try.func63 #[.int .i64 (l0_0.length : Int), .int .i64 1, .int .i64 12] ?_; (with_reducible refine (impl_within.calls (l0_0.length : Int) 1 12 false _ A5.out).mono ?_); rintro e w' ⟨rfl, ⟨nd, rfl⟩⟩; refine ⟨_, rfl, ?_⟩))
  go_meet
  case rel => exact ⟨_, (true), rr, H', ⟨om⟩, ⟨bo BK332.out⟩, ⟨bw⟩⟩
 case rest =>
  clear HC2
  try clear hcz4_0; try clear hfz4_0
  obtain ⟨kq, x27_1, rfl, HA, HJ1, BK332, HB⟩ := hcut
  cases kq with
  | zero => exact absurd HA.out (by simp [impl_IsSemigroup.j0])
  | succ kj1 =>
   have H := HA.out
   clear HA
   simp only [impl_IsSemigroup.j0] at H
   replace H := gb H; obtain ⟨rfl, H⟩ | ⟨rfl, H⟩ := H
   ·obtain rfl := Option.some.inj H
    go_wp2
    go_ret
    exact ⟨re, bw⟩
   have H' := am H
   clear H
   go_wp2
   go_loopg [4] kj1 (fun kq v4 w' => ∃ (x4_2 : Int), v4 = .int .i64 x4_2 ∧ Aside0 (impl_IsSemigroup.l0 kq l0_0 x4_2 = some r) ∧ Aside0 (kq ≤ kj1) ∧ Aside0 (w'.heap[gb332]? = some (.cells #[(.slice A0_0 l0_0.length c0_0)] 27 (0, 0))) ∧ Aside0 (Below w.heap.size w w'))
   case atStart => exact ⟨(1), rr, H', ⟨Nat.le_refl _⟩, ⟨bo BK332.out⟩, ⟨bw⟩⟩
   case round =>
    clear H'
    try clear hcz4_0; try clear hfz4_0
    obtain ⟨x4_2, rfl, HA, HK2, BK332, HB⟩ := hrel
    cases gk with
    | zero => exact absurd HA.out (by simp [impl_IsSemigroup.l0])
    | succ k2 =>
     have H := HA.out
     clear HA
     simp only [impl_IsSemigroup.l0] at H
     replace H := gi H; obtain ⟨c14b0, H⟩ | ⟨c14b0, H⟩ := H
     ·replace H := gp H; obtain ⟨c15, H⟩ := H
      have c15b0 := eq_true c15
      have c15b1 : decide (0 ≤ x4_2) = true := decide_eq_true c15
      clear c15
      replace H := gp H; obtain ⟨c16, H⟩ := H
      have c16b0 := eq_true c16
      have c16b1 : decide (x4_2 ≤ (l0_0.length : Int)) = true := decide_eq_true c16
      clear c16
      replace H := ga H; obtain ⟨t339, A17, H⟩ := H
      replace H := gb H; obtain ⟨rfl, H⟩ | ⟨rfl, H⟩ := H
      ·obtain rfl := Option.some.inj H
       try go_wp2
       replace BK332 := bd BK332
       replace HB := am (below_drew1 HB.out)
       obtain ⟨i020, hi020, _, hsz20, _⟩ := info_parts info3
       obtain ⟨hcut20, hA20, hC20⟩ := print_take_of (P := Try.prog) (Value.int .i64) 0 22 3 .i64 Try.underlying22 hi020 hsz20 A0_0 c0_0 l0_0 x4_2 (of_decide_eq_true (by first | (with_reducible assumption) | assumption)) (of_decide_eq_true (by first | (with_reducible assumption) | assumption)) HC0_0.out
       have HR337 := am (Kd.C_of_reads (h1 := fun _ => rfl) (hA20 _ (Kd.reads_of_C HR0_0.out)))
       have HC337 := am hC20
       clear hA20 hC20 hi020 hsz20
       obtain ⟨⟨ad338, e338, hx338_0⟩, p338, q338⟩ := pq (Kd.at_int HR0_0.out x4_2)
       have hw338_0 := hx338_0
       cases e338
       replace hx338_0 := hw HB hx338_0
       refine start_ (n := 8) (S := fun w' => w'.cell? (ad338.add (x4_2).toNat) = some (.int .i64 (rd l0_0 x4_2))) (ds := []) (yz 8 0) (by kernel_rfl) rfl rfl (((HB.out.cell (World.block_lt_of_cell? w _ hw338_0)).trans hw338_0)) (fun hHeld => ?_); refine with_tabW impl_IsSemigroup.tab7 impl_IsSemigroup.bits7 (fun HT_ HW_ => ?_)
       generalize wr.drew = w19 at BK332 HB HR337 hx338_0 hHeld ⊢
       refine pa 0 (some 34) (yz 8 1) HT_ ?_
       refine pa 1 (some 35) (yz 8 3) HT_ ?_
       refine pa 2 (some 36) (yz 8 7) HT_ ?_
       refine pa 3 (some 37) (yz 8 15) HT_ ?_
       refine pa 4 (some 38) (yz 8 31) HT_ ?_
       refine pa 5 (some 39) (yz 8 63) HT_ ?_
       refine tK 6 (some 40) (yz 8 127) HT_ HW_ hHeld ?_
       refine oa 7 (some 41) (yz 8 255) HT_ (fun K hK => ?_)
       refine goes_ Try.func115 (by kernel_rfl) rfl #[.slice (some ad338) (l0_0.take (x4_2 : Int).toNat).length c0_0, .int .i64 (rd l0_0 x4_2)] (by rfl) rfl rfl (by (try simp only [List.map_toArray, List.map_cons, List.map_nil]); first | done | (rw [show (l0_0.take (x4_2 : Int).toNat).length = x4_2.toNat from (by rw [List.length_take]; have h_ : (x4_2 : Int) ≤ (l0_0.length : Int) := of_decide_eq_true (by first | (with_reducible assumption) | assumption); omega)] <;> rfl) | rfl | (simp only [List.length_drop, List.length_take]; rfl)) ?_
       with_reducible refine (impl_Generates.calls k2 _ _ (l0_0.take (x4_2 : Int).toNat) (rd l0_0 x4_2) true _ ?side1 ?side2 A17.out).mono ?_
       (case side1 => exact co (Kd.C_below HR337.out HB.out))
       (case side2 => exact HC337.out)
       rintro e w21 ⟨rfl, hb⟩
       refine ⟨_, rfl, ?_⟩
       replace BK332 := kb BK332 hb
       replace HB := am (below_step bw hb)
       clear hb
       refine hK.out _ _ (((HB.out.cell (World.block_lt_of_cell? w _ hw338_0)).trans hw338_0)) (fun hHeld => ?_)
       clear hK K
       refine nm (some 41) ?_
       refine done_ (done_of HT_.out (by kernel_rfl)) ?_
       try go_wp2
       go_ret
       exact ⟨re, bw⟩
      have H' := am H
      clear H
      try go_wp2
      replace BK332 := bd BK332
      replace HB := am (below_drew1 HB.out)
      obtain ⟨i023, hi023, _, hsz23, _⟩ := info_parts info3
      obtain ⟨hcut23, hA23, hC23⟩ := print_take_of (P := Try.prog) (Value.int .i64) 0 22 3 .i64 Try.underlying22 hi023 hsz23 A0_0 c0_0 l0_0 x4_2 (of_decide_eq_true (by first | (with_reducible assumption) | assumption)) (of_decide_eq_true (by first | (with_reducible assumption) | assumption)) HC0_0.out
      have HR337 := am (Kd.C_of_reads (h1 := fun _ => rfl) (hA23 _ (Kd.reads_of_C HR0_0.out)))
      have HC337 := am hC23
      clear hA23 hC23 hi023 hsz23
      obtain ⟨⟨ad338, e338, hx338_0⟩, p338, q338⟩ := pq (Kd.at_int HR0_0.out x4_2)
      have hw338_0 := hx338_0
      cases e338
      replace hx338_0 := hw HB hx338_0
      refine start_ (n := 8) (S := fun w' => w'.cell? (ad338.add (x4_2).toNat) = some (.int .i64 (rd l0_0 x4_2))) (ds := []) (yz 8 0) (by kernel_rfl) rfl rfl (((HB.out.cell (World.block_lt_of_cell? w _ hw338_0)).trans hw338_0)) (fun hHeld => ?_); refine with_tabW impl_IsSemigroup.tab7 impl_IsSemigroup.bits7 (fun HT_ HW_ => ?_)
      generalize wr.drew = w22 at BK332 HB HR337 hx338_0 hHeld ⊢
      refine pa 0 (some 34) (yz 8 1) HT_ ?_
      refine pa 1 (some 35) (yz 8 3) HT_ ?_
      refine pa 2 (some 36) (yz 8 7) HT_ ?_
      refine pa 3 (some 37) (yz 8 15) HT_ ?_
      refine pa 4 (some 38) (yz 8 31) HT_ ?_
      refine pa 5 (some 39) (yz 8 63) HT_ ?_
      refine tK 6 (some 40) (yz 8 127) HT_ HW_ hHeld ?_
      refine oa 7 (some 41) (yz 8 255) HT_ (fun K hK => ?_)
      refine goes_ Try.func115 (by kernel_rfl) rfl #[.slice (some ad338) (l0_0.take (x4_2 : Int).toNat).length c0_0, .int .i64 (rd l0_0 x4_2)] (by rfl) rfl rfl (by (try simp only [List.map_toArray, List.map_cons, List.map_nil]); first | done | (rw [show (l0_0.take (x4_2 : Int).toNat).length = x4_2.toNat from (by rw [List.length_take]; have h_ : (x4_2 : Int) ≤ (l0_0.length : Int) := of_decide_eq_true (by first | (with_reducible assumption) | assumption); omega)] <;> rfl) | rfl | (simp only [List.length_drop, List.length_take]; rfl)) ?_
      with_reducible refine (impl_Generates.calls k2 _ _ (l0_0.take (x4_2 : Int).toNat) (rd l0_0 x4_2) false _ ?side1 ?side2 A17.out).mono ?_
      (case side1 => exact co (Kd.C_below HR337.out HB.out))
      (case side2 => exact HC337.out)
      rintro e w24 ⟨rfl, hb⟩
      refine ⟨_, rfl, ?_⟩
      replace BK332 := kb BK332 hb
      replace HB := am (below_step bw hb)
      clear hb
      refine hK.out _ _ (((HB.out.cell (World.block_lt_of_cell? w _ hw338_0)).trans hw338_0)) (fun hHeld => ?_)
      clear hK K
      refine nm (some 41) ?_
      refine done_ (done_of HT_.out (by kernel_rfl)) ?_
      try go_wp2
      go_roundg k2
      case measure => have := HJ1.out; have := HK2.out; omega
      case rel => exact ⟨(wrap64 (x4_2 + 1)), rr, H', ⟨by have := HJ1.out; have := HK2.out; omega⟩, ⟨bo BK332.out⟩, ⟨bw⟩⟩
     replace H := gp H; obtain ⟨c25, H⟩ := H
     have c25b0 : decide (0 < (l0_0.length : Int)) = true := decide_eq_true c25
     have c25b1 : decide (0 < l0_0.length) = true := decide_eq_true (by omega)
     clear c25
     replace H := ga H; obtain ⟨t341, A26, H⟩ := H
     have H' := am H
     clear H
     have p340 : 0 ≤ (0 : Int) := (by omega)
     have q340 : 0 < (l0_0.length : Int) := of_decide_eq_true (by first | (with_reducible assumption) | assumption)
     obtain ⟨ad340, e340, hx340_0⟩ := Kd.at_int HR0_0.out 0 p340 q340
     cases e340
     have qi340 : (0 < l0_0.length) = True := eq_true (by omega)
     (try rw [show ((0 : Int)).toNat = 0 from rfl] at hx340_0)
     (try rw [Addr.add_zero'] at hx340_0)
     replace hx340_0 := hw HB hx340_0
     replace p340 := eq_true p340
     replace q340 := eq_true q340
     go_wp2_with (first | ((with_reducible refine gate_callee (f := 116) rfl ?_); refine gl (some 46) Try.func116 #[.slice (some ad340) l0_0.length c0_0, .int .i64 (rd l0_0 0)] ?_; (with_reducible refine (impl_leasts.calls k2 _ _ l0_0 (rd l0_0 0) t341 _ ?side1 ?side2 A26.out).mono ?_); (case side1 => exact co (Kd.C_below HR0_0.out HB.out)); (case side2 => exact HC0_0.out); rintro e w27 ⟨v342, rfl, ho0, hb⟩; refine ⟨_, rfl, ?_⟩; have HO343 := am (Kd.R_lower ho0 (below_size bw)); replace BK332 := kb BK332 hb; replace HB := am (below_step bw hb); clear hb ho0; obtain ⟨Ao28, co28, eo28⟩ := Kd.R_slice HO343.out; subst eo28))
     go_loopg [48] k2 (fun kq v48 w' => ∃ (x48_3 : Int), v48 = .int .i64 x48_3 ∧ Aside0 (impl_IsSemigroup.l1 kq l0_0 t341 (t341.length : Int) x48_3 = some r) ∧ Aside0 (kq ≤ k2) ∧ Aside0 (Kd.R (Kd.int .i64) 3 w' w.heap.size (fun _ => True) (.slice Ao28 t341.length co28) t341) ∧ Aside0 (w'.heap[gb332]? = some (.cells #[(.slice (some ad340) l0_0.length c0_0)] 27 (0, 0))) ∧ Aside0 (Below w.heap.size w w'))
     case atStart => exact ⟨(0), rr, H', ⟨Nat.le_refl _⟩, ⟨ro HO343.out⟩, ⟨bo BK332.out⟩, ⟨bw⟩⟩
     case round =>
      clear H'
      try clear c14b0; try clear c15; try clear c15b0; try clear c15b1; try clear c16; try clear c16b0; try clear c16b1; try clear c25; try clear c25b0; try clear c25b1; try clear hcz4_0; try clear hfz4_0; try clear hx338_0; try clear hx340_0; try clear p338; try clear p340; try clear q338; try clear q340
      obtain ⟨x48_3, rfl, HA, HK3, HO_46, BK332, HB⟩ := hrel
      cases gk with
      | zero => exact absurd HA.out (by simp [impl_IsSemigroup.l1])
      | succ k3 =>
       have H := HA.out
       clear HA
       simp only [impl_IsSemigroup.l1] at H
       replace H := gi H; obtain ⟨c29b0, H⟩ | ⟨c29b0, H⟩ := H
       ·replace H := gd H; obtain ⟨c30b0, H⟩ := H
        replace H := gd H; obtain ⟨c31b0, H⟩ := H
        replace H := gp H; obtain ⟨c32, H⟩ := H
        have c32b0 : decide (0 < (l0_0.length : Int)) = true := decide_eq_true c32
        have c32b1 : decide (0 < l0_0.length) = true := decide_eq_true (by omega)
        clear c32
        replace H := gj H; obtain ⟨c33, H⟩ | ⟨c33, H⟩ := H
        ·have c33b0 : decide (200 ≤ (wrap64 ((rd t341 x48_3) - (rd l0_0 0)))) = true := decide_eq_true c33
         clear c33
         obtain rfl := Option.some.inj H
         obtain ⟨⟨ad344, e344, hx344_0⟩, p344, q344⟩ := pq (Kd.at_int (Kd.R_reads' HO_46.out).2.2 x48_3)
         cases e344
         have p345 : 0 ≤ (0 : Int) := (by omega)
         have q345 : 0 < (l0_0.length : Int) := of_decide_eq_true (by first | (with_reducible assumption) | assumption)
         obtain ⟨ad345, e345, hx345_0⟩ := Kd.at_int HR0_0.out 0 p345 q345
         obtain rfl : ad340 = ad345 := (by injection e345)
         have qi345 : (0 < l0_0.length) = True := eq_true (by omega)
         (try rw [show ((0 : Int)).toNat = 0 from rfl] at hx345_0)
         (try rw [Addr.add_zero'] at hx345_0)
         replace hx345_0 := hw HB hx345_0
         replace p345 := eq_true p345
         replace q345 := eq_true q345
         go_wp2
         go_ret
         exact ⟨re, bw⟩
        have c33b0 : decide (200 ≤ (wrap64 ((rd t341 x48_3) - (rd l0_0 0)))) = false := decide_eq_false c33
        clear c33
        have H' := am H
        clear H
        obtain ⟨⟨ad344, e344, hx344_0⟩, p344, q344⟩ := pq (Kd.at_int (Kd.R_reads' HO_46.out).2.2 x48_3)
        cases e344
        have p345 : 0 ≤ (0 : Int) := (by omega)
        have q345 : 0 < (l0_0.length : Int) := of_decide_eq_true (by first | (with_reducible assumption) | assumption)
        obtain ⟨ad345, e345, hx345_0⟩ := Kd.at_int HR0_0.out 0 p345 q345
        obtain rfl : ad340 = ad345 := (by injection e345)
        have qi345 : (0 < l0_0.length) = True := eq_true (by omega)
        (try rw [show ((0 : Int)).toNat = 0 from rfl] at hx345_0)
        (try rw [Addr.add_zero'] at hx345_0)
        replace hx345_0 := hw HB hx345_0
        replace p345 := eq_true p345
        replace q345 := eq_true q345
        go_wp2
        go_roundg k3
        case measure => have := HJ1.out; have := HK2.out; have := HK3.out; omega
        case rel => exact ⟨(wrap64 (x48_3 + 1)), rr, H', ⟨by have := HJ1.out; have := HK2.out; have := HK3.out; omega⟩, ⟨ro HO_46.out⟩, ⟨bo BK332.out⟩, ⟨bw⟩⟩
       obtain rfl := Option.some.inj H
       go_wp2
       go_ret
       exact ⟨re, bw⟩


/-! ### laws_markIntS: function 23 -/
def laws_markIntS.l0 : Nat → List Int → Int → Int → Option (Int × List Int)
 | 0, _, _, _ => none
 | k + 1, x0, x1, x5 => if x5 < (x0.length : Int) then (if 0 ≤ x5 then (laws_markIntS.l0 k (x0.set (x5 : Int).toNat x1) (wrap64 (x1 + 1)) (wrap64 (x5 + 1))) else (none)) else (some (x1, x0))
def laws_markIntS.f (k : Nat) (l0 : List Int) (a1 : Int) : Option (Int × List Int) := laws_markIntS.l0 k l0 a1 0
set_option maxHeartbeats 8000000 in
set_option maxRecDepth 100000 in
theorem laws_markIntS.calls (k : Nat) (P0_ : Nat → Prop) (u9000_ : Value) (l0 : List Int) (a1 : Int) (r1 : Int) (r2 : List Int) (w0 w : World) (hB : Below w0.heap.size w0 w) (ho0 : Kd.R (Kd.int .i64) 3 w w0.heap.size P0_ u9000_ l0) (h : laws_markIntS.f k l0 a1 = some (r1, r2)) :
  Calls Try.prog 23 #[u9000_, .int .i64 a1] w fun e w' => e = .returned (.int .i64 r1) ∧ Kd.R (Kd.int .i64) 3 w' w0.heap.size (fun k_ => (P0_ k_ ∨ w.heap.size ≤ k_)) u9000_ r2 ∧ Below w0.heap.size w0 w' ∧ Kept w w' (fun k_ => P0_ k_) := by
 have HO0 := am (show Kd.R (Kd.int .i64) 3 w w0.heap.size (fun k_ => (P0_ k_ ∨ w.heap.size ≤ k_)) u9000_ l0 from Kd.R_mono ho0 (fun k_ hk => (.inl hk)))
 have HK := am (Kept.refl w (fun k_ => P0_ k_))
 have HW0 := am hB.size
 have HB := am hB
 clear hB
 have H : (laws_markIntS.l0 k l0 a1 0) = some (r1, r2) := h
 clear h
 have H' := am H
 clear H
 go_enter Try.func23, Try.ntmps23
 go_wp2
 go_loopg [1, 5] k (fun kq v1 v5 w' => ∃ (x0_1 : List Int) (x1_1 : Int) (x5_1 : Int), v1 = .int .i64 x1_1 ∧ v5 = .int .i64 x5_1 ∧ Aside0 (laws_markIntS.l0 kq x0_1 x1_1 x5_1 = some (r1, r2)) ∧ Aside0 (kq ≤ k) ∧ Aside0 (Kd.R (Kd.int .i64) 3 w' w0.heap.size (fun k_ => (P0_ k_ ∨ w.heap.size ≤ k_)) u9000_ x0_1) ∧ Aside0 (Kept w w' (fun k_ => P0_ k_)) ∧ Aside0 (Below w0.heap.size w0 w'))
 case atStart => exact ⟨(l0), (a1), (0), rr, rr, H', ⟨Nat.le_refl _⟩, ⟨ro HO0.out⟩, ⟨by repeat (first | (with_reducible first | exact HK.out | apply Kept.alloc | apply Kept.drewN | apply Kept.drew) | exact HK.out)⟩, ⟨bw⟩⟩
 case round =>
  clear H'
  obtain ⟨x0_1, x1_1, x5_1, rfl, rfl, HA, HK1, HO_0, HK, HB⟩ := hrel
  cases gk with
  | zero => exact absurd HA.out (by simp [laws_markIntS.l0])
  | succ k1 =>
   have H := HA.out
   clear HA
   simp only [laws_markIntS.l0] at H
   replace H := gi H; obtain ⟨c3b0, H⟩ | ⟨c3b0, H⟩ := H
   ·replace H := gd H; obtain ⟨c4b0, H⟩ := H
    obtain ⟨y440, hy440⟩ : ∃ y_ : List Int, y_ = (x0_1.set (x5_1 : Int).toNat x1_1) := ⟨_, rfl⟩
    replace H : (laws_markIntS.l0 k1 y440 (wrap64 (x1_1 + 1)) (wrap64 (x5_1 + 1))) = some (r1, r2) := by first | (rw [hy440]; with_reducible first | exact H | exact bs H) | (with_reducible first | exact bs H | exact H) | (rw [hy440]; exact H) | exact H
    have Ny440 := am hy440
    clear hy440
    have H' := am H
    clear H
    obtain ⟨Ao6, co6, eo6⟩ := Kd.R_slice HO_0.out
    subst eo6
    have p5 : 0 ≤ (x5_1 : Int) := of_decide_eq_true (by first | (with_reducible assumption) | assumption)
    have q5 : (x5_1 : Int) < ((x0_1.length : Int) : Int) := of_decide_eq_true (by first | (with_reducible assumption) | assumption)
    obtain ⟨go5, co5, eo5, gb5, gl5, cl5, HG5⟩ := Kd.R_form HO_0.out (by omega)
    (first | cases eo5 | (injection eo5 with ea_ en_ ec_; (first | subst ea_ | (injection ea_ with ea_; subst ea_)); subst ec_; clear en_))
    have GB5 := am gb5
    have GG5 := am HG5
    clear gb5 gl5 HG5
    have HMgo5 := am (show (P0_ go5 ∨ w.heap.size ≤ go5) from (HO_0.out.1 _ rfl))
    obtain ⟨hx5_0, hf5_0⟩ := Kd.R_celln 0 HO_0.out (x5_1 : Int) p5 q5
    replace p5 := eq_true p5
    replace q5 := eq_true q5
    have HP7 := Kd.R_putg HO_0.out (x5_1 : Int) x1_1
    go_wp2_with (first | ((with_reducible refine gate_store (t := 3) (p := 15) rfl ?_); refine store_event (t := 3) (p := 15) (v := ?vo_w8) (w1 := (wr.setCell ⟨go5, (x5_1 : Int).toNat, none⟩ (.int .i64 x1_1))) ?hg ?ho ?hn ?hr ?_; (case ho => rfl); (case hg => rfl); (case hn => rfl); (case hr => first | (go_simp; done) | (go_simp; rfl)); intro w8 hw; have hg : wr.grownBy w8 (some go5) := (by rw [hw]; exact HP7.2); have hp_ : Kd.R (Kd.int .i64) 3 w8 w0.heap.size (fun k_ => (P0_ k_ ∨ w.heap.size ≤ k_)) (.slice (some ⟨go5, 0, none⟩) x0_1.length co6) y440 := (by rw [hw, Ny440.out]; exact HP7.1); clear HP7; replace HB := am ((by rw [hw]; exact below_set (HB.out) GB5.out : Below w0.heap.size w0 w8)); replace HK := am (Kept.of_grown (S := (fun k_ => P0_ k_)) hg (by repeat (first | (with_reducible first | exact HK.out | apply Kept.alloc | apply Kept.drewN | apply Kept.drew) | exact HK.out)) (fun k_ e_ => (HO_0.out.1 k_ e_))); replace HO_0 := am (hp_); clear hg hw hp_))
    go_roundg k1
    case measure => have := HK1.out; omega
    case rel => exact ⟨(y440), (wrap64 (x1_1 + 1)), (wrap64 (x5_1 + 1)), rr, rr, H', ⟨by have := HK1.out; omega⟩, ⟨ro HO_0.out⟩, ⟨by repeat (first | (with_reducible first | exact HK.out | apply Kept.alloc | apply Kept.drewN | apply Kept.drew) | exact HK.out)⟩, ⟨bw⟩⟩
   simp only [Option.some.injEq, Prod.mk.injEq] at H
   obtain ⟨rfl, rfl⟩ := H
   obtain ⟨Ao9, co9, eo9⟩ := Kd.R_slice HO_0.out
   subst eo9
   go_wp2
   go_ret
   exact ⟨re, ro HO_0.out, bw, by repeat (first | (with_reducible first | exact HK.out | apply Kept.alloc | apply Kept.drewN | apply Kept.drew) | exact HK.out)⟩


/-! ### laws_markSemigroup: function 22 -/
def laws_markSemigroup.f (k : Nat) (l0_0 : List Int) (a1 : Int) : Option (Int × List Int) := (laws_markIntS.f k l0_0 a1).bind fun bt442 => (some (bt442.1, bt442.2))
set_option maxHeartbeats 8000000 in
set_option maxRecDepth 100000 in
theorem laws_markSemigroup.calls (k : Nat) (P0_0_ : Nat → Prop) (u9000_ : Value) (l0_0 : List Int) (a1 : Int) (r1 : Int) (r2 : List Int) (w0 w : World) (hB : Below w0.heap.size w0 w) (ho0_0 : Kd.R (Kd.int .i64) 3 w w0.heap.size P0_0_ u9000_ l0_0) (h : laws_markSemigroup.f k l0_0 a1 = some (r1, r2)) :
  Calls Try.prog 22 #[.agg #[u9000_], .int .i64 a1] w fun e w' => e = .returned (.int .i64 r1) ∧ Kd.R (Kd.int .i64) 3 w' w0.heap.size (fun k_ => (P0_0_ k_ ∨ w.heap.size ≤ k_)) u9000_ r2 ∧ Below w0.heap.size w0 w' ∧ Kept w w' (fun k_ => P0_0_ k_) := by
 have hu27 := Try.underlying27
 have HO0_0 := am (show Kd.R (Kd.int .i64) 3 w w0.heap.size (fun k_ => (P0_0_ k_ ∨ w.heap.size ≤ k_)) u9000_ l0_0 from Kd.R_mono ho0_0 (fun k_ hk => (.inl hk)))
 have HK := am (Kept.refl w (fun k_ => P0_0_ k_))
 have HW0 := am hB.size
 have HB := am hB
 clear hB
 have H : ((laws_markIntS.f k l0_0 a1).bind fun bt442 => (some (bt442.1, bt442.2))) = some (r1, r2) := h
 clear h
 replace H := ga H; obtain ⟨⟨t442, t443⟩, A3, H⟩ := H
 replace H : (some (t442, t443)) = some (r1, r2) := H
 simp only [Option.some.injEq, Prod.mk.injEq] at H
 obtain ⟨rfl, rfl⟩ := H
 obtain ⟨Ao4, co4, eo4⟩ := Kd.R_slice HO0_0.out
 subst eo4
 go_enter Try.func22, Try.ntmps22
 go_wp2_with (first | ((with_reducible refine gate_dst (N := 2) rfl ?_); refine bx 2 #[.slice Ao4 l0_0.length co4] 27 ?_; intro gb441 hg w5 hbox hb; replace HO0_0 := rK HO0_0 hb; have BK441 := am (hbox); have GW441 := am ((by rw [hg]; exact (by first | exact HK.out.1 | exact (show Kept w _ (fun k_ => P0_0_ k_) from by repeat (first | (with_reducible first | exact HK.out | apply Kept.alloc | apply Kept.drewN | apply Kept.drew) | exact HK.out)).1) : w.heap.size ≤ gb441)); replace HK := am (Kept.below (S := (fun k_ => P0_0_ k_)) (by repeat (first | (with_reducible first | exact HK.out | apply Kept.alloc | apply Kept.drewN | apply Kept.drew) | exact HK.out)) hb); have GE441 := am ((by rw [hg]; exact (below_size bw) : w0.heap.size ≤ gb441)); replace HB := am (below_step bw hb); clear hb hbox hg; have hcz6_0 := bc BK441 0 (.slice Ao4 l0_0.length co4); have hfz6_0 := blk_frozen BK441.out 0) | ((with_reducible refine gate_callee (f := 23) rfl ?_); refine gl (some 8) Try.func23 #[.slice Ao4 l0_0.length co4, .int .i64 a1] ?_; (with_reducible refine (laws_markIntS.calls k (fun k_ => some k_ = (.slice Ao4 l0_0.length co4 : Value).ownBlock) (.slice Ao4 l0_0.length co4) l0_0 a1 t442 t443 w0 _ ?side1 ?side2 A3.out).mono ?_); (case side1 => exact bw); (case side2 => exact Kd.R_tight rfl HO0_0.out); rintro e w7 ⟨rfl, hy0, hb, hkp⟩; refine ⟨_, rfl, ?_⟩; replace BK441 := am (blk_kept (bo BK441.out) hkp (fun hs_ => (fun e_ => (Kd.R_ne HO0_0.out BK441.out (by decide)) e_) hs_)); replace HK := am (Kept.then_ (S := (fun k_ => P0_0_ k_)) (by repeat (first | (with_reducible first | exact HK.out | apply Kept.alloc | apply Kept.drewN | apply Kept.drew | refine Kept.setCell ?_ (.inr GW441.out) _) | exact HK.out)) hkp (fun k_ hs_ => (fun e_ => (HO0_0.out.1 k_ e_.symm)) hs_)); replace HO0_0 := am (Kd.R_reok rfl hy0 (fun k_ e_ => HO0_0.out.1 k_ e_)); replace HB := am (hb); clear hb hkp hy0))
 go_ret
 exact ⟨re, ro HO0_0.out, bw, by repeat (first | (with_reducible first | exact HK.out | apply Kept.alloc | apply Kept.drewN | apply Kept.drew | refine Kept.setCell ?_ (.inr GW441.out) _) | exact HK.out)⟩


/-! ### laws_heldIntS: function 24 -/
def laws_heldIntS.l0 : Nat → List Int → Int → Int → Option (Int)
 | 0, _, _, _ => none
 | k + 1, x0, x1, x5 => if x5 < (x0.length : Int) then (if 0 ≤ x5 then (if (rd x0 x5) = x1 then (laws_heldIntS.l0 k x0 (wrap64 (x1 + 1)) (wrap64 (x5 + 1))) else (some (-1))) else (none)) else (some x1)
def laws_heldIntS.f (k : Nat) (l0 : List Int) (a1 : Int) : Option (Int) := laws_heldIntS.l0 k l0 a1 0
set_option maxHeartbeats 8000000 in
set_option maxRecDepth 100000 in
theorem laws_heldIntS.calls (k : Nat) (A0 : Option Addr) (c0 : Nat) (l0 : List Int) (a1 : Int) (r : Int) (w : World) (hr0 : Kd.C (Kd.int .i64) w A0 l0.length l0) (hc0 : l0.length ≤ c0) (h : laws_heldIntS.f k l0 a1 = some r) :
  Calls Try.prog 24 #[.slice A0 l0.length c0, .int .i64 a1] w fun e w' => e = .returned (.int .i64 r) ∧ Drawn0 w w' := by
 have HR0 := am hr0
 have HC0 := am hc0
 clear hr0 hc0
 have H : (laws_heldIntS.l0 k l0 a1 0) = some r := h
 clear h
 have H' := am H
 clear H
 go_enter Try.func24, Try.ntmps24
 go_wp2
 go_loopg [1, 5] k (fun kq v1 v5 w' => ∃ (x1_1 : Int) (x5_1 : Int), v1 = .int .i64 x1_1 ∧ v5 = .int .i64 x5_1 ∧ Aside0 (laws_heldIntS.l0 kq l0 x1_1 x5_1 = some r) ∧ Aside0 (kq ≤ k) ∧ Drawn0 w w')
 case atStart => exact ⟨(a1), (0), rr, rr, H', ⟨Nat.le_refl _⟩, dw⟩
 case round =>
  clear H'
  obtain ⟨x1_1, x5_1, rfl, rfl, HA, HK1, ⟨m1, rfl⟩⟩ := hrel
  cases gk with
  | zero => exact absurd HA.out (by simp [laws_heldIntS.l0])
  | succ k1 =>
   have H := HA.out
   clear HA
   simp only [laws_heldIntS.l0] at H
   replace H := gi H; obtain ⟨c3b0, H⟩ | ⟨c3b0, H⟩ := H
   ·replace H := gd H; obtain ⟨c4b0, H⟩ := H
    by_cases c5 : (rd l0 x5_1) = x1_1
    ·rw [if_pos c5] at H
     have c5b0 : ((rd l0 x5_1) == x1_1) = true := beq_iff_eq.mpr c5
     have c5b1 : ((rd l0 x5_1) != x1_1) = false := bne_eq_false_iff_eq.mpr c5
     clear c5
     have H' := am H
     clear H
     obtain ⟨⟨ad444, e444, hx444_0⟩, p444, q444⟩ := pq (Kd.at_int HR0.out x5_1)
     cases e444
     go_wp2
     go_roundg k1
     case measure => have := HK1.out; omega
     case rel => exact ⟨(wrap64 (x1_1 + 1)), (wrap64 (x5_1 + 1)), rr, rr, H', ⟨by have := HK1.out; omega⟩, dw⟩
    rw [if_neg c5] at H
    have c5b0 : ((rd l0 x5_1) == x1_1) = false := beq_eq_false_iff_ne.mpr c5
    have c5b1 : ((rd l0 x5_1) != x1_1) = true := bne_iff_ne.mpr c5
    obtain rfl := Option.some.inj H
    obtain ⟨⟨ad444, e444, hx444_0⟩, p444, q444⟩ := pq (Kd.at_int HR0.out x5_1)
    cases e444
    go_wp2
    go_ret
    exact ⟨rr, dw⟩
   obtain rfl := Option.some.inj H
   go_wp2
   go_ret
   exact ⟨rr, dw⟩

end Go.Proofs.Ytlfdipnhlmjiaaa.C
