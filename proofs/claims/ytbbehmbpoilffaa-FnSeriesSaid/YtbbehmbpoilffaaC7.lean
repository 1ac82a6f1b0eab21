/- Contracts of functions of the program: impl_IsSemigroup, impl_table, impl_Gaps, impl_FrobeniusOf, impl_ConductorOf, impl_NumeratorOf. -/
import Derived.Test.YtbbehmbpoilffaaC0
import Derived.Test.YtbbehmbpoilffaaC6
namespace Go.Proofs.Ytbbehmbpoilffaa.C
open Go.RowKit Go.Proofs.YtbbehmbpoilffaaW.PrintWords Go.Proofs.YtbbehmbpoilffaaW.PrintLast Go.Proofs.YtbbehmbpoilffaaW.PrintMore
attribute [local go_sem] max2_int min2_int max_two min_two max_three min_three max_four min_four
set_option linter.unusedVariables false
set_option linter.unusedSimpArgs false

/-! ### impl_IsSemigroup: function 65 -/
mutual
def impl_IsSemigroup.j0 : Nat → List Int → Bool → Option (Bool)
 | 0, _, _ => none
 | k + 1, x3, x27 => if x27 = true then (some false) else (impl_IsSemigroup.l0 k x3 1)
def impl_IsSemigroup.l0 : Nat → List Int → Int → Option (Bool)
 | 0, _, _ => none
 | k + 1, x3, x4 => if x4 < (x3.length : Int) then (if 0 ≤ x4 then (if x4 ≤ (x3.length : Int) then ((impl_Generates.f k (x3.take (x4 : Int).toNat) (rd x3 x4)).bind fun t392 => (if t392 = true then (some false) else (impl_IsSemigroup.l0 k x3 (wrap64 (x4 + 1))))) else (none)) else (none)) else (if 0 < (x3.length : Int) then ((impl_leasts.f k x3 (rd x3 0)).bind fun t394 => (impl_IsSemigroup.l1 k x3 t394 (t394.length : Int) 0)) else (none))
def impl_IsSemigroup.l1 : Nat → List Int → List Int → Int → Int → Option (Bool)
 | 0, _, _, _, _ => none
 | k + 1, x3, x46, x47, x48 => if x48 < x47 then (if 0 ≤ x48 then (if x48 < (x46.length : Int) then (if 0 < (x3.length : Int) then (if (wrap64 ((rd x46 x48) - (rd x3 0))) ≥ 200 then (some false) else (impl_IsSemigroup.l1 k x3 x46 x47 (wrap64 (x48 + 1)))) else (none)) else (none)) else (none)) else (some true)
end
def impl_IsSemigroup.f (k : Nat) (l0_0 : List Int) : Option (Bool) := (impl_within.f (l0_0.length : Int) 1 12).bind fun t386 => (if t386 = true then ((impl_allWithin.f k l0_0 1 60).bind fun t387 => (if t387 = true then ((impl_IsAscending.f k l0_0).bind fun t388 => (if t388 = true then ((impl_GcdOfList.f k l0_0).bind fun t389 => (impl_IsSemigroup.j0 k l0_0 (t389 != 1))) else (impl_IsSemigroup.j0 k l0_0 true))) else (impl_IsSemigroup.j0 k l0_0 true))) else (impl_IsSemigroup.j0 k l0_0 true))
def impl_IsSemigroup.T7 : Bool × List (List Nat × List Nat) := (true, [([], []), ([], []), ([0, 1], [0, 1]), ([], []), ([], []), ([3, 4], [3, 4]), ([5], [5]), ([2, 6], [2, 6])])
def impl_IsSemigroup.B7 : List Nat := [0, 0, 3, 0, 0, 24, 56, 127]
theorem impl_IsSemigroup.tab7 : rtab .any (opsOf Try.f65 7) = impl_IsSemigroup.T7 := by kernel_rfl
theorem impl_IsSemigroup.bits7 : waitsOk impl_IsSemigroup.T7.2 impl_IsSemigroup.B7 = true := by kernel_rfl
set_option maxHeartbeats 8000000 in
set_option maxRecDepth 100000 in
theorem impl_IsSemigroup.calls (k : Nat) (A0_0 : Option Addr) (c0_0 : Nat) (l0_0 : List Int) (r : Bool) (w : World) (hr0_0 : Kd.C (Kd.int .i64) w A0_0 l0_0.length l0_0) (hc0_0 : l0_0.length ≤ c0_0) (h : impl_IsSemigroup.f k l0_0 = some r) :
  Calls Try.prog 65 #[.agg #[.slice A0_0 l0_0.length c0_0]] w fun e w' => e = .returned (.bool r) ∧ Below w.heap.size w w' := by
 have hu26 := Try.underlying26
 have HR0_0 := am hr0_0
 have HC0_0 := am hc0_0
 clear hr0_0 hc0_0
 have HB := am (Below.refl w.heap.size w)
 have H : ((impl_within.f (l0_0.length : Int) 1 12).bind fun t386 => (if t386 = true then ((impl_allWithin.f k l0_0 1 60).bind fun t387 => (if t387 = true then ((impl_IsAscending.f k l0_0).bind fun t388 => (if t388 = true then ((impl_GcdOfList.f k l0_0).bind fun t389 => (impl_IsSemigroup.j0 k l0_0 (t389 != 1))) else (impl_IsSemigroup.j0 k l0_0 true))) else (impl_IsSemigroup.j0 k l0_0 true))) else (impl_IsSemigroup.j0 k l0_0 true))) = some r := h
 clear h
 have HC2 := am H
 clear H
 go_enter Try.func65, Try.ntmps65
 go_upto_region 2 with (first | ((with_reducible refine gate_dst (N := 1) rfl ?_); refine bx 1 #[.slice A0_0 l0_0.length c0_0] 26 ?_; intro gb385 hg w3 hbox hb; have BK385 := am (hbox); have GW385 := am (gs hg : w.heap.size ≤ gb385); have GE385 := GW385; replace HB := am (below_step bw hb); clear hb hbox hg; have hcz4_0 := bc BK385 0 (.slice A0_0 l0_0.length c0_0); have hfz4_0 := blk_frozen BK385.out 0))
 (try simp only [Act.put, List.setIfInBounds_toArray, List.set_cons_zero, List.set_cons_succ])
 go_cut [27] (fun v27 wc => ∃ (kq : Nat) (x27_1 : Bool), v27 = .bool x27_1 ∧ Aside0 (impl_IsSemigroup.j0 kq l0_0 x27_1 = some r) ∧ Aside0 (kq ≤ k) ∧ Aside0 (wc.heap[gb385]? = some (.cells #[(.slice A0_0 l0_0.length c0_0)] 26 (0, 0))) ∧ Aside0 (Below w.heap.size w wc))
 case first =>
  have H := HC2.out
  clear HC2
  replace H := ga H; obtain ⟨t386, A5, H⟩ := H
  replace H := gb H; obtain ⟨rfl, H⟩ | ⟨rfl, H⟩ := H
  ·replace H := ga H; obtain ⟨t387, A7, H⟩ := H
   replace H := gb H; obtain ⟨rfl, H⟩ | ⟨rfl, H⟩ := H
   ·replace H := ga H; obtain ⟨t388, A9, H⟩ := H
    replace H := gb H; obtain ⟨rfl, H⟩ | ⟨rfl, H⟩ := H
    ·replace H := ga H; obtain ⟨t389, A11, H⟩ := H
     have H' := am H
     clear H
     go_wp2_with (first | ((with_reducible refine gate_callee (f := 80) rfl ?_); refine gl (some 11) Try.func80 #[.int .i64 (l0_0.length : Int), .int .i64 1, .int .i64 12] ?_; (with_reducible refine (impl_within.calls (l0_0.length : Int) 1 12 true _ A5.out).mono ?_); rintro e w' ⟨rfl, ⟨nd, rfl⟩⟩; refine ⟨_, rfl, ?_⟩) | (go_at_call 107; (with_reducible refine (impl_allWithin.calls k _ _ l0_0 1 60 true _ ?side1 ?side2 A7.out).mono ?_); (case side1 => exact co (Kd.C_below HR0_0.out bw)); (case side2 => exact HC0_0.out); rintro e w' ⟨rfl, ⟨nd, rfl⟩⟩) | (go_at_call 118; (with_reducible refine (impl_IsAscending.calls k _ _ l0_0 true _ ?side1 ?side2 A9.out).mono ?_); (case side1 => exact co (Kd.C_below HR0_0.out bw)); (case side2 => exact HC0_0.out); rintro e w' ⟨rfl, ⟨nd, rfl⟩⟩) | (go_at_call 119; (with_reducible refine (impl_GcdOfList.calls k _ _ l0_0 t389 _ ?side1 ?side2 A11.out).mono ?_); (case side1 => exact co (Kd.C_below HR0_0.out bw)); (case side2 => exact HC0_0.out); rintro e w12 ⟨rfl, hb⟩; replace BK385 := kb BK385 hb; replace HB := am (below_step bw hb); clear hb))
     go_meet
     case rel => exact ⟨_, ((t389 != 1)), rr, H', ⟨om⟩, ⟨bo BK385.out⟩, ⟨bw⟩⟩
    have H' := am H
    clear H
    go_wp2_with (first | ((with_reducible refine gate_callee (f := 80) rfl ?_); refine gl (some 11) Try.func80 #[.int .i64 (l0_0.length : Int), .int .i64 1, .int .i64 12] ?_; (with_reducible refine (impl_within.calls (l0_0.length : Int) 1 12 true _ A5.out).mono ?_); rintro e w' ⟨rfl, ⟨nd, rfl⟩⟩; refine ⟨_, rfl, ?_⟩) | (go_at_call 107; (with_reducible refine (impl_allWithin.calls k _ _ l0_0 1 60 true _ ?side1 ?side2 A7.out).mono ?_); (case side1 => exact co (Kd.C_below HR0_0.out bw)); (case side2 => exact HC0_0.out); rintro e w' ⟨rfl, ⟨nd, rfl⟩⟩) | (go_at_call 118; (with_reducible refine (impl_IsAscending.calls k _ _ l0_0 false _ ?side1 ?side2 A9.out).mono ?_); (case side1 => exact co (Kd.C_below HR0_0.out bw)); (case side2 => exact HC0_0.out); rintro e w' ⟨rfl, ⟨nd, rfl⟩⟩))
    go_meet
    case rel => exact ⟨_, (true), rr, H', ⟨om⟩, ⟨bo BK385.out⟩, ⟨bw⟩⟩
   have H' := am H
   clear H
   go_wp2_with (first | ((with_reducible refine gate_callee (f := 80) rfl ?_); refine gl (some 11) Try.func80 #[.int .i64 (l0_0.length : Int), .int .i64 1, .int .i64 12] ?_; (with_reducible refine (impl_within.calls (l0_0.length : Int) 1 12 true _ A5.out).mono ?_); rintro e w' ⟨rfl, ⟨nd, rfl⟩⟩; refine ⟨_, rfl, ?_⟩) | (go_at_call 107; (with_reducible refine (impl_allWithin.calls k _ _ l0_0 1 60 false _ ?side1 ?side2 A7.out).mono ?_); (case side1 => exact co (Kd.C_below HR0_0.out bw)); (case side2 => exact HC0_0.out); rintro e w' ⟨rfl, ⟨nd, rfl⟩⟩))
   go_meet
   case rel => exact ⟨_, (true), rr, H', ⟨om⟩, ⟨bo BK385.out⟩, ⟨bw⟩⟩
  have H' := am H
  clear H
  go_wp2_with (first | ((with_reducible refine gate_callee (f := 80) rfl ?_); refine gl (some 11) Try.func80 #[.int .i64 (l0_0.length : Int), .int .i64 1, .int .i64 12] ?_; (with_reducible refine (impl_within.calls (l0_0.length : Int) 1 12 false _ A5.out).mono ?_); rintro e w' ⟨rfl, ⟨nd, rfl⟩⟩; refine ⟨_, rfl, ?_⟩))
  go_meet
  case rel => exact ⟨_, (true), rr, H', ⟨om⟩, ⟨bo BK385.out⟩, ⟨bw⟩⟩
 case rest =>
  clear HC2
  try clear hcz4_0; try clear hfz4_0
  obtain ⟨kq, x27_1, rfl, HA, HJ1, BK385, HB⟩ := hcut
  cases kq with
  | zero => exact absurd HA.out (by simp [impl_IsSemigroup.j0])
  | succ kj1 =>
   have H := HA.out
   clear HA
   simp only [impl_IsSemigroup.j0] at H
   replace H := gb H; obtain ⟨rfl, H⟩ | ⟨rfl, H⟩ := H
   ·obtain rfl := Option.some.inj H
    go_wp2
    go_ret
    exact ⟨re, bw⟩
   have H' := am H
   clear H
   go_wp2
   go_loopg [4] kj1 (fun kq v4 w' => ∃ (x4_2 : Int), v4 = .int .i64 x4_2 ∧ Aside0 (impl_IsSemigroup.l0 kq l0_0 x4_2 = some r) ∧ Aside0 (kq ≤ kj1) ∧ Aside0 (w'.heap[gb385]? = some (.cells #[(.slice A0_0 l0_0.length c0_0)] 26 (0, 0))) ∧ Aside0 (Below w.heap.size w w'))
   case atStart => exact ⟨(1), rr, H', ⟨Nat.le_refl _⟩, ⟨bo BK385.out⟩, ⟨bw⟩⟩
   case round =>
    clear H'
    try clear hcz4_0; try clear hfz4_0
    obtain ⟨x4_2, rfl, HA, HK2, BK385, HB⟩ := hrel
    cases gk with
    | zero => exact absurd HA.out (by simp [impl_IsSemigroup.l0])
    | succ k2 =>
     have H := HA.out
     clear HA
     simp only [impl_IsSemigroup.l0] at H
     replace H := gi H; obtain ⟨c14b0, H⟩ | ⟨c14b0, H⟩ := H
     ·replace H := gp H; obtain ⟨c15, H⟩ := H
      have c15b0 := eq_true c15
      have c15b1 : decide (0 ≤ x4_2) = true := decide_eq_true c15
      clear c15
      replace H := gp H; obtain ⟨c16, H⟩ := H
      have c16b0 := eq_true c16
      have c16b1 : decide (x4_2 ≤ (l0_0.length : Int)) = true := decide_eq_true c16
      clear c16
      replace H := ga H; obtain ⟨t392, A17, H⟩ := H
      replace H := gb H; obtain ⟨rfl, H⟩ | ⟨rfl, H⟩ := H
      ·obtain rfl := Option.some.inj H
       try go_wp2
       replace BK385 := bd BK385
       replace HB := am (below_drew1 HB.out)
       obtain ⟨i020, hi020, _, hsz20, _⟩ := info_parts info3
       obtain ⟨hcut20, hA20, hC20⟩ := print_take_of (P := Try.prog) (Value.int .i64) 0 24 3 .i64 Try.underlying24 hi020 hsz20 A0_0 c0_0 l0_0 x4_2 (of_decide_eq_true (by first | (with_reducible assumption) | assumption)) (of_decide_eq_true (by first | (with_reducible assumption) | assumption)) HC0_0.out
       have HR390 := am (Kd.C_of_reads (h1 := fun _ => rfl) (hA20 _ (Kd.reads_of_C HR0_0.out)))
       have HC390 := am hC20
       clear hA20 hC20 hi020 hsz20
       obtain ⟨⟨ad391, e391, hx391_0⟩, p391, q391⟩ := pq (Kd.at_int HR0_0.out x4_2)
       have hw391_0 := hx391_0
       cases e391
       replace hx391_0 := hw HB hx391_0
       refine start_ (n := 8) (S := fun w' => w'.cell? (ad391.add (x4_2).toNat) = some (.int .i64 (rd l0_0 x4_2))) (ds := []) (yz 8 0) (by kernel_rfl) rfl rfl (((HB.out.cell (World.block_lt_of_cell? w _ hw391_0)).trans hw391_0)) (fun hHeld => ?_); refine with_tabW impl_IsSemigroup.tab7 impl_IsSemigroup.bits7 (fun HT_ HW_ => ?_)
       generalize wr.drew = w19 at BK385 HB HR390 hx391_0 hHeld ⊢
       refine pa 0 (some 34) (yz 8 1) HT_ ?_
       refine pa 1 (some 35) (yz 8 3) HT_ ?_
       refine pa 2 (some 36) (yz 8 7) HT_ ?_
       refine pa 3 (some 37) (yz 8 15) HT_ ?_
       refine pa 4 (some 38) (yz 8 31) HT_ ?_
       refine pa 5 (some 39) (yz 8 63) HT_ ?_
       refine tK 6 (some 40) (yz 8 127) HT_ HW_ hHeld ?_
       refine oa 7 (some 41) (yz 8 255) HT_ (fun K hK => ?_)
       refine goes_ Try.func120 (by kernel_rfl) rfl #[.slice (some ad391) (l0_0.take (x4_2 : Int).toNat).length c0_0, .int .i64 (rd l0_0 x4_2)] (by rfl) rfl rfl (by (try simp only [List.map_toArray, List.map_cons, List.map_nil]); first | done | (rw [show (l0_0.take (x4_2 : Int).toNat).length = x4_2.toNat from (by rw [List.length_take]; have h_ : (x4_2 : Int) ≤ (l0_0.length : Int) := of_decide_eq_true (by first | (with_reducible assumption) | assumption); omega)] <;> rfl) | rfl | (simp only [List.length_drop, List.length_take]; rfl)) ?_
       with_reducible refine (impl_Generates.calls k2 _ _ (l0_0.take (x4_2 : Int).toNat) (rd l0_0 x4_2) true _ ?side1 ?side2 A17.out).mono ?_
       (case side1 => exact co (Kd.C_below HR390.out HB.out))
       (case side2 => exact HC390.out)
       rintro e w21 ⟨rfl, hb⟩
       refine ⟨_, rfl, ?_⟩
       replace BK385 := kb BK385 hb
       replace HB := am (below_step bw hb)
       clear hb
       refine hK.out _ _ (((HB.out.cell (World.block_lt_of_cell? w _ hw391_0)).trans hw391_0)) (fun hHeld => ?_)
       clear hK K
       refine nm (some 41) ?_
       refine done_ (done_of HT_.out (by kernel_rfl)) ?_
       try go_wp2
       go_ret
       exact ⟨re, bw⟩
      have H' := am H
      clear H
      try go_wp2
      replace BK385 := bd BK385
      replace HB := am (below_drew1 HB.out)
      obtain ⟨i023, hi023, _, hsz23, _⟩ := info_parts info3
      obtain ⟨hcut23, hA23, hC23⟩ := print_take_of (P := Try.prog) (Value.int .i64) 0 24 3 .i64 Try.underlying24 hi023 hsz23 A0_0 c0_0 l0_0 x4_2 (of_decide_eq_true (by first | (with_reducible assumption) | assumption)) (of_decide_eq_true (by first | (with_reducible assumption) | assumption)) HC0_0.out
      have HR390 := am (Kd.C_of_reads (h1 := fun _ => rfl) (hA23 _ (Kd.reads_of_C HR0_0.out)))
      have HC390 := am hC23
      clear hA23 hC23 hi023 hsz23
      obtain ⟨⟨ad391, e391, hx391_0⟩, p391, q391⟩ := pq (Kd.at_int HR0_0.out x4_2)
      have hw391_0 := hx391_0
      cases e391
      replace hx391_0 := hw HB hx391_0
      refine start_ (n := 8) (S := fun w' => w'.cell? (ad391.add (x4_2).toNat) = some (.int .i64 (rd l0_0 x4_2))) (ds := []) (yz 8 0) (by kernel_rfl) rfl rfl (((HB.out.cell (World.block_lt_of_cell? w _ hw391_0)).trans hw391_0)) (fun hHeld => ?_); refine with_tabW impl_IsSemigroup.tab7 impl_IsSemigroup.bits7 (fun HT_ HW_ => ?_)
      generalize wr.drew = w22 at BK385 HB HR390 hx391_0 hHeld ⊢
      refine pa 0 (some 34) (yz 8 1) HT_ ?_
      refine pa 1 (some 35) (yz 8 3) HT_ ?_
      refine pa 2 (some 36) (yz 8 7) HT_ ?_
      refine pa 3 (some 37) (yz 8 15) HT_ ?_
      refine pa 4 (some 38) (yz 8 31) HT_ ?_
      refine pa 5 (some 39) (yz 8 63) HT_ ?_
      refine tK 6 (some 40) (yz 8 127) HT_ HW_ hHeld ?_
      refine oa 7 (some 41) (yz 8 255) HT_ (fun K hK => ?_)
      refine goes_ Try.func120 (by kernel_rfl) rfl #[.slice (some ad391) (l0_0.take (x4_2 : Int).toNat).length c0_0, .int .i64 (rd l0_0 x4_2)] (by rfl) rfl rfl (by (try simp only [List.map_toArray, List.map_cons, List.map_nil]); first | done | (rw [show (l0_0.take (x4_2 : Int).toNat).length = x4_2.toNat from (by rw [List.length_take]; have h_ : (x4_2 : Int) ≤ (l0_0.length : Int) := of_decide_eq_true (by first | (with_reducible assumption) | assumption); omega)] <;> rfl) | rfl | (simp only [List.length_drop, List.length_take]; rfl)) ?_
      with_reducible refine (impl_Generates.calls k2 _ _ (l0_0.take (x4_2 : Int).toNat) (rd l0_0 x4_2) false _ ?side1 ?side2 A17.out).mono ?_
      (case side1 => exact co (Kd.C_below HR390.out HB.out))
      (case side2 => exact HC390.out)
      rintro e w24 ⟨rfl, hb⟩
      refine ⟨_, rfl, ?_⟩
      replace BK385 := kb BK385 hb
      replace HB := am (below_step bw hb)
      clear hb
      refine hK.out _ _ (((HB.out.cell (World.block_lt_of_cell? w _ hw391_0)).trans hw391_0)) (fun hHeld => ?_)
      clear hK K
      refine nm (some 41) ?_
      refine done_ (done_of HT_.out (by kernel_rfl)) ?_
      try go_wp2
      go_roundg k2
      case measure => have := HJ1.out; have := HK2.out; omega
      case rel => exact ⟨(wrap64 (x4_2 + 1)), rr, H', ⟨by have := HJ1.out; have := HK2.out; omega⟩, ⟨bo BK385.out⟩, ⟨bw⟩⟩
     replace H := gp H; obtain ⟨c25, H⟩ := H
     have c25b0 : decide (0 < (l0_0.length : Int)) = true := decide_eq_true c25
     have c25b1 : decide (0 < l0_0.length) = true := decide_eq_true (by omega)
     clear c25
     replace H := ga H; obtain ⟨t394, A26, H⟩ := H
     have H' := am H
     clear H
     have p393 : 0 ≤ (0 : Int) := (by omega)
     have q393 : 0 < (l0_0.length : Int) := of_decide_eq_true (by first | (with_reducible assumption) | assumption)
     obtain ⟨ad393, e393, hx393_0⟩ := Kd.at_int HR0_0.out 0 p393 q393
     cases e393
     have qi393 : (0 < l0_0.length) = True := eq_true (by omega)
     (try rw [show ((0 : Int)).toNat = 0 from rfl] at hx393_0)
     (try rw [Addr.add_zero'] at hx393_0)
     replace hx393_0 := hw HB hx393_0
     replace p393 := eq_true p393
     replace q393 := eq_true q393
     go_wp2_with (first | ((with_reducible refine gate_callee (f := 121) rfl ?_); refine gl (some 46) Try.func121 #[.slice (some ad393) l0_0.length c0_0, .int .i64 (rd l0_0 0)] ?_; (with_reducible refine (impl_leasts.calls k2 _ _ l0_0 (rd l0_0 0) t394 _ ?side1 ?side2 A26.out).mono ?_); (case side1 => exact co (Kd.C_below HR0_0.out HB.out)); (case side2 => exact HC0_0.out); rintro e w27 ⟨v395, rfl, ho0, hb⟩; refine ⟨_, rfl, ?_⟩; have HO396 := am (Kd.R_lower ho0 (below_size bw)); replace BK385 := kb BK385 hb; replace HB := am (below_step bw hb); clear hb ho0; obtain ⟨Ao28, co28, eo28⟩ := Kd.R_slice HO396.out; subst eo28))
     go_loopg [48] k2 (fun kq v48 w' => ∃ (x48_3 : Int), v48 = .int .i64 x48_3 ∧ Aside0 (impl_IsSemigroup.l1 kq l0_0 t394 (t394.length : Int) x48_3 = some r) ∧ Aside0 (kq ≤ k2) ∧ Aside0 (Kd.R (Kd.int .i64) 3 w' w.heap.size (fun _ => True) (.slice Ao28 t394.length co28) t394) ∧ Aside0 (w'.heap[gb385]? = some (.cells #[(.slice (some ad393) l0_0.length c0_0)] 26 (0, 0))) ∧ Aside0 (Below w.heap.size w w'))
     case atStart => exact ⟨(0), rr, H', ⟨Nat.le_refl _⟩, ⟨ro HO396.out⟩, ⟨bo BK385.out⟩, ⟨bw⟩⟩
     case round =>
      clear H'
      try clear c14b0; try clear c15; try clear c15b0; try clear c15b1; try clear c16; try clear c16b0; try clear c16b1; try clear c25; try clear c25b0; try clear c25b1; try clear hcz4_0; try clear hfz4_0; try clear hx391_0; try clear hx393_0; try clear p391; try clear p393; try clear q391; try clear q393
      obtain ⟨x48_3, rfl, HA, HK3, HO_46, BK385, HB⟩ := hrel
      cases gk with
      | zero => exact absurd HA.out (by simp [impl_IsSemigroup.l1])
      | succ k3 =>
       have H := HA.out
       clear HA
       simp only [impl_IsSemigroup.l1] at H
       replace H := gi H; obtain ⟨c29b0, H⟩ | ⟨c29b0, H⟩ := H
       ·replace H := gd H; obtain ⟨c30b0, H⟩ := H
        replace H := gd H; obtain ⟨c31b0, H⟩ := H
        replace H := gp H; obtain ⟨c32, H⟩ := H
        have c32b0 : decide (0 < (l0_0.length : Int)) = true := decide_eq_true c32
        have c32b1 : decide (0 < l0_0.length) = true := decide_eq_true (by omega)
        clear c32
        replace H := gj H; obtain ⟨c33, H⟩ | ⟨c33, H⟩ := H
        ·have c33b0 : decide (200 ≤ (wrap64 ((rd t394 x48_3) - (rd l0_0 0)))) = true := decide_eq_true c33
         clear c33
         obtain rfl := Option.some.inj H
         obtain ⟨⟨ad397, e397, hx397_0⟩, p397, q397⟩ := pq (Kd.at_int (Kd.R_reads' HO_46.out).2.2 x48_3)
         cases e397
         have p398 : 0 ≤ (0 : Int) := (by omega)
         have q398 : 0 < (l0_0.length : Int) := of_decide_eq_true (by first | (with_reducible assumption) | assumption)
         obtain ⟨ad398, e398, hx398_0⟩ := Kd.at_int HR0_0.out 0 p398 q398
         obtain rfl : ad393 = ad398 := (by injection e398)
         have qi398 : (0 < l0_0.length) = True := eq_true (by omega)
         (try rw [show ((0 : Int)).toNat = 0 from rfl] at hx398_0)
         (try rw [Addr.add_zero'] at hx398_0)
         replace hx398_0 := hw HB hx398_0
         replace p398 := eq_true p398
         replace q398 := eq_true q398
         go_wp2
         go_ret
         exact ⟨re, bw⟩
        have c33b0 : decide (200 ≤ (wrap64 ((rd t394 x48_3) - (rd l0_0 0)))) = false := decide_eq_false c33
        clear c33
        have H' := am H
        clear H
        obtain ⟨⟨ad397, e397, hx397_0⟩, p397, q397⟩ := pq (Kd.at_int (Kd.R_reads' HO_46.out).2.2 x48_3)
        cases e397
        have p398 : 0 ≤ (0 : Int) := (by omega)
        have q398 : 0 < (l0_0.length : Int) := of_decide_eq_true (by first | (with_reducible assumption) | assumption)
        obtain ⟨ad398, e398, hx398_0⟩ := Kd.at_int HR0_0.out 0 p398 q398
        obtain rfl : ad393 = ad398 := (by injection e398)
        have qi398 : (0 < l0_0.length) = True := eq_true (by omega)
        (try rw [show ((0 : Int)).toNat = 0 from rfl] at hx398_0)
        (try rw [Addr.add_zero'] at hx398_0)
        replace hx398_0 := hw HB hx398_0
        replace p398 := eq_true p398
        replace q398 := eq_true q398
        go_wp2
        go_roundg k3
        case measure => have := HJ1.out; have := HK2.out; have := HK3.out; omega
        case rel => exact ⟨(wrap64 (x48_3 + 1)), rr, H', ⟨by have := HJ1.out; have := HK2.out; have := HK3.out; omega⟩, ⟨ro HO_46.out⟩, ⟨bo BK385.out⟩, ⟨bw⟩⟩
       obtain rfl := Option.some.inj H
       go_wp2
       go_ret
       exact ⟨re, bw⟩


/-! ### impl_table: function 66 -/
def impl_table.l0 : Nat → List Int → List Bool → Int → Int → List Int → Option (List Bool)
 | 0, _, _, _, _, _ => none
 | k + 1, x5, x6, x19, x20, x400000 => if x20 < x19 then (if 0 < (x400000.length : Int) then (if (rd x400000 0) = 0 then (none) else (if 0 ≤ (Int.tmod x20 (rd x400000 0)) then (if (Int.tmod x20 (rd x400000 0)) < (x5.length : Int) then (if 0 ≤ x20 then (if x20 < (x6.length : Int) then (impl_table.l0 k x5 (x6.set (x20 : Int).toNat (decide ((rd x5 (Int.tmod x20 (rd x400000 0))) ≤ x20))) x19 (wrap64 (x20 + 1)) x400000) else (none)) else (none)) else (none)) else (none))) else (none)) else (some x6)
def impl_table.f (k : Nat) (l0_0 : List Int) (a1 : Int) : Option (List Bool) := if 0 < (l0_0.length : Int) then ((impl_leasts.f k l0_0 (rd l0_0 0)).bind fun t401 => (if 0 ≤ (wrap64 (a1 + 1)) then (if (wrap64 (a1 + 1) : Int).toNat ≤ 281474976710656 then ((some (List.replicate (wrap64 (a1 + 1) : Int).toNat false : List Bool)).bind fun y404 => (impl_table.l0 k t401 y404 (y404.length : Int) 0 l0_0)) else (none)) else (none))) else (none)
def impl_table.T1 : Bool × List (List Nat × List Nat) := (true, [([], []), ([0], [0]), ([], []), ([2], [2]), ([3], [3]), ([4], [4]), ([1, 5], [1, 5]), ([6, 6, 0, 1, 2, 3, 4, 5, 6], [6])])
def impl_table.B1 : List Nat := [0, 1, 0, 4, 12, 28, 63, 127]
theorem impl_table.tab1 : rtab .any (opsOf Try.f66 1) = impl_table.T1 := by kernel_rfl
theorem impl_table.bits1 : waitsOk impl_table.T1.2 impl_table.B1 = true := by kernel_rfl
set_option maxHeartbeats 8000000 in
set_option maxRecDepth 100000 in
theorem impl_table.calls (k : Nat) (A0_0 : Option Addr) (c0_0 : Nat) (l0_0 : List Int) (a1 : Int) (r : List Bool) (w : World) (hr0_0 : Kd.C (Kd.int .i64) w A0_0 l0_0.length l0_0) (hc0_0 : l0_0.length ≤ c0_0) (h : impl_table.f k l0_0 a1 = some r) :
  Calls Try.prog 66 #[.agg #[.slice A0_0 l0_0.length c0_0], .int .i64 a1] w fun e w' => ∃ v0_ : Value, e = .returned (v0_) ∧ Kd.R Kd.bool 4 w' w.heap.size (fun _ => True) v0_ r ∧ Below w.heap.size w w' := by
 have hu26 := Try.underlying26
 have HR0_0 := am hr0_0
 have HC0_0 := am hc0_0
 clear hr0_0 hc0_0
 have HB := am (Below.refl w.heap.size w)
 have H : (if 0 < (l0_0.length : Int) then ((impl_leasts.f k l0_0 (rd l0_0 0)).bind fun t401 => (if 0 ≤ (wrap64 (a1 + 1)) then (if (wrap64 (a1 + 1) : Int).toNat ≤ 281474976710656 then ((some (List.replicate (wrap64 (a1 + 1) : Int).toNat false : List Bool)).bind fun y404 => (impl_table.l0 k t401 y404 (y404.length : Int) 0 l0_0)) else (none)) else (none))) else (none)) = some r := h
 clear h
 replace H := gp H; obtain ⟨c3, H⟩ := H
 have c3b0 : decide (0 < (l0_0.length : Int)) = true := decide_eq_true c3
 have c3b1 : decide (0 < l0_0.length) = true := decide_eq_true (by omega)
 clear c3
 replace H := ga H; obtain ⟨t401, A4, H⟩ := H
 obtain ⟨ji5, hji5⟩ : ∃ j_ : Int, (wrap64 (a1 + 1)) = j_ := ⟨_, rfl⟩
 replace H : (if 0 ≤ (ji5) then (if (ji5 : Int).toNat ≤ 281474976710656 then ((some (List.replicate (ji5 : Int).toNat false : List Bool)).bind fun y404 => (impl_table.l0 k t401 y404 (y404.length : Int) 0 l0_0)) else (none)) else (none)) = some r := by first | (rw [hji5] at H; exact H) | (simp only [hji5] at H ⊢; exact H)
 (try rw [hji5] at A4)
 have hji5w : (IntKind.i64.wrap (a1 + 1)) = ji5 := (i64_w _).trans hji5
 replace H := gp H; obtain ⟨c6, H⟩ := H
 have c6b0 := eq_true c6
 have c6b1 : decide (0 ≤ (ji5)) = true := decide_eq_true c6
 clear c6
 replace H := gp H; obtain ⟨c7, H⟩ := H
 have c7b0 := eq_true c7
 have c7b1 : decide ((ji5 : Int).toNat ≤ 281474976710656) = true := decide_eq_true c7
 clear c7
 obtain ⟨y404, hy404⟩ : ∃ y_ : List Bool, y_ = (List.replicate (ji5 : Int).toNat false) := ⟨_, rfl⟩
 replace H : (impl_table.l0 k t401 y404 (y404.length : Int) 0 l0_0) = some r := by first | (rw [hy404]; with_reducible first | exact H | exact bs H) | (with_reducible first | exact bs H | exact H) | (rw [hy404]; exact H) | exact H
 have Ny404 := am hy404
 clear hy404
 have H' := am H
 clear H
 go_enter Try.func66, Try.ntmps66
 try go_wp2_with (first | ((with_reducible refine gate_dst (N := 2) rfl ?_); refine bx 2 #[.slice A0_0 l0_0.length c0_0] 26 ?_; intro gb399 hg w8 hbox hb; have BK399 := am (hbox); have GW399 := am (gs hg : w.heap.size ≤ gb399); have GE399 := GW399; replace HB := am (below_step bw hb); clear hb hbox hg))
 replace BK399 := bd BK399
 replace HB := am (below_drew1 HB.out)
 have p400 : 0 ≤ (0 : Int) := (by omega)
 have q400 : 0 < (l0_0.length : Int) := of_decide_eq_true (by first | (with_reducible assumption) | assumption)
 obtain ⟨ad400, e400, hx400_0⟩ := Kd.at_int HR0_0.out 0 p400 q400
 have hw400_0 := hx400_0
 (try rw [show ((0 : Int)).toNat = 0 from rfl] at hw400_0)
 (try rw [show 0 * 1 = 0 from rfl] at hw400_0)
 (try rw [Addr.add_zero'] at hw400_0)
 cases e400
 have qi400 : (0 < l0_0.length) = True := eq_true (by omega)
 (try rw [show ((0 : Int)).toNat = 0 from rfl] at hx400_0)
 (try rw [Addr.add_zero'] at hx400_0)
 replace hx400_0 := hw HB hx400_0
 replace p400 := eq_true p400
 replace q400 := eq_true q400
 refine start_ (n := 8) (S := fun w' => w'.cell? ⟨gb399, 0, none⟩ = some (.slice (some ad400) l0_0.length c0_0) ∧ w'.cell? ad400 = some (.int .i64 (rd l0_0 0))) (ds := []) (yz 8 0) (by kernel_rfl) rfl rfl ⟨bc BK399 0 _, ((HB.out.cell (World.block_lt_of_cell? w _ hw400_0)).trans hw400_0)⟩ (fun hHeld => ?_); refine with_tabW impl_table.tab1 impl_table.bits1 (fun HT_ HW_ => ?_)
 generalize w8.drew = w9 at BK399 HB hx400_0 hHeld ⊢
 refine pa 0 (some 8) (yz 8 1) HT_ ?_
 refine pa 2 (some 10) (yz 8 5) HT_ ?_
 refine tk 1 (some 9) (yz 8 7) HT_ HW_ hHeld ?_
 refine tk 3 (some 11) (yz 8 15) HT_ HW_ hHeld ?_
 refine pa 4 (some 12) (yz 8 31) HT_ ?_
 refine tk 5 (some 13) (yz 8 63) HT_ HW_ hHeld ?_
 refine oa 6 (some 14) (yz 8 127) HT_ (fun K hK => ?_)
 refine gm Try.func121 #[.slice (some ad400) l0_0.length c0_0, .int .i64 (rd l0_0 0)] ?_
 with_reducible refine (impl_leasts.calls k _ _ l0_0 (rd l0_0 0) t401 _ ?side1 ?side2 A4.out).mono ?_
 (case side1 => exact co (Kd.C_below HR0_0.out HB.out))
 (case side2 => exact HC0_0.out)
 rintro e w10 ⟨v402, rfl, ho0, hb⟩
 refine ⟨_, rfl, ?_⟩
 have HO403 := am (Kd.R_lower ho0 (below_size bw))
 replace BK399 := kb BK399 hb
 replace HB := am (below_step bw hb)
 clear hb ho0
 refine hK.out _ _ ⟨bc BK399 0 _, ((HB.out.cell (World.block_lt_of_cell? w _ hw400_0)).trans hw400_0)⟩ (fun hHeld => ?_)
 clear hK K
 refine nm (some 14) ?_
 refine pa 7 (some 5) (yz 8 255) HT_ ?_
 refine done_ (done_of HT_.out (by kernel_rfl)) ?_
 try go_wp2_with (first | ((with_reducible refine gate_dst (N := 17) rfl ?_); refine Kd.R_make Kd.bool _ 4 rfl (N := 17) rfl 74 _ _ rfl ji5 rfl rfl Try.underlying74 (.bool false) 1 info4 rfl (by decide) (by omega) false (ok := fun _ => True) (okp := fun _ => True) rfl (fun _ hk => hk) trivial (of_decide_eq_true (by first | (with_reducible assumption) | assumption)) (Nat.le_trans (Nat.mul_le_mul_right _ (of_decide_eq_true (by first | (with_reducible assumption) | assumption) : ji5.toNat ≤ 281474976710656)) (by omega)) (Below.refl _ _) (Nat.le_refl _) ?_; intro v405 w11 ho12 hb hg_ hnew_; clear hg_ hnew_; (first | rw [← Ny404.out] at ho12 | (simp only [Int.reduceToNat] at ho12; rw [← Ny404.out] at ho12)); replace HO403 := rK HO403 hb; have HO406 := am (Kd.R_lower ho12 (below_size bw)); replace BK399 := kb BK399 hb; replace HB := am (below_step bw hb); clear hb ho12; obtain ⟨Ao13, co13, eo13⟩ := Kd.R_slice HO406.out; subst eo13))
 go_loopg [20] k (fun kq v20 w' => ∃ (x6_1 : List Bool) (x20_1 : Int), v20 = .int .i64 x20_1 ∧ Aside0 (impl_table.l0 kq t401 x6_1 (y404.length : Int) x20_1 l0_0 = some r) ∧ Aside0 (kq ≤ k) ∧ Aside0 (Kd.R (Kd.int .i64) 3 w' w.heap.size (fun _ => True) v402 t401) ∧ Aside0 (Kd.R Kd.bool 4 w' w.heap.size (fun _ => True) (.slice Ao13 y404.length co13) x6_1) ∧ Aside0 (w'.heap[gb399]? = some (.cells #[(.slice (some ad400) l0_0.length c0_0)] 26 (0, 0))) ∧ Aside0 (Below w.heap.size w w'))
 case atStart => exact ⟨(y404), (0), rr, H', ⟨Nat.le_refl _⟩, ⟨ro HO403.out⟩, ⟨ro HO406.out⟩, ⟨bo BK399.out⟩, ⟨bw⟩⟩
 case round =>
  clear H'
  try clear c3; try clear c3b0; try clear c3b1; try clear c6; try clear c6b0; try clear c6b1; try clear c7; try clear c7b0; try clear c7b1; try clear hx400_0; try clear p400; try clear q400
  obtain ⟨x6_1, x20_1, rfl, HA, HK1, HO_5, HO_6, BK399, HB⟩ := hrel
  have hl6_1 := (Kd.R_reads' HO_6.out).1
  rw [hl6_1] at HO_6
  (try simp only [hl6_1])
  (try simp only [hl6_1] at BK399)
  (try simp only [hl6_1] at HO_5)
  cases gk with
  | zero => exact absurd HA.out (by simp [impl_table.l0])
  | succ k1 =>
   have H := HA.out
   clear HA
   simp only [impl_table.l0] at H
   by_cases c14 : x20_1 < (y404.length : Int)
   ·rw [if_pos c14] at H
    have c14b0 : decide (x20_1 < (y404.length : Int)) = true := decide_eq_true c14
    (try simp only [hl6_1] at c14b0)
    clear c14
    replace H := gp H; obtain ⟨c15, H⟩ := H
    have c15b0 : decide (0 < (l0_0.length : Int)) = true := decide_eq_true c15
    have c15b1 : decide (0 < l0_0.length) = true := decide_eq_true (by omega)
    clear c15
    by_cases c16 : (rd l0_0 0) = 0
    ·rw [if_pos c16] at H
     exact absurd H (by simp)
    rw [if_neg c16] at H
    have c16b0 : ((rd l0_0 0) == 0) = false := beq_eq_false_iff_ne.mpr c16
    have c16b1 : ((rd l0_0 0) != 0) = true := bne_iff_ne.mpr c16
    obtain ⟨ji17, hji17⟩ : ∃ j_ : Int, (Int.tmod x20_1 (rd l0_0 0)) = j_ := ⟨_, rfl⟩
    replace H : (if 0 ≤ (ji17) then (if (ji17) < (t401.length : Int) then (if 0 ≤ x20_1 then (if x20_1 < (x6_1.length : Int) then (impl_table.l0 k1 t401 (x6_1.set (x20_1 : Int).toNat (decide ((rd t401 (ji17)) ≤ x20_1))) (y404.length : Int) (wrap64 (x20_1 + 1)) l0_0) else (none)) else (none)) else (none)) else (none)) = some r := by first | (rw [hji17] at H; exact H) | (simp only [hji17] at H ⊢; exact H)
    replace H := gd H; obtain ⟨c18b0, H⟩ := H
    replace H := gd H; obtain ⟨c19b0, H⟩ := H
    replace H := gd H; obtain ⟨c20b0, H⟩ := H
    by_cases c21 : x20_1 < (x6_1.length : Int)
    rotate_left
    ·rw [if_neg c21] at H
     exact absurd H (by simp)
    rw [if_pos c21] at H
    have c21b0 : decide (x20_1 < (x6_1.length : Int)) = true := decide_eq_true c21
    (try simp only [hl6_1] at c21b0)
    clear c21
    obtain ⟨y409, hy409⟩ : ∃ y_ : List Bool, y_ = (x6_1.set (x20_1 : Int).toNat (decide ((rd t401 (ji17)) ≤ x20_1))) := ⟨_, rfl⟩
    replace H : (impl_table.l0 k1 t401 y409 (y404.length : Int) (wrap64 (x20_1 + 1)) l0_0) = some r := by first | (rw [hy409]; with_reducible first | exact H | exact bs H) | (with_reducible first | exact bs H | exact H) | (rw [hy409]; exact H) | exact H
    have Ny409 := am hy409
    clear hy409
    have H' := am H
    clear H
    have hcz23_0 := bc BK399 0 (.slice (some ad400) l0_0.length c0_0)
    have hfz23_0 := blk_frozen BK399.out 0
    have p407 : 0 ≤ (0 : Int) := (by omega)
    have q407 : 0 < (l0_0.length : Int) := of_decide_eq_true (by first | (with_reducible assumption) | assumption)
    obtain ⟨ad407, e407, hx407_0⟩ := Kd.at_int HR0_0.out 0 p407 q407
    obtain rfl : ad400 = ad407 := (by injection e407)
    have qi407 : (0 < l0_0.length) = True := eq_true (by omega)
    (try rw [show ((0 : Int)).toNat = 0 from rfl] at hx407_0)
    (try rw [Addr.add_zero'] at hx407_0)
    replace hx407_0 := hw HB hx407_0
    replace p407 := eq_true p407
    replace q407 := eq_true q407
    obtain ⟨Ao24, co24, eo24⟩ := Kd.R_slice HO_5.out
    subst eo24
    obtain ⟨⟨ad408, e408, hx408_0⟩, p408, q408⟩ := pq (Kd.at_int (Kd.R_reads' HO_5.out).2.2 (ji17))
    cases e408
    have p22 : 0 ≤ (x20_1 : Int) := of_decide_eq_true (by first | (with_reducible assumption) | assumption)
    have q22 : (x20_1 : Int) < ((x6_1.length : Int) : Int) := of_decide_eq_true (by first | (with_reducible assumption) | assumption)
    obtain ⟨go22, co22, eo22, gb22, gl22, cl22, HG22⟩ := Kd.R_form HO_6.out (by omega)
    (first | cases eo22 | (injection eo22 with ea_ en_ ec_; (first | subst ea_ | (injection ea_ with ea_; subst ea_)); subst ec_; clear en_))
    have GB22 := am gb22
    have GG22 := am HG22
    clear gb22 gl22 HG22
    obtain ⟨hx22_0, hf22_0⟩ := Kd.R_celln false HO_6.out (x20_1 : Int) p22 q22
    replace p22 := eq_true p22
    replace q22 := eq_true q22
    have HP25 := Kd.R_putg HO_6.out (x20_1 : Int) (decide ((rd t401 (ji17)) ≤ x20_1))
    go_wp2_with (first | ((with_reducible refine gate_store (t := 4) (p := 36) rfl ?_); refine store_event (t := 4) (p := 36) (v := ?vo_w26) (w1 := (wr.setCell ⟨go22, (x20_1 : Int).toNat, none⟩ (.bool (decide ((rd t401 (ji17)) ≤ x20_1))))) ?hg ?ho ?hn ?hr ?_; (case ho => rfl); (case hg => rfl); (case hn => rfl); (case hr => first | (go_simp; done) | (go_simp; rfl)); intro w26 hw; have hg : wr.grownBy w26 (some go22) := (by rw [hw]; exact HP25.2); have hp_ : Kd.R Kd.bool 4 w26 w.heap.size (fun _ => True) (.slice (some ⟨go22, 0, none⟩) x6_1.length co13) y409 := (by rw [hw, Ny409.out]; exact HP25.1); clear HP25; replace HO_5 := am (Kd.R_over' (v := (.slice (some ⟨go22, 0, none⟩) x6_1.length co13)) (ro HO_5.out) (Kd.R_typed HO_6.out) (by decide) hg); replace BK399 := am (blk_grown (g := gb399) (o := .cells #[.slice (some ad400) l0_0.length c0_0] 26 (0, 0)) (bo BK399.out) hg (Kd.R_ne HO_6.out BK399.out (by decide))); replace HO_6 := am (hp_); replace HB := am ((by rw [hw]; exact below_set (HB.out) GB22.out : Below w.heap.size w w26)); clear hg hw hp_))
    (try simp only [← hl6_1])
    go_roundg k1
    case measure => have := HK1.out; omega
    case rel => exact ⟨(y409), (wrap64 (x20_1 + 1)), rr, H', ⟨by have := HK1.out; omega⟩, ⟨by (try simp only [hl6_1]); (with_reducible repeat (first | apply Kd.R_alloc | apply Kd.R_drewN | apply Kd.R_drew)); exact HO_5.out⟩, ⟨by (try simp only [hl6_1]); (with_reducible repeat (first | apply Kd.R_alloc | apply Kd.R_drewN | apply Kd.R_drew)); exact HO_6.out⟩, ⟨by (try simp only [hl6_1]); (with_reducible repeat (first | refine blk_drewN ?_ _ | refine blk_drew ?_ | refine blk_alloc ?_ _)); exact BK399.out⟩, ⟨bw⟩⟩
   rw [if_neg c14] at H
   have c14b0 : decide (x20_1 < (y404.length : Int)) = false := decide_eq_false c14
   (try simp only [hl6_1] at c14b0)
   clear c14
   obtain rfl := Option.some.inj H
   go_wp2
   go_ret
   exact ⟨_, by first | rfl | (simp [errW_none, errW_some] <;> rfl) | (simp only [← hji5]; first | rfl | (simp [errW_none, errW_some] <;> rfl)) | (simp [*, errW_none, errW_some] <;> rfl), ro HO_6.out, bw⟩


/-! ### impl_Gaps: function 123 -/
def impl_Gaps.l0 : Nat → List Int → List Bool → Int → Int → Option (List Int)
 | 0, _, _, _, _ => none
 | k + 1, x3, x11, x12, x13 => if x13 < x12 then (if 0 ≤ x13 then (if x13 < (x11.length : Int) then (if rdOf false x11 x13 = true then (impl_Gaps.l0 k x3 x11 x12 (wrap64 (x13 + 1))) else (if x3.length < 17592186044416 then (impl_Gaps.l0 k (x3 ++ [x13]) x11 x12 (wrap64 (x13 + 1))) else (none))) else (none)) else (none)) else (some x3)
def impl_Gaps.f (k : Nat) (l0_0 : List Int) : Option (List Int) := (impl_IsSemigroup.f k l0_0).bind fun t411 => (if t411 = true then ((impl_table.f k l0_0 200).bind fun t415 => (impl_Gaps.l0 k (([] : List Int)) t415 (t415.length : Int) 0)) else (some ([] : List Int)))
set_option maxHeartbeats 8000000 in
set_option maxRecDepth 100000 in
theorem impl_Gaps.calls (k : Nat) (A0_0 : Option Addr) (c0_0 : Nat) (l0_0 : List Int) (r : List Int) (w : World) (hr0_0 : Kd.C (Kd.int .i64) w A0_0 l0_0.length l0_0) (hc0_0 : l0_0.length ≤ c0_0) (h : impl_Gaps.f k l0_0 = some r) :
  Calls Try.prog 123 #[.agg #[.slice A0_0 l0_0.length c0_0]] w fun e w' => ∃ v0_ : Value, e = .returned (v0_) ∧ Kd.R (Kd.int .i64) 3 w' w.heap.size (fun _ => True) v0_ r ∧ Below w.heap.size w w' := by
 have hu26 := Try.underlying26
 have HR0_0 := am hr0_0
 have HC0_0 := am hc0_0
 clear hr0_0 hc0_0
 have HB := am (Below.refl w.heap.size w)
 have H : ((impl_IsSemigroup.f k l0_0).bind fun t411 => (if t411 = true then ((impl_table.f k l0_0 200).bind fun t415 => (impl_Gaps.l0 k (([] : List Int)) t415 (t415.length : Int) 0)) else (some ([] : List Int)))) = some r := h
 clear h
 replace H := ga H; obtain ⟨t411, A2, H⟩ := H
 replace H := gb H; obtain ⟨rfl, H⟩ | ⟨rfl, H⟩ := H
 ·obtain ⟨y412, hy412⟩ : ∃ y_ : List Int, y_ = (([] : List Int)) := ⟨_, rfl⟩
  replace H : ((impl_table.f k l0_0 200).bind fun t415 => (impl_Gaps.l0 k y412 t415 (t415.length : Int) 0)) = some r := by first | (rw [hy412]; with_reducible first | exact H | exact bs H) | (with_reducible first | exact bs H | exact H) | (rw [hy412]; exact H) | exact H
  have Ny412 := am hy412
  clear hy412
  replace H := ga H; obtain ⟨t415, A4, H⟩ := H
  have H' := am H
  clear H
  go_enter Try.func123, Try.ntmps123
  go_wp2_with (first | ((with_reducible refine gate_dst (N := 1) rfl ?_); refine bx 1 #[.slice A0_0 l0_0.length c0_0] 26 ?_; intro gb410 hg w5 hbox hb; have BK410 := am (hbox); have GW410 := am (gs hg : w.heap.size ≤ gb410); have GE410 := GW410; replace HB := am (below_step bw hb); clear hb hbox hg; have hcz6_0 := bc BK410 0 (.slice A0_0 l0_0.length c0_0); have hfz6_0 := blk_frozen BK410.out 0) | ((with_reducible refine gate_callee (f := 65) rfl ?_); refine gl (some 7) Try.func65 #[.agg #[.slice A0_0 l0_0.length c0_0]] ?_; (with_reducible refine (impl_IsSemigroup.calls k _ _ l0_0 true _ ?side1 ?side2 A2.out).mono ?_); (case side1 => exact co (Kd.C_below HR0_0.out HB.out)); (case side2 => exact HC0_0.out); rintro e w7 ⟨rfl, hb⟩; refine ⟨_, rfl, ?_⟩; replace BK410 := kb BK410 hb; replace HB := am (below_step bw hb); clear hb) | ((with_reducible refine gate_dst (N := 9) rfl ?_); refine Kd.R_lit (Kd.int .i64) _ 3 ?hg (N := 9) ?hd (xs := ([] : List Int)) (inner := []) (ok := fun _ => True) (okp := fun _ => True) ?hr ?hp (fun _ hk => hk) trivial (Below.refl _ _) (Nat.le_refl _) (by simp) ?_; (case hd => rfl); (case hg => rfl); (case hr => first | (go_simp; done) | (go_simp; rfl)); (case hp => exact (Reps.none _ _)); intro v413 w8 ho9 hb hg_ hnew_; clear hg_ hnew_; (first | rw [← Ny412.out] at ho9 | (simp only [Int.reduceToNat] at ho9; rw [← Ny412.out] at ho9)); have HO414 := am (Kd.R_lower ho9 (below_size bw)); replace BK410 := kb BK410 hb; replace HB := am (below_step bw hb); clear hb ho9; have hcz10_0 := bc BK410 0 (.slice A0_0 l0_0.length c0_0); have hfz10_0 := blk_frozen BK410.out 0) | ((with_reducible refine gate_callee (f := 66) rfl ?_); refine gl (some 11) Try.func66 #[.agg #[.slice A0_0 l0_0.length c0_0], .int .i64 200] ?_; (with_reducible refine (impl_table.calls k _ _ l0_0 200 t415 _ ?side1 ?side2 A4.out).mono ?_); (case side1 => exact co (Kd.C_below HR0_0.out HB.out)); (case side2 => exact HC0_0.out); rintro e w11 ⟨v416, rfl, ho0, hb⟩; refine ⟨_, rfl, ?_⟩; replace HO414 := rK HO414 hb; have HO417 := am (Kd.R_lower ho0 (below_size bw)); replace BK410 := kb BK410 hb; replace HB := am (below_step bw hb); clear hb ho0; obtain ⟨Ao12, co12, eo12⟩ := Kd.R_slice HO417.out; subst eo12))
  go_loopg [3, 13] k (fun kq v3 v13 w' => ∃ (x3_1 : List Int) (x13_1 : Int), v13 = .int .i64 x13_1 ∧ Aside0 (impl_Gaps.l0 kq x3_1 t415 (t415.length : Int) x13_1 = some r) ∧ Aside0 (kq ≤ k) ∧ Aside0 (Kd.R (Kd.int .i64) 3 w' w.heap.size (fun _ => True) v3 x3_1) ∧ Aside0 (Kd.R Kd.bool 4 w' w.heap.size (fun _ => True) (.slice Ao12 t415.length co12) t415) ∧ Aside0 (w'.heap[gb410]? = some (.cells #[(.slice A0_0 l0_0.length c0_0)] 26 (0, 0))) ∧ Aside0 (Below w.heap.size w w'))
  case atStart => exact ⟨(y412), (0), rr, H', ⟨Nat.le_refl _⟩, ⟨ro HO414.out⟩, ⟨ro HO417.out⟩, ⟨bo BK410.out⟩, ⟨bw⟩⟩
  case round =>
   clear H'
   try clear hcz10_0; try clear hcz6_0; try clear hfz10_0; try clear hfz6_0
   obtain ⟨x3_1, x13_1, rfl, HA, HK1, HO_3, HO_11, BK410, HB⟩ := hrel
   cases gk with
   | zero => exact absurd HA.out (by simp [impl_Gaps.l0])
   | succ k1 =>
    have H := HA.out
    clear HA
    simp only [impl_Gaps.l0] at H
    replace H := gi H; obtain ⟨c13b0, H⟩ | ⟨c13b0, H⟩ := H
    ·replace H := gd H; obtain ⟨c14b0, H⟩ := H
     replace H := gd H; obtain ⟨c15b0, H⟩ := H
     obtain ⟨bq16, hbq16⟩ : ∃ b_ : Bool, b_ = (rdOf false t415 x13_1) := ⟨_, rfl⟩
     replace H : (if bq16 = true then (impl_Gaps.l0 k1 x3_1 t415 (t415.length : Int) (wrap64 (x13_1 + 1))) else (if x3_1.length < 17592186044416 then (impl_Gaps.l0 k1 (x3_1 ++ [x13_1]) t415 (t415.length : Int) (wrap64 (x13_1 + 1))) else (none))) = some r := by rw [← hbq16] at H; exact H
     have Nbq16 := am hbq16
     clear hbq16
     replace H := gb H; obtain ⟨rfl, H⟩ | ⟨rfl, H⟩ := H
     ·have H' := am H
      clear H
      obtain ⟨⟨ad418, e418, hx418_0⟩, p418, q418⟩ := pq (Kd.at_bool (Kd.R_reads' HO_11.out).2.2 x13_1)
      (try rw [← Nbq16.out] at hx418_0)
      cases e418
      go_wp2
      go_roundg k1
      case measure => have := HK1.out; omega
      case rel => exact ⟨(x3_1), (wrap64 (x13_1 + 1)), rr, H', ⟨by have := HK1.out; omega⟩, ⟨ro HO_3.out⟩, ⟨ro HO_11.out⟩, ⟨bo BK410.out⟩, ⟨bw⟩⟩
     by_cases c18 : x3_1.length < 17592186044416
     rotate_left
     ·rw [if_neg c18] at H
      exact absurd H (by simp)
     rw [if_pos c18] at H
     have LMc18 := am c18
     clear c18
     obtain ⟨y419, hy419⟩ : ∃ y_ : List Int, y_ = (x3_1 ++ [x13_1]) := ⟨_, rfl⟩
     replace H : (impl_Gaps.l0 k1 y419 t415 (t415.length : Int) (wrap64 (x13_1 + 1))) = some r := by first | (rw [hy419]; with_reducible first | exact H | exact bs H) | (with_reducible first | exact bs H | exact H) | (rw [hy419]; exact H) | exact H
     have Ny419 := am hy419
     clear hy419
     have H' := am H
     clear H
     obtain ⟨⟨ad418, e418, hx418_0⟩, p418, q418⟩ := pq (Kd.at_bool (Kd.R_reads' HO_11.out).2.2 x13_1)
     (try rw [← Nbq16.out] at hx418_0)
     cases e418
     go_wp2_with (first | ((with_reducible refine gate_builtin (b := .append) (xs := #[.tmp 20, .tmp 22]) rfl ?_); at_builtin; refine Kd.R_append (Kd.int .i64) (w0 := w) w.heap.size rfl (.tmp 20) (.tmp 22) 24 3 (.int .i64 0) 8 rfl Try.underlying24 info3 rfl (by decide) (by omega) u3 x3_1 x13_1 [.int .i64 x13_1] (fun _ => True) (fun _ => False) rfl rfl ?aP (fun _ hk => hk.elim) ?aF ?aO ?aB ?aS ?aL ?_; (case aP => exact rfl); (case aB => exact bw); (case aF => exact (fun _ _ => trivial)); (case aO => exact (ro HO_3.out)); (case aS => exact (below_size bw)); (case aL => have := LMc18.out; omega); intro v420 w19 ho hb hg hat; rw [← Ny419.out] at ho; replace HO_11 := am (Kd.R_over' (ro HO_11.out) (Kd.R_typed (ro HO_3.out)) (by decide) hg); replace BK410 := am (blk_grown (g := gb410) (o := .cells #[.slice A0_0 l0_0.length c0_0] 26 (0, 0)) (bo BK410.out) hg (Kd.R_ne HO_3.out BK410.out (by decide))); replace HB := am (hb); have HO421 := am (ho); clear HO_3 ho hb hg hat))
     go_roundg k1
     case measure => have := HK1.out; omega
     case rel => exact ⟨(y419), (wrap64 (x13_1 + 1)), rr, H', ⟨by have := HK1.out; omega⟩, ⟨ro HO421.out⟩, ⟨ro HO_11.out⟩, ⟨bo BK410.out⟩, ⟨bw⟩⟩
    obtain rfl := Option.some.inj H
    go_wp2
    go_ret
    exact ⟨_, re, ro HO_3.out, bw⟩
 obtain rfl := Option.some.inj H
 go_enter Try.func123, Try.ntmps123
 go_wp2_with (first | ((with_reducible refine gate_dst (N := 1) rfl ?_); refine bx 1 #[.slice A0_0 l0_0.length c0_0] 26 ?_; intro gb410 hg w20 hbox hb; have BK410 := am (hbox); have GW410 := am (gs hg : w.heap.size ≤ gb410); have GE410 := GW410; replace HB := am (below_step bw hb); clear hb hbox hg; have hcz21_0 := bc BK410 0 (.slice A0_0 l0_0.length c0_0); have hfz21_0 := blk_frozen BK410.out 0) | ((with_reducible refine gate_callee (f := 65) rfl ?_); refine gl (some 7) Try.func65 #[.agg #[.slice A0_0 l0_0.length c0_0]] ?_; (with_reducible refine (impl_IsSemigroup.calls k _ _ l0_0 false _ ?side1 ?side2 A2.out).mono ?_); (case side1 => exact co (Kd.C_below HR0_0.out HB.out)); (case side2 => exact HC0_0.out); rintro e w22 ⟨rfl, hb⟩; refine ⟨_, rfl, ?_⟩; replace BK410 := kb BK410 hb; replace HB := am (below_step bw hb); clear hb))
 go_ret
 exact ⟨_, re, by first | exact Kd.R_nil _ _ _ _ _ | exact Kd.N_nil _ _ _ _ _ | exact Kd.V_nil _ _ _ _ _ | exact Kd.Q_nil _ _ _ _ _ | exact Kd.S_nil _ _ _ _ _, bw⟩


/-! ### impl_FrobeniusOf: function 74 -/
def impl_FrobeniusOf.f (k : Nat) (l0_0 : List Int) : Option (Int) := (impl_Gaps.f k l0_0).bind fun t423 => (if (t423.length : Int) = 0 then (some (-1)) else (if 0 ≤ (wrap64 ((t423.length : Int) - 1)) then (if (wrap64 ((t423.length : Int) - 1)) < (t423.length : Int) then (some (rd t423 (wrap64 ((t423.length : Int) - 1)))) else (none)) else (none)))
set_option maxHeartbeats 8000000 in
set_option maxRecDepth 100000 in
theorem impl_FrobeniusOf.calls (k : Nat) (A0_0 : Option Addr) (c0_0 : Nat) (l0_0 : List Int) (r : Int) (w : World) (hr0_0 : Kd.C (Kd.int .i64) w A0_0 l0_0.length l0_0) (hc0_0 : l0_0.length ≤ c0_0) (h : impl_FrobeniusOf.f k l0_0 = some r) :
  Calls Try.prog 74 #[.agg #[.slice A0_0 l0_0.length c0_0]] w fun e w' => e = .returned (.int .i64 r) ∧ Below w.heap.size w w' := by
 have hu26 := Try.underlying26
 have HR0_0 := am hr0_0
 have HC0_0 := am hc0_0
 clear hr0_0 hc0_0
 have HB := am (Below.refl w.heap.size w)
 have H : ((impl_Gaps.f k l0_0).bind fun t423 => (if (t423.length : Int) = 0 then (some (-1)) else (if 0 ≤ (wrap64 ((t423.length : Int) - 1)) then (if (wrap64 ((t423.length : Int) - 1)) < (t423.length : Int) then (some (rd t423 (wrap64 ((t423.length : Int) - 1)))) else (none)) else (none)))) = some r := h
 clear h
 replace H := ga H; obtain ⟨t423, A2, H⟩ := H
 by_cases c3 : (t423.length : Int) = 0
 ·rw [if_pos c3] at H
  have c3b0 : ((t423.length : Int) == 0) = true := beq_iff_eq.mpr c3
  have c3b1 : ((t423.length : Int) != 0) = false := bne_eq_false_iff_eq.mpr c3
  clear c3
  obtain rfl := Option.some.inj H
  go_enter Try.func74, Try.ntmps74
  go_wp2_with (first | ((with_reducible refine gate_dst (N := 1) rfl ?_); refine bx 1 #[.slice A0_0 l0_0.length c0_0] 26 ?_; intro gb422 hg w4 hbox hb; have BK422 := am (hbox); have GW422 := am (gs hg : w.heap.size ≤ gb422); have GE422 := GW422; replace HB := am (below_step bw hb); clear hb hbox hg; have hcz5_0 := bc BK422 0 (.slice A0_0 l0_0.length c0_0); have hfz5_0 := blk_frozen BK422.out 0) | ((with_reducible refine gate_callee (f := 123) rfl ?_); refine gl (some 5) Try.func123 #[.agg #[.slice A0_0 l0_0.length c0_0]] ?_; (with_reducible refine (impl_Gaps.calls k _ _ l0_0 t423 _ ?side1 ?side2 A2.out).mono ?_); (case side1 => exact co (Kd.C_below HR0_0.out HB.out)); (case side2 => exact HC0_0.out); rintro e w6 ⟨v424, rfl, ho0, hb⟩; refine ⟨_, rfl, ?_⟩; have HO425 := am (Kd.R_lower ho0 (below_size bw)); replace BK422 := kb BK422 hb; replace HB := am (below_step bw hb); clear hb ho0; obtain ⟨Ao7, co7, eo7⟩ := Kd.R_slice HO425.out; subst eo7))
  go_ret
  exact ⟨re, bw⟩
 rw [if_neg c3] at H
 have c3b0 : ((t423.length : Int) == 0) = false := beq_eq_false_iff_ne.mpr c3
 have c3b1 : ((t423.length : Int) != 0) = true := bne_iff_ne.mpr c3
 have c3b2 : ¬ (t423 = []) := fun h_ => c3 (by rw [h_]; rfl)
 obtain ⟨ji8, hji8⟩ : ∃ j_ : Int, (wrap64 ((t423.length : Int) - 1)) = j_ := ⟨_, rfl⟩
 replace H : (if 0 ≤ (ji8) then (if (ji8) < (t423.length : Int) then (some (rd t423 (ji8))) else (none)) else (none)) = some r := by first | (rw [hji8] at H; exact H) | (simp only [hji8] at H ⊢; exact H)
 (try rw [hji8] at A2)
 have hji8w : (IntKind.i64.wrap ((t423.length : Int) - 1)) = ji8 := (i64_w _).trans hji8
 replace H := gd H; obtain ⟨c9b0, H⟩ := H
 replace H := gd H; obtain ⟨c10b0, H⟩ := H
 obtain rfl := Option.some.inj H
 go_enter Try.func74, Try.ntmps74
 go_wp2_with (first | ((with_reducible refine gate_dst (N := 1) rfl ?_); refine bx 1 #[.slice A0_0 l0_0.length c0_0] 26 ?_; intro gb422 hg w11 hbox hb; have BK422 := am (hbox); have GW422 := am (gs hg : w.heap.size ≤ gb422); have GE422 := GW422; replace HB := am (below_step bw hb); clear hb hbox hg; have hcz12_0 := bc BK422 0 (.slice A0_0 l0_0.length c0_0); have hfz12_0 := blk_frozen BK422.out 0) | ((with_reducible refine gate_callee (f := 123) rfl ?_); refine gl (some 5) Try.func123 #[.agg #[.slice A0_0 l0_0.length c0_0]] ?_; (with_reducible refine (impl_Gaps.calls k _ _ l0_0 t423 _ ?side1 ?side2 A2.out).mono ?_); (case side1 => exact co (Kd.C_below HR0_0.out HB.out)); (case side2 => exact HC0_0.out); rintro e w13 ⟨v424, rfl, ho0, hb⟩; refine ⟨_, rfl, ?_⟩; have HO425 := am (Kd.R_lower ho0 (below_size bw)); replace BK422 := kb BK422 hb; replace HB := am (below_step bw hb); clear hb ho0; obtain ⟨Ao14, co14, eo14⟩ := Kd.R_slice HO425.out; subst eo14; have p426 : 0 ≤ ((ji8) : Int) := of_decide_eq_true (by first | (with_reducible assumption) | assumption); have q426 : (ji8) < (t423.length : Int) := of_decide_eq_true (by first | (with_reducible assumption) | assumption); obtain ⟨ad426, e426, hx426_0⟩ := Kd.at_int (Kd.R_reads' HO425.out).2.2 (ji8) p426 q426; cases e426; replace p426 := eq_true p426; replace q426 := eq_true q426))
 go_ret
 exact ⟨by first | rfl | (simp [errW_none, errW_some] <;> rfl) | (simp only [← hji8]; first | rfl | (simp [errW_none, errW_some] <;> rfl)) | (simp [*, errW_none, errW_some] <;> rfl), bw⟩


/-! ### impl_ConductorOf: function 67 -/
def impl_ConductorOf.f (k : Nat) (l0_0 : List Int) : Option (Int) := (impl_FrobeniusOf.f k l0_0).bind fun t428 => (some (wrap64 (t428 + 1)))
set_option maxHeartbeats 8000000 in
set_option maxRecDepth 100000 in
theorem impl_ConductorOf.calls (k : Nat) (A0_0 : Option Addr) (c0_0 : Nat) (l0_0 : List Int) (r : Int) (w : World) (hr0_0 : Kd.C (Kd.int .i64) w A0_0 l0_0.length l0_0) (hc0_0 : l0_0.length ≤ c0_0) (h : impl_ConductorOf.f k l0_0 = some r) :
  Calls Try.prog 67 #[.agg #[.slice A0_0 l0_0.length c0_0]] w fun e w' => e = .returned (.int .i64 r) ∧ Below w.heap.size w w' := by
 have hu26 := Try.underlying26
 have HR0_0 := am hr0_0
 have HC0_0 := am hc0_0
 clear hr0_0 hc0_0
 have HB := am (Below.refl w.heap.size w)
 have H : ((impl_FrobeniusOf.f k l0_0).bind fun t428 => (some (wrap64 (t428 + 1)))) = some r := h
 clear h
 replace H := ga H; obtain ⟨t428, A2, H⟩ := H
 obtain rfl := Option.some.inj H
 go_enter Try.func67, Try.ntmps67
 go_wp2_with (first | ((with_reducible refine gate_dst (N := 1) rfl ?_); refine bx 1 #[.slice A0_0 l0_0.length c0_0] 26 ?_; intro gb427 hg w3 hbox hb; have BK427 := am (hbox); have GW427 := am (gs hg : w.heap.size ≤ gb427); have GE427 := GW427; replace HB := am (below_step bw hb); clear hb hbox hg; have hcz4_0 := bc BK427 0 (.slice A0_0 l0_0.length c0_0); have hfz4_0 := blk_frozen BK427.out 0) | ((with_reducible refine gate_callee (f := 74) rfl ?_); refine gl (some 4) Try.func74 #[.agg #[.slice A0_0 l0_0.length c0_0]] ?_; (with_reducible refine (impl_FrobeniusOf.calls k _ _ l0_0 t428 _ ?side1 ?side2 A2.out).mono ?_); (case side1 => exact co (Kd.C_below HR0_0.out HB.out)); (case side2 => exact HC0_0.out); rintro e w5 ⟨rfl, hb⟩; refine ⟨_, rfl, ?_⟩; replace BK427 := kb BK427 hb; replace HB := am (below_step bw hb); clear hb))
 go_ret
 exact ⟨re, bw⟩


/-! ### impl_NumeratorOf: function 8 -/
mutual
def impl_NumeratorOf.l0 : Nat → List Bool → List Int → Bool → Int → Int → Option (List Int)
 | 0, _, _, _, _, _ => none
 | k + 1, x3, x4, x5, x16, x17 => if x17 < x16 then (if 0 ≤ x17 then (if x17 < (x3.length : Int) then (if rdOf false x3 x17 = true then (impl_NumeratorOf.j1 k x3 x4 x5 x17 0 x16 x17 (!x5)) else (impl_NumeratorOf.j1 k x3 x4 x5 x17 0 x16 x17 false)) else (none)) else (none)) else (some x4)
def impl_NumeratorOf.j1 : Nat → List Bool → List Int → Bool → Int → Int → Int → Int → Bool → Option (List Int)
 | 0, _, _, _, _, _, _, _, _ => none
 | k + 1, x3, x4, x5, x6, x7, x16, x17, x27 => if x27 = true then (if x4.length < 17592186044416 then (if 0 ≤ x6 then (if x6 < (x3.length : Int) then (impl_NumeratorOf.l0 k x3 (x4 ++ [1]) (rdOf false x3 x6) x16 (wrap64 (x17 + 1))) else (none)) else (none)) else (none)) else (if x5 = true then (if 0 ≤ x6 then (if x6 < (x3.length : Int) then (if rdOf false x3 x6 = true then (if x4.length < 17592186044416 then (impl_NumeratorOf.l0 k x3 (x4 ++ [x7]) (rdOf false x3 x6) x16 (wrap64 (x17 + 1))) else (none)) else (if x4.length < 17592186044416 then (impl_NumeratorOf.l0 k x3 (x4 ++ [(-1)]) (rdOf false x3 x6) x16 (wrap64 (x17 + 1))) else (none))) else (none)) else (none)) else (if x4.length < 17592186044416 then (if 0 ≤ x6 then (if x6 < (x3.length : Int) then (impl_NumeratorOf.l0 k x3 (x4 ++ [x7]) (rdOf false x3 x6) x16 (wrap64 (x17 + 1))) else (none)) else (none)) else (none)))
end
def impl_NumeratorOf.f (k : Nat) (l0_0 : List Int) : Option (List Int) := (impl_IsSemigroup.f k l0_0).bind fun t430 => (if t430 = true then ((impl_table.f k l0_0 200).bind fun t431 => ((impl_ConductorOf.f k l0_0).bind fun t437 => (impl_NumeratorOf.l0 k t431 (([] : List Int)) false (wrap64 (t437 + 1)) 0))) else (some ([] : List Int)))
set_option maxHeartbeats 8000000 in
set_option maxRecDepth 100000 in
theorem impl_NumeratorOf.calls (k : Nat) (A0_0 : Option Addr) (c0_0 : Nat) (l0_0 : List Int) (r : List Int) (w : World) (hr0_0 : Kd.C (Kd.int .i64) w A0_0 l0_0.length l0_0) (hc0_0 : l0_0.length ≤ c0_0) (h : impl_NumeratorOf.f k l0_0 = some r) :
  Calls Try.prog 8 #[.agg #[.slice A0_0 l0_0.length c0_0]] w fun e w' => ∃ v0_ : Value, e = .returned (v0_) ∧ Kd.R (Kd.int .i64) 3 w' w.heap.size (fun _ => True) v0_ r ∧ Below w.heap.size w w' := by
 have hu26 := Try.underlying26
 have HR0_0 := am hr0_0
 have HC0_0 := am hc0_0
 clear hr0_0 hc0_0
 have HB := am (Below.refl w.heap.size w)
 have H : ((impl_IsSemigroup.f k l0_0).bind fun t430 => (if t430 = true then ((impl_table.f k l0_0 200).bind fun t431 => ((impl_ConductorOf.f k l0_0).bind fun t437 => (impl_NumeratorOf.l0 k t431 (([] : List Int)) false (wrap64 (t437 + 1)) 0))) else (some ([] : List Int)))) = some r := h
 clear h
 replace H := ga H; obtain ⟨t430, A2, H⟩ := H
 replace H := gb H; obtain ⟨rfl, H⟩ | ⟨rfl, H⟩ := H
 ·replace H := ga H; obtain ⟨t431, A4, H⟩ := H
  obtain ⟨y434, hy434⟩ : ∃ y_ : List Int, y_ = (([] : List Int)) := ⟨_, rfl⟩
  replace H : ((impl_ConductorOf.f k l0_0).bind fun t437 => (impl_NumeratorOf.l0 k t431 y434 false (wrap64 (t437 + 1)) 0)) = some r := by first | (rw [hy434]; with_reducible first | exact H | exact bs H) | (with_reducible first | exact bs H | exact H) | (rw [hy434]; exact H) | exact H
  have Ny434 := am hy434
  clear hy434
  replace H := ga H; obtain ⟨t437, A5, H⟩ := H
  have H' := am H
  clear H
  go_enter Try.func8, Try.ntmps8
  go_wp2_with (first | ((with_reducible refine gate_dst (N := 1) rfl ?_); refine bx 1 #[.slice A0_0 l0_0.length c0_0] 26 ?_; intro gb429 hg w6 hbox hb; have BK429 := am (hbox); have GW429 := am (gs hg : w.heap.size ≤ gb429); have GE429 := GW429; replace HB := am (below_step bw hb); clear hb hbox hg; have hcz7_0 := bc BK429 0 (.slice A0_0 l0_0.length c0_0); have hfz7_0 := blk_frozen BK429.out 0) | ((with_reducible refine gate_callee (f := 65) rfl ?_); refine gl (some 9) Try.func65 #[.agg #[.slice A0_0 l0_0.length c0_0]] ?_; (with_reducible refine (impl_IsSemigroup.calls k _ _ l0_0 true _ ?side1 ?side2 A2.out).mono ?_); (case side1 => exact co (Kd.C_below HR0_0.out HB.out)); (case side2 => exact HC0_0.out); rintro e w8 ⟨rfl, hb⟩; refine ⟨_, rfl, ?_⟩; replace BK429 := kb BK429 hb; replace HB := am (below_step bw hb); clear hb; have hcz9_0 := bc BK429 0 (.slice A0_0 l0_0.length c0_0); have hfz9_0 := blk_frozen BK429.out 0) | ((with_reducible refine gate_callee (f := 66) rfl ?_); refine gl (some 12) Try.func66 #[.agg #[.slice A0_0 l0_0.length c0_0], .int .i64 200] ?_; (with_reducible refine (impl_table.calls k _ _ l0_0 200 t431 _ ?side1 ?side2 A4.out).mono ?_); (case side1 => exact co (Kd.C_below HR0_0.out HB.out)); (case side2 => exact HC0_0.out); rintro e w10 ⟨v432, rfl, ho0, hb⟩; refine ⟨_, rfl, ?_⟩; have HO433 := am (Kd.R_lower ho0 (below_size bw)); replace BK429 := kb BK429 hb; replace HB := am (below_step bw hb); clear hb ho0) | ((with_reducible refine gate_dst (N := 13) rfl ?_); refine Kd.R_lit (Kd.int .i64) _ 3 ?hg (N := 13) ?hd (xs := ([] : List Int)) (inner := []) (ok := fun _ => True) (okp := fun _ => True) ?hr ?hp (fun _ hk => hk) trivial (Below.refl _ _) (Nat.le_refl _) (by simp) ?_; (case hd => rfl); (case hg => rfl); (case hr => first | (go_simp; done) | (go_simp; rfl)); (case hp => exact (Reps.none _ _)); intro v435 w11 ho12 hb hg_ hnew_; clear hg_ hnew_; (first | rw [← Ny434.out] at ho12 | (simp only [Int.reduceToNat] at ho12; rw [← Ny434.out] at ho12)); replace HO433 := rK HO433 hb; have HO436 := am (Kd.R_lower ho12 (below_size bw)); replace BK429 := kb BK429 hb; replace HB := am (below_step bw hb); clear hb ho12; have hcz13_0 := bc BK429 0 (.slice A0_0 l0_0.length c0_0); have hfz13_0 := blk_frozen BK429.out 0) | ((with_reducible refine gate_callee (f := 67) rfl ?_); refine gl (some 15) Try.func67 #[.agg #[.slice A0_0 l0_0.length c0_0]] ?_; (with_reducible refine (impl_ConductorOf.calls k _ _ l0_0 t437 _ ?side1 ?side2 A5.out).mono ?_); (case side1 => exact co (Kd.C_below HR0_0.out HB.out)); (case side2 => exact HC0_0.out); rintro e w14 ⟨rfl, hb⟩; refine ⟨_, rfl, ?_⟩; replace HO433 := rK HO433 hb; replace HO436 := rK HO436 hb; replace BK429 := kb BK429 hb; replace HB := am (below_step bw hb); clear hb))
  go_loopg [4, 5, 17] k (fun kq v4 v5 v17 w' => ∃ (x4_1 : List Int) (x5_1 : Bool) (x17_1 : Int), v5 = .bool x5_1 ∧ v17 = .int .i64 x17_1 ∧ Aside0 (impl_NumeratorOf.l0 kq t431 x4_1 x5_1 (wrap64 (t437 + 1)) x17_1 = some r) ∧ Aside0 (kq ≤ k) ∧ Aside0 (Kd.R Kd.bool 4 w' w.heap.size (fun _ => True) v432 t431) ∧ Aside0 (Kd.R (Kd.int .i64) 3 w' w.heap.size (fun _ => True) v4 x4_1) ∧ Aside0 (w'.heap[gb429]? = some (.cells #[(.slice A0_0 l0_0.length c0_0)] 26 (0, 0))) ∧ Aside0 (Below w.heap.size w w'))
  case atStart => exact ⟨(y434), (false), (0), rr, rr, H', ⟨Nat.le_refl _⟩, ⟨ro HO433.out⟩, ⟨ro HO436.out⟩, ⟨bo BK429.out⟩, ⟨bw⟩⟩
  case round =>
   clear H'
   try clear hcz13_0; try clear hcz7_0; try clear hcz9_0; try clear hfz13_0; try clear hfz7_0; try clear hfz9_0
   obtain ⟨x4_1, x5_1, x17_1, rfl, rfl, HA, HK1, HO_3, HO_4, BK429, HB⟩ := hrel
   cases gk with
   | zero => exact absurd HA.out (by simp [impl_NumeratorOf.l0])
   | succ k1 =>
    have H := HA.out
    clear HA
    simp only [impl_NumeratorOf.l0] at H
    replace H := gi H; obtain ⟨c15b0, H⟩ | ⟨c15b0, H⟩ := H
    ·have HC16 := am H
     clear H
     go_upto_region 10 with (fail)
     go_cut [27] (fun v27 wc => ∃ (kq : Nat) (x27_15 : Bool), v27 = .bool x27_15 ∧ Aside0 (impl_NumeratorOf.j1 kq t431 x4_1 x5_1 x17_1 0 (wrap64 (t437 + 1)) x17_1 x27_15 = some r) ∧ Aside0 (kq ≤ k1) ∧ Aside0 (Kd.R Kd.bool 4 wc w.heap.size (fun _ => True) v432 t431) ∧ Aside0 (Kd.R (Kd.int .i64) 3 wc w.heap.size (fun _ => True) u4 x4_1) ∧ Aside0 (wc.heap[gb429]? = some (.cells #[(.slice A0_0 l0_0.length c0_0)] 26 (0, 0))) ∧ Aside0 (Below w.heap.size w wc))
     case first =>
      have H := HC16.out
      clear HC16
      replace H := gd H; obtain ⟨c17b0, H⟩ := H
      (first | rw [c17b0] | (simp only [i64_w, i32_w]; rw [c17b0]) | skip)
      replace H := gd H; obtain ⟨c18b0, H⟩ := H
      obtain ⟨bq19, hbq19⟩ : ∃ b_ : Bool, b_ = (rdOf false t431 x17_1) := ⟨_, rfl⟩
      replace H : (if bq19 = true then (impl_NumeratorOf.j1 k1 t431 x4_1 x5_1 x17_1 0 (wrap64 (t437 + 1)) x17_1 (!x5_1)) else (impl_NumeratorOf.j1 k1 t431 x4_1 x5_1 x17_1 0 (wrap64 (t437 + 1)) x17_1 false)) = some r := by rw [← hbq19] at H; exact H
      have Nbq19 := am hbq19
      clear hbq19
      replace H := gb H; obtain ⟨rfl, H⟩ | ⟨rfl, H⟩ := H
      ·have H' := am H
       clear H
       obtain ⟨Ao21, co21, eo21⟩ := Kd.R_slice HO_3.out
       subst eo21
       obtain ⟨⟨ad438, e438, hx438_0⟩, p438, q438⟩ := pq (Kd.at_bool (Kd.R_reads' HO_3.out).2.2 x17_1)
       (try rw [← Nbq19.out] at hx438_0)
       cases e438
       go_wp2
       go_meet
       case rel => exact ⟨_, (!x5_1), rr, H', ⟨by have := HK1.out; first | omega | exact Nat.le_refl _⟩, ⟨ro HO_3.out⟩, ⟨ro HO_4.out⟩, ⟨bo BK429.out⟩, ⟨bw⟩⟩
      have H' := am H
      clear H
      obtain ⟨Ao22, co22, eo22⟩ := Kd.R_slice HO_3.out
      subst eo22
      obtain ⟨⟨ad438, e438, hx438_0⟩, p438, q438⟩ := pq (Kd.at_bool (Kd.R_reads' HO_3.out).2.2 x17_1)
      (try rw [← Nbq19.out] at hx438_0)
      cases e438
      go_wp2
      go_meet
      case rel => exact ⟨_, (false), rr, H', ⟨by have := HK1.out; first | omega | exact Nat.le_refl _⟩, ⟨ro HO_3.out⟩, ⟨ro HO_4.out⟩, ⟨bo BK429.out⟩, ⟨bw⟩⟩
     case rest =>
      clear HC16
      try clear c15b0; try clear c17b0; try clear c18b0; try clear hcz13_0; try clear hcz7_0; try clear hcz9_0; try clear hfz13_0; try clear hfz7_0; try clear hfz9_0; try clear hx438_0; try clear p438; try clear q438
      obtain ⟨kq, x27_15, rfl, HA, HJ15, HO_3, HO_4, BK429, HB⟩ := hcut
      cases kq with
      | zero => exact absurd HA.out (by simp [impl_NumeratorOf.j1])
      | succ kj15 =>
       have H := HA.out
       clear HA
       simp only [impl_NumeratorOf.j1] at H
       replace H := gb H; obtain ⟨rfl, H⟩ | ⟨rfl, H⟩ := H
       ·by_cases c24 : x4_1.length < 17592186044416
        rotate_left
        ·rw [if_neg c24] at H
         exact absurd H (by simp)
        rw [if_pos c24] at H
        have LMc24 := am c24
        clear c24
        obtain ⟨y439, hy439⟩ : ∃ y_ : List Int, y_ = (x4_1 ++ [1]) := ⟨_, rfl⟩
        replace H : (if 0 ≤ x17_1 then (if x17_1 < (t431.length : Int) then (impl_NumeratorOf.l0 kj15 t431 y439 (rdOf false t431 x17_1) (wrap64 (t437 + 1)) (wrap64 (x17_1 + 1))) else (none)) else (none)) = some r := by first | (rw [hy439]; with_reducible first | exact H | exact bs H) | (with_reducible first | exact bs H | exact H) | (rw [hy439]; exact H) | exact H
        have Ny439 := am hy439
        clear hy439
        replace H := gd H; obtain ⟨c25b0, H⟩ := H
        replace H := gd H; obtain ⟨c26b0, H⟩ := H
        have H' := am H
        clear H
        go_wp2_with (first | ((with_reducible refine gate_builtin (b := .append) (xs := #[.tmp 36, .tmp 38]) rfl ?_); at_builtin; refine Kd.R_append (Kd.int .i64) (w0 := w) w.heap.size rfl (.tmp 36) (.tmp 38) 24 3 (.int .i64 0) 8 rfl Try.underlying24 info3 rfl (by decide) (by omega) u4 x4_1 1 [.int .i64 1] (fun _ => True) (fun _ => False) rfl rfl ?aP (fun _ hk => hk.elim) ?aF ?aO ?aB ?aS ?aL ?_; (case aP => exact rfl); (case aB => exact bw); (case aF => exact (fun _ _ => trivial)); (case aO => exact (ro HO_4.out)); (case aS => exact (below_size bw)); (case aL => have := LMc24.out; omega); intro v440 w27 ho hb hg hat; rw [← Ny439.out] at ho; replace HO_3 := am (Kd.R_over' (ro HO_3.out) (Kd.R_typed (ro HO_4.out)) (by decide) hg); replace BK429 := am (blk_grown (g := gb429) (o := .cells #[.slice A0_0 l0_0.length c0_0] 26 (0, 0)) (bo BK429.out) hg (Kd.R_ne HO_4.out BK429.out (by decide))); replace HB := am (hb); have HO441 := am (ho); clear HO_4 ho hb hg hat; obtain ⟨Ao28, co28, eo28⟩ := Kd.R_slice HO_3.out; subst eo28; have p442 : 0 ≤ (x17_1 : Int) := of_decide_eq_true (by first | (with_reducible assumption) | assumption); have q442 : x17_1 < (t431.length : Int) := of_decide_eq_true (by first | (with_reducible assumption) | assumption); obtain ⟨ad442, e442, hx442_0⟩ := Kd.at_bool (Kd.R_reads' HO_3.out).2.2 x17_1 p442 q442; cases e442; replace p442 := eq_true p442; replace q442 := eq_true q442))
        go_roundg kj15
        case measure => have := HK1.out; have := HJ15.out; omega
        case rel => exact ⟨(y439), (rdOf false t431 x17_1), (wrap64 (x17_1 + 1)), rr, rr, H', ⟨by have := HK1.out; have := HJ15.out; omega⟩, ⟨ro HO_3.out⟩, ⟨ro HO441.out⟩, ⟨bo BK429.out⟩, ⟨bw⟩⟩
       replace H := gb H; obtain ⟨rfl, H⟩ | ⟨rfl, H⟩ := H
       ·replace H := gd H; obtain ⟨c30b0, H⟩ := H
        replace H := gd H; obtain ⟨c31b0, H⟩ := H
        obtain ⟨bq32, hbq32⟩ : ∃ b_ : Bool, b_ = (rdOf false t431 x17_1) := ⟨_, rfl⟩
        replace H : (if bq32 = true then (if x4_1.length < 17592186044416 then (impl_NumeratorOf.l0 kj15 t431 (x4_1 ++ [0]) bq32 (wrap64 (t437 + 1)) (wrap64 (x17_1 + 1))) else (none)) else (if x4_1.length < 17592186044416 then (impl_NumeratorOf.l0 kj15 t431 (x4_1 ++ [(-1)]) bq32 (wrap64 (t437 + 1)) (wrap64 (x17_1 + 1))) else (none))) = some r := by rw [← hbq32] at H; exact H
        have Nbq32 := am hbq32
        clear hbq32
        replace H := gb H; obtain ⟨rfl, H⟩ | ⟨rfl, H⟩ := H
        ·by_cases c34 : x4_1.length < 17592186044416
         rotate_left
         ·rw [if_neg c34] at H
          exact absurd H (by simp)
         rw [if_pos c34] at H
         have LMc34 := am c34
         clear c34
         obtain ⟨y444, hy444⟩ : ∃ y_ : List Int, y_ = (x4_1 ++ [0]) := ⟨_, rfl⟩
         replace H : (impl_NumeratorOf.l0 kj15 t431 y444 true (wrap64 (t437 + 1)) (wrap64 (x17_1 + 1))) = some r := by first | (rw [hy444]; with_reducible first | exact H | exact bs H) | (with_reducible first | exact bs H | exact H) | (rw [hy444]; exact H) | exact H
         have Ny444 := am hy444
         clear hy444
         have H' := am H
         clear H
         obtain ⟨Ao35, co35, eo35⟩ := Kd.R_slice HO_3.out
         subst eo35
         obtain ⟨⟨ad443, e443, hx443_0⟩, p443, q443⟩ := pq (Kd.at_bool (Kd.R_reads' HO_3.out).2.2 x17_1)
         (try rw [← Nbq32.out] at hx443_0)
         cases e443
         go_wp2_with (first | ((with_reducible refine gate_builtin (b := .append) (xs := #[.tmp 36, .tmp 38]) rfl ?_); at_builtin; refine Kd.R_append (Kd.int .i64) (w0 := w) w.heap.size rfl (.tmp 36) (.tmp 38) 24 3 (.int .i64 0) 8 rfl Try.underlying24 info3 rfl (by decide) (by omega) u4 x4_1 0 [.int .i64 0] (fun _ => True) (fun _ => False) rfl rfl ?aP (fun _ hk => hk.elim) ?aF ?aO ?aB ?aS ?aL ?_; (case aP => exact rfl); (case aB => exact bw); (case aF => exact (fun _ _ => trivial)); (case aO => exact (ro HO_4.out)); (case aS => exact (below_size bw)); (case aL => have := LMc34.out; omega); intro v445 w36 ho hb hg hat; rw [← Ny444.out] at ho; replace HO_3 := am (Kd.R_over' (ro HO_3.out) (Kd.R_typed (ro HO_4.out)) (by decide) hg); replace BK429 := am (blk_grown (g := gb429) (o := .cells #[.slice A0_0 l0_0.length c0_0] 26 (0, 0)) (bo BK429.out) hg (Kd.R_ne HO_4.out BK429.out (by decide))); replace HB := am (hb); have HO446 := am (ho); clear HO_4 ho hb hg hat; have p447 : 0 ≤ (x17_1 : Int) := of_decide_eq_true (by first | (with_reducible assumption) | assumption); have q447 : x17_1 < (t431.length : Int) := of_decide_eq_true (by first | (with_reducible assumption) | assumption); obtain ⟨ad447, e447, hx447_0⟩ := Kd.at_bool (Kd.R_reads' HO_3.out).2.2 x17_1 p447 q447; (try rw [← Nbq32.out] at hx447_0); obtain rfl : ad443 = ad447 := (by injection e447); replace p447 := eq_true p447; replace q447 := eq_true q447))
         go_roundg kj15
         case measure => have := HK1.out; have := HJ15.out; omega
         case rel => exact ⟨(y444), (true), (wrap64 (x17_1 + 1)), rr, rr, H', ⟨by have := HK1.out; have := HJ15.out; omega⟩, ⟨ro HO_3.out⟩, ⟨ro HO446.out⟩, ⟨bo BK429.out⟩, ⟨bw⟩⟩
        by_cases c37 : x4_1.length < 17592186044416
        rotate_left
        ·rw [if_neg c37] at H
         exact absurd H (by simp)
        rw [if_pos c37] at H
        have LMc37 := am c37
        clear c37
        obtain ⟨y448, hy448⟩ : ∃ y_ : List Int, y_ = (x4_1 ++ [(-1)]) := ⟨_, rfl⟩
        replace H : (impl_NumeratorOf.l0 kj15 t431 y448 false (wrap64 (t437 + 1)) (wrap64 (x17_1 + 1))) = some r := by first | (rw [hy448]; with_reducible first | exact H | exact bs H) | (with_reducible first | exact bs H | exact H) | (rw [hy448]; exact H) | exact H
        have Ny448 := am hy448
        clear hy448
        have H' := am H
        clear H
        obtain ⟨Ao38, co38, eo38⟩ := Kd.R_slice HO_3.out
        subst eo38
        obtain ⟨⟨ad443, e443, hx443_0⟩, p443, q443⟩ := pq (Kd.at_bool (Kd.R_reads' HO_3.out).2.2 x17_1)
        (try rw [← Nbq32.out] at hx443_0)
        cases e443
        go_wp2_with (first | ((with_reducible refine gate_builtin (b := .append) (xs := #[.tmp 36, .tmp 38]) rfl ?_); at_builtin; refine Kd.R_append (Kd.int .i64) (w0 := w) w.heap.size rfl (.tmp 36) (.tmp 38) 24 3 (.int .i64 0) 8 rfl Try.underlying24 info3 rfl (by decide) (by omega) u4 x4_1 (-1) [.int .i64 (-1)] (fun _ => True) (fun _ => False) rfl rfl ?aP (fun _ hk => hk.elim) ?aF ?aO ?aB ?aS ?aL ?_; (case aP => exact rfl); (case aB => exact bw); (case aF => exact (fun _ _ => trivial)); (case aO => exact (ro HO_4.out)); (case aS => exact (below_size bw)); (case aL => have := LMc37.out; omega); intro v449 w39 ho hb hg hat; rw [← Ny448.out] at ho; replace HO_3 := am (Kd.R_over' (ro HO_3.out) (Kd.R_typed (ro HO_4.out)) (by decide) hg); replace BK429 := am (blk_grown (g := gb429) (o := .cells #[.slice A0_0 l0_0.length c0_0] 26 (0, 0)) (bo BK429.out) hg (Kd.R_ne HO_4.out BK429.out (by decide))); replace HB := am (hb); have HO450 := am (ho); clear HO_4 ho hb hg hat; have p451 : 0 ≤ (x17_1 : Int) := of_decide_eq_true (by first | (with_reducible assumption) | assumption); have q451 : x17_1 < (t431.length : Int) := of_decide_eq_true (by first | (with_reducible assumption) | assumption); obtain ⟨ad451, e451, hx451_0⟩ := Kd.at_bool (Kd.R_reads' HO_3.out).2.2 x17_1 p451 q451; (try rw [← Nbq32.out] at hx451_0); obtain rfl : ad443 = ad451 := (by injection e451); replace p451 := eq_true p451; replace q451 := eq_true q451))
        go_roundg kj15
        case measure => have := HK1.out; have := HJ15.out; omega
        case rel => exact ⟨(y448), (false), (wrap64 (x17_1 + 1)), rr, rr, H', ⟨by have := HK1.out; have := HJ15.out; omega⟩, ⟨ro HO_3.out⟩, ⟨ro HO450.out⟩, ⟨bo BK429.out⟩, ⟨bw⟩⟩
       by_cases c40 : x4_1.length < 17592186044416
       rotate_left
       ·rw [if_neg c40] at H
        exact absurd H (by simp)
       rw [if_pos c40] at H
       have LMc40 := am c40
       clear c40
       obtain ⟨y452, hy452⟩ : ∃ y_ : List Int, y_ = (x4_1 ++ [0]) := ⟨_, rfl⟩
       replace H : (if 0 ≤ x17_1 then (if x17_1 < (t431.length : Int) then (impl_NumeratorOf.l0 kj15 t431 y452 (rdOf false t431 x17_1) (wrap64 (t437 + 1)) (wrap64 (x17_1 + 1))) else (none)) else (none)) = some r := by first | (rw [hy452]; with_reducible first | exact H | exact bs H) | (with_reducible first | exact bs H | exact H) | (rw [hy452]; exact H) | exact H
       have Ny452 := am hy452
       clear hy452
       replace H := gd H; obtain ⟨c41b0, H⟩ := H
       replace H := gd H; obtain ⟨c42b0, H⟩ := H
       have H' := am H
       clear H
       go_wp2_with (first | ((with_reducible refine gate_builtin (b := .append) (xs := #[.tmp 36, .tmp 38]) rfl ?_); at_builtin; refine Kd.R_append (Kd.int .i64) (w0 := w) w.heap.size rfl (.tmp 36) (.tmp 38) 24 3 (.int .i64 0) 8 rfl Try.underlying24 info3 rfl (by decide) (by omega) u4 x4_1 0 [.int .i64 0] (fun _ => True) (fun _ => False) rfl rfl ?aP (fun _ hk => hk.elim) ?aF ?aO ?aB ?aS ?aL ?_; (case aP => exact rfl); (case aB => exact bw); (case aF => exact (fun _ _ => trivial)); (case aO => exact (ro HO_4.out)); (case aS => exact (below_size bw)); (case aL => have := LMc40.out; omega); intro v453 w43 ho hb hg hat; rw [← Ny452.out] at ho; replace HO_3 := am (Kd.R_over' (ro HO_3.out) (Kd.R_typed (ro HO_4.out)) (by decide) hg); replace BK429 := am (blk_grown (g := gb429) (o := .cells #[.slice A0_0 l0_0.length c0_0] 26 (0, 0)) (bo BK429.out) hg (Kd.R_ne HO_4.out BK429.out (by decide))); replace HB := am (hb); have HO454 := am (ho); clear HO_4 ho hb hg hat; obtain ⟨Ao44, co44, eo44⟩ := Kd.R_slice HO_3.out; subst eo44; have p455 : 0 ≤ (x17_1 : Int) := of_decide_eq_true (by first | (with_reducible assumption) | assumption); have q455 : x17_1 < (t431.length : Int) := of_decide_eq_true (by first | (with_reducible assumption) | assumption); obtain ⟨ad455, e455, hx455_0⟩ := Kd.at_bool (Kd.R_reads' HO_3.out).2.2 x17_1 p455 q455; cases e455; replace p455 := eq_true p455; replace q455 := eq_true q455))
       go_roundg kj15
       case measure => have := HK1.out; have := HJ15.out; omega
       case rel => exact ⟨(y452), (rdOf false t431 x17_1), (wrap64 (x17_1 + 1)), rr, rr, H', ⟨by have := HK1.out; have := HJ15.out; omega⟩, ⟨ro HO_3.out⟩, ⟨ro HO454.out⟩, ⟨bo BK429.out⟩, ⟨bw⟩⟩
    obtain rfl := Option.some.inj H
    go_wp2
    go_ret
    exact ⟨_, re, ro HO_4.out, bw⟩
 obtain rfl := Option.some.inj H
 go_enter Try.func8, Try.ntmps8
 go_wp2_with (first | ((with_reducible refine gate_dst (N := 1) rfl ?_); refine bx 1 #[.slice A0_0 l0_0.length c0_0] 26 ?_; intro gb429 hg w45 hbox hb; have BK429 := am (hbox); have GW429 := am (gs hg : w.heap.size ≤ gb429); have GE429 := GW429; replace HB := am (below_step bw hb); clear hb hbox hg; have hcz46_0 := bc BK429 0 (.slice A0_0 l0_0.length c0_0); have hfz46_0 := blk_frozen BK429.out 0) | ((with_reducible refine gate_callee (f := 65) rfl ?_); refine gl (some 9) Try.func65 #[.agg #[.slice A0_0 l0_0.length c0_0]] ?_; (with_reducible refine (impl_IsSemigroup.calls k _ _ l0_0 false _ ?side1 ?side2 A2.out).mono ?_); (case side1 => exact co (Kd.C_below HR0_0.out HB.out)); (case side2 => exact HC0_0.out); rintro e w47 ⟨rfl, hb⟩; refine ⟨_, rfl, ?_⟩; replace BK429 := kb BK429 hb; replace HB := am (below_step bw hb); clear hb))
 go_ret
 exact ⟨_, re, by first | exact Kd.R_nil _ _ _ _ _ | exact Kd.N_nil _ _ _ _ _ | exact Kd.V_nil _ _ _ _ _ | exact Kd.Q_nil _ _ _ _ _ | exact Kd.S_nil _ _ _ _ _, bw⟩

end Go.Proofs.Ytbbehmbpoilffaa.C
