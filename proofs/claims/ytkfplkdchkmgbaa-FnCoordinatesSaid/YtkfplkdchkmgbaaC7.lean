/- Contracts of functions of the program: impl_IsSemigroup, impl_MultiplicityOf, impl_Contains, impl_table, impl_AperySet. -/
import Derived.Test.YtkfplkdchkmgbaaC0
import Derived.Test.YtkfplkdchkmgbaaC6
namespace Go.Proofs.Ytkfplkdchkmgbaa.C
open Go.RowKit Go.Proofs.YtkfplkdchkmgbaaW.PrintWords Go.Proofs.YtkfplkdchkmgbaaW.PrintLast Go.Proofs.YtkfplkdchkmgbaaW.PrintMore
attribute [local go_sem] max2_int min2_int max_two min_two max_three min_three max_four min_four
set_option linter.unusedVariables false
set_option linter.unusedSimpArgs false

/-! ### impl_IsSemigroup: function 151 -/
mutual
def impl_IsSemigroup.j0 : Nat → List Int → Bool → Option (Bool)
 | 0, _, _ => none
 | k + 1, x3, x27 => if x27 = true then (some false) else (impl_IsSemigroup.l0 k x3 1)
def impl_IsSemigroup.l0 : Nat → List Int → Int → Option (Bool)
 | 0, _, _ => none
 | k + 1, x3, x4 => if x4 < (x3.length : Int) then (if 0 ≤ x4 then (if x4 ≤ (x3.length : Int) then ((impl_Generates.f k (x3.take (x4 : Int).toNat) (rd x3 x4)).bind fun t392 => (if t392 = true then (some false) else (impl_IsSemigroup.l0 k x3 (wrap64 (x4 + 1))))) else (none)) else (none)) else (if 0 < (x3.length : Int) then ((impl_leasts.f k x3 (rd x3 0)).bind fun t394 => (impl_IsSemigroup.l1 k x3 t394 (t394.length : Int) 0)) else (none))
def impl_IsSemigroup.l1 : Nat → List Int → List Int → Int → Int → Option (Bool)
 | 0, _, _, _, _ => none
 | k + 1, x3, x46, x47, x48 => if x48 < x47 then (if 0 ≤ x48 then (if x48 < (x46.length : Int) then (if 0 < (x3.length : Int) then (if (wrap64 ((rd x46 x48) - (rd x3 0))) ≥ 200 then (some false) else (impl_IsSemigroup.l1 k x3 x46 x47 (wrap64 (x48 + 1)))) else (none)) else (none)) else (none)) else (some true)
end
def impl_IsSemigroup.f (k : Nat) (l0_0 : List Int) : Option (Bool) := (impl_within.f (l0_0.length : Int) 1 12).bind fun t386 => (if t386 = true then ((impl_allWithin.f k l0_0 1 60).bind fun t387 => (if t387 = true then ((impl_IsAscending.f k l0_0).bind fun t388 => (if t388 = true then ((impl_GcdOfList.f k l0_0).bind fun t389 => (impl_IsSemigroup.j0 k l0_0 (t389 != 1))) else (impl_IsSemigroup.j0 k l0_0 true))) else (impl_IsSemigroup.j0 k l0_0 true))) else (impl_IsSemigroup.j0 k l0_0 true))
def impl_IsSemigroup.T7 : Bool × List (List Nat × List Nat) := (true, [([], []), ([], []), ([0, 1], [0, 1]), ([], []), ([], []), ([3, 4], [3, 4]), ([5], [5]), ([2, 6], [2, 6])])
def impl_IsSemigroup.B7 : List Nat := [0, 0, 3, 0, 0, 24, 56, 127]
theorem impl_IsSemigroup.tab7 : rtab .any (opsOf Try.f151 7) = impl_IsSemigroup.T7 := by kernel_rfl
theorem impl_IsSemigroup.bits7 : waitsOk impl_IsSemigroup.T7.2 impl_IsSemigroup.B7 = true := by kernel_rfl
set_option maxHeartbeats 8000000 in
set_option maxRecDepth 100000 in
theorem impl_IsSemigroup.calls (k : Nat) (A0_0 : Option Addr) (c0_0 : Nat) (l0_0 : List Int) (r : Bool) (w : World) (hr0_0 : Kd.C (Kd.int .i64) w A0_0 l0_0.length l0_0) (hc0_0 : l0_0.length ≤ c0_0) (h : impl_IsSemigroup.f k l0_0 = some r) :
  Calls Try.prog 151 #[.agg #[.slice A0_0 l0_0.length c0_0]] w fun e w' => e = .returned (.bool r) ∧ Below w.heap.size w w' := by
 have hu26 := Try.underlying26
 have HR0_0 := am hr0_0
 have HC0_0 := am hc0_0
 clear hr0_0 hc0_0
 have HB := am (Below.refl w.heap.size w)
 have H : ((impl_within.f (l0_0.length : Int) 1 12).bind fun t386 => (if t386 = true then ((impl_allWithin.f k l0_0 1 60).bind fun t387 => (if t387 = true then ((impl_IsAscending.f k l0_0).bind fun t388 => (if t388 = true then ((impl_GcdOfList.f k l0_0).bind fun t389 => (impl_IsSemigroup.j0 k l0_0 (t389 != 1))) else (impl_IsSemigroup.j0 k l0_0 true))) else (impl_IsSemigroup.j0 k l0_0 true))) else (impl_IsSemigroup.j0 k l0_0 true))) = some r := h
 clear h
 have HC2 := am H
 clear H
 go_enter Try.func151, Try.ntmps151
 go_upto_region 2 with (first | ((with_reducible refine gate_dst (N := 1) rfl ?_); refine bx 1 #[.slice A0_0 l0_0.length c0_0] 26 ?_; intro gb385 hg w3 hbox hb; have BK385 := am (hbox); have GW385 := am (gs hg : w.heap.size ≤ gb385); have GE385 := GW385; replace HB := am (below_step bw hb); clear hb hbox hg; have hcz4_0 := bc BK385 0 (.slice A0_0 l0_0.length c0_0); have hfz4_0 := blk_frozen BK385.out 0))
 (try simp only [Act.put, List.setIfInBounds_toArray, List.set_cons_zero, List.set_cons_succ])
 go_cut [27] (fun v27 wc => ∃ (kq : Nat) (x27_1 : Bool), v27 = .bool x27_1 ∧ Aside0 (impl_IsSemigroup.j0 kq l0_0 x27_1 = some r) ∧ Aside0 (kq ≤ k) ∧ Aside0 (wc.heap[gb385]? = some (.cells #[(.slice A0_0 l0_0.length c0_0)] 26 (0, 0))) ∧ Aside0 (Below w.heap.size w wc))
 case first =>
  have H := HC2.out
  clear HC2
  replace H := ga H; obtain ⟨t386, A5, H⟩ := H
  replace H := gb H; obtain ⟨rfl, H⟩ | ⟨rfl, H⟩ := H
  ·replace H := ga H; obtain ⟨t387, A7, H⟩ := H
   replace H := gb H; obtain ⟨rfl, H⟩ | ⟨rfl, H⟩ := H
   ·replace H := ga H; obtain ⟨t388, A9, H⟩ := H
    replace H := gb H; obtain ⟨rfl, H⟩ | ⟨rfl, H⟩ := H
    ·replace H := ga H; obtain ⟨t389, A11, H⟩ := H
     have H' := am H
     clear H
     go_wp2_with (first | ((with_reducible refine gate_callee (f := 139) rfl ?_); refine gl (some 11) Try.func139 #[.int .i64 (l0_0.length : Int), .int .i64 1, .int .i64 12] ?_; (with_reducible refine (impl_within.calls (l0_0.length : Int) 1 12 true _ A5.out).mono ?_); rintro e w' ⟨rfl, ⟨nd, rfl⟩⟩; refine ⟨_, rfl, ?_⟩) | (go_at_call 135; (with_reducible refine (impl_allWithin.calls k _ _ l0_0 1 60 true _ ?side1 ?side2 A7.out).mono ?_); (case side1 => exact co (Kd.C_below HR0_0.out bw)); (case side2 => exact HC0_0.out); rintro e w' ⟨rfl, ⟨nd, rfl⟩⟩) | (go_at_call 216; (with_reducible refine (impl_IsAscending.calls k _ _ l0_0 true _ ?side1 ?side2 A9.out).mono ?_); (case side1 => exact co (Kd.C_below HR0_0.out bw)); (case side2 => exact HC0_0.out); rintro e w' ⟨rfl, ⟨nd, rfl⟩⟩) | (go_at_call 217; (with_reducible refine (impl_GcdOfList.calls k _ _ l0_0 t389 _ ?side1 ?side2 A11.out).mono ?_); (case side1 => exact co (Kd.C_below HR0_0.out bw)); (case side2 => exact HC0_0.out); rintro e w12 ⟨rfl, hb⟩; replace BK385 := kb BK385 hb; replace HB := am (below_step bw hb); clear hb))
     go_meet
     case rel => exact ⟨_, ((t389 != 1)), rr, H', ⟨om⟩, ⟨bo BK385.out⟩, ⟨bw⟩⟩
    have H' := am H
    clear H
    go_wp2_with (first | ((with_reducible refine gate_callee (f := 139) rfl ?_); refine gl (some 11) Try.func139 #[.int .i64 (l0_0.length : Int), .int .i64 1, .int .i64 12] ?_; (with_reducible refine (impl_within.calls (l0_0.length : Int) 1 12 true _ A5.out).mono ?_); rintro e w' ⟨rfl, ⟨nd, rfl⟩⟩; refine ⟨_, rfl, ?_⟩) | (go_at_call 135; (with_reducible refine (impl_allWithin.calls k _ _ l0_0 1 60 true _ ?side1 ?side2 A7.out).mono ?_); (case side1 => exact co (Kd.C_below HR0_0.out bw)); (case side2 => exact HC0_0.out); rintro e w' ⟨rfl, ⟨nd, rfl⟩⟩) | (go_at_call 216; (with_reducible refine (impl_IsAscending.calls k _ _ l0_0 false _ ?side1 ?side2 A9.out).mono ?_); (case side1 => exact co (Kd.C_below HR0_0.out bw)); (case side2 => exact HC0_0.out); rintro e w' ⟨rfl, ⟨nd, rfl⟩⟩))
    go_meet
    case rel => exact ⟨_, (true), rr, H', ⟨om⟩, ⟨bo BK385.out⟩, ⟨bw⟩⟩
   have H' := am H
   clear H
   go_wp2_with (first | ((with_reducible refine gate_callee (f := 139) rfl ?_); refine gl (some 11) Try.func139 #[.int .i64 (l0_0.length : Int), .int .i64 1, .int .i64 12] ?_; (with_reducible refine (impl_within.calls (l0_0.length : Int) 1 12 true _ A5.out).mono ?_); rintro e w' ⟨rfl, ⟨nd, rfl⟩⟩; refine ⟨_, rfl, ?_⟩) | (go_at_call 135; (with_reducible refine (impl_allWithin.calls k _ _ l0_0 1 60 false _ ?side1 ?side2 A7.out).mono ?_); (case side1 => exact co (Kd.C_below HR0_0.out bw)); (case side2 => exact HC0_0.out); rintro e w' ⟨rfl, ⟨nd, rfl⟩⟩))
   go_meet
   case rel => exact ⟨_, (true), rr, H', ⟨om⟩, ⟨bo BK385.out⟩, ⟨bw⟩⟩
  have H' := am H
  clear H
  go_wp2_with (first | ((with_reducible refine gate_callee (f := 139) rfl ?_); refine gl (some 11) Try.func139 #[.int .i64 (l0_0.length : Int), .int .i64 1, .int .i64 12] ?_; (with_reducible refine (impl_within.calls (l0_0.length : Int) 1 12 false _ A5.out).mono ?_); rintro e w' ⟨rfl, ⟨nd, rfl⟩⟩; refine ⟨_, rfl, ?_⟩))
  go_meet
  case rel => exact ⟨_, (true), rr, H', ⟨om⟩, ⟨bo BK385.out⟩, ⟨bw⟩⟩
 case rest =>
  clear HC2
  try clear hcz4_0; try clear hfz4_0
  obtain ⟨kq, x27_1, rfl, HA, HJ1, BK385, HB⟩ := hcut
  cases kq with
  | zero => exact absurd HA.out (by simp [impl_IsSemigroup.j0])
  | succ kj1 =>
   have H := HA.out
   clear HA
   simp only [impl_IsSemigroup.j0] at H
   replace H := gb H; obtain ⟨rfl, H⟩ | ⟨rfl, H⟩ := H
   ·obtain rfl := Option.some.inj H
    go_wp2
    go_ret
    exact ⟨re, bw⟩
   have H' := am H
   clear H
   go_wp2
   go_loopg [4] kj1 (fun kq v4 w' => ∃ (x4_2 : Int), v4 = .int .i64 x4_2 ∧ Aside0 (impl_IsSemigroup.l0 kq l0_0 x4_2 = some r) ∧ Aside0 (kq ≤ kj1) ∧ Aside0 (w'.heap[gb385]? = some (.cells #[(.slice A0_0 l0_0.length c0_0)] 26 (0, 0))) ∧ Aside0 (Below w.heap.size w w'))
   case atStart => exact ⟨(1), rr, H', ⟨Nat.le_refl _⟩, ⟨bo BK385.out⟩, ⟨bw⟩⟩
   case round =>
    clear H'
    try clear hcz4_0; try clear hfz4_0
    obtain ⟨x4_2, rfl, HA, HK2, BK385, HB⟩ := hrel
    cases gk with
    | zero => exact absurd HA.out (by simp [impl_IsSemigroup.l0])
    | succ k2 =>
     have H := HA.out
     clear HA
     simp only [impl_IsSemigroup.l0] at H
     replace H := gi H; obtain ⟨c14b0, H⟩ | ⟨c14b0, H⟩ := H
     ·replace H := gp H; obtain ⟨c15, H⟩ := H
      have c15b0 := eq_true c15
      have c15b1 : decide (0 ≤ x4_2) = true := decide_eq_true c15
      clear c15
      replace H := gp H; obtain ⟨c16, H⟩ := H
      have c16b0 := eq_true c16
      have c16b1 : decide (x4_2 ≤ (l0_0.length : Int)) = true := decide_eq_true c16
      clear c16
      replace H := ga H; obtain ⟨t392, A17, H⟩ := H
      replace H := gb H; obtain ⟨rfl, H⟩ | ⟨rfl, H⟩ := H
      ·obtain rfl := Option.some.inj H
       try go_wp2
       replace BK385 := bd BK385
       replace HB := am (below_drew1 HB.out)
       obtain ⟨i020, hi020, _, hsz20, _⟩ := info_parts info3
       obtain ⟨hcut20, hA20, hC20⟩ := print_take_of (P := Try.prog) (Value.int .i64) 0 24 3 .i64 Try.underlying24 hi020 hsz20 A0_0 c0_0 l0_0 x4_2 (of_decide_eq_true (by first | (with_reducible assumption) | assumption)) (of_decide_eq_true (by first | (with_reducible assumption) | assumption)) HC0_0.out
       have HR390 := am (Kd.C_of_reads (h1 := fun _ => rfl) (hA20 _ (Kd.reads_of_C HR0_0.out)))
       have HC390 := am hC20
       clear hA20 hC20 hi020 hsz20
       obtain ⟨⟨ad391, e391, hx391_0⟩, p391, q391⟩ := pq (Kd.at_int HR0_0.out x4_2)
       have hw391_0 := hx391_0
       cases e391
       replace hx391_0 := hw HB hx391_0
       refine start_ (n := 8) (S := fun w' => w'.cell? (ad391.add (x4_2).toNat) = some (.int .i64 (rd l0_0 x4_2))) (ds := []) (yz 8 0) (by kernel_rfl) rfl rfl (((HB.out.cell (World.block_lt_of_cell? w _ hw391_0)).trans hw391_0)) (fun hHeld => ?_); refine with_tabW impl_IsSemigroup.tab7 impl_IsSemigroup.bits7 (fun HT_ HW_ => ?_)
       generalize wr.drew = w19 at BK385 HB HR390 hx391_0 hHeld ⊢
       refine pa 0 (some 34) (yz 8 1) HT_ ?_
       refine pa 1 (some 35) (yz 8 3) HT_ ?_
       refine pa 2 (some 36) (yz 8 7) HT_ ?_
       refine pa 3 (some 37) (yz 8 15) HT_ ?_
       refine pa 4 (some 38) (yz 8 31) HT_ ?_
       refine pa 5 (some 39) (yz 8 63) HT_ ?_
       refine tK 6 (some 40) (yz 8 127) HT_ HW_ hHeld ?_
       refine oa 7 (some 41) (yz 8 255) HT_ (fun K hK => ?_)
       refine goes_ Try.func201 (by kernel_rfl) rfl #[.slice (some ad391) (l0_0.take (x4_2 : Int).toNat).length c0_0, .int .i64 (rd l0_0 x4_2)] (by rfl) rfl rfl (by (try simp only [List.map_toArray, List.map_cons, List.map_nil]); first | done | (rw [show (l0_0.take (x4_2 : Int).toNat).length = x4_2.toNat from (by rw [List.length_take]; have h_ : (x4_2 : Int) ≤ (l0_0.length : Int) := of_decide_eq_true (by first | (with_reducible assumption) | assumption); omega)] <;> rfl) | rfl | (simp only [List.length_drop, List.length_take]; rfl)) ?_
       with_reducible refine (impl_Generates.calls k2 _ _ (l0_0.take (x4_2 : Int).toNat) (rd l0_0 x4_2) true _ ?side1 ?side2 A17.out).mono ?_
       (case side1 => exact co (Kd.C_below HR390.out HB.out))
       (case side2 => exact HC390.out)
       rintro e w21 ⟨rfl, hb⟩
       refine ⟨_, rfl, ?_⟩
       replace BK385 := kb BK385 hb
       replace HB := am (below_step bw hb)
       clear hb
       refine hK.out _ _ (((HB.out.cell (World.block_lt_of_cell? w _ hw391_0)).trans hw391_0)) (fun hHeld => ?_)
       clear hK K
       refine nm (some 41) ?_
       refine done_ (done_of HT_.out (by kernel_rfl)) ?_
       try go_wp2
       go_ret
       exact ⟨re, bw⟩
      have H' := am H
      clear H
      try go_wp2
      replace BK385 := bd BK385
      replace HB := am (below_drew1 HB.out)
      obtain ⟨i023, hi023, _, hsz23, _⟩ := info_parts info3
      obtain ⟨hcut23, hA23, hC23⟩ := print_take_of (P := Try.prog) (Value.int .i64) 0 24 3 .i64 Try.underlying24 hi023 hsz23 A0_0 c0_0 l0_0 x4_2 (of_decide_eq_true (by first | (with_reducible assumption) | assumption)) (of_decide_eq_true (by first | (with_reducible assumption) | assumption)) HC0_0.out
      have HR390 := am (Kd.C_of_reads (h1 := fun _ => rfl) (hA23 _ (Kd.reads_of_C HR0_0.out)))
      have HC390 := am hC23
      clear hA23 hC23 hi023 hsz23
      obtain ⟨⟨ad391, e391, hx391_0⟩, p391, q391⟩ := pq (Kd.at_int HR0_0.out x4_2)
      have hw391_0 := hx391_0
      cases e391
      replace hx391_0 := hw HB hx391_0
      refine start_ (n := 8) (S := fun w' => w'.cell? (ad391.add (x4_2).toNat) = some (.int .i64 (rd l0_0 x4_2))) (ds := []) (yz 8 0) (by kernel_rfl) rfl rfl (((HB.out.cell (World.block_lt_of_cell? w _ hw391_0)).trans hw391_0)) (fun hHeld => ?_); refine with_tabW impl_IsSemigroup.tab7 impl_IsSemigroup.bits7 (fun HT_ HW_ => ?_)
      generalize wr.drew = w22 at BK385 HB HR390 hx391_0 hHeld ⊢
      refine pa 0 (some 34) (yz 8 1) HT_ ?_
      refine pa 1 (some 35) (yz 8 3) HT_ ?_
      refine pa 2 (some 36) (yz 8 7) HT_ ?_
      refine pa 3 (some 37) (yz 8 15) HT_ ?_
      refine pa 4 (some 38) (yz 8 31) HT_ ?_
      refine pa 5 (some 39) (yz 8 63) HT_ ?_
      refine tK 6 (some 40) (yz 8 127) HT_ HW_ hHeld ?_
      refine oa 7 (some 41) (yz 8 255) HT_ (fun K hK => ?_)
      refine goes_ Try.func201 (by kernel_rfl) rfl #[.slice (some ad391) (l0_0.take (x4_2 : Int).toNat).length c0_0, .int .i64 (rd l0_0 x4_2)] (by rfl) rfl rfl (by (try simp only [List.map_toArray, List.map_cons, List.map_nil]); first | done | (rw [show (l0_0.take (x4_2 : Int).toNat).length = x4_2.toNat from (by rw [List.length_take]; have h_ : (x4_2 : Int) ≤ (l0_0.length : Int) := of_decide_eq_true (by first | (with_reducible assumption) | assumption); omega)] <;> rfl) | rfl | (simp only [List.length_drop, List.length_take]; rfl)) ?_
      with_reducible refine (impl_Generates.calls k2 _ _ (l0_0.take (x4_2 : Int).toNat) (rd l0_0 x4_2) false _ ?side1 ?side2 A17.out).mono ?_
      (case side1 => exact co (Kd.C_below HR390.out HB.out))
      (case side2 => exact HC390.out)
      rintro e w24 ⟨rfl, hb⟩
      refine ⟨_, rfl, ?_⟩
      replace BK385 := kb BK385 hb
      replace HB := am (below_step bw hb)
      clear hb
      refine hK.out _ _ (((HB.out.cell (World.block_lt_of_cell? w _ hw391_0)).trans hw391_0)) (fun hHeld => ?_)
      clear hK K
      refine nm (some 41) ?_
      refine done_ (done_of HT_.out (by kernel_rfl)) ?_
      try go_wp2
      go_roundg k2
      case measure => have := HJ1.out; have := HK2.out; omega
      case rel => exact ⟨(wrap64 (x4_2 + 1)), rr, H', ⟨by have := HJ1.out; have := HK2.out; omega⟩, ⟨bo BK385.out⟩, ⟨bw⟩⟩
     replace H := gp H; obtain ⟨c25, H⟩ := H
     have c25b0 : decide (0 < (l0_0.length : Int)) = true := decide_eq_true c25
     have c25b1 : decide (0 < l0_0.length) = true := decide_eq_true (by omega)
     clear c25
     replace H := ga H; obtain ⟨t394, A26, H⟩ := H
     have H' := am H
     clear H
     have p393 : 0 ≤ (0 : Int) := (by omega)
     have q393 : 0 < (l0_0.length : Int) := of_decide_eq_true (by first | (with_reducible assumption) | assumption)
     obtain ⟨ad393, e393, hx393_0⟩ := Kd.at_int HR0_0.out 0 p393 q393
     cases e393
     have qi393 : (0 < l0_0.length) = True := eq_true (by omega)
     (try rw [show ((0 : Int)).toNat = 0 from rfl] at hx393_0)
     (try rw [Addr.add_zero'] at hx393_0)
     replace hx393_0 := hw HB hx393_0
     replace p393 := eq_true p393
     replace q393 := eq_true q393
     go_wp2_with (first | ((with_reducible refine gate_callee (f := 159) rfl ?_); refine gl (some 46) Try.func159 #[.slice (some ad393) l0_0.length c0_0, .int .i64 (rd l0_0 0)] ?_; (with_reducible refine (impl_leasts.calls k2 _ _ l0_0 (rd l0_0 0) t394 _ ?side1 ?side2 A26.out).mono ?_); (case side1 => exact co (Kd.C_below HR0_0.out HB.out)); (case side2 => exact HC0_0.out); rintro e w27 ⟨v395, rfl, ho0, hb⟩; refine ⟨_, rfl, ?_⟩; have HO396 := am (Kd.R_lower ho0 (below_size bw)); replace BK385 := kb BK385 hb; replace HB := am (below_step bw hb); clear hb ho0; obtain ⟨Ao28, co28, eo28⟩ := Kd.R_slice HO396.out; subst eo28))
     go_loopg [48] k2 (fun kq v48 w' => ∃ (x48_3 : Int), v48 = .int .i64 x48_3 ∧ Aside0 (impl_IsSemigroup.l1 kq l0_0 t394 (t394.length : Int) x48_3 = some r) ∧ Aside0 (kq ≤ k2) ∧ Aside0 (Kd.R (Kd.int .i64) 3 w' w.heap.size (fun _ => True) (.slice Ao28 t394.length co28) t394) ∧ Aside0 (w'.heap[gb385]? = some (.cells #[(.slice (some ad393) l0_0.length c0_0)] 26 (0, 0))) ∧ Aside0 (Below w.heap.size w w'))
     case atStart => exact ⟨(0), rr, H', ⟨Nat.le_refl _⟩, ⟨ro HO396.out⟩, ⟨bo BK385.out⟩, ⟨bw⟩⟩
     case round =>
      clear H'
      try clear c14b0; try clear c15; try clear c15b0; try clear c15b1; try clear c16; try clear c16b0; try clear c16b1; try clear c25; try clear c25b0; try clear c25b1; try clear hcz4_0; try clear hfz4_0; try clear hx391_0; try clear hx393_0; try clear p391; try clear p393; try clear q391; try clear q393
      obtain ⟨x48_3, rfl, HA, HK3, HO_46, BK385, HB⟩ := hrel
      cases gk with
      | zero => exact absurd HA.out (by simp [impl_IsSemigroup.l1])
      | succ k3 =>
       have H := HA.out
       clear HA
       simp only [impl_IsSemigroup.l1] at H
       replace H := gi H; obtain ⟨c29b0, H⟩ | ⟨c29b0, H⟩ := H
       ·replace H := gd H; obtain ⟨c30b0, H⟩ := H
        replace H := gd H; obtain ⟨c31b0, H⟩ := H
        replace H := gp H; obtain ⟨c32, H⟩ := H
        have c32b0 : decide (0 < (l0_0.length : Int)) = true := decide_eq_true c32
        have c32b1 : decide (0 < l0_0.length) = true := decide_eq_true (by omega)
        clear c32
        replace H := gj H; obtain ⟨c33, H⟩ | ⟨c33, H⟩ := H
        ·have c33b0 : decide (200 ≤ (wrap64 ((rd t394 x48_3) - (rd l0_0 0)))) = true := decide_eq_true c33
         clear c33
         obtain rfl := Option.some.inj H
         obtain ⟨⟨ad397, e397, hx397_0⟩, p397, q397⟩ := pq (Kd.at_int (Kd.R_reads' HO_46.out).2.2 x48_3)
         cases e397
         have p398 : 0 ≤ (0 : Int) := (by omega)
         have q398 : 0 < (l0_0.length : Int) := of_decide_eq_true (by first | (with_reducible assumption) | assumption)
         obtain ⟨ad398, e398, hx398_0⟩ := Kd.at_int HR0_0.out 0 p398 q398
         obtain rfl : ad393 = ad398 := (by injection e398)
         have qi398 : (0 < l0_0.length) = True := eq_true (by omega)
         (try rw [show ((0 : Int)).toNat = 0 from rfl] at hx398_0)
         (try rw [Addr.add_zero'] at hx398_0)
         replace hx398_0 := hw HB hx398_0
         replace p398 := eq_true p398
         replace q398 := eq_true q398
         go_wp2
         go_ret
         exact ⟨re, bw⟩
        have c33b0 : decide (200 ≤ (wrap64 ((rd t394 x48_3) - (rd l0_0 0)))) = false := decide_eq_false c33
        clear c33
        have H' := am H
        clear H
        obtain ⟨⟨ad397, e397, hx397_0⟩, p397, q397⟩ := pq (Kd.at_int (Kd.R_reads' HO_46.out).2.2 x48_3)
        cases e397
        have p398 : 0 ≤ (0 : Int) := (by omega)
        have q398 : 0 < (l0_0.length : Int) := of_decide_eq_true (by first | (with_reducible assumption) | assumption)
        obtain ⟨ad398, e398, hx398_0⟩ := Kd.at_int HR0_0.out 0 p398 q398
        obtain rfl : ad393 = ad398 := (by injection e398)
        have qi398 : (0 < l0_0.length) = True := eq_true (by omega)
        (try rw [show ((0 : Int)).toNat = 0 from rfl] at hx398_0)
        (try rw [Addr.add_zero'] at hx398_0)
        replace hx398_0 := hw HB hx398_0
        replace p398 := eq_true p398
        replace q398 := eq_true q398
        go_wp2
        go_roundg k3
        case measure => have := HJ1.out; have := HK2.out; have := HK3.out; omega
        case rel => exact ⟨(wrap64 (x48_3 + 1)), rr, H', ⟨by have := HJ1.out; have := HK2.out; have := HK3.out; omega⟩, ⟨ro HO_46.out⟩, ⟨bo BK385.out⟩, ⟨bw⟩⟩
       obtain rfl := Option.some.inj H
       go_wp2
       go_ret
       exact ⟨re, bw⟩


/-! ### impl_MultiplicityOf: function 132 -/
def impl_MultiplicityOf.f (k : Nat) (l0_0 : List Int) : Option (Int) := (impl_IsSemigroup.f k l0_0).bind fun t400 => (if t400 = true then (if 0 < (l0_0.length : Int) then (some (rd l0_0 0)) else (none)) else (some 0))
set_option maxHeartbeats 8000000 in
set_option maxRecDepth 100000 in
theorem impl_MultiplicityOf.calls (k : Nat) (A0_0 : Option Addr) (c0_0 : Nat) (l0_0 : List Int) (r : Int) (w : World) (hr0_0 : Kd.C (Kd.int .i64) w A0_0 l0_0.length l0_0) (hc0_0 : l0_0.length ≤ c0_0) (h : impl_MultiplicityOf.f k l0_0 = some r) :
  Calls Try.prog 132 #[.agg #[.slice A0_0 l0_0.length c0_0]] w fun e w' => e = .returned (.int .i64 r) ∧ Below w.heap.size w w' := by
 have hu26 := Try.underlying26
 have HR0_0 := am hr0_0
 have HC0_0 := am hc0_0
 clear hr0_0 hc0_0
 have HB := am (Below.refl w.heap.size w)
 have H : ((impl_IsSemigroup.f k l0_0).bind fun t400 => (if t400 = true then (if 0 < (l0_0.length : Int) then (some (rd l0_0 0)) else (none)) else (some 0))) = some r := h
 clear h
 replace H := ga H; obtain ⟨t400, A2, H⟩ := H
 replace H := gb H; obtain ⟨rfl, H⟩ | ⟨rfl, H⟩ := H
 ·replace H := gp H; obtain ⟨c4, H⟩ := H
  have c4b0 : decide (0 < (l0_0.length : Int)) = true := decide_eq_true c4
  have c4b1 : decide (0 < l0_0.length) = true := decide_eq_true (by omega)
  clear c4
  obtain rfl := Option.some.inj H
  go_enter Try.func132, Try.ntmps132
  go_wp2_with (first | ((with_reducible refine gate_dst (N := 1) rfl ?_); refine bx 1 #[.slice A0_0 l0_0.length c0_0] 26 ?_; intro gb399 hg w5 hbox hb; have BK399 := am (hbox); have GW399 := am (gs hg : w.heap.size ≤ gb399); have GE399 := GW399; replace HB := am (below_step bw hb); clear hb hbox hg; have hcz6_0 := bc BK399 0 (.slice A0_0 l0_0.length c0_0); have hfz6_0 := blk_frozen BK399.out 0) | ((with_reducible refine gate_callee (f := 151) rfl ?_); refine gl (some 4) Try.func151 #[.agg #[.slice A0_0 l0_0.length c0_0]] ?_; (with_reducible refine (impl_IsSemigroup.calls k _ _ l0_0 true _ ?side1 ?side2 A2.out).mono ?_); (case side1 => exact co (Kd.C_below HR0_0.out HB.out)); (case side2 => exact HC0_0.out); rintro e w7 ⟨rfl, hb⟩; refine ⟨_, rfl, ?_⟩; replace BK399 := kb BK399 hb; replace HB := am (below_step bw hb); clear hb; have hcz8_0 := bc BK399 0 (.slice A0_0 l0_0.length c0_0); have hfz8_0 := blk_frozen BK399.out 0; have p401 : 0 ≤ (0 : Int) := (by omega); have q401 : 0 < (l0_0.length : Int) := of_decide_eq_true (by first | (with_reducible assumption) | assumption); obtain ⟨ad401, e401, hx401_0⟩ := Kd.at_int HR0_0.out 0 p401 q401; cases e401; have qi401 : (0 < l0_0.length) = True := eq_true (by omega); (try rw [show ((0 : Int)).toNat = 0 from rfl] at hx401_0); (try rw [Addr.add_zero'] at hx401_0); replace hx401_0 := hw HB hx401_0; replace p401 := eq_true p401; replace q401 := eq_true q401))
  go_ret
  exact ⟨re, bw⟩
 obtain rfl := Option.some.inj H
 go_enter Try.func132, Try.ntmps132
 go_wp2_with (first | ((with_reducible refine gate_dst (N := 1) rfl ?_); refine bx 1 #[.slice A0_0 l0_0.length c0_0] 26 ?_; intro gb399 hg w9 hbox hb; have BK399 := am (hbox); have GW399 := am (gs hg : w.heap.size ≤ gb399); have GE399 := GW399; replace HB := am (below_step bw hb); clear hb hbox hg; have hcz10_0 := bc BK399 0 (.slice A0_0 l0_0.length c0_0); have hfz10_0 := blk_frozen BK399.out 0) | ((with_reducible refine gate_callee (f := 151) rfl ?_); refine gl (some 4) Try.func151 #[.agg #[.slice A0_0 l0_0.length c0_0]] ?_; (with_reducible refine (impl_IsSemigroup.calls k _ _ l0_0 false _ ?side1 ?side2 A2.out).mono ?_); (case side1 => exact co (Kd.C_below HR0_0.out HB.out)); (case side2 => exact HC0_0.out); rintro e w11 ⟨rfl, hb⟩; refine ⟨_, rfl, ?_⟩; replace BK399 := kb BK399 hb; replace HB := am (below_step bw hb); clear hb))
 go_ret
 exact ⟨re, bw⟩


/-! ### impl_Contains: function 32 -/
def impl_Contains.f (k : Nat) (l0_0 : List Int) (a1 : Int) : Option (Bool) := if a1 < 0 then (some false) else ((impl_IsSemigroup.f k l0_0).bind fun t403 => (if t403 = true then (if a1 ≥ 200 then (some true) else (if 0 < (l0_0.length : Int) then ((impl_leasts.f k l0_0 (rd l0_0 0)).bind fun t405 => (if (rd l0_0 0) = 0 then (none) else (if 0 ≤ (Int.tmod a1 (rd l0_0 0)) then (if (Int.tmod a1 (rd l0_0 0)) < (t405.length : Int) then (some (decide ((rd t405 (Int.tmod a1 (rd l0_0 0))) ≤ a1))) else (none)) else (none)))) else (none))) else (some false)))
def impl_Contains.T3 : Bool × List (List Nat × List Nat) := (true, [([], []), ([0], [0]), ([1], [1]), ([2], [2]), ([3, 2], [2, 3]), ([2], [2]), ([5, 2], [2, 5]), ([6, 2], [2, 6]), ([7, 2], [2, 7]), ([4, 8, 2, 2], [2, 4, 8]), ([2], [2]), ([2], [2]), ([11, 2], [2, 11]), ([12, 2], [2, 12]), ([13, 2], [2, 13]), ([10, 14, 2], [2, 10, 14]), ([9, 15, 2], [2, 9, 15]), ([16, 2], [2, 16]), ([2], [2]), ([17, 18, 2], [2, 17, 18]), ([2, 19], [2, 19]), ([20, 9, 0, 1, 2, 3, 4, 5, 6, 7, 8, 9, 10, 11, 12, 13, 14, 15, 16, 17, 18, 19, 20], [20])])
def impl_Contains.B3 : List Nat := [0, 1, 3, 7, 15, 7, 39, 103, 231, 511, 7, 7, 2055, 6151, 14343, 31751, 65535, 131071, 7, 524287, 1048575, 2097151]
theorem impl_Contains.tab3 : rtab .any (opsOf Try.f32 3) = impl_Contains.T3 := by kernel_rfl
theorem impl_Contains.bits3 : waitsOk impl_Contains.T3.2 impl_Contains.B3 = true := by kernel_rfl
set_option maxHeartbeats 8000000 in
set_option maxRecDepth 100000 in
theorem impl_Contains.calls (k : Nat) (A0_0 : Option Addr) (c0_0 : Nat) (l0_0 : List Int) (a1 : Int) (r : Bool) (w : World) (hr0_0 : Kd.C (Kd.int .i64) w A0_0 l0_0.length l0_0) (hc0_0 : l0_0.length ≤ c0_0) (h : impl_Contains.f k l0_0 a1 = some r) :
  Calls Try.prog 32 #[.agg #[.slice A0_0 l0_0.length c0_0], .int .i64 a1] w fun e w' => e = .returned (.bool r) ∧ Below w.heap.size w w' := by
 have hu26 := Try.underlying26
 have HR0_0 := am hr0_0
 have HC0_0 := am hc0_0
 clear hr0_0 hc0_0
 have HB := am (Below.refl w.heap.size w)
 have H : (if a1 < 0 then (some false) else ((impl_IsSemigroup.f k l0_0).bind fun t403 => (if t403 = true then (if a1 ≥ 200 then (some true) else (if 0 < (l0_0.length : Int) then ((impl_leasts.f k l0_0 (rd l0_0 0)).bind fun t405 => (if (rd l0_0 0) = 0 then (none) else (if 0 ≤ (Int.tmod a1 (rd l0_0 0)) then (if (Int.tmod a1 (rd l0_0 0)) < (t405.length : Int) then (some (decide ((rd t405 (Int.tmod a1 (rd l0_0 0))) ≤ a1))) else (none)) else (none)))) else (none))) else (some false)))) = some r := h
 clear h
 replace H := gi H; obtain ⟨c3b0, H⟩ | ⟨c3b0, H⟩ := H
 ·obtain rfl := Option.some.inj H
  go_enter Try.func32, Try.ntmps32
  go_wp2_with (first | ((with_reducible refine gate_dst (N := 2) rfl ?_); refine bx 2 #[.slice A0_0 l0_0.length c0_0] 26 ?_; intro gb402 hg w4 hbox hb; have BK402 := am (hbox); have GW402 := am (gs hg : w.heap.size ≤ gb402); have GE402 := GW402; replace HB := am (below_step bw hb); clear hb hbox hg))
  go_ret
  exact ⟨re, bw⟩
 replace H := ga H; obtain ⟨t403, A5, H⟩ := H
 replace H := gb H; obtain ⟨rfl, H⟩ | ⟨rfl, H⟩ := H
 ·replace H := gj H; obtain ⟨c7, H⟩ | ⟨c7, H⟩ := H
  ·have c7b0 : decide (200 ≤ a1) = true := decide_eq_true c7
   clear c7
   obtain rfl := Option.some.inj H
   go_enter Try.func32, Try.ntmps32
   try go_wp2_with (first | ((with_reducible refine gate_dst (N := 2) rfl ?_); refine bx 2 #[.slice A0_0 l0_0.length c0_0] 26 ?_; intro gb402 hg w8 hbox hb; have BK402 := am (hbox); have GW402 := am (gs hg : w.heap.size ≤ gb402); have GE402 := GW402; replace HB := am (below_step bw hb); clear hb hbox hg; have hcz9_0 := bc BK402 0 (.slice A0_0 l0_0.length c0_0); have hfz9_0 := blk_frozen BK402.out 0) | (go_at_call 151; (with_reducible refine (impl_IsSemigroup.calls k _ _ l0_0 true _ ?side1 ?side2 A5.out).mono ?_); (case side1 => exact co (Kd.C_below HR0_0.out HB.out)); (case side2 => exact HC0_0.out); rintro e w10 ⟨rfl, hb⟩; replace BK402 := kb BK402 hb; replace HB := am (below_step bw hb); clear hb))
   replace BK402 := bd BK402
   replace HB := am (below_drew1 HB.out)
   refine start_ (n := 22) (S := fun w' => True) (ds := []) (yz 22 0) (by kernel_rfl) rfl rfl trivial (fun hHeld => ?_); refine with_tabW impl_Contains.tab3 impl_Contains.bits3 (fun HT_ HW_ => ?_)
   generalize w10.drew = w11 at BK402 HB hHeld ⊢
   refine pa 0 (some 12) (yz 22 1) HT_ ?_
   refine pa 1 (some 13) (yz 22 3) HT_ ?_
   refine pa 2 (some 14) (yz 22 7) HT_ ?_
   refine pu 3 (some 15) (yz 22 15) HT_ ?_
   refine pu 4 (some 16) (yz 22 31) HT_ ?_
   refine pu 5 (some 17) (yz 22 63) HT_ ?_
   refine pu 6 (some 18) (yz 22 127) HT_ ?_
   refine pu 7 (some 19) (yz 22 255) HT_ ?_
   refine pu 8 (some 20) (yz 22 511) HT_ ?_
   refine pu 9 (some 21) (yz 22 1023) HT_ ?_
   refine pu 10 (some 22) (yz 22 2047) HT_ ?_
   refine pu 11 (some 23) (yz 22 4095) HT_ ?_
   refine pu 12 (some 24) (yz 22 8191) HT_ ?_
   refine pu 13 (some 25) (yz 22 16383) HT_ ?_
   refine pu 14 (some 26) (yz 22 32767) HT_ ?_
   refine pu 15 (some 27) (yz 22 65535) HT_ ?_
   refine pu 16 (some 28) (yz 22 131071) HT_ ?_
   refine pu 17 (some 29) (yz 22 262143) HT_ ?_
   refine pu 18 (some 30) (yz 22 524287) HT_ ?_
   refine pu 19 (some 31) (yz 22 1048575) HT_ ?_
   refine pa 20 (some 32) (yz 22 2097151) HT_ ?_
   refine pa 21 (some 4) (yz 22 4194303) HT_ ?_
   refine done_ (done_of HT_.out (by kernel_rfl)) ?_
   try go_wp2
   go_ret
   exact ⟨re, bw⟩
  have c7b0 : decide (200 ≤ a1) = false := decide_eq_false c7
  clear c7
  replace H := gp H; obtain ⟨c12, H⟩ := H
  have c12b0 : decide (0 < (l0_0.length : Int)) = true := decide_eq_true c12
  have c12b1 : decide (0 < l0_0.length) = true := decide_eq_true (by omega)
  clear c12
  replace H := ga H; obtain ⟨t405, A13, H⟩ := H
  by_cases c14 : (rd l0_0 0) = 0
  ·rw [if_pos c14] at H
   exact absurd H (by simp)
  rw [if_neg c14] at H
  have c14b0 : ((rd l0_0 0) == 0) = false := beq_eq_false_iff_ne.mpr c14
  have c14b1 : ((rd l0_0 0) != 0) = true := bne_iff_ne.mpr c14
  obtain ⟨ji15, hji15⟩ : ∃ j_ : Int, (Int.tmod a1 (rd l0_0 0)) = j_ := ⟨_, rfl⟩
  replace H : (if 0 ≤ (ji15) then (if (ji15) < (t405.length : Int) then (some (decide ((rd t405 (ji15)) ≤ a1))) else (none)) else (none)) = some r := by first | (rw [hji15] at H; exact H) | (simp only [hji15] at H ⊢; exact H)
  (try rw [hji15] at A5)
  (try rw [hji15] at A13)
  replace H := gd H; obtain ⟨c16b0, H⟩ := H
  replace H := gd H; obtain ⟨c17b0, H⟩ := H
  obtain rfl := Option.some.inj H
  go_enter Try.func32, Try.ntmps32
  try go_wp2_with (first | ((with_reducible refine gate_dst (N := 2) rfl ?_); refine bx 2 #[.slice A0_0 l0_0.length c0_0] 26 ?_; intro gb402 hg w18 hbox hb; have BK402 := am (hbox); have GW402 := am (gs hg : w.heap.size ≤ gb402); have GE402 := GW402; replace HB := am (below_step bw hb); clear hb hbox hg; have hcz19_0 := bc BK402 0 (.slice A0_0 l0_0.length c0_0); have hfz19_0 := blk_frozen BK402.out 0) | (go_at_call 151; (with_reducible refine (impl_IsSemigroup.calls k _ _ l0_0 true _ ?side1 ?side2 A5.out).mono ?_); (case side1 => exact co (Kd.C_below HR0_0.out HB.out)); (case side2 => exact HC0_0.out); rintro e w20 ⟨rfl, hb⟩; replace BK402 := kb BK402 hb; replace HB := am (below_step bw hb); clear hb))
  replace BK402 := bd BK402
  replace HB := am (below_drew1 HB.out)
  have p404 : 0 ≤ (0 : Int) := (by omega)
  have q404 : 0 < (l0_0.length : Int) := of_decide_eq_true (by first | (with_reducible assumption) | assumption)
  obtain ⟨ad404, e404, hx404_0⟩ := Kd.at_int HR0_0.out 0 p404 q404
  have hw404_0 := hx404_0
  (try rw [show ((0 : Int)).toNat = 0 from rfl] at hw404_0)
  (try rw [show 0 * 1 = 0 from rfl] at hw404_0)
  (try rw [Addr.add_zero'] at hw404_0)
  cases e404
  have qi404 : (0 < l0_0.length) = True := eq_true (by omega)
  (try rw [show ((0 : Int)).toNat = 0 from rfl] at hx404_0)
  (try rw [Addr.add_zero'] at hx404_0)
  replace hx404_0 := hw HB hx404_0
  replace p404 := eq_true p404
  replace q404 := eq_true q404
  have p408 : 0 ≤ (0 : Int) := (by omega)
  have q408 : 0 < (l0_0.length : Int) := of_decide_eq_true (by first | (with_reducible assumption) | assumption)
  obtain ⟨ad408, e408, hx408_0⟩ := Kd.at_int HR0_0.out 0 p408 q408
  have hw408_0 := hx408_0
  (try rw [show ((0 : Int)).toNat = 0 from rfl] at hw408_0)
  (try rw [show 0 * 1 = 0 from rfl] at hw408_0)
  (try rw [Addr.add_zero'] at hw408_0)
  obtain rfl : ad404 = ad408 := (by injection e408)
  have qi408 : (0 < l0_0.length) = True := eq_true (by omega)
  (try rw [show ((0 : Int)).toNat = 0 from rfl] at hx408_0)
  (try rw [Addr.add_zero'] at hx408_0)
  replace hx408_0 := hw HB hx408_0
  replace p408 := eq_true p408
  replace q408 := eq_true q408
  refine start_ (n := 22) (S := fun w' => w'.cell? ⟨gb402, 0, none⟩ = some (.slice (some ad404) l0_0.length c0_0) ∧ w'.cell? ad404 = some (.int .i64 (rd l0_0 0)) ∧ w'.cell? ad404 = some (.int .i64 (rd l0_0 0))) (ds := []) (yz 22 0) (by kernel_rfl) rfl rfl ⟨bc BK402 0 _, ((HB.out.cell (World.block_lt_of_cell? w _ hw404_0)).trans hw404_0), ((HB.out.cell (World.block_lt_of_cell? w _ hw408_0)).trans hw408_0)⟩ (fun hHeld => ?_); refine with_tabW impl_Contains.tab3 impl_Contains.bits3 (fun HT_ HW_ => ?_)
  generalize w20.drew = w21 at BK402 HB hx404_0 hx408_0 hHeld ⊢
  refine pa 0 (some 12) (yz 22 1) HT_ ?_
  refine pa 1 (some 13) (yz 22 3) HT_ ?_
  refine pa 2 (some 14) (yz 22 7) HT_ ?_
  refine pa 3 (some 15) (yz 22 15) HT_ ?_
  refine pa 5 (some 17) (yz 22 47) HT_ ?_
  refine pa 10 (some 22) (yz 22 1071) HT_ ?_
  refine pa 11 (some 23) (yz 22 3119) HT_ ?_
  refine pa 18 (some 30) (yz 22 265263) HT_ ?_
  refine tk 4 (some 16) (yz 22 265279) HT_ HW_ hHeld ?_
  refine tk 6 (some 18) (yz 22 265343) HT_ HW_ hHeld ?_
  refine pa 7 (some 19) (yz 22 265471) HT_ ?_
  refine tk 8 (some 20) (yz 22 265727) HT_ HW_ hHeld ?_
  refine tk 12 (some 24) (yz 22 269823) HT_ HW_ hHeld ?_
  refine pa 13 (some 25) (yz 22 278015) HT_ ?_
  refine tk 14 (some 26) (yz 22 294399) HT_ HW_ hHeld ?_
  refine pa 15 (some 27) (yz 22 327167) HT_ ?_
  refine oa 9 (some 21) (yz 22 327679) HT_ (fun K hK => ?_)
  refine gm Try.func159 #[.slice (some ad404) l0_0.length c0_0, .int .i64 (rd l0_0 0)] ?_
  with_reducible refine (impl_leasts.calls k _ _ l0_0 (rd l0_0 0) t405 _ ?side1 ?side2 A13.out).mono ?_
  (case side1 => exact co (Kd.C_below HR0_0.out HB.out))
  (case side2 => exact HC0_0.out)
  rintro e w22 ⟨v406, rfl, ho0, hb⟩
  refine ⟨_, rfl, ?_⟩
  have HO407 := am (Kd.R_lower ho0 (below_size bw))
  replace BK402 := kb BK402 hb
  replace HB := am (below_step bw hb)
  clear hb ho0
  obtain ⟨Ao23, co23, eo23⟩ := Kd.R_slice HO407.out
  (first | subst eo23 | (injection eo23 with f1_ f2_ f3_; have f4_ := f1_.symm; have f5_ := f3_.symm; clear f1_ f2_ f3_; subst f4_; subst f5_))
  obtain ⟨⟨ad409, e409, hx409_0⟩, p409, q409⟩ := pq (Kd.at_int (Kd.R_reads' HO407.out).2.2 (ji15))
  cases e409
  refine hK.out _ _ ⟨bc BK402 0 _, ((HB.out.cell (World.block_lt_of_cell? w _ hw404_0)).trans hw404_0), ((HB.out.cell (World.block_lt_of_cell? w _ hw408_0)).trans hw408_0)⟩ (fun hHeld => ?_)
  clear hK K
  refine nm (some 21) ?_
  refine pa 16 (some 28) (yz 22 393215) HT_ ?_
  refine oa 17 (some 29) (yz 22 524287) HT_ (fun K hK => ?_)
  refine value_ (w1 := ?_) (v := ?_) (by rfl) rfl ?_ ?_
  rotate_left 2
  ·go_simp
   constructor
   ·rfl
   rfl
  refine hK.out _ _ hHeld (fun hHeld => ?_)
  clear hK K
  refine nm (some 29) ?_
  refine pa 19 (some 31) (yz 22 1048575) HT_ ?_
  refine pa 20 (some 32) (yz 22 2097151) HT_ ?_
  refine pa 21 (some 4) (yz 22 4194303) HT_ ?_
  refine done_ (done_of HT_.out (by kernel_rfl)) ?_
  try go_wp2
  go_ret
  exact ⟨by first | rfl | (simp [errW_none, errW_some] <;> rfl) | (simp only [← hji15]; first | rfl | (simp [errW_none, errW_some] <;> rfl)) | (simp [*, errW_none, errW_some] <;> rfl), bw⟩
 obtain rfl := Option.some.inj H
 go_enter Try.func32, Try.ntmps32
 go_wp2_with (first | ((with_reducible refine gate_dst (N := 2) rfl ?_); refine bx 2 #[.slice A0_0 l0_0.length c0_0] 26 ?_; intro gb402 hg w24 hbox hb; have BK402 := am (hbox); have GW402 := am (gs hg : w.heap.size ≤ gb402); have GE402 := GW402; replace HB := am (below_step bw hb); clear hb hbox hg; have hcz25_0 := bc BK402 0 (.slice A0_0 l0_0.length c0_0); have hfz25_0 := blk_frozen BK402.out 0) | (go_at_call 151; (with_reducible refine (impl_IsSemigroup.calls k _ _ l0_0 false _ ?side1 ?side2 A5.out).mono ?_); (case side1 => exact co (Kd.C_below HR0_0.out HB.out)); (case side2 => exact HC0_0.out); rintro e w26 ⟨rfl, hb⟩; replace BK402 := kb BK402 hb; replace HB := am (below_step bw hb); clear hb))
 go_ret
 exact ⟨re, bw⟩


/-! ### impl_table: function 157 -/
def impl_table.l0 : Nat → List Int → List Bool → Int → Int → List Int → Option (List Bool)
 | 0, _, _, _, _, _ => none
 | k + 1, x5, x6, x19, x20, x411000 => if x20 < x19 then (if 0 < (x411000.length : Int) then (if (rd x411000 0) = 0 then (none) else (if 0 ≤ (Int.tmod x20 (rd x411000 0)) then (if (Int.tmod x20 (rd x411000 0)) < (x5.length : Int) then (if 0 ≤ x20 then (if x20 < (x6.length : Int) then (impl_table.l0 k x5 (x6.set (x20 : Int).toNat (decide ((rd x5 (Int.tmod x20 (rd x411000 0))) ≤ x20))) x19 (wrap64 (x20 + 1)) x411000) else (none)) else (none)) else (none)) else (none))) else (none)) else (some x6)
def impl_table.f (k : Nat) (l0_0 : List Int) (a1 : Int) : Option (List Bool) := if 0 < (l0_0.length : Int) then ((impl_leasts.f k l0_0 (rd l0_0 0)).bind fun t412 => (if 0 ≤ (wrap64 (a1 + 1)) then (if (wrap64 (a1 + 1) : Int).toNat ≤ 281474976710656 then ((some (List.replicate (wrap64 (a1 + 1) : Int).toNat false : List Bool)).bind fun y415 => (impl_table.l0 k t412 y415 (y415.length : Int) 0 l0_0)) else (none)) else (none))) else (none)
def impl_table.T1 : Bool × List (List Nat × List Nat) := (true, [([], []), ([0], [0]), ([], []), ([2], [2]), ([3], [3]), ([4], [4]), ([1, 5], [1, 5]), ([6, 6, 0, 1, 2, 3, 4, 5, 6], [6])])
def impl_table.B1 : List Nat := [0, 1, 0, 4, 12, 28, 63, 127]
theorem impl_table.tab1 : rtab .any (opsOf Try.f157 1) = impl_table.T1 := by kernel_rfl
theorem impl_table.bits1 : waitsOk impl_table.T1.2 impl_table.B1 = true := by kernel_rfl
set_option maxHeartbeats 8000000 in
set_option maxRecDepth 100000 in
theorem impl_table.calls (k : Nat) (A0_0 : Option Addr) (c0_0 : Nat) (l0_0 : List Int) (a1 : Int) (r : List Bool) (w : World) (hr0_0 : Kd.C (Kd.int .i64) w A0_0 l0_0.length l0_0) (hc0_0 : l0_0.length ≤ c0_0) (h : impl_table.f k l0_0 a1 = some r) :
  Calls Try.prog 157 #[.agg #[.slice A0_0 l0_0.length c0_0], .int .i64 a1] w fun e w' => ∃ v0_ : Value, e = .returned (v0_) ∧ Kd.R Kd.bool 4 w' w.heap.size (fun _ => True) v0_ r ∧ Below w.heap.size w w' := by
 have hu26 := Try.underlying26
 have HR0_0 := am hr0_0
 have HC0_0 := am hc0_0
 clear hr0_0 hc0_0
 have HB := am (Below.refl w.heap.size w)
 have H : (if 0 < (l0_0.length : Int) then ((impl_leasts.f k l0_0 (rd l0_0 0)).bind fun t412 => (if 0 ≤ (wrap64 (a1 + 1)) then (if (wrap64 (a1 + 1) : Int).toNat ≤ 281474976710656 then ((some (List.replicate (wrap64 (a1 + 1) : Int).toNat false : List Bool)).bind fun y415 => (impl_table.l0 k t412 y415 (y415.length : Int) 0 l0_0)) else (none)) else (none))) else (none)) = some r := h
 clear h
 replace H := gp H; obtain ⟨c3, H⟩ := H
 have c3b0 : decide (0 < (l0_0.length : Int)) = true := decide_eq_true c3
 have c3b1 : decide (0 < l0_0.length) = true := decide_eq_true (by omega)
 clear c3
 replace H := ga H; obtain ⟨t412, A4, H⟩ := H
 obtain ⟨ji5, hji5⟩ : ∃ j_ : Int, (wrap64 (a1 + 1)) = j_ := ⟨_, rfl⟩
 replace H : (if 0 ≤ (ji5) then (if (ji5 : Int).toNat ≤ 281474976710656 then ((some (List.replicate (ji5 : Int).toNat false : List Bool)).bind fun y415 => (impl_table.l0 k t412 y415 (y415.length : Int) 0 l0_0)) else (none)) else (none)) = some r := by first | (rw [hji5] at H; exact H) | (simp only [hji5] at H ⊢; exact H)
 (try rw [hji5] at A4)
 have hji5w : (IntKind.i64.wrap (a1 + 1)) = ji5 := (i64_w _).trans hji5
 replace H := gp H; obtain ⟨c6, H⟩ := H
 have c6b0 := eq_true c6
 have c6b1 : decide (0 ≤ (ji5)) = true := decide_eq_true c6
 clear c6
 replace H := gp H; obtain ⟨c7, H⟩ := H
 have c7b0 := eq_true c7
 have c7b1 : decide ((ji5 : Int).toNat ≤ 281474976710656) = true := decide_eq_true c7
 clear c7
 obtain ⟨y415, hy415⟩ : ∃ y_ : List Bool, y_ = (List.replicate (ji5 : Int).toNat false) := ⟨_, rfl⟩
 replace H : (impl_table.l0 k t412 y415 (y415.length : Int) 0 l0_0) = some r := by first | (rw [hy415]; with_reducible first | exact H | exact bs H) | (with_reducible first | exact bs H | exact H) | (rw [hy415]; exact H) | exact H
 have Ny415 := am hy415
 clear hy415
 have H' := am H
 clear H
 go_enter Try.func157, Try.ntmps157
 try go_wp2_with (first | ((with_reducible refine gate_dst (N := 2) rfl ?_); refine bx 2 #[.slice A0_0 l0_0.length c0_0] 26 ?_; intro gb410 hg w8 hbox hb; have BK410 := am (hbox); have GW410 := am (gs hg : w.heap.size ≤ gb410); have GE410 := GW410; replace HB := am (below_step bw hb); clear hb hbox hg))
 replace BK410 := bd BK410
 replace HB := am (below_drew1 HB.out)
 have p411 : 0 ≤ (0 : Int) := (by omega)
 have q411 : 0 < (l0_0.length : Int) := of_decide_eq_true (by first | (with_reducible assumption) | assumption)
 obtain ⟨ad411, e411, hx411_0⟩ := Kd.at_int HR0_0.out 0 p411 q411
 have hw411_0 := hx411_0
 (try rw [show ((0 : Int)).toNat = 0 from rfl] at hw411_0)
 (try rw [show 0 * 1 = 0 from rfl] at hw411_0)
 (try rw [Addr.add_zero'] at hw411_0)
 cases e411
 have qi411 : (0 < l0_0.length) = True := eq_true (by omega)
 (try rw [show ((0 : Int)).toNat = 0 from rfl] at hx411_0)
 (try rw [Addr.add_zero'] at hx411_0)
 replace hx411_0 := hw HB hx411_0
 replace p411 := eq_true p411
 replace q411 := eq_true q411
 refine start_ (n := 8) (S := fun w' => w'.cell? ⟨gb410, 0, none⟩ = some (.slice (some ad411) l0_0.length c0_0) ∧ w'.cell? ad411 = some (.int .i64 (rd l0_0 0))) (ds := []) (yz 8 0) (by kernel_rfl) rfl rfl ⟨bc BK410 0 _, ((HB.out.cell (World.block_lt_of_cell? w _ hw411_0)).trans hw411_0)⟩ (fun hHeld => ?_); refine with_tabW impl_table.tab1 impl_table.bits1 (fun HT_ HW_ => ?_)
 generalize w8.drew = w9 at BK410 HB hx411_0 hHeld ⊢
 refine pa 0 (some 8) (yz 8 1) HT_ ?_
 refine pa 2 (some 10) (yz 8 5) HT_ ?_
 refine tk 1 (some 9) (yz 8 7) HT_ HW_ hHeld ?_
 refine tk 3 (some 11) (yz 8 15) HT_ HW_ hHeld ?_
 refine pa 4 (some 12) (yz 8 31) HT_ ?_
 refine tk 5 (some 13) (yz 8 63) HT_ HW_ hHeld ?_
 refine oa 6 (some 14) (yz 8 127) HT_ (fun K hK => ?_)
 refine gm Try.func159 #[.slice (some ad411) l0_0.length c0_0, .int .i64 (rd l0_0 0)] ?_
 with_reducible refine (impl_leasts.calls k _ _ l0_0 (rd l0_0 0) t412 _ ?side1 ?side2 A4.out).mono ?_
 (case side1 => exact co (Kd.C_below HR0_0.out HB.out))
 (case side2 => exact HC0_0.out)
 rintro e w10 ⟨v413, rfl, ho0, hb⟩
 refine ⟨_, rfl, ?_⟩
 have HO414 := am (Kd.R_lower ho0 (below_size bw))
 replace BK410 := kb BK410 hb
 replace HB := am (below_step bw hb)
 clear hb ho0
 refine hK.out _ _ ⟨bc BK410 0 _, ((HB.out.cell (World.block_lt_of_cell? w _ hw411_0)).trans hw411_0)⟩ (fun hHeld => ?_)
 clear hK K
 refine nm (some 14) ?_
 refine pa 7 (some 5) (yz 8 255) HT_ ?_
 refine done_ (done_of HT_.out (by kernel_rfl)) ?_
 try go_wp2_with (first | ((with_reducible refine gate_dst (N := 17) rfl ?_); refine Kd.R_make Kd.bool _ 4 rfl (N := 17) rfl 109 _ _ rfl ji5 rfl rfl Try.underlying109 (.bool false) 1 info4 rfl (by decide) (by omega) false (ok := fun _ => True) (okp := fun _ => True) rfl (fun _ hk => hk) trivial (of_decide_eq_true (by first | (with_reducible assumption) | assumption)) (Nat.le_trans (Nat.mul_le_mul_right _ (of_decide_eq_true (by first | (with_reducible assumption) | assumption) : ji5.toNat ≤ 281474976710656)) (by omega)) (Below.refl _ _) (Nat.le_refl _) ?_; intro v416 w11 ho12 hb hg_ hnew_; clear hg_ hnew_; (first | rw [← Ny415.out] at ho12 | (simp only [Int.reduceToNat] at ho12; rw [← Ny415.out] at ho12)); replace HO414 := rK HO414 hb; have HO417 := am (Kd.R_lower ho12 (below_size bw)); replace BK410 := kb BK410 hb; replace HB := am (below_step bw hb); clear hb ho12; obtain ⟨Ao13, co13, eo13⟩ := Kd.R_slice HO417.out; subst eo13))
 go_loopg [20] k (fun kq v20 w' => ∃ (x6_1 : List Bool) (x20_1 : Int), v20 = .int .i64 x20_1 ∧ Aside0 (impl_table.l0 kq t412 x6_1 (y415.length : Int) x20_1 l0_0 = some r) ∧ Aside0 (kq ≤ k) ∧ Aside0 (Kd.R (Kd.int .i64) 3 w' w.heap.size (fun _ => True) v413 t412) ∧ Aside0 (Kd.R Kd.bool 4 w' w.heap.size (fun _ => True) (.slice Ao13 y415.length co13) x6_1) ∧ Aside0 (w'.heap[gb410]? = some (.cells #[(.slice (some ad411) l0_0.length c0_0)] 26 (0, 0))) ∧ Aside0 (Below w.heap.size w w'))
 case atStart => exact ⟨(y415), (0), rr, H', ⟨Nat.le_refl _⟩, ⟨ro HO414.out⟩, ⟨ro HO417.out⟩, ⟨bo BK410.out⟩, ⟨bw⟩⟩
 case round =>
  clear H'
  try clear c3; try clear c3b0; try clear c3b1; try clear c6; try clear c6b0; try clear c6b1; try clear c7; try clear c7b0; try clear c7b1; try clear hx411_0; try clear p411; try clear q411
  obtain ⟨x6_1, x20_1, rfl, HA, HK1, HO_5, HO_6, BK410, HB⟩ := hrel
  have hl6_1 := (Kd.R_reads' HO_6.out).1
  rw [hl6_1] at HO_6
  (try simp only [hl6_1])
  (try simp only [hl6_1] at BK410)
  (try simp only [hl6_1] at HO_5)
  cases gk with
  | zero => exact absurd HA.out (by simp [impl_table.l0])
  | succ k1 =>
   have H := HA.out
   clear HA
   simp only [impl_table.l0] at H
   by_cases c14 : x20_1 < (y415.length : Int)
   ·rw [if_pos c14] at H
    have c14b0 : decide (x20_1 < (y415.length : Int)) = true := decide_eq_true c14
    (try simp only [hl6_1] at c14b0)
    clear c14
    replace H := gp H; obtain ⟨c15, H⟩ := H
    have c15b0 : decide (0 < (l0_0.length : Int)) = true := decide_eq_true c15
    have c15b1 : decide (0 < l0_0.length) = true := decide_eq_true (by omega)
    clear c15
    by_cases c16 : (rd l0_0 0) = 0
    ·rw [if_pos c16] at H
     exact absurd H (by simp)
    rw [if_neg c16] at H
    have c16b0 : ((rd l0_0 0) == 0) = false := beq_eq_false_iff_ne.mpr c16
    have c16b1 : ((rd l0_0 0) != 0) = true := bne_iff_ne.mpr c16
    obtain ⟨ji17, hji17⟩ : ∃ j_ : Int, (Int.tmod x20_1 (rd l0_0 0)) = j_ := ⟨_, rfl⟩
    replace H : (if 0 ≤ (ji17) then (if (ji17) < (t412.length : Int) then (if 0 ≤ x20_1 then (if x20_1 < (x6_1.length : Int) then (impl_table.l0 k1 t412 (x6_1.set (x20_1 : Int).toNat (decide ((rd t412 (ji17)) ≤ x20_1))) (y415.length : Int) (wrap64 (x20_1 + 1)) l0_0) else (none)) else (none)) else (none)) else (none)) = some r := by first | (rw [hji17] at H; exact H) | (simp only [hji17] at H ⊢; exact H)
    replace H := gd H; obtain ⟨c18b0, H⟩ := H
    replace H := gd H; obtain ⟨c19b0, H⟩ := H
    replace H := gd H; obtain ⟨c20b0, H⟩ := H
    by_cases c21 : x20_1 < (x6_1.length : Int)
    rotate_left
    ·rw [if_neg c21] at H
     exact absurd H (by simp)
    rw [if_pos c21] at H
    have c21b0 : decide (x20_1 < (x6_1.length : Int)) = true := decide_eq_true c21
    (try simp only [hl6_1] at c21b0)
    clear c21
    obtain ⟨y420, hy420⟩ : ∃ y_ : List Bool, y_ = (x6_1.set (x20_1 : Int).toNat (decide ((rd t412 (ji17)) ≤ x20_1))) := ⟨_, rfl⟩
    replace H : (impl_table.l0 k1 t412 y420 (y415.length : Int) (wrap64 (x20_1 + 1)) l0_0) = some r := by first | (rw [hy420]; with_reducible first | exact H | exact bs H) | (with_reducible first | exact bs H | exact H) | (rw [hy420]; exact H) | exact H
    have Ny420 := am hy420
    clear hy420
    have H' := am H
    clear H
    have hcz23_0 := bc BK410 0 (.slice (some ad411) l0_0.length c0_0)
    have hfz23_0 := blk_frozen BK410.out 0
    have p418 : 0 ≤ (0 : Int) := (by omega)
    have q418 : 0 < (l0_0.length : Int) := of_decide_eq_true (by first | (with_reducible assumption) | assumption)
    obtain ⟨ad418, e418, hx418_0⟩ := Kd.at_int HR0_0.out 0 p418 q418
    obtain rfl : ad411 = ad418 := (by injection e418)
    have qi418 : (0 < l0_0.length) = True := eq_true (by omega)
    (try rw [show ((0 : Int)).toNat = 0 from rfl] at hx418_0)
    (try rw [Addr.add_zero'] at hx418_0)
    replace hx418_0 := hw HB hx418_0
    replace p418 := eq_true p418
    replace q418 := eq_true q418
    obtain ⟨Ao24, co24, eo24⟩ := Kd.R_slice HO_5.out
    subst eo24
    obtain ⟨⟨ad419, e419, hx419_0⟩, p419, q419⟩ := pq (Kd.at_int (Kd.R_reads' HO_5.out).2.2 (ji17))
    cases e419
    have p22 : 0 ≤ (x20_1 : Int) := of_decide_eq_true (by first | (with_reducible assumption) | assumption)
    have q22 : (x20_1 : Int) < ((x6_1.length : Int) : Int) := of_decide_eq_true (by first | (with_reducible assumption) | assumption)
    obtain ⟨go22, co22, eo22, gb22, gl22, cl22, HG22⟩ := Kd.R_form HO_6.out (by omega)
    (first | cases eo22 | (injection eo22 with ea_ en_ ec_; (first | subst ea_ | (injection ea_ with ea_; subst ea_)); subst ec_; clear en_))
    have GB22 := am gb22
    have GG22 := am HG22
    clear gb22 gl22 HG22
    obtain ⟨hx22_0, hf22_0⟩ := Kd.R_celln false HO_6.out (x20_1 : Int) p22 q22
    replace p22 := eq_true p22
    replace q22 := eq_true q22
    have HP25 := Kd.R_putg HO_6.out (x20_1 : Int) (decide ((rd t412 (ji17)) ≤ x20_1))
    go_wp2_with (first | ((with_reducible refine gate_store (t := 4) (p := 36) rfl ?_); refine store_event (t := 4) (p := 36) (v := ?vo_w26) (w1 := (wr.setCell ⟨go22, (x20_1 : Int).toNat, none⟩ (.bool (decide ((rd t412 (ji17)) ≤ x20_1))))) ?hg ?ho ?hn ?hr ?_; (case ho => rfl); (case hg => rfl); (case hn => rfl); (case hr => first | (go_simp; done) | (go_simp; rfl)); intro w26 hw; have hg : wr.grownBy w26 (some go22) := (by rw [hw]; exact HP25.2); have hp_ : Kd.R Kd.bool 4 w26 w.heap.size (fun _ => True) (.slice (some ⟨go22, 0, none⟩) x6_1.length co13) y420 := (by rw [hw, Ny420.out]; exact HP25.1); clear HP25; replace HO_5 := am (Kd.R_over' (v := (.slice (some ⟨go22, 0, none⟩) x6_1.length co13)) (ro HO_5.out) (Kd.R_typed HO_6.out) (by decide) hg); replace BK410 := am (blk_grown (g := gb410) (o := .cells #[.slice (some ad411) l0_0.length c0_0] 26 (0, 0)) (bo BK410.out) hg (Kd.R_ne HO_6.out BK410.out (by decide))); replace HO_6 := am (hp_); replace HB := am ((by rw [hw]; exact below_set (HB.out) GB22.out : Below w.heap.size w w26)); clear hg hw hp_))
    (try simp only [← hl6_1])
    go_roundg k1
    case measure => have := HK1.out; omega
    case rel => exact ⟨(y420), (wrap64 (x20_1 + 1)), rr, H', ⟨by have := HK1.out; omega⟩, ⟨by (try simp only [hl6_1]); (with_reducible repeat (first | apply Kd.R_alloc | apply Kd.R_drewN | apply Kd.R_drew)); exact HO_5.out⟩, ⟨by (try simp only [hl6_1]); (with_reducible repeat (first | apply Kd.R_alloc | apply Kd.R_drewN | apply Kd.R_drew)); exact HO_6.out⟩, ⟨by (try simp only [hl6_1]); (with_reducible repeat (first | refine blk_drewN ?_ _ | refine blk_drew ?_ | refine blk_alloc ?_ _)); exact BK410.out⟩, ⟨bw⟩⟩
   rw [if_neg c14] at H
   have c14b0 : decide (x20_1 < (y415.length : Int)) = false := decide_eq_false c14
   (try simp only [hl6_1] at c14b0)
   clear c14
   obtain rfl := Option.some.inj H
   go_wp2
   go_ret
   exact ⟨_, by first | rfl | (simp [errW_none, errW_some] <;> rfl) | (simp only [← hji5]; first | rfl | (simp [errW_none, errW_some] <;> rfl)) | (simp [*, errW_none, errW_some] <;> rfl), ro HO_6.out, bw⟩


/-! ### impl_AperySet: function 133 -/
mutual
def impl_AperySet.j0 : Nat → Int → Bool → List Int → Option (List Int)
 | 0, _, _, _ => none
 | k + 1, x1, x16, x422000 => if x16 = true then (some ([] : List Int)) else (if 0 ≤ x1 then (if (x1 : Int).toNat ≤ 35184372088832 then ((some (List.replicate (x1 : Int).toNat 0 : List Int)).bind fun y424 => ((impl_table.f k x422000 (wrap64 (200 + x1))).bind fun t427 => (impl_AperySet.l0 k x1 y424 t427 (y424.length : Int) 0))) else (none)) else (none))
def impl_AperySet.l0 : Nat → Int → List Int → List Bool → Int → Int → Option (List Int)
 | 0, _, _, _, _, _ => none
 | k + 1, x1, x5, x6, x24, x25 => if x25 < x24 then (impl_AperySet.l1 k x1 x5 x6 x25 x24 x25) else (some x5)
def impl_AperySet.l1 : Nat → Int → List Int → List Bool → Int → Int → Int → Option (List Int)
 | 0, _, _, _, _, _, _ => none
 | k + 1, x1, x5, x6, x7, x24, x25 => if 0 ≤ x7 then (if x7 < (x5.length : Int) then (if 0 ≤ (rd x5 x7) then (if (rd x5 x7) < (x6.length : Int) then (if (rdOf false x6 (rd x5 x7) = true) then (if x1 = 0 then (none) else (if (Int.tmod (rd x5 x7) x1) = x7 then (impl_AperySet.l0 k x1 x5 x6 x24 (wrap64 (x25 + 1))) else (impl_AperySet.l1 k x1 (x5.set (x7 : Int).toNat (wrap64 ((rd x5 x7) + 1))) x6 x7 x24 x25))) else (impl_AperySet.l1 k x1 (x5.set (x7 : Int).toNat (wrap64 ((rd x5 x7) + 1))) x6 x7 x24 x25)) else (none)) else (none)) else (none)) else (none)
end
def impl_AperySet.f (k : Nat) (l0_0 : List Int) (a1 : Int) : Option (List Int) := (impl_within.f a1 1 60).bind fun t422 => (if t422 = true then ((impl_Contains.f k l0_0 a1).bind fun t423 => (impl_AperySet.j0 k a1 (!t423) l0_0)) else (impl_AperySet.j0 k a1 true l0_0))
set_option maxHeartbeats 8000000 in
set_option maxRecDepth 100000 in
theorem impl_AperySet.calls (k : Nat) (A0_0 : Option Addr) (c0_0 : Nat) (l0_0 : List Int) (a1 : Int) (r : List Int) (w : World) (hr0_0 : Kd.C (Kd.int .i64) w A0_0 l0_0.length l0_0) (hc0_0 : l0_0.length ≤ c0_0) (h : impl_AperySet.f k l0_0 a1 = some r) :
  Calls Try.prog 133 #[.agg #[.slice A0_0 l0_0.length c0_0], .int .i64 a1] w fun e w' => ∃ v0_ : Value, e = .returned (v0_) ∧ Kd.R (Kd.int .i64) 3 w' w.heap.size (fun _ => True) v0_ r ∧ Below w.heap.size w w' := by
 have hu26 := Try.underlying26
 have HR0_0 := am hr0_0
 have HC0_0 := am hc0_0
 clear hr0_0 hc0_0
 have HB := am (Below.refl w.heap.size w)
 have H : ((impl_within.f a1 1 60).bind fun t422 => (if t422 = true then ((impl_Contains.f k l0_0 a1).bind fun t423 => (impl_AperySet.j0 k a1 (!t423) l0_0)) else (impl_AperySet.j0 k a1 true l0_0))) = some r := h
 clear h
 have HC3 := am H
 clear H
 go_enter Try.func133, Try.ntmps133
 go_upto_region 1 with (first | ((with_reducible refine gate_dst (N := 2) rfl ?_); refine bx 2 #[.slice A0_0 l0_0.length c0_0] 26 ?_; intro gb421 hg w4 hbox hb; have BK421 := am (hbox); have GW421 := am (gs hg : w.heap.size ≤ gb421); have GE421 := GW421; replace HB := am (below_step bw hb); clear hb hbox hg))
 (try simp only [Act.put, List.setIfInBounds_toArray, List.set_cons_zero, List.set_cons_succ])
 go_cut [16] (fun v16 wc => ∃ (kq : Nat) (x16_2 : Bool), v16 = .bool x16_2 ∧ Aside0 (impl_AperySet.j0 kq a1 x16_2 l0_0 = some r) ∧ Aside0 (kq ≤ k) ∧ Aside0 (wc.heap[gb421]? = some (.cells #[(.slice A0_0 l0_0.length c0_0)] 26 (0, 0))) ∧ Aside0 (Below w.heap.size w wc))
 case first =>
  have H := HC3.out
  clear HC3
  replace H := ga H; obtain ⟨t422, A5, H⟩ := H
  replace H := gb H; obtain ⟨rfl, H⟩ | ⟨rfl, H⟩ := H
  ·replace H := ga H; obtain ⟨t423, A7, H⟩ := H
   have H' := am H
   clear H
   go_wp2_with (first | ((with_reducible refine gate_callee (f := 139) rfl ?_); refine gl (some 9) Try.func139 #[.int .i64 a1, .int .i64 1, .int .i64 60] ?_; (with_reducible refine (impl_within.calls a1 1 60 true _ A5.out).mono ?_); rintro e w' ⟨rfl, ⟨nd, rfl⟩⟩; refine ⟨_, rfl, ?_⟩; have hcz8_0 := bc BK421 0 (.slice A0_0 l0_0.length c0_0); have hfz8_0 := blk_frozen BK421.out 0) | (go_at_call 32; (with_reducible refine (impl_Contains.calls k _ _ l0_0 a1 t423 _ ?side1 ?side2 A7.out).mono ?_); (case side1 => exact co (Kd.C_below HR0_0.out bw)); (case side2 => exact HC0_0.out); rintro e w9 ⟨rfl, hb⟩; replace BK421 := kb BK421 hb; replace HB := am (below_step bw hb); clear hb))
   go_meet
   case rel => exact ⟨_, (!t423), rr, H', ⟨om⟩, ⟨bo BK421.out⟩, ⟨bw⟩⟩
  have H' := am H
  clear H
  go_wp2_with (first | ((with_reducible refine gate_callee (f := 139) rfl ?_); refine gl (some 9) Try.func139 #[.int .i64 a1, .int .i64 1, .int .i64 60] ?_; (with_reducible refine (impl_within.calls a1 1 60 false _ A5.out).mono ?_); rintro e w' ⟨rfl, ⟨nd, rfl⟩⟩; refine ⟨_, rfl, ?_⟩))
  go_meet
  case rel => exact ⟨_, (true), rr, H', ⟨om⟩, ⟨bo BK421.out⟩, ⟨bw⟩⟩
 case rest =>
  clear HC3
  try clear hcz8_0; try clear hfz8_0
  obtain ⟨kq, x16_2, rfl, HA, HJ2, BK421, HB⟩ := hcut
  cases kq with
  | zero => exact absurd HA.out (by simp [impl_AperySet.j0])
  | succ kj2 =>
   have H := HA.out
   clear HA
   simp only [impl_AperySet.j0] at H
   replace H := gb H; obtain ⟨rfl, H⟩ | ⟨rfl, H⟩ := H
   ·obtain rfl := Option.some.inj H
    go_wp2
    go_ret
    exact ⟨_, re, by first | exact Kd.R_nil _ _ _ _ _ | exact Kd.N_nil _ _ _ _ _ | exact Kd.V_nil _ _ _ _ _ | exact Kd.Q_nil _ _ _ _ _ | exact Kd.S_nil _ _ _ _ _, bw⟩
   replace H := gp H; obtain ⟨c11, H⟩ := H
   have c11b0 := eq_true c11
   have c11b1 : decide (0 ≤ a1) = true := decide_eq_true c11
   clear c11
   replace H := gp H; obtain ⟨c12, H⟩ := H
   have c12b0 := eq_true c12
   have c12b1 : decide ((a1 : Int).toNat ≤ 35184372088832) = true := decide_eq_true c12
   clear c12
   obtain ⟨y424, hy424⟩ : ∃ y_ : List Int, y_ = (List.replicate (a1 : Int).toNat 0) := ⟨_, rfl⟩
   replace H : ((impl_table.f kj2 l0_0 (wrap64 (200 + a1))).bind fun t427 => (impl_AperySet.l0 kj2 a1 y424 t427 (y424.length : Int) 0)) = some r := by first | (rw [hy424]; with_reducible first | exact H | exact bs H) | (with_reducible first | exact bs H | exact H) | (rw [hy424]; exact H) | exact H
   have Ny424 := am hy424
   clear hy424
   replace H := ga H; obtain ⟨t427, A13, H⟩ := H
   have H' := am H
   clear H
   go_wp2_with (first | ((with_reducible refine gate_dst (N := 18) rfl ?_); refine Kd.R_make (Kd.int .i64) _ 3 rfl (N := 18) rfl 24 _ _ rfl a1 rfl rfl Try.underlying24 (.int .i64 0) 8 info3 rfl (by decide) (by omega) 0 (ok := fun _ => True) (okp := fun _ => True) rfl (fun _ hk => hk) trivial (of_decide_eq_true (by first | (with_reducible assumption) | assumption)) (Nat.le_trans (Nat.mul_le_mul_right _ (of_decide_eq_true (by first | (with_reducible assumption) | assumption) : a1.toNat ≤ 35184372088832)) (by omega)) (Below.refl _ _) (Nat.le_refl _) ?_; intro v425 w14 ho15 hb hg_ hnew_; clear hg_ hnew_; (first | rw [← Ny424.out] at ho15 | (simp only [Int.reduceToNat] at ho15; rw [← Ny424.out] at ho15)); have HO426 := am (Kd.R_lower ho15 (below_size bw)); replace BK421 := kb BK421 hb; replace HB := am (below_step bw hb); clear hb ho15; have hcz16_0 := bc BK421 0 (.slice A0_0 l0_0.length c0_0); have hfz16_0 := blk_frozen BK421.out 0) | ((with_reducible refine gate_callee (f := 157) rfl ?_); refine gl (some 22) Try.func157 #[.agg #[.slice A0_0 l0_0.length c0_0], .int .i64 (wrap64 (200 + a1))] ?_; (with_reducible refine (impl_table.calls kj2 _ _ l0_0 (wrap64 (200 + a1)) t427 _ ?side1 ?side2 A13.out).mono ?_); (case side1 => exact co (Kd.C_below HR0_0.out HB.out)); (case side2 => exact HC0_0.out); rintro e w17 ⟨v428, rfl, ho0, hb⟩; refine ⟨_, rfl, ?_⟩; replace HO426 := rK HO426 hb; have HO429 := am (Kd.R_lower ho0 (below_size bw)); replace BK421 := kb BK421 hb; replace HB := am (below_step bw hb); clear hb ho0; obtain ⟨Ao18, co18, eo18⟩ := Kd.R_slice HO426.out; subst eo18))
   go_loopg [25] kj2 (fun kq v25 w' => ∃ (x5_2 : List Int) (x25_2 : Int), v25 = .int .i64 x25_2 ∧ Aside0 (impl_AperySet.l0 kq a1 x5_2 t427 (y424.length : Int) x25_2 = some r) ∧ Aside0 (kq ≤ kj2) ∧ Aside0 (Kd.R (Kd.int .i64) 3 w' w.heap.size (fun _ => True) (.slice Ao18 y424.length co18) x5_2) ∧ Aside0 (Kd.R Kd.bool 4 w' w.heap.size (fun _ => True) v428 t427) ∧ Aside0 (w'.heap[gb421]? = some (.cells #[(.slice A0_0 l0_0.length c0_0)] 26 (0, 0))) ∧ Aside0 (Below w.heap.size w w'))
   case atStart => exact ⟨(y424), (0), rr, H', ⟨Nat.le_refl _⟩, ⟨ro HO426.out⟩, ⟨ro HO429.out⟩, ⟨bo BK421.out⟩, ⟨bw⟩⟩
   case round =>
    clear H'
    try clear c11; try clear c11b0; try clear c11b1; try clear c12; try clear c12b0; try clear c12b1; try clear hcz16_0; try clear hcz8_0; try clear hfz16_0; try clear hfz8_0
    obtain ⟨x5_2, x25_2, rfl, HA, HK2, HO_5, HO_6, BK421, HB⟩ := hrel
    have hl5_2 := (Kd.R_reads' HO_5.out).1
    rw [hl5_2] at HO_5
    (try simp only [hl5_2])
    (try simp only [hl5_2] at BK421)
    (try simp only [hl5_2] at HO_6)
    cases gk with
    | zero => exact absurd HA.out (by simp [impl_AperySet.l0])
    | succ k2 =>
     have H := HA.out
     clear HA
     simp only [impl_AperySet.l0] at H
     by_cases c19 : x25_2 < (y424.length : Int)
     ·rw [if_pos c19] at H
      have c19b0 : decide (x25_2 < (y424.length : Int)) = true := decide_eq_true c19
      (try simp only [hl5_2] at c19b0)
      clear c19
      have H' := am H
      clear H
      go_wp2
      go_loopg [] k2 (fun kq w' => ∃ (x5_3 : List Int), Aside0 (impl_AperySet.l1 kq a1 x5_3 t427 x25_2 (y424.length : Int) x25_2 = some r) ∧ Aside0 (kq ≤ k2) ∧ Aside0 (Kd.R (Kd.int .i64) 3 w' w.heap.size (fun _ => True) (.slice Ao18 x5_2.length co18) x5_3) ∧ Aside0 (Kd.R Kd.bool 4 w' w.heap.size (fun _ => True) v428 t427) ∧ Aside0 (w'.heap[gb421]? = some (.cells #[(.slice A0_0 l0_0.length c0_0)] 26 (0, 0))) ∧ Aside0 (Below w.heap.size w w'))
      case atStart => exact ⟨(x5_2), H', ⟨Nat.le_refl _⟩, ⟨by (try simp only [hl5_2]); (with_reducible repeat (first | apply Kd.R_alloc | apply Kd.R_drewN | apply Kd.R_drew)); exact HO_5.out⟩, ⟨by (try simp only [hl5_2]); (with_reducible repeat (first | apply Kd.R_alloc | apply Kd.R_drewN | apply Kd.R_drew)); exact HO_6.out⟩, ⟨by (try simp only [hl5_2]); (with_reducible repeat (first | refine blk_drewN ?_ _ | refine blk_drew ?_ | refine blk_alloc ?_ _)); exact BK421.out⟩, ⟨bw⟩⟩
      case round =>
       clear H'
       try clear c11; try clear c11b0; try clear c11b1; try clear c12; try clear c12b0; try clear c12b1; try clear c19; try clear c19b0; try clear hcz16_0; try clear hcz8_0; try clear hfz16_0; try clear hfz8_0
       obtain ⟨x5_3, HA, HK3, HO_5, HO_6, BK421, HB⟩ := hrel
       have hl5_3 := (Kd.R_reads' HO_5.out).1
       rw [hl5_3] at HO_5
       (try simp only [hl5_3])
       (try simp only [hl5_3] at BK421)
       (try simp only [hl5_3] at HO_6)
       cases gk with
       | zero => exact absurd HA.out (by simp [impl_AperySet.l1])
       | succ k3 =>
        have H := HA.out
        clear HA
        simp only [impl_AperySet.l1] at H
        replace H := gd H; obtain ⟨c20b0, H⟩ := H
        by_cases c21 : x25_2 < (x5_3.length : Int)
        rotate_left
        ·rw [if_neg c21] at H
         exact absurd H (by simp)
        rw [if_pos c21] at H
        have c21b0 : decide (x25_2 < (x5_3.length : Int)) = true := decide_eq_true c21
        (try simp only [hl5_2, hl5_3] at c21b0)
        clear c21
        replace H := gd H; obtain ⟨c22b0, H⟩ := H
        replace H := gd H; obtain ⟨c23b0, H⟩ := H
        obtain ⟨bq24, hbq24⟩ : ∃ b_ : Bool, b_ = (rdOf false t427 (rd x5_3 x25_2)) := ⟨_, rfl⟩
        replace H : (if (bq24 = true) then (if a1 = 0 then (none) else (if (Int.tmod (rd x5_3 x25_2) a1) = x25_2 then (impl_AperySet.l0 k3 a1 x5_3 t427 (y424.length : Int) (wrap64 (x25_2 + 1))) else (impl_AperySet.l1 k3 a1 (x5_3.set (x25_2 : Int).toNat (wrap64 ((rd x5_3 x25_2) + 1))) t427 x25_2 (y424.length : Int) x25_2))) else (impl_AperySet.l1 k3 a1 (x5_3.set (x25_2 : Int).toNat (wrap64 ((rd x5_3 x25_2) + 1))) t427 x25_2 (y424.length : Int) x25_2)) = some r := by rw [← hbq24] at H; exact H
        have Nbq24 := am hbq24
        clear hbq24
        by_cases c25 : (bq24 = true)
        ·subst c25
         have H1 : (if a1 = 0 then (none) else (if (Int.tmod (rd x5_3 x25_2) a1) = x25_2 then (impl_AperySet.l0 k3 a1 x5_3 t427 (y424.length : Int) (wrap64 (x25_2 + 1))) else (impl_AperySet.l1 k3 a1 (x5_3.set (x25_2 : Int).toNat (wrap64 ((rd x5_3 x25_2) + 1))) t427 x25_2 (y424.length : Int) x25_2))) = some r := by rw [if_pos rfl] at H; exact H
         clear H
         have H := H1
         clear H1
         by_cases c26 : a1 = 0
         ·rw [if_pos c26] at H
          exact absurd H (by simp)
         rw [if_neg c26] at H
         have c26b0 : (a1 == 0) = false := beq_eq_false_iff_ne.mpr c26
         have c26b1 : (a1 != 0) = true := bne_iff_ne.mpr c26
         by_cases c27 : (Int.tmod (rd x5_3 x25_2) a1) = x25_2
         ·rw [if_pos c27] at H
          have c27b0 : ((Int.tmod (rd x5_3 x25_2) a1) == x25_2) = true := beq_iff_eq.mpr c27
          have c27b1 : ((Int.tmod (rd x5_3 x25_2) a1) != x25_2) = false := bne_eq_false_iff_eq.mpr c27
          clear c27
          have H' := am H
          clear H
          obtain ⟨⟨ad430, e430, hx430_0⟩, p430, q430⟩ := pq (Kd.at_int (Kd.R_reads' HO_5.out).2.2 x25_2)
          cases e430
          obtain ⟨Ao28, co28, eo28⟩ := Kd.R_slice HO_6.out
          subst eo28
          obtain ⟨⟨ad431, e431, hx431_0⟩, p431, q431⟩ := pq (Kd.at_bool (Kd.R_reads' HO_6.out).2.2 (rd x5_3 x25_2))
          (try rw [← Nbq24.out] at hx431_0)
          cases e431
          obtain ⟨⟨ad432, e432, hx432_0⟩, p432, q432⟩ := pq (Kd.at_int (Kd.R_reads' HO_5.out).2.2 x25_2)
          obtain rfl : ad430 = ad432 := (by injection e432)
          go_wp2
          (try simp only [← hl5_2, ← hl5_3])
          go_roundg k3
          case measure => have := HJ2.out; have := HK2.out; have := HK3.out; omega
          case rel => exact ⟨(x5_3), (wrap64 (x25_2 + 1)), rr, H', ⟨by have := HJ2.out; have := HK2.out; have := HK3.out; omega⟩, ⟨by (try simp only [hl5_2]); (try simp only [hl5_3]); (with_reducible repeat (first | apply Kd.R_alloc | apply Kd.R_drewN | apply Kd.R_drew)); exact HO_5.out⟩, ⟨by (try simp only [hl5_2]); (try simp only [hl5_3]); (with_reducible repeat (first | apply Kd.R_alloc | apply Kd.R_drewN | apply Kd.R_drew)); exact HO_6.out⟩, ⟨by (try simp only [hl5_2]); (try simp only [hl5_3]); (with_reducible repeat (first | refine blk_drewN ?_ _ | refine blk_drew ?_ | refine blk_alloc ?_ _)); exact BK421.out⟩, ⟨bw⟩⟩
         rw [if_neg c27] at H
         have c27b0 : ((Int.tmod (rd x5_3 x25_2) a1) == x25_2) = false := beq_eq_false_iff_ne.mpr c27
         have c27b1 : ((Int.tmod (rd x5_3 x25_2) a1) != x25_2) = true := bne_iff_ne.mpr c27
         obtain ⟨y434, hy434⟩ : ∃ y_ : List Int, y_ = (x5_3.set (x25_2 : Int).toNat (wrap64 ((rd x5_3 x25_2) + 1))) := ⟨_, rfl⟩
         replace H : (impl_AperySet.l1 k3 a1 y434 t427 x25_2 (y424.length : Int) x25_2) = some r := by first | (rw [hy434]; with_reducible first | exact H | exact bs H) | (with_reducible first | exact bs H | exact H) | (rw [hy434]; exact H) | exact H
         have Ny434 := am hy434
         clear hy434
         have H' := am H
         clear H
         obtain ⟨⟨ad430, e430, hx430_0⟩, p430, q430⟩ := pq (Kd.at_int (Kd.R_reads' HO_5.out).2.2 x25_2)
         cases e430
         obtain ⟨Ao30, co30, eo30⟩ := Kd.R_slice HO_6.out
         subst eo30
         obtain ⟨⟨ad431, e431, hx431_0⟩, p431, q431⟩ := pq (Kd.at_bool (Kd.R_reads' HO_6.out).2.2 (rd x5_3 x25_2))
         (try rw [← Nbq24.out] at hx431_0)
         cases e431
         obtain ⟨⟨ad432, e432, hx432_0⟩, p432, q432⟩ := pq (Kd.at_int (Kd.R_reads' HO_5.out).2.2 x25_2)
         obtain rfl : ad430 = ad432 := (by injection e432)
         obtain ⟨⟨ad433, e433, hx433_0⟩, p433, q433⟩ := pq (Kd.at_int (Kd.R_reads' HO_5.out).2.2 x25_2)
         obtain rfl : ad430 = ad433 := (by injection e433)
         have p29 : 0 ≤ (x25_2 : Int) := of_decide_eq_true (by first | (with_reducible assumption) | assumption)
         have q29 : (x25_2 : Int) < ((x5_3.length : Int) : Int) := of_decide_eq_true (by first | (with_reducible assumption) | assumption)
         obtain ⟨go29, co29, eo29, gb29, gl29, cl29, HG29⟩ := Kd.R_form HO_5.out (by omega)
         (first | cases eo29 | (injection eo29 with ea_ en_ ec_; (first | subst ea_ | (injection ea_ with ea_; subst ea_)); subst ec_; clear en_))
         have GB29 := am gb29
         have GG29 := am HG29
         clear gb29 gl29 HG29
         (first | simp only [add_plain] at hx430_0 | skip)
         (first | simp only [add_plain] at hx432_0 | skip)
         (first | simp only [add_plain] at hx433_0 | skip)
         obtain ⟨hx29_0, hf29_0⟩ := Kd.R_celln 0 HO_5.out (x25_2 : Int) p29 q29
         replace p29 := eq_true p29
         replace q29 := eq_true q29
         have HP31 := Kd.R_putg HO_5.out (x25_2 : Int) (wrap64 ((rd x5_3 x25_2) + 1))
         go_wp2_with (first | ((with_reducible refine gate_store (t := 3) (p := 51) rfl ?_); refine store_event (t := 3) (p := 51) (v := ?vo_w32) (w1 := (wr.setCell ⟨go29, (x25_2 : Int).toNat, none⟩ (.int .i64 (wrap64 ((rd x5_3 x25_2) + 1))))) ?hg ?ho ?hn ?hr ?_; (case ho => rfl); (case hg => rfl); (case hn => rfl); (case hr => first | (go_simp; done) | (go_simp; rfl)); intro w32 hw; have hg : wr.grownBy w32 (some go29) := (by rw [hw]; exact HP31.2); have hp_ : Kd.R (Kd.int .i64) 3 w32 w.heap.size (fun _ => True) (.slice (some ⟨go29, 0, none⟩) x5_3.length co18) y434 := (by rw [hw, Ny434.out]; exact HP31.1); clear HP31; replace HO_6 := am (Kd.R_over' (v := (.slice (some ⟨go29, 0, none⟩) x5_3.length co18)) (ro HO_6.out) (Kd.R_typed HO_5.out) (by decide) hg); replace BK421 := am (blk_grown (g := gb421) (o := .cells #[.slice A0_0 l0_0.length c0_0] 26 (0, 0)) (bo BK421.out) hg (Kd.R_ne HO_5.out BK421.out (by decide))); replace HO_5 := am (hp_); replace HB := am ((by rw [hw]; exact below_set (HB.out) GB29.out : Below w.heap.size w w32)); clear hg hw hp_))
         (try simp only [← hl5_3])
         go_roundg k3
         case measure => have := HJ2.out; have := HK2.out; have := HK3.out; omega
         case rel => exact ⟨(y434), H', ⟨by have := HJ2.out; have := HK2.out; have := HK3.out; omega⟩, ⟨by (try simp only [hl5_2]); (try simp only [hl5_3]); (with_reducible repeat (first | apply Kd.R_alloc | apply Kd.R_drewN | apply Kd.R_drew)); exact HO_5.out⟩, ⟨by (try simp only [hl5_2]); (try simp only [hl5_3]); (with_reducible repeat (first | apply Kd.R_alloc | apply Kd.R_drewN | apply Kd.R_drew)); exact HO_6.out⟩, ⟨by (try simp only [hl5_2]); (try simp only [hl5_3]); (with_reducible repeat (first | refine blk_drewN ?_ _ | refine blk_drew ?_ | refine blk_alloc ?_ _)); exact BK421.out⟩, ⟨bw⟩⟩
        replace c25 := Bool.eq_false_iff.mpr c25
        subst c25
        have H1 : (impl_AperySet.l1 k3 a1 (x5_3.set (x25_2 : Int).toNat (wrap64 ((rd x5_3 x25_2) + 1))) t427 x25_2 (y424.length : Int) x25_2) = some r := by rw [if_neg (show ¬ (false = true) by decide)] at H; exact H
        clear H
        have H := H1
        clear H1
        obtain ⟨y436, hy436⟩ : ∃ y_ : List Int, y_ = (x5_3.set (x25_2 : Int).toNat (wrap64 ((rd x5_3 x25_2) + 1))) := ⟨_, rfl⟩
        replace H : (impl_AperySet.l1 k3 a1 y436 t427 x25_2 (y424.length : Int) x25_2) = some r := by first | (rw [hy436]; with_reducible first | exact H | exact bs H) | (with_reducible first | exact bs H | exact H) | (rw [hy436]; exact H) | exact H
        have Ny436 := am hy436
        clear hy436
        have H' := am H
        clear H
        obtain ⟨⟨ad430, e430, hx430_0⟩, p430, q430⟩ := pq (Kd.at_int (Kd.R_reads' HO_5.out).2.2 x25_2)
        cases e430
        obtain ⟨Ao34, co34, eo34⟩ := Kd.R_slice HO_6.out
        subst eo34
        obtain ⟨⟨ad431, e431, hx431_0⟩, p431, q431⟩ := pq (Kd.at_bool (Kd.R_reads' HO_6.out).2.2 (rd x5_3 x25_2))
        (try rw [← Nbq24.out] at hx431_0)
        cases e431
        obtain ⟨⟨ad435, e435, hx435_0⟩, p435, q435⟩ := pq (Kd.at_int (Kd.R_reads' HO_5.out).2.2 x25_2)
        obtain rfl : ad430 = ad435 := (by injection e435)
        have p33 : 0 ≤ (x25_2 : Int) := of_decide_eq_true (by first | (with_reducible assumption) | assumption)
        have q33 : (x25_2 : Int) < ((x5_3.length : Int) : Int) := of_decide_eq_true (by first | (with_reducible assumption) | assumption)
        obtain ⟨go33, co33, eo33, gb33, gl33, cl33, HG33⟩ := Kd.R_form HO_5.out (by omega)
        (first | cases eo33 | (injection eo33 with ea_ en_ ec_; (first | subst ea_ | (injection ea_ with ea_; subst ea_)); subst ec_; clear en_))
        have GB33 := am gb33
        have GG33 := am HG33
        clear gb33 gl33 HG33
        (first | simp only [add_plain] at hx430_0 | skip)
        (first | simp only [add_plain] at hx435_0 | skip)
        obtain ⟨hx33_0, hf33_0⟩ := Kd.R_celln 0 HO_5.out (x25_2 : Int) p33 q33
        replace p33 := eq_true p33
        replace q33 := eq_true q33
        have HP35 := Kd.R_putg HO_5.out (x25_2 : Int) (wrap64 ((rd x5_3 x25_2) + 1))
        go_wp2_with (first | ((with_reducible refine gate_store (t := 3) (p := 51) rfl ?_); refine store_event (t := 3) (p := 51) (v := ?vo_w36) (w1 := (wr.setCell ⟨go33, (x25_2 : Int).toNat, none⟩ (.int .i64 (wrap64 ((rd x5_3 x25_2) + 1))))) ?hg ?ho ?hn ?hr ?_; (case ho => rfl); (case hg => rfl); (case hn => rfl); (case hr => first | (go_simp; done) | (go_simp; rfl)); intro w36 hw; have hg : wr.grownBy w36 (some go33) := (by rw [hw]; exact HP35.2); have hp_ : Kd.R (Kd.int .i64) 3 w36 w.heap.size (fun _ => True) (.slice (some ⟨go33, 0, none⟩) x5_3.length co18) y436 := (by rw [hw, Ny436.out]; exact HP35.1); clear HP35; replace HO_6 := am (Kd.R_over' (v := (.slice (some ⟨go33, 0, none⟩) x5_3.length co18)) (ro HO_6.out) (Kd.R_typed HO_5.out) (by decide) hg); replace BK421 := am (blk_grown (g := gb421) (o := .cells #[.slice A0_0 l0_0.length c0_0] 26 (0, 0)) (bo BK421.out) hg (Kd.R_ne HO_5.out BK421.out (by decide))); replace HO_5 := am (hp_); replace HB := am ((by rw [hw]; exact below_set (HB.out) GB33.out : Below w.heap.size w w36)); clear hg hw hp_))
        (try simp only [← hl5_3])
        go_roundg k3
        case measure => have := HJ2.out; have := HK2.out; have := HK3.out; omega
        case rel => exact ⟨(y436), H', ⟨by have := HJ2.out; have := HK2.out; have := HK3.out; omega⟩, ⟨by (try simp only [hl5_2]); (try simp only [hl5_3]); (with_reducible repeat (first | apply Kd.R_alloc | apply Kd.R_drewN | apply Kd.R_drew)); exact HO_5.out⟩, ⟨by (try simp only [hl5_2]); (try simp only [hl5_3]); (with_reducible repeat (first | apply Kd.R_alloc | apply Kd.R_drewN | apply Kd.R_drew)); exact HO_6.out⟩, ⟨by (try simp only [hl5_2]); (try simp only [hl5_3]); (with_reducible repeat (first | refine blk_drewN ?_ _ | refine blk_drew ?_ | refine blk_alloc ?_ _)); exact BK421.out⟩, ⟨bw⟩⟩
     rw [if_neg c19] at H
     have c19b0 : decide (x25_2 < (y424.length : Int)) = false := decide_eq_false c19
     (try simp only [hl5_2] at c19b0)
     clear c19
     obtain rfl := Option.some.inj H
     go_wp2
     go_ret
     exact ⟨_, re, ro HO_5.out, bw⟩

end Go.Proofs.Ytkfplkdchkmgbaa.C
