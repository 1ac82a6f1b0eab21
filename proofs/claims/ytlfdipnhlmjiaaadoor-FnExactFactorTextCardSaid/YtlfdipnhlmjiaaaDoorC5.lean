/- Contracts of functions of the program: impl_FactorText, laws_eqIntS, laws_eqSemigroup, laws_FnExactFactorText. -/
import Derived.Test.YtlfdipnhlmjiaaaDoorC0
import Derived.Test.YtlfdipnhlmjiaaaDoorC1
import Derived.Test.YtlfdipnhlmjiaaaDoorC3
import Derived.Test.YtlfdipnhlmjiaaaDoorC4
namespace Go.Proofs.YtlfdipnhlmjiaaaDoor.C
open Go.RowKit Go.Proofs.YtlfdipnhlmjiaaaDoorW.PrintWords Go.Proofs.YtlfdipnhlmjiaaaDoorW.PrintLast Go.Proofs.YtlfdipnhlmjiaaaDoorW.PrintMore
attribute [local go_sem] max2_int min2_int max_two min_two max_three min_three max_four min_four
set_option linter.unusedVariables false
set_option linter.unusedSimpArgs false

/-! ### impl_FactorText: function 8 -/
def impl_FactorText.l0 : Nat → List ByteArray → List Int → Int → Int → List Int → Option (ByteArray)
 | 0, _, _, _, _, _ => none
 | k + 1, x5, x13, x14, x15, x332000 => if x15 < x14 then (if 0 ≤ x15 then (if x15 < (x13.length : Int) then (if (rd x13 x15) = 0 then (impl_FactorText.l0 k x5 x13 x14 (wrap64 (x15 + 1)) x332000) else ((impl_FormatInt.f (rd x13 x15)).bind fun t338 => (if t338.size + 1 ≤ 9223372036854775807 then (if x15 < (x332000.length : Int) then ((impl_FormatInt.f (rd x332000 x15)).bind fun t340 => (if (t338 ++ (⟨#[42]⟩ : ByteArray)).size + t340.size ≤ 9223372036854775807 then (if x5.length < 8796093022208 then (impl_FactorText.l0 k (x5 ++ [(t338 ++ (⟨#[42]⟩ : ByteArray)) ++ t340]) x13 x14 (wrap64 (x15 + 1)) x332000) else (none)) else (none))) else (none)) else (none)))) else (none)) else (none)) else (if (x5.length : Int) = 0 then (some (⟨#[48]⟩ : ByteArray)) else ((impl_Join.f x5 (⟨#[43]⟩ : ByteArray)).bind fun t336 => (some t336)))
def impl_FactorText.f (k : Nat) (l0_0 : List Int) (l1 : List Int) : Option (ByteArray) := (impl_ValueOf.f k l0_0 l1).bind fun t332 => (if t332 < 0 then (some (⟨#[]⟩ : ByteArray)) else (impl_FactorText.l0 k (([] : List ByteArray)) l1 (l1.length : Int) 0 l0_0))
def impl_FactorText.T8 : Bool × List (List Nat × List Nat) := (true, [([], []), ([], []), ([1], [1]), ([2], [2]), ([], []), ([4], [4]), ([], []), ([5, 6], [5, 6]), ([7], [7]), ([8, 2], [8]), ([3, 9], [3, 9]), ([10], [10]), ([0, 11, 9], [0, 11]), ([12, 12, 0, 1, 2, 3, 4, 5, 6, 7, 8, 9, 10, 11, 12], [0, 12])])
def impl_FactorText.B8 : List Nat := [0, 0, 2, 6, 0, 16, 0, 112, 240, 502, 1022, 2046, 4095, 8191]
theorem impl_FactorText.tab8 : rtab .any (opsOf Tryd.f8 8) = impl_FactorText.T8 := by kernel_rfl
theorem impl_FactorText.bits8 : waitsOk impl_FactorText.T8.2 impl_FactorText.B8 = true := by kernel_rfl
set_option maxHeartbeats 8000000 in
set_option maxRecDepth 100000 in
theorem impl_FactorText.calls (k : Nat) (A0_0 : Option Addr) (c0_0 : Nat) (l0_0 : List Int) (A1 : Option Addr) (c1 : Nat) (l1 : List Int) (r : ByteArray) (w : World) (hr0_0 : Kd.C (Kd.int .i64) w A0_0 l0_0.length l0_0) (hc0_0 : l0_0.length ≤ c0_0) (hr1 : Kd.C (Kd.int .i64) w A1 l1.length l1) (hc1 : l1.length ≤ c1) (h : impl_FactorText.f k l0_0 l1 = some r) (htab : Tab10 w) :
  Calls Tryd.prog 8 #[.agg #[.slice A0_0 l0_0.length c0_0], .slice A1 l1.length c1] w fun e w' => e = .returned (.string r) ∧ Below w.heap.size w w' := by
 have hu27 := Tryd.underlying27
 have HR0_0 := am hr0_0
 have HC0_0 := am hc0_0
 clear hr0_0 hc0_0
 have HR1 := am hr1
 have HC1 := am hc1
 clear hr1 hc1
 have HB := am (Below.refl w.heap.size w)
 have H : ((impl_ValueOf.f k l0_0 l1).bind fun t332 => (if t332 < 0 then (some (⟨#[]⟩ : ByteArray)) else (impl_FactorText.l0 k (([] : List ByteArray)) l1 (l1.length : Int) 0 l0_0))) = some r := h
 clear h
 replace H := ga H; obtain ⟨t332, A3, H⟩ := H
 replace H := gi H; obtain ⟨c4b0, H⟩ | ⟨c4b0, H⟩ := H
 ·obtain rfl := Option.some.inj H
  go_enter Tryd.func8, Tryd.ntmps8
  go_wp2_with (first | ((with_reducible refine gate_dst (N := 2) rfl ?_); refine bx 2 #[.slice A0_0 l0_0.length c0_0] 27 ?_; intro gb331 hg w5 hbox hb; have BK331 := am (hbox); have GW331 := am (gs hg : w.heap.size ≤ gb331); have GE331 := GW331; replace HB := am (below_step bw hb); clear hb hbox hg; have hcz6_0 := bc BK331 0 (.slice A0_0 l0_0.length c0_0); have hfz6_0 := blk_frozen BK331.out 0) | ((with_reducible refine gate_callee (f := 15) rfl ?_); refine goesL_ (some 10) rfl rfl Tryd.func15 (by kernel_rfl) rfl #[.agg #[.slice A0_0 l0_0.length c0_0], .slice A1 l1.length c1] rfl (by (try simp only [List.map_toArray, List.map_cons, List.map_nil]); first | done | rfl | (simp only [List.length_drop, List.length_take]; rfl)) ?_; (with_reducible refine (impl_ValueOf.calls k _ _ l0_0 _ _ l1 t332 _ ?side1 ?side2 ?side3 ?side4 A3.out).mono ?_); (case side1 => exact co (Kd.C_below HR0_0.out HB.out)); (case side2 => exact HC0_0.out); (case side3 => exact co (Kd.C_below HR1.out HB.out)); (case side4 => exact HC1.out); rintro e w7 ⟨rfl, hb⟩; refine ⟨_, rfl, ?_⟩; replace BK331 := kb BK331 hb; replace HB := am (below_step bw hb); clear hb))
  go_ret
  exact ⟨re, bw⟩
 obtain ⟨y333, hy333⟩ : ∃ y_ : List ByteArray, y_ = (([] : List ByteArray)) := ⟨_, rfl⟩
 replace H : (impl_FactorText.l0 k y333 l1 (l1.length : Int) 0 l0_0) = some r := by first | (rw [hy333]; with_reducible first | exact H | exact bs H) | (with_reducible first | exact bs H | exact H) | (rw [hy333]; exact H) | exact H
 have Ny333 := am hy333
 clear hy333
 have H' := am H
 clear H
 go_enter Tryd.func8, Tryd.ntmps8
 go_wp2_with (first | ((with_reducible refine gate_dst (N := 2) rfl ?_); refine bx 2 #[.slice A0_0 l0_0.length c0_0] 27 ?_; intro gb331 hg w8 hbox hb; have BK331 := am (hbox); have GW331 := am (gs hg : w.heap.size ≤ gb331); have GE331 := GW331; replace HB := am (below_step bw hb); clear hb hbox hg; have hcz9_0 := bc BK331 0 (.slice A0_0 l0_0.length c0_0); have hfz9_0 := blk_frozen BK331.out 0) | ((with_reducible refine gate_callee (f := 15) rfl ?_); refine goesL_ (some 10) rfl rfl Tryd.func15 (by kernel_rfl) rfl #[.agg #[.slice A0_0 l0_0.length c0_0], .slice A1 l1.length c1] rfl (by (try simp only [List.map_toArray, List.map_cons, List.map_nil]); first | done | rfl | (simp only [List.length_drop, List.length_take]; rfl)) ?_; (with_reducible refine (impl_ValueOf.calls k _ _ l0_0 _ _ l1 t332 _ ?side1 ?side2 ?side3 ?side4 A3.out).mono ?_); (case side1 => exact co (Kd.C_below HR0_0.out HB.out)); (case side2 => exact HC0_0.out); (case side3 => exact co (Kd.C_below HR1.out HB.out)); (case side4 => exact HC1.out); rintro e w10 ⟨rfl, hb⟩; refine ⟨_, rfl, ?_⟩; replace BK331 := kb BK331 hb; replace HB := am (below_step bw hb); clear hb) | ((with_reducible refine gate_dst (N := 12) rfl ?_); refine Kd.R_lit Kd.string _ 9 ?hg (N := 12) ?hd (xs := ([] : List ByteArray)) (inner := []) (ok := fun _ => True) (okp := fun _ => True) ?hr ?hp (fun _ hk => hk) trivial (Below.refl _ _) (Nat.le_refl _) (by simp) ?_; (case hd => rfl); (case hg => rfl); (case hr => first | (go_simp; done) | (go_simp; rfl)); (case hp => exact (Reps.none _ _)); intro v334 w11 ho12 hb hg_ hnew_; clear hg_ hnew_; (first | rw [← Ny333.out] at ho12 | (simp only [Int.reduceToNat] at ho12; rw [← Ny333.out] at ho12)); have HO335 := am (Kd.R_lower ho12 (below_size bw)); replace BK331 := kb BK331 hb; replace HB := am (below_step bw hb); clear hb ho12))
 go_loopg [5, 15] k (fun kq v5 v15 w' => ∃ (x5_1 : List ByteArray) (x15_1 : Int), v15 = .int .i64 x15_1 ∧ Aside0 (impl_FactorText.l0 kq x5_1 l1 (l1.length : Int) x15_1 l0_0 = some r) ∧ Aside0 (kq ≤ k) ∧ Aside0 (Kd.R Kd.string 9 w' w.heap.size (fun _ => True) v5 x5_1) ∧ Aside0 (w'.heap[gb331]? = some (.cells #[(.slice A0_0 l0_0.length c0_0)] 27 (0, 0))) ∧ Aside0 (Below w.heap.size w w'))
 case atStart => exact ⟨(y333), (0), rr, H', ⟨Nat.le_refl _⟩, ⟨ro HO335.out⟩, ⟨bo BK331.out⟩, ⟨bw⟩⟩
 case round =>
  clear H'
  try clear c1; try clear c4b0; try clear hcz6_0; try clear hcz9_0; try clear hfz6_0; try clear hfz9_0
  obtain ⟨x5_1, x15_1, rfl, HA, HK1, HO_5, BK331, HB⟩ := hrel
  cases gk with
  | zero => exact absurd HA.out (by simp [impl_FactorText.l0])
  | succ k1 =>
   have H := HA.out
   clear HA
   simp only [impl_FactorText.l0] at H
   replace H := gi H; obtain ⟨c13b0, H⟩ | ⟨c13b0, H⟩ := H
   ·replace H := gd H; obtain ⟨c14b0, H⟩ := H
    replace H := gd H; obtain ⟨c15b0, H⟩ := H
    by_cases c16 : (rd l1 x15_1) = 0
    ·rw [if_pos c16] at H
     have c16b0 : ((rd l1 x15_1) == 0) = true := beq_iff_eq.mpr c16
     have c16b1 : ((rd l1 x15_1) != 0) = false := bne_eq_false_iff_eq.mpr c16
     clear c16
     have H' := am H
     clear H
     obtain ⟨⟨ad337, e337, hx337_0⟩, p337, q337⟩ := pq (Kd.at_int HR1.out x15_1)
     cases e337
     replace hx337_0 := hw HB hx337_0
     go_wp2
     go_roundg k1
     case measure => have := HK1.out; omega
     case rel => exact ⟨(x5_1), (wrap64 (x15_1 + 1)), rr, H', ⟨by have := HK1.out; omega⟩, ⟨ro HO_5.out⟩, ⟨bo BK331.out⟩, ⟨bw⟩⟩
    rw [if_neg c16] at H
    have c16b0 : ((rd l1 x15_1) == 0) = false := beq_eq_false_iff_ne.mpr c16
    have c16b1 : ((rd l1 x15_1) != 0) = true := bne_iff_ne.mpr c16
    replace H := ga H; obtain ⟨t338, A17, H⟩ := H
    by_cases c18 : t338.size + 1 ≤ 9223372036854775807
    rotate_left
    ·rw [if_neg c18] at H
     exact absurd H (by simp)
    rw [if_pos c18] at H
    have c18b0 := eq_true c18
    have c18b1 : decide (t338.size + 1 ≤ 9223372036854775807) = true := decide_eq_true c18
    try have c18b2 : (9223372036854775807 < t338.size + 1) = False := eq_false (Nat.not_lt.2 c18)
    replace H := gd H; obtain ⟨c19b0, H⟩ := H
    replace H := ga H; obtain ⟨t340, A20, H⟩ := H
    by_cases c21 : (t338 ++ (⟨#[42]⟩ : ByteArray)).size + t340.size ≤ 9223372036854775807
    rotate_left
    ·rw [if_neg c21] at H
     exact absurd H (by simp)
    rw [if_pos c21] at H
    have c21b7 : t338.size + 1 + t340.size ≤ 9223372036854775807 := by have q_ := c21; rw [ByteArray.size_append] at q_; exact q_
    have c21b0 := eq_true c21
    have c21b1 : decide ((t338 ++ (⟨#[42]⟩ : ByteArray)).size + t340.size ≤ 9223372036854775807) = true := decide_eq_true c21
    try have c21b2 : (9223372036854775807 < (t338 ++ (⟨#[42]⟩ : ByteArray)).size + t340.size) = False := eq_false (Nat.not_lt.2 c21)
    by_cases c22 : x5_1.length < 8796093022208
    rotate_left
    ·rw [if_neg c22] at H
     exact absurd H (by simp)
    rw [if_pos c22] at H
    have LMc22 := am c22
    clear c22
    obtain ⟨y341, hy341⟩ : ∃ y_ : List ByteArray, y_ = (x5_1 ++ [(t338 ++ (⟨#[42]⟩ : ByteArray)) ++ t340]) := ⟨_, rfl⟩
    replace H : (impl_FactorText.l0 k1 y341 l1 (l1.length : Int) (wrap64 (x15_1 + 1)) l0_0) = some r := by first | (rw [hy341]; with_reducible first | exact H | exact bs H) | (with_reducible first | exact bs H | exact H) | (rw [hy341]; exact H) | exact H
    have Ny341 := am hy341
    clear hy341
    have H' := am H
    clear H
    obtain ⟨⟨ad337, e337, hx337_0⟩, p337, q337⟩ := pq (Kd.at_int HR1.out x15_1)
    cases e337
    replace hx337_0 := hw HB hx337_0
    try go_wp2
    replace HO_5 := am (Kd.R_drew HO_5.out)
    replace BK331 := bd BK331
    replace HB := am (below_drew1 HB.out)
    obtain ⟨⟨ad339, e339, hx339_0⟩, p339, q339⟩ := pq (Kd.at_int HR0_0.out x15_1)
    have hw339_0 := hx339_0
    cases e339
    replace hx339_0 := hw HB hx339_0
    refine start_ (n := 14) (S := fun w' => w'.cell? ⟨gb331, 0, none⟩ = some (.slice (some ad339) l0_0.length c0_0) ∧ w'.cell? (ad339.add (x15_1).toNat) = some (.int .i64 (rd l0_0 x15_1))) (ds := []) (yz 14 0) (by kernel_rfl) rfl rfl ⟨bc BK331 0 _, ((HB.out.cell (World.block_lt_of_cell? w _ hw339_0)).trans hw339_0)⟩ (fun hHeld => ?_); refine with_tabW impl_FactorText.tab8 impl_FactorText.bits8 (fun HT_ HW_ => ?_)
    generalize wr.drew = w23 at HO_5 BK331 HB hx339_0 hHeld ⊢
    refine pa 0 (some 22) (yz 14 1) HT_ ?_
    refine pa 1 (some 23) (yz 14 3) HT_ ?_
    refine pa 4 (some 26) (yz 14 19) HT_ ?_
    refine pa 6 (some 28) (yz 14 83) HT_ ?_
    refine tk 5 (some 27) (yz 14 115) HT_ HW_ hHeld ?_
    refine pa 7 (some 29) (yz 14 243) HT_ ?_
    refine tk 8 (some 30) (yz 14 499) HT_ HW_ hHeld ?_
    refine oa 2 (some 24) (yz 14 503) HT_ (fun K hK => ?_)
    refine goes_ Tryd.func16 (by kernel_rfl) rfl #[.int .i64 (rd l1 x15_1)] (by rfl) rfl rfl (by (try simp only [List.map_toArray, List.map_cons, List.map_nil]); first | done | rfl | (simp only [List.length_drop, List.length_take]; rfl)) ?_
    with_reducible refine (impl_FormatInt.calls (rd l1 x15_1) t338 _ A17.out (htab.below bw)).mono ?_
    rintro e w24 ⟨rfl, hb⟩
    refine ⟨_, rfl, ?_⟩
    replace HO_5 := rK HO_5 hb
    replace BK331 := kb BK331 hb
    replace HB := am (below_step bw hb)
    clear hb
    refine hK.out _ _ ⟨bc BK331 0 _, ((HB.out.cell (World.block_lt_of_cell? w _ hw339_0)).trans hw339_0)⟩ (fun hHeld => ?_)
    clear hK K
    refine nm (some 24) ?_
    refine pa 3 (some 25) (yz 14 511) HT_ ?_
    refine oa 9 (some 31) (yz 14 1023) HT_ (fun K hK => ?_)
    refine goes_ Tryd.func16 (by kernel_rfl) rfl #[.int .i64 (rd l0_0 x15_1)] (by rfl) rfl rfl (by (try simp only [List.map_toArray, List.map_cons, List.map_nil]); first | done | rfl | (simp only [List.length_drop, List.length_take]; rfl)) ?_
    with_reducible refine (impl_FormatInt.calls (rd l0_0 x15_1) t340 _ A20.out (htab.below bw)).mono ?_
    rintro e w25 ⟨rfl, hb⟩
    refine ⟨_, rfl, ?_⟩
    replace HO_5 := rK HO_5 hb
    replace BK331 := kb BK331 hb
    replace HB := am (below_step bw hb)
    clear hb
    refine hK.out _ _ ⟨bc BK331 0 _, ((HB.out.cell (World.block_lt_of_cell? w _ hw339_0)).trans hw339_0)⟩ (fun hHeld => ?_)
    clear hK K
    refine nm (some 31) ?_
    refine pa 10 (some 32) (yz 14 2047) HT_ ?_
    refine oa 11 (some 33) (yz 14 4095) HT_ (fun K hK => ?_)
    refine value_ (w1 := ?_) (v := ?_) (by rfl) rfl ?_ ?_
    rotate_left 2
    ·go_simp
     constructor
     ·rfl
     rfl
    refine hK.out _ _ ⟨(blk_cell (blk_alloc BK331.out _) 0).trans rfl, (World.cell?_alloc_lt _ _ _ (World.block_lt_of_cell? _ _ (((HB.out.cell (World.block_lt_of_cell? w _ hw339_0)).trans hw339_0)))).trans (((HB.out.cell (World.block_lt_of_cell? w _ hw339_0)).trans hw339_0))⟩ (fun hHeld => ?_)
    clear hK K
    refine nm (some 33) ?_
    refine oa 12 (some 34) (yz 14 8191) HT_ (fun K hK => ?_)
    refine Kd.R_append_step Kd.string (w0 := w) w.heap.size (by rfl) (.tmp 22) (.tmp 33) 35 9 (.string ⟨#[]⟩) 16 rfl Tryd.underlying35 info9 rfl (by decide) (by omega) u5 x5_1 ((t338 ++ (⟨#[42]⟩ : ByteArray)) ++ t340) [.string ((t338 ++ (⟨#[42]⟩ : ByteArray)) ++ t340)] (fun _ => True) (fun _ => False) rfl rfl ?aP (fun _ hk => hk.elim) ?aF ?aO ?aB ?aS ?aL ?_
    (case aP => exact rfl)
    (case aB => exact bw)
    (case aF => exact (fun _ _ => trivial))
    (case aO => exact (ro HO_5.out))
    (case aS => exact (below_size bw))
    (case aL => have := LMc22.out; omega)
    intro v342 w26 ho hb hg hat
    rw [← Ny341.out] at ho
    replace BK331 := am (blk_grown (g := gb331) (o := .cells #[.slice (some ad339) l0_0.length c0_0] 27 (0, 0)) (bo BK331.out) hg (Kd.R_ne HO_5.out BK331.out (by decide)))
    replace HB := am (hb)
    have HO343 := am (ho)
    clear HO_5 ho hb hg hat
    refine hK.out _ _ ⟨bc BK331 0 _, ((HB.out.cell (World.block_lt_of_cell? w _ hw339_0)).trans hw339_0)⟩ (fun hHeld => ?_)
    clear hK K
    refine nm (some 34) ?_
    refine pa 13 (some 5) (yz 14 16383) HT_ ?_
    refine done_ (done_of HT_.out (by kernel_rfl)) ?_
    try go_wp2
    go_roundg k1
    case measure => have := HK1.out; omega
    case rel => exact ⟨(y341), (wrap64 (x15_1 + 1)), rr, H', ⟨by have := HK1.out; omega⟩, ⟨ro HO343.out⟩, ⟨bo BK331.out⟩, ⟨bw⟩⟩
   by_cases c27 : (x5_1.length : Int) = 0
   ·rw [if_pos c27] at H
    have c27b0 : ((x5_1.length : Int) == 0) = true := beq_iff_eq.mpr c27
    have c27b1 : ((x5_1.length : Int) != 0) = false := bne_eq_false_iff_eq.mpr c27
    clear c27
    obtain rfl := Option.some.inj H
    obtain ⟨Ao28, co28, eo28⟩ := Kd.R_slice HO_5.out
    subst eo28
    go_wp2
    go_ret
    exact ⟨re, bw⟩
   rw [if_neg c27] at H
   have c27b0 : ((x5_1.length : Int) == 0) = false := beq_eq_false_iff_ne.mpr c27
   have c27b1 : ((x5_1.length : Int) != 0) = true := bne_iff_ne.mpr c27
   have c27b2 : ¬ (x5_1 = []) := fun h_ => c27 (by rw [h_]; rfl)
   replace H := ga H; obtain ⟨t336, A29, H⟩ := H
   obtain rfl := Option.some.inj H
   obtain ⟨Ao30, co30, eo30⟩ := Kd.R_slice HO_5.out
   subst eo30
   go_wp2_with (first | ((with_reducible refine gate_callee (f := 17) rfl ?_); refine goesL_ (some 40) rfl rfl Tryd.func17 (by kernel_rfl) rfl #[.slice Ao30 x5_1.length co30, .string (⟨#[43]⟩ : ByteArray)] rfl (by (try simp only [List.map_toArray, List.map_cons, List.map_nil]); first | done | rfl | (simp only [List.length_drop, List.length_take]; rfl)) ?_; (with_reducible refine (impl_Join.calls _ _ x5_1 (⟨#[43]⟩ : ByteArray) t336 _ ?side1 ?side2 A29.out).mono ?_); (case side1 => exact co (Kd.R_reads' HO_5.out).2.2); (case side2 => exact (Kd.R_reads' HO_5.out).2.1); rintro e w31 ⟨rfl, hb⟩; refine ⟨_, rfl, ?_⟩; replace HO_5 := rK HO_5 hb; replace BK331 := kb BK331 hb; replace HB := am (below_step bw hb); clear hb))
   go_ret
   exact ⟨re, bw⟩


/-! ### laws_eqIntS: function 10 -/
def laws_eqIntS.l0 : Nat → List Int → List Int → Int → Option (Bool)
 | 0, _, _, _ => none
 | k + 1, x0, x1, x5 => if x5 < (x0.length : Int) then (if 0 ≤ x5 then (if x5 < (x1.length : Int) then (if (rd x0 x5) = (rd x1 x5) then (laws_eqIntS.l0 k x0 x1 (wrap64 (x5 + 1))) else (some false)) else (none)) else (none)) else (some true)
def laws_eqIntS.f (k : Nat) (l0 : List Int) (l1 : List Int) : Option (Bool) := if (l0.length : Int) = (l1.length : Int) then (laws_eqIntS.l0 k l0 l1 0) else (some false)
set_option maxHeartbeats 8000000 in
set_option maxRecDepth 100000 in
theorem laws_eqIntS.calls (k : Nat) (A0 : Option Addr) (c0 : Nat) (l0 : List Int) (A1 : Option Addr) (c1 : Nat) (l1 : List Int) (r : Bool) (w : World) (hr0 : Kd.C (Kd.int .i64) w A0 l0.length l0) (hc0 : l0.length ≤ c0) (hr1 : Kd.C (Kd.int .i64) w A1 l1.length l1) (hc1 : l1.length ≤ c1) (h : laws_eqIntS.f k l0 l1 = some r) :
  Calls Tryd.prog 10 #[.slice A0 l0.length c0, .slice A1 l1.length c1] w fun e w' => e = .returned (.bool r) ∧ Drawn0 w w' := by
 have HR0 := am hr0
 have HC0 := am hc0
 clear hr0 hc0
 have HR1 := am hr1
 have HC1 := am hc1
 clear hr1 hc1
 have H : (if (l0.length : Int) = (l1.length : Int) then (laws_eqIntS.l0 k l0 l1 0) else (some false)) = some r := h
 clear h
 by_cases c3 : (l0.length : Int) = (l1.length : Int)
 ·rw [if_pos c3] at H
  have c3b0 : ((l0.length : Int) == (l1.length : Int)) = true := beq_iff_eq.mpr c3
  have c3b1 : ((l0.length : Int) != (l1.length : Int)) = false := bne_eq_false_iff_eq.mpr c3
  have c3b2 : (l0.length == l1.length) = true := by first | simpa using c3 | (simp at c3 ⊢; omega)
  clear c3
  have H' := am H
  clear H
  go_enter Tryd.func10, Tryd.ntmps10
  go_wp2
  repeat (go_quiet (fail); try go_wp2)
  go_loopg [5] k (fun kq v5 w' => ∃ (x5_1 : Int), v5 = .int .i64 x5_1 ∧ Aside0 (laws_eqIntS.l0 kq l0 l1 x5_1 = some r) ∧ Aside0 (kq ≤ k) ∧ Drawn0 w w')
  case atStart => exact ⟨(0), rr, H', ⟨Nat.le_refl _⟩, dw⟩
  case round =>
   clear H'
   try clear c1; try clear c3; try clear c3b0; try clear c3b1; try clear c3b2
   obtain ⟨x5_1, rfl, HA, HK1, ⟨m1, rfl⟩⟩ := hrel
   cases gk with
   | zero => exact absurd HA.out (by simp [laws_eqIntS.l0])
   | succ k1 =>
    have H := HA.out
    clear HA
    simp only [laws_eqIntS.l0] at H
    replace H := gi H; obtain ⟨c4b0, H⟩ | ⟨c4b0, H⟩ := H
    ·replace H := gd H; obtain ⟨c5b0, H⟩ := H
     replace H := gd H; obtain ⟨c6b0, H⟩ := H
     by_cases c7 : (rd l0 x5_1) = (rd l1 x5_1)
     ·rw [if_pos c7] at H
      have c7b0 : ((rd l0 x5_1) == (rd l1 x5_1)) = true := beq_iff_eq.mpr c7
      have c7b1 : ((rd l0 x5_1) != (rd l1 x5_1)) = false := bne_eq_false_iff_eq.mpr c7
      clear c7
      have H' := am H
      clear H
      obtain ⟨⟨ad344, e344, hx344_0⟩, p344, q344⟩ := pq (Kd.at_int HR0.out x5_1)
      cases e344
      obtain ⟨⟨ad345, e345, hx345_0⟩, p345, q345⟩ := pq (Kd.at_int HR1.out x5_1)
      cases e345
      go_wp2
      repeat (go_quiet (fail); try go_wp2)
      go_roundg k1
      case measure => have := HK1.out; omega
      case rel => exact ⟨(wrap64 (x5_1 + 1)), rr, H', ⟨by have := HK1.out; omega⟩, dw⟩
     rw [if_neg c7] at H
     have c7b0 : ((rd l0 x5_1) == (rd l1 x5_1)) = false := beq_eq_false_iff_ne.mpr c7
     have c7b1 : ((rd l0 x5_1) != (rd l1 x5_1)) = true := bne_iff_ne.mpr c7
     obtain rfl := Option.some.inj H
     obtain ⟨⟨ad344, e344, hx344_0⟩, p344, q344⟩ := pq (Kd.at_int HR0.out x5_1)
     cases e344
     obtain ⟨⟨ad345, e345, hx345_0⟩, p345, q345⟩ := pq (Kd.at_int HR1.out x5_1)
     cases e345
     go_wp2
     repeat (go_quiet (fail); try go_wp2)
     go_ret
     exact ⟨rr, dw⟩
    obtain rfl := Option.some.inj H
    go_wp2
    repeat (go_quiet (fail); try go_wp2)
    go_ret
    exact ⟨rr, dw⟩
 rw [if_neg c3] at H
 have c3b0 : ((l0.length : Int) == (l1.length : Int)) = false := beq_eq_false_iff_ne.mpr c3
 have c3b1 : ((l0.length : Int) != (l1.length : Int)) = true := bne_iff_ne.mpr c3
 have c3b2 : (l0.length == l1.length) = false := by first | simpa using c3 | (simp at c3 ⊢; omega)
 obtain rfl := Option.some.inj H
 go_enter Tryd.func10, Tryd.ntmps10
 go_wp2
 repeat (go_quiet (fail); try go_wp2)
 go_ret
 exact ⟨rr, dw⟩


/-! ### laws_eqSemigroup: function 9 -/
def laws_eqSemigroup.f (k : Nat) (l0_0 : List Int) (l1_0 : List Int) : Option (Bool) := (laws_eqIntS.f k l0_0 l1_0).bind fun t348 => (if t348 = true then (some true) else (some false))
set_option maxHeartbeats 8000000 in
set_option maxRecDepth 100000 in
theorem laws_eqSemigroup.calls (k : Nat) (A0_0 : Option Addr) (c0_0 : Nat) (l0_0 : List Int) (A1_0 : Option Addr) (c1_0 : Nat) (l1_0 : List Int) (r : Bool) (w : World) (hr0_0 : Kd.C (Kd.int .i64) w A0_0 l0_0.length l0_0) (hc0_0 : l0_0.length ≤ c0_0) (hr1_0 : Kd.C (Kd.int .i64) w A1_0 l1_0.length l1_0) (hc1_0 : l1_0.length ≤ c1_0) (h : laws_eqSemigroup.f k l0_0 l1_0 = some r) :
  Calls Tryd.prog 9 #[.agg #[.slice A0_0 l0_0.length c0_0], .agg #[.slice A1_0 l1_0.length c1_0]] w fun e w' => e = .returned (.bool r) ∧ Below w.heap.size w w' := by
 have hu27 := Tryd.underlying27
 have HR0_0 := am hr0_0
 have HC0_0 := am hc0_0
 clear hr0_0 hc0_0
 have HR1_0 := am hr1_0
 have HC1_0 := am hc1_0
 clear hr1_0 hc1_0
 have HB := am (Below.refl w.heap.size w)
 have H : ((laws_eqIntS.f k l0_0 l1_0).bind fun t348 => (if t348 = true then (some true) else (some false))) = some r := h
 clear h
 replace H := ga H; obtain ⟨t348, A3, H⟩ := H
 replace H := gb H; obtain ⟨rfl, H⟩ | ⟨rfl, H⟩ := H
 ·obtain rfl := Option.some.inj H
  go_enter Tryd.func9, Tryd.ntmps9
  go_wp2_with (first | ((with_reducible refine gate_dst (N := 2) rfl ?_); refine bx 2 #[.slice A0_0 l0_0.length c0_0] 27 ?_; intro gb346 hg w5 hbox hb; have BK346 := am (hbox); have GW346 := am (gs hg : w.heap.size ≤ gb346); have GE346 := GW346; replace HB := am (below_step bw hb); clear hb hbox hg) | ((with_reducible refine gate_dst (N := 3) rfl ?_); refine bx 3 #[.slice A1_0 l1_0.length c1_0] 27 ?_; intro gb347 hg w6 hbox hb; have BK347 := am (hbox); have GW347 := am (gs hg : w.heap.size ≤ gb347); have GE347 := GW347; replace HB := am (below_step bw hb); have NB346_347 := nl hg BK346; have NB347_346 := ns NB346_347; replace BK346 := kb BK346 hb; clear hb hbox hg; have hnb7 := NB346_347.out; have hnc7 := NB347_346.out; have hcz8_0 := bc BK346 0 (.slice A0_0 l0_0.length c0_0); have hfz8_0 := blk_frozen BK346.out 0; have hcz9_0 := bc BK347 0 (.slice A1_0 l1_0.length c1_0); have hfz9_0 := blk_frozen BK347.out 0) | ((with_reducible refine gate_callee (f := 10) rfl ?_); refine goesL_ (some 9) rfl rfl Tryd.func10 (by kernel_rfl) rfl #[.slice A0_0 l0_0.length c0_0, .slice A1_0 l1_0.length c1_0] rfl (by (try simp only [List.map_toArray, List.map_cons, List.map_nil]); first | done | rfl | (simp only [List.length_drop, List.length_take]; rfl)) ?_; (with_reducible refine (laws_eqIntS.calls k _ _ l0_0 _ _ l1_0 true _ ?side1 ?side2 ?side3 ?side4 A3.out).mono ?_); (case side1 => exact co (Kd.C_below HR0_0.out HB.out)); (case side2 => exact HC0_0.out); (case side3 => exact co (Kd.C_below HR1_0.out HB.out)); (case side4 => exact HC1_0.out); rintro e w' ⟨rfl, ⟨nd, rfl⟩⟩; refine ⟨_, rfl, ?_⟩))
  go_ret
  exact ⟨re, bw⟩
 obtain rfl := Option.some.inj H
 go_enter Tryd.func9, Tryd.ntmps9
 go_wp2_with (first | ((with_reducible refine gate_dst (N := 2) rfl ?_); refine bx 2 #[.slice A0_0 l0_0.length c0_0] 27 ?_; intro gb346 hg w10 hbox hb; have BK346 := am (hbox); have GW346 := am (gs hg : w.heap.size ≤ gb346); have GE346 := GW346; replace HB := am (below_step bw hb); clear hb hbox hg) | ((with_reducible refine gate_dst (N := 3) rfl ?_); refine bx 3 #[.slice A1_0 l1_0.length c1_0] 27 ?_; intro gb347 hg w11 hbox hb; have BK347 := am (hbox); have GW347 := am (gs hg : w.heap.size ≤ gb347); have GE347 := GW347; replace HB := am (below_step bw hb); have NB346_347 := nl hg BK346; have NB347_346 := ns NB346_347; replace BK346 := kb BK346 hb; clear hb hbox hg; have hnb12 := NB346_347.out; have hnc12 := NB347_346.out; have hcz13_0 := bc BK346 0 (.slice A0_0 l0_0.length c0_0); have hfz13_0 := blk_frozen BK346.out 0; have hcz14_0 := bc BK347 0 (.slice A1_0 l1_0.length c1_0); have hfz14_0 := blk_frozen BK347.out 0) | ((with_reducible refine gate_callee (f := 10) rfl ?_); refine goesL_ (some 9) rfl rfl Tryd.func10 (by kernel_rfl) rfl #[.slice A0_0 l0_0.length c0_0, .slice A1_0 l1_0.length c1_0] rfl (by (try simp only [List.map_toArray, List.map_cons, List.map_nil]); first | done | rfl | (simp only [List.length_drop, List.length_take]; rfl)) ?_; (with_reducible refine (laws_eqIntS.calls k _ _ l0_0 _ _ l1_0 false _ ?side1 ?side2 ?side3 ?side4 A3.out).mono ?_); (case side1 => exact co (Kd.C_below HR0_0.out HB.out)); (case side2 => exact HC0_0.out); (case side3 => exact co (Kd.C_below HR1_0.out HB.out)); (case side4 => exact HC1_0.out); rintro e w' ⟨rfl, ⟨nd, rfl⟩⟩; refine ⟨_, rfl, ?_⟩))
 go_ret
 exact ⟨re, bw⟩


/-! ### laws_FnExactFactorText: function 3 -/
def laws_FnExactFactorText.f (k : Nat) (l0_0 : List Int) (l1 : List Int) : Option (Bool) := if (l1.length : Int) > 1048576 then (some true) else ((laws_szSemigroup.f l0_0 1048576).bind fun t350 => (if t350 < 0 then (some true) else ((laws_toSemigroup.f k l0_0).bind fun t351 => ((laws_toIntS.f k l1).bind fun t354 => ((spec_FactorText.f k t351 t354).bind fun t357 => ((laws_toSemigroup.f k l0_0).bind fun t358 => ((laws_toIntS.f k l1).bind fun t362 => ((impl_FactorText.f k t358 t362).bind fun t365 => (if t365.toList = t357.toList then ((laws_toSemigroup.f k l0_0).bind fun t366 => ((laws_eqSemigroup.f k t358 t366).bind fun t369 => (if t369 = true then ((laws_toIntS.f k l1).bind fun t370 => ((laws_eqIntS.f k t362 t370).bind fun t373 => (if t373 = true then (some true) else (some false)))) else (some false)))) else (some false))))))))))
set_option maxHeartbeats 8000000 in
set_option maxRecDepth 100000 in
theorem laws_FnExactFactorText.calls (k : Nat) (A0_0 : Option Addr) (c0_0 : Nat) (l0_0 : List Int) (A1 : Option Addr) (c1 : Nat) (l1 : List Int) (w : World) (hr0_0 : Kd.C (Kd.int .i64) w A0_0 l0_0.length l0_0) (hc0_0 : l0_0.length ≤ c0_0) (hr1 : Kd.C (Kd.int .i64) w A1 l1.length l1) (hc1 : l1.length ≤ c1) (h : laws_FnExactFactorText.f k l0_0 l1 = some true) (htab : Tab10 w) :
  Calls Tryd.prog 3 #[.agg #[.slice A0_0 l0_0.length c0_0], .slice A1 l1.length c1] w fun e w' => e = .returned (.bool true) ∧ Below w.heap.size w w' := by
 have hu24 := Tryd.underlying24
 have hu27 := Tryd.underlying27
 have HR0_0 := am hr0_0
 have HC0_0 := am hc0_0
 clear hr0_0 hc0_0
 have HR1 := am hr1
 have HC1 := am hc1
 clear hr1 hc1
 have HB := am (Below.refl w.heap.size w)
 have H : (if (l1.length : Int) > 1048576 then (some true) else ((laws_szSemigroup.f l0_0 1048576).bind fun t350 => (if t350 < 0 then (some true) else ((laws_toSemigroup.f k l0_0).bind fun t351 => ((laws_toIntS.f k l1).bind fun t354 => ((spec_FactorText.f k t351 t354).bind fun t357 => ((laws_toSemigroup.f k l0_0).bind fun t358 => ((laws_toIntS.f k l1).bind fun t362 => ((impl_FactorText.f k t358 t362).bind fun t365 => (if t365.toList = t357.toList then ((laws_toSemigroup.f k l0_0).bind fun t366 => ((laws_eqSemigroup.f k t358 t366).bind fun t369 => (if t369 = true then ((laws_toIntS.f k l1).bind fun t370 => ((laws_eqIntS.f k t362 t370).bind fun t373 => (if t373 = true then (some true) else (some false)))) else (some false)))) else (some false))))))))))) = some true := h
 clear h
 replace H := gj H; obtain ⟨c3, H⟩ | ⟨c3, H⟩ := H
 ·have c3b0 : decide (1048576 < (l1.length : Int)) = true := decide_eq_true c3
  have c3b1 : decide (1048576 < l1.length) = true := decide_eq_true (by omega)
  clear c3
  skip
  go_enter Tryd.func3, Tryd.ntmps3
  go_wp2_with (first | ((with_reducible refine gate_dst (N := 2) rfl ?_); refine bx 2 #[.slice A0_0 l0_0.length c0_0] 24 ?_; intro gb349 hg w4 hbox hb; have BK349 := am (hbox); have GW349 := am (gs hg : w.heap.size ≤ gb349); have GE349 := GW349; replace HB := am (below_step bw hb); clear hb hbox hg))
  go_ret
  exact ⟨re, bw⟩
 have c3b0 : decide (1048576 < (l1.length : Int)) = false := decide_eq_false c3
 have c3b1 : decide (1048576 < l1.length) = false := decide_eq_false (by omega)
 clear c3
 replace H := ga H; obtain ⟨t350, A5, H⟩ := H
 replace H := gi H; obtain ⟨c6b0, H⟩ | ⟨c6b0, H⟩ := H
 ·skip
  go_enter Tryd.func3, Tryd.ntmps3
  go_wp2_with (first | ((with_reducible refine gate_dst (N := 2) rfl ?_); refine bx 2 #[.slice A0_0 l0_0.length c0_0] 24 ?_; intro gb349 hg w7 hbox hb; have BK349 := am (hbox); have GW349 := am (gs hg : w.heap.size ≤ gb349); have GE349 := GW349; replace HB := am (below_step bw hb); clear hb hbox hg; have hcz8_0 := bc BK349 0 (.slice A0_0 l0_0.length c0_0); have hfz8_0 := blk_frozen BK349.out 0) | ((with_reducible refine gate_callee (f := 4) rfl ?_); refine goesL_ (some 15) rfl rfl Tryd.func4 (by kernel_rfl) rfl #[.agg #[.slice A0_0 l0_0.length c0_0], .int .i64 1048576] rfl (by (try simp only [List.map_toArray, List.map_cons, List.map_nil]); first | done | rfl | (simp only [List.length_drop, List.length_take]; rfl)) ?_; (with_reducible refine (laws_szSemigroup.calls _ _ l0_0 1048576 t350 _ ?side1 ?side2 A5.out).mono ?_); (case side1 => exact co (Kd.C_below HR0_0.out HB.out)); (case side2 => exact HC0_0.out); rintro e w9 ⟨rfl, hb⟩; refine ⟨_, rfl, ?_⟩; replace BK349 := kb BK349 hb; replace HB := am (below_step bw hb); clear hb))
  go_ret
  exact ⟨re, bw⟩
 replace H := ga H; obtain ⟨t351, A10, H⟩ := H
 replace H := ga H; obtain ⟨t354, A11, H⟩ := H
 replace H := ga H; obtain ⟨t357, A12, H⟩ := H
 replace H := ga H; obtain ⟨t358, A13, H⟩ := H
 replace H := ga H; obtain ⟨t362, A14, H⟩ := H
 replace H := ga H; obtain ⟨t365, A15, H⟩ := H
 by_cases c16 : t365.toList = t357.toList
 ·rw [if_pos c16] at H
  have c16b0 : (t365.toList == t357.toList) = true := beq_iff_eq.mpr c16
  have c16b1 : (t365.toList != t357.toList) = false := bne_eq_false_iff_eq.mpr c16
  clear c16
  replace H := ga H; obtain ⟨t366, A17, H⟩ := H
  replace H := ga H; obtain ⟨t369, A18, H⟩ := H
  replace H := gb H; obtain ⟨rfl, H⟩ | ⟨rfl, H⟩ := H
  ·replace H := ga H; obtain ⟨t370, A20, H⟩ := H
   replace H := ga H; obtain ⟨t373, A21, H⟩ := H
   by_cases c22 : t373 = true
   ·subst c22
    have H1 : (some true) = some true := rfl
    clear H
    have H := H1
    clear H1
    skip
    go_enter Tryd.func3, Tryd.ntmps3
    try go_wp2_with (first | ((with_reducible refine gate_dst (N := 2) rfl ?_); refine bx 2 #[.slice A0_0 l0_0.length c0_0] 24 ?_; intro gb349 hg w23 hbox hb; have BK349 := am (hbox); have GW349 := am (gs hg : w.heap.size ≤ gb349); have GE349 := GW349; replace HB := am (below_step bw hb); clear hb hbox hg; have hcz24_0 := bc BK349 0 (.slice A0_0 l0_0.length c0_0); have hfz24_0 := blk_frozen BK349.out 0) | ((with_reducible refine gate_callee (f := 4) rfl ?_); refine goesL_ (some 15) rfl rfl Tryd.func4 (by kernel_rfl) rfl #[.agg #[.slice A0_0 l0_0.length c0_0], .int .i64 1048576] rfl (by (try simp only [List.map_toArray, List.map_cons, List.map_nil]); first | done | rfl | (simp only [List.length_drop, List.length_take]; rfl)) ?_; (with_reducible refine (laws_szSemigroup.calls _ _ l0_0 1048576 t350 _ ?side1 ?side2 A5.out).mono ?_); (case side1 => exact co (Kd.C_below HR0_0.out HB.out)); (case side2 => exact HC0_0.out); rintro e w25 ⟨rfl, hb⟩; refine ⟨_, rfl, ?_⟩; replace BK349 := kb BK349 hb; replace HB := am (below_step bw hb); clear hb; have hcz26_0 := bc BK349 0 (.slice A0_0 l0_0.length c0_0); have hfz26_0 := blk_frozen BK349.out 0) | ((with_reducible refine gate_callee (f := 6) rfl ?_); refine goesL_ (some 19) rfl rfl Tryd.func6 (by kernel_rfl) rfl #[.agg #[.slice A0_0 l0_0.length c0_0]] rfl (by (try simp only [List.map_toArray, List.map_cons, List.map_nil]); first | done | rfl | (simp only [List.length_drop, List.length_take]; rfl)) ?_; (with_reducible refine (laws_toSemigroup.calls k _ _ l0_0 t351 _ ?side1 ?side2 A10.out).mono ?_); (case side1 => exact co (Kd.C_below HR0_0.out HB.out)); (case side2 => exact HC0_0.out); rintro e w27 ⟨v352, rfl, ho0, hb⟩; refine ⟨_, rfl, ?_⟩; have HO353 := am (Kd.R_lower ho0 (below_size bw)); replace BK349 := kb BK349 hb; replace HB := am (below_step bw hb); clear hb ho0) | ((with_reducible refine gate_callee (f := 7) rfl ?_); refine goesL_ (some 21) rfl rfl Tryd.func7 (by kernel_rfl) rfl #[.slice A1 l1.length c1] rfl (by (try simp only [List.map_toArray, List.map_cons, List.map_nil]); first | done | rfl | (simp only [List.length_drop, List.length_take]; rfl)) ?_; (with_reducible refine (laws_toIntS.calls k _ _ l1 t354 _ ?side1 ?side2 A11.out).mono ?_); (case side1 => exact co (Kd.C_below HR1.out HB.out)); (case side2 => exact HC1.out); rintro e w28 ⟨v355, rfl, ho0, hb⟩; refine ⟨_, rfl, ?_⟩; have HO356 := am (Kd.R_lower (Kd.R_new' ho0 (Kd.R_lt (ro HO353.out))) (below_size bw)); replace HO353 := am (Kd.R_elder' (ro HO353.out) (Kd.R_base ho0) hb); replace BK349 := kb BK349 hb; replace HB := am (below_step bw hb); clear hb ho0; obtain ⟨Ao29, co29, eo29⟩ := Kd.R_slice HO353.out; subst eo29; obtain ⟨Ao30, co30, eo30⟩ := Kd.R_slice HO356.out; subst eo30) | ((with_reducible refine gate_callee (f := 5) rfl ?_); refine goesL_ (some 22) rfl rfl Tryd.func5 (by kernel_rfl) rfl #[.agg #[.slice Ao29 t351.length co29], .slice Ao30 t354.length co30] rfl (by (try simp only [List.map_toArray, List.map_cons, List.map_nil]); first | done | rfl | (simp only [List.length_drop, List.length_take]; rfl)) ?_; (with_reducible refine (spec_FactorText.calls k _ _ t351 _ _ t354 t357 _ ?side1 ?side2 ?side3 ?side4 A12.out).mono ?_); (case side1 => exact co (Kd.R_reads' HO353.out).2.2); (case side2 => exact (Kd.R_reads' HO353.out).2.1); (case side3 => exact co (Kd.R_reads' HO356.out).2.2); (case side4 => exact (Kd.R_reads' HO356.out).2.1); rintro e w31 ⟨rfl, hb⟩; refine ⟨_, rfl, ?_⟩; replace HO353 := rK HO353 hb; replace HO356 := rK HO356 hb; replace BK349 := kb BK349 hb; replace HB := am (below_step bw hb); clear hb; have hcz32_0 := bc BK349 0 (.slice A0_0 l0_0.length c0_0); have hfz32_0 := blk_frozen BK349.out 0) | ((with_reducible refine gate_callee (f := 6) rfl ?_); refine goesL_ (some 24) rfl rfl Tryd.func6 (by kernel_rfl) rfl #[.agg #[.slice A0_0 l0_0.length c0_0]] rfl (by (try simp only [List.map_toArray, List.map_cons, List.map_nil]); first | done | rfl | (simp only [List.length_drop, List.length_take]; rfl)) ?_; (with_reducible refine (laws_toSemigroup.calls k _ _ l0_0 t358 _ ?side1 ?side2 A13.out).mono ?_); (case side1 => exact co (Kd.C_below HR0_0.out HB.out)); (case side2 => exact HC0_0.out); rintro e w33 ⟨v359, rfl, ho0, hb⟩; refine ⟨_, rfl, ?_⟩; have HO360 := am (Kd.R_lower (Kd.R_new' (Kd.R_new' ho0 (Kd.R_lt (ro HO353.out))) (Kd.R_lt (ro HO356.out))) (below_size bw)); replace HO353 := am (Kd.R_elder' (ro HO353.out) (Kd.R_base ho0) hb); replace HO356 := am (Kd.R_elder' (ro HO356.out) (Kd.R_base ho0) hb); replace BK349 := kb BK349 hb; replace HB := am (below_step bw hb); clear hb ho0) | ((with_reducible refine gate_dst (N := 7) rfl ?_); refine bx 7 #[.slice none 0 0] 27 ?_; intro gb361 hg w34 hbox hb; replace HO353 := rK HO353 hb; replace HO356 := rK HO356 hb; replace HO360 := rK HO360 hb; have BK361 := am (hbox); have GW361 := am (gs hg : w.heap.size ≤ gb361); have GE361 := GW361; replace HB := am (below_step bw hb); have NB349_361 := nl hg BK349; have NB361_349 := ns NB349_361; replace BK349 := kb BK349 hb; clear hb hbox hg; obtain ⟨Ao35, co35, eo35⟩ := Kd.R_slice HO360.out; subst eo35; have hnb36 := NB361_349.out; have hnc36 := NB349_361.out; have hcz37_0 := bc BK361 0 (.slice none 0 0); have hfz37_0 := blk_frozen BK361.out 0) | ((with_reducible refine gate_callee (f := 7) rfl ?_); refine goesL_ (some 26) rfl rfl Tryd.func7 (by kernel_rfl) rfl #[.slice A1 l1.length c1] rfl (by (try simp only [List.map_toArray, List.map_cons, List.map_nil]); first | done | rfl | (simp only [List.length_drop, List.length_take]; rfl)) ?_; (with_reducible refine (laws_toIntS.calls k _ _ l1 t362 _ ?side1 ?side2 A14.out).mono ?_); (case side1 => exact Kd.C_below HR1.out bw); (case side2 => exact HC1.out); rintro e w38 ⟨v363, rfl, ho0, hb⟩; refine ⟨_, rfl, ?_⟩; have HO364 := am (Kd.R_lower (Kd.R_new' (Kd.R_new' (Kd.R_new' ho0 (Kd.R_lt (rF HO353 BK361 (.slice Ao35 t358.length co35)))) (Kd.R_lt (rF HO356 BK361 (.slice Ao35 t358.length co35)))) (Kd.R_lt (rF HO360 BK361 (.slice Ao35 t358.length co35)))) (below_size bw)); replace HO353 := am (Kd.R_elder' (rF HO353 BK361 (.slice Ao35 t358.length co35)) (Kd.R_base ho0) hb); replace HO356 := am (Kd.R_elder' (rF HO356 BK361 (.slice Ao35 t358.length co35)) (Kd.R_base ho0) hb); replace HO360 := am (Kd.R_elder' (rF HO360 BK361 (.slice Ao35 t358.length co35)) (Kd.R_base ho0) hb); replace BK349 := kb BK349 hb; replace BK361 := am (blk_below (g := gb361) (o := .cells #[.slice Ao35 t358.length co35] 27 (0, 0)) (bp BK361.out) hb); replace HB := am (below_step bw hb); clear hb ho0; have hcz39_0 := bc BK361 0 (.slice Ao35 t358.length co35); have hfz39_0 := blk_frozen BK361.out 0; obtain ⟨Ao40, co40, eo40⟩ := Kd.R_slice HO364.out; subst eo40) | ((with_reducible refine gate_callee (f := 8) rfl ?_); refine goesL_ (some 29) rfl rfl Tryd.func8 (by kernel_rfl) rfl #[.agg #[.slice Ao35 t358.length co35], .slice Ao40 t362.length co40] rfl (by (try simp only [List.map_toArray, List.map_cons, List.map_nil]); first | done | rfl | (simp only [List.length_drop, List.length_take]; rfl)) ?_; (with_reducible refine (impl_FactorText.calls k _ _ t358 _ _ t362 t365 _ ?side1 ?side2 ?side3 ?side4 A15.out (htab.below bw)).mono ?_); (case side1 => exact co (Kd.R_reads' HO360.out).2.2); (case side2 => exact (Kd.R_reads' HO360.out).2.1); (case side3 => exact co (Kd.R_reads' HO364.out).2.2); (case side4 => exact (Kd.R_reads' HO364.out).2.1); rintro e w41 ⟨rfl, hb⟩; refine ⟨_, rfl, ?_⟩; replace HO353 := rK HO353 hb; replace HO356 := rK HO356 hb; replace HO360 := rK HO360 hb; replace HO364 := rK HO364 hb; replace BK349 := kb BK349 hb; replace BK361 := kb BK361 hb; replace HB := am (below_step bw hb); clear hb))
    replace HO353 := am (Kd.R_drew HO353.out)
    replace HO356 := am (Kd.R_drew HO356.out)
    replace HO360 := am (Kd.R_drew HO360.out)
    replace HO364 := am (Kd.R_drew HO364.out)
    replace BK349 := bd BK349
    replace BK361 := bd BK361
    replace HB := am (below_drew1 HB.out)
    refine start_ (n := 5) (S := fun w' => w'.cell? ⟨gb361, 0, none⟩ = some (.slice Ao35 t358.length co35) ∧ w'.cell? ⟨gb349, 0, none⟩ = some (.slice A0_0 l0_0.length c0_0)) (ds := []) (yz 5 0) (by kernel_rfl) rfl rfl ⟨bc BK361 0 _, bc BK349 0 _⟩ (fun hHeld => ?_)
    generalize w41.drew = w42 at HO353 HO356 HO360 HO364 BK349 BK361 HB hHeld ⊢
    refine tq 0 (some 33) (yz 5 1) hHeld ?_
    refine tq 1 (some 34) (yz 5 3) hHeld ?_
    refine one_ (i := 2) (N := some 35) (yz 5 7) rfl rfl (by kernel_rfl) (by decide) (fun K hK => ?_)
    refine goes_ Tryd.func6 (by kernel_rfl) rfl #[.agg #[.slice A0_0 l0_0.length c0_0]] (by rfl) rfl rfl (by (try simp only [List.map_toArray, List.map_cons, List.map_nil]); first | done | rfl | (simp only [List.length_drop, List.length_take]; rfl)) ?_
    with_reducible refine (laws_toSemigroup.calls k _ _ l0_0 t366 _ ?side1 ?side2 A17.out).mono ?_
    (case side1 => exact co (Kd.C_below HR0_0.out HB.out))
    (case side2 => exact HC0_0.out)
    rintro e w43 ⟨v367, rfl, ho0, hb⟩
    refine ⟨_, rfl, ?_⟩
    have HO368 := am (Kd.R_lower (Kd.R_new' (Kd.R_new' (Kd.R_new' (Kd.R_new' ho0 (Kd.R_lt (ro HO353.out))) (Kd.R_lt (ro HO356.out))) (Kd.R_lt (ro HO360.out))) (Kd.R_lt (ro HO364.out))) (below_size bw))
    replace HO353 := am (Kd.R_elder' (ro HO353.out) (Kd.R_base ho0) hb)
    replace HO356 := am (Kd.R_elder' (ro HO356.out) (Kd.R_base ho0) hb)
    replace HO360 := am (Kd.R_elder' (ro HO360.out) (Kd.R_base ho0) hb)
    replace HO364 := am (Kd.R_elder' (ro HO364.out) (Kd.R_base ho0) hb)
    replace BK349 := kb BK349 hb
    replace BK361 := kb BK361 hb
    replace HB := am (below_step bw hb)
    clear hb ho0
    obtain ⟨Ao44, co44, eo44⟩ := Kd.R_slice HO368.out
    (first | subst eo44 | (injection eo44 with f1_ f2_ f3_; have f4_ := f1_.symm; have f5_ := f3_.symm; clear f1_ f2_ f3_; subst f4_; subst f5_))
    refine hK.out _ _ ⟨bc BK361 0 _, bc BK349 0 _⟩ (fun hHeld => ?_)
    clear hK K
    refine nm (some 35) ?_
    refine one_ (i := 3) (N := some 36) (yz 5 15) rfl rfl (by kernel_rfl) (by decide) (fun K hK => ?_)
    refine goes_ Tryd.func9 (by kernel_rfl) rfl #[.agg #[.slice Ao35 t358.length co35], .agg #[.slice Ao44 t366.length co44]] (by rfl) rfl rfl (by (try simp only [List.map_toArray, List.map_cons, List.map_nil]); first | done | rfl | (simp only [List.length_drop, List.length_take]; rfl)) ?_
    with_reducible refine (laws_eqSemigroup.calls k _ _ t358 _ _ t366 true _ ?side1 ?side2 ?side3 ?side4 A18.out).mono ?_
    (case side1 => exact co (Kd.R_reads' HO360.out).2.2)
    (case side2 => exact (Kd.R_reads' HO360.out).2.1)
    (case side3 => exact co (Kd.R_reads' HO368.out).2.2)
    (case side4 => exact (Kd.R_reads' HO368.out).2.1)
    rintro e w45 ⟨rfl, hb⟩
    refine ⟨_, rfl, ?_⟩
    replace HO353 := rK HO353 hb
    replace HO356 := rK HO356 hb
    replace HO360 := rK HO360 hb
    replace HO364 := rK HO364 hb
    replace HO368 := rK HO368 hb
    replace BK349 := kb BK349 hb
    replace BK361 := kb BK361 hb
    replace HB := am (below_step bw hb)
    clear hb
    refine hK.out _ _ ⟨bc BK361 0 _, bc BK349 0 _⟩ (fun hHeld => ?_)
    clear hK K
    refine nm (some 36) ?_
    refine pure_ (i := 4) (N := some 37) (v := ?_) (a' := ?_) (yz 5 31) rfl rfl (by kernel_rfl) (fun _ _ _ h => h) (Or.inl ⟨by rfl, ?_⟩) ?_ ?_
    rotate_left
    ·intro w'
     go_simp
     with_reducible rfl
    rotate_left
    ·simp only [Act.put, qa, qb, qc, i64_w, i32_w]
     rfl
    refine done_ (by kernel_rfl) ?_
    try go_wp2_with (first | ((with_reducible refine gate_callee (f := 7) rfl ?_); refine goesL_ (some 40) rfl rfl Tryd.func7 (by kernel_rfl) rfl #[.slice A1 l1.length c1] rfl (by (try simp only [List.map_toArray, List.map_cons, List.map_nil]); first | done | rfl | (simp only [List.length_drop, List.length_take]; rfl)) ?_; (with_reducible refine (laws_toIntS.calls k _ _ l1 t370 _ ?side1 ?side2 A20.out).mono ?_); (case side1 => exact co (Kd.C_below HR1.out HB.out)); (case side2 => exact HC1.out); rintro e w46 ⟨v371, rfl, ho0, hb⟩; refine ⟨_, rfl, ?_⟩; have HO372 := am (Kd.R_lower (Kd.R_new' (Kd.R_new' (Kd.R_new' (Kd.R_new' (Kd.R_new' ho0 (Kd.R_lt (ro HO353.out))) (Kd.R_lt (ro HO356.out))) (Kd.R_lt (ro HO360.out))) (Kd.R_lt (ro HO364.out))) (Kd.R_lt (ro HO368.out))) (below_size bw)); replace HO353 := am (Kd.R_elder' (ro HO353.out) (Kd.R_base ho0) hb); replace HO356 := am (Kd.R_elder' (ro HO356.out) (Kd.R_base ho0) hb); replace HO360 := am (Kd.R_elder' (ro HO360.out) (Kd.R_base ho0) hb); replace HO364 := am (Kd.R_elder' (ro HO364.out) (Kd.R_base ho0) hb); replace HO368 := am (Kd.R_elder' (ro HO368.out) (Kd.R_base ho0) hb); replace BK349 := kb BK349 hb; replace BK361 := kb BK361 hb; replace HB := am (below_step bw hb); clear hb ho0; obtain ⟨Ao47, co47, eo47⟩ := Kd.R_slice HO372.out; subst eo47) | ((with_reducible refine gate_callee (f := 10) rfl ?_); refine goesL_ (some 41) rfl rfl Tryd.func10 (by kernel_rfl) rfl #[.slice Ao40 t362.length co40, .slice Ao47 t370.length co47] rfl (by (try simp only [List.map_toArray, List.map_cons, List.map_nil]); first | done | rfl | (simp only [List.length_drop, List.length_take]; rfl)) ?_; (with_reducible refine (laws_eqIntS.calls k _ _ t362 _ _ t370 true _ ?side1 ?side2 ?side3 ?side4 A21.out).mono ?_); (case side1 => exact co (Kd.R_reads' HO364.out).2.2); (case side2 => exact (Kd.R_reads' HO364.out).2.1); (case side3 => exact co (Kd.R_reads' HO372.out).2.2); (case side4 => exact (Kd.R_reads' HO372.out).2.1); rintro e w' ⟨rfl, ⟨nd, rfl⟩⟩; refine ⟨_, rfl, ?_⟩))
    go_ret
    exact ⟨re, bw⟩
   replace c22 := Bool.eq_false_iff.mpr c22
   subst c22
   have H1 : (some false) = some true := by rw [if_neg (show ¬ (false = true) by decide)] at H; exact H
   clear H
   have H := H1
   clear H1
   exact absurd (Option.some.inj H) (by decide)
  exact absurd (Option.some.inj H) (by decide)
 rw [if_neg c16] at H
 have c16b0 : (t365.toList == t357.toList) = false := beq_eq_false_iff_ne.mpr c16
 have c16b1 : (t365.toList != t357.toList) = true := bne_iff_ne.mpr c16
 exact absurd (Option.some.inj H) (by decide)
end Go.Proofs.YtlfdipnhlmjiaaaDoor.C
