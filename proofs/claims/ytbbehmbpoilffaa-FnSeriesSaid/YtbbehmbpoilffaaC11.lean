/- Contracts of functions of the program: spec_EulerList, spec_Contains, spec_l9Mirror, spec_IsSymmetric. -/
import Derived.Test.YtbbehmbpoilffaaC0
import Derived.Test.YtbbehmbpoilffaaC3
import Derived.Test.YtbbehmbpoilffaaC9
import Derived.Test.YtbbehmbpoilffaaC10
namespace Go.Proofs.Ytbbehmbpoilffaa.C
open Go.RowKit Go.Proofs.YtbbehmbpoilffaaW.PrintWords Go.Proofs.YtbbehmbpoilffaaW.PrintLast Go.Proofs.YtbbehmbpoilffaaW.PrintMore
attribute [local go_sem] max2_int min2_int max_two min_two max_three min_three max_four min_four
set_option linter.unusedVariables false
set_option linter.unusedSimpArgs false

/-! ### spec_EulerList: function 25 -/
mutual
def spec_EulerList.l0 : Nat → Int → Int → List Int → Option (List Int)
 | 0, _, _, _ => none
 | k + 1, x3, x4, x714000 => if x4 < (x714000.length : Int) then (if 0 ≤ x4 then (spec_EulerList.l0 k (wrap64 (x3 + (rd x714000 x4))) (wrap64 (x4 + 1)) x714000) else (none)) else ((spec_NumeratorOf.f k x714000).bind fun t720 => ((spec_SeriesFrom.f k t720 x3).bind fun t723 => (spec_EulerList.l1 k x3 t723 0 x714000)))
def spec_EulerList.l1 : Nat → Int → List Int → Int → List Int → Option (List Int)
 | 0, _, _, _, _ => none
 | k + 1, x3, x5, x6, x714000 => if x6 < (x714000.length : Int) then (spec_EulerList.l2 k x3 x5 x6 (wrap64 (x3 - 1)) x714000) else (some x5)
def spec_EulerList.l2 : Nat → Int → List Int → Int → Int → List Int → Option (List Int)
 | 0, _, _, _, _, _ => none
 | k + 1, x3, x5, x6, x7, x714000 => if 0 ≤ x6 then (if x6 < (x714000.length : Int) then (if x7 ≥ (rd x714000 x6) then (if 0 ≤ x7 then (if x7 < (x5.length : Int) then (if 0 ≤ (wrap64 (x7 - (rd x714000 x6))) then (if (wrap64 (x7 - (rd x714000 x6))) < (x5.length : Int) then (spec_EulerList.l2 k x3 (x5.set (x7 : Int).toNat (wrap64 ((rd x5 x7) - (rd x5 (wrap64 (x7 - (rd x714000 x6))))))) x6 (wrap64 (x7 - 1)) x714000) else (none)) else (none)) else (none)) else (none)) else (spec_EulerList.l1 k x3 x5 (wrap64 (x6 + 1)) x714000)) else (none)) else (none)
end
def spec_EulerList.f (k : Nat) (l0_0 : List Int) : Option (List Int) := (spec_IsSemigroup.f k l0_0).bind fun t714 => (if t714 = true then ((spec_FrobeniusOf.f k l0_0).bind fun t718 => (spec_EulerList.l0 k (wrap64 (t718 + 1)) 0 l0_0)) else (some (([] : List Int))))
def spec_EulerList.T15 : Bool × List (List Nat × List Nat) := (true, [([], []), ([], []), ([], []), ([], []), ([2, 3], [2, 3]), ([4], [4]), ([], []), ([], []), ([], []), ([8], [8]), ([], []), ([9, 10], [9, 10]), ([11], [11]), ([7, 12], [7, 12]), ([6, 13], [6, 13]), ([14], [14]), ([5, 15], [5, 15]), ([0, 1, 0, 1, 2, 3, 4, 5, 6, 7, 8, 9, 10, 11, 12, 13, 14, 15, 16], [0, 1]), ([17, 16, 0, 1, 2, 3, 4, 5, 6, 7, 8, 9, 10, 11, 12, 13, 14, 15, 16], [16, 17])])
def spec_EulerList.B15 : List Nat := [0, 0, 0, 0, 12, 28, 0, 0, 0, 256, 0, 1792, 3840, 8064, 16320, 32704, 65532, 131071, 262143]
theorem spec_EulerList.tab15 : rtab .any (opsOf Try.f25 15) = spec_EulerList.T15 := by kernel_rfl
theorem spec_EulerList.bits15 : waitsOk spec_EulerList.T15.2 spec_EulerList.B15 = true := by kernel_rfl
set_option maxHeartbeats 8000000 in
set_option maxRecDepth 100000 in
theorem spec_EulerList.calls (k : Nat) (A0_0 : Option Addr) (c0_0 : Nat) (l0_0 : List Int) (r : List Int) (w : World) (hr0_0 : Kd.C (Kd.int .i64) w A0_0 l0_0.length l0_0) (hc0_0 : l0_0.length ≤ c0_0) (h : spec_EulerList.f k l0_0 = some r) :
  Calls Try.prog 25 #[.agg #[.slice A0_0 l0_0.length c0_0]] w fun e w' => ∃ v0_ : Value, e = .returned (v0_) ∧ Kd.R (Kd.int .i64) 3 w' w.heap.size (fun _ => True) v0_ r ∧ Below w.heap.size w w' := by
 have hu26 := Try.underlying26
 have HR0_0 := am hr0_0
 have HC0_0 := am hc0_0
 clear hr0_0 hc0_0
 have HB := am (Below.refl w.heap.size w)
 have H : ((spec_IsSemigroup.f k l0_0).bind fun t714 => (if t714 = true then ((spec_FrobeniusOf.f k l0_0).bind fun t718 => (spec_EulerList.l0 k (wrap64 (t718 + 1)) 0 l0_0)) else (some (([] : List Int))))) = some r := h
 clear h
 replace H := ga H; obtain ⟨t714, A2, H⟩ := H
 replace H := gb H; obtain ⟨rfl, H⟩ | ⟨rfl, H⟩ := H
 ·replace H := ga H; obtain ⟨t718, A4, H⟩ := H
  have H' := am H
  clear H
  go_enter Try.func25, Try.ntmps25
  go_wp2_with (first | ((with_reducible refine gate_dst (N := 1) rfl ?_); refine bx 1 #[.slice A0_0 l0_0.length c0_0] 26 ?_; intro gb713 hg w5 hbox hb; have BK713 := am (hbox); have GW713 := am (gs hg : w.heap.size ≤ gb713); have GE713 := GW713; replace HB := am (below_step bw hb); clear hb hbox hg; have hcz6_0 := bc BK713 0 (.slice A0_0 l0_0.length c0_0); have hfz6_0 := blk_frozen BK713.out 0) | ((with_reducible refine gate_callee (f := 26) rfl ?_); refine gl (some 9) Try.func26 #[.agg #[.slice A0_0 l0_0.length c0_0]] ?_; (with_reducible refine (spec_IsSemigroup.calls k _ _ l0_0 true _ ?side1 ?side2 A2.out).mono ?_); (case side1 => exact co (Kd.C_below HR0_0.out HB.out)); (case side2 => exact HC0_0.out); rintro e w7 ⟨rfl, hb⟩; refine ⟨_, rfl, ?_⟩; replace BK713 := kb BK713 hb; replace HB := am (below_step bw hb); clear hb; have hcz8_0 := bc BK713 0 (.slice A0_0 l0_0.length c0_0); have hfz8_0 := blk_frozen BK713.out 0) | ((with_reducible refine gate_callee (f := 84) rfl ?_); refine gl (some 13) Try.func84 #[.agg #[.slice A0_0 l0_0.length c0_0]] ?_; (with_reducible refine (spec_FrobeniusOf.calls k _ _ l0_0 t718 _ ?side1 ?side2 A4.out).mono ?_); (case side1 => exact co (Kd.C_below HR0_0.out HB.out)); (case side2 => exact HC0_0.out); rintro e w9 ⟨rfl, hb⟩; refine ⟨_, rfl, ?_⟩; replace BK713 := kb BK713 hb; replace HB := am (below_step bw hb); clear hb))
  go_loopg [3, 4] k (fun kq v3 v4 w' => ∃ (x3_1 : Int) (x4_1 : Int), v3 = .int .i64 x3_1 ∧ v4 = .int .i64 x4_1 ∧ Aside0 (spec_EulerList.l0 kq x3_1 x4_1 l0_0 = some r) ∧ Aside0 (kq ≤ k) ∧ Aside0 (w'.heap[gb713]? = some (.cells #[(.slice A0_0 l0_0.length c0_0)] 26 (0, 0))) ∧ Aside0 (Below w.heap.size w w'))
  case atStart => exact ⟨(wrap64 (t718 + 1)), (0), rr, rr, H', ⟨Nat.le_refl _⟩, ⟨bo BK713.out⟩, ⟨bw⟩⟩
  case round =>
   clear H'
   try clear hcz6_0; try clear hcz8_0; try clear hfz6_0; try clear hfz8_0
   obtain ⟨x3_1, x4_1, rfl, rfl, HA, HK1, BK713, HB⟩ := hrel
   cases gk with
   | zero => exact absurd HA.out (by simp [spec_EulerList.l0])
   | succ k1 =>
    have H := HA.out
    clear HA
    simp only [spec_EulerList.l0] at H
    replace H := gi H; obtain ⟨c10b0, H⟩ | ⟨c10b0, H⟩ := H
    ·replace H := gd H; obtain ⟨c11b0, H⟩ := H
     have H' := am H
     clear H
     have hcz12_0 := bc BK713 0 (.slice A0_0 l0_0.length c0_0)
     have hfz12_0 := blk_frozen BK713.out 0
     obtain ⟨⟨ad719, e719, hx719_0⟩, p719, q719⟩ := pq (Kd.at_int HR0_0.out x4_1)
     cases e719
     replace hx719_0 := hw HB hx719_0
     go_wp2
     go_roundg k1
     case measure => have := HK1.out; omega
     case rel => exact ⟨(wrap64 (x3_1 + (rd l0_0 x4_1))), (wrap64 (x4_1 + 1)), rr, rr, H', ⟨by have := HK1.out; omega⟩, ⟨bo BK713.out⟩, ⟨bw⟩⟩
    replace H := ga H; obtain ⟨t720, A13, H⟩ := H
    replace H := ga H; obtain ⟨t723, A14, H⟩ := H
    have H' := am H
    clear H
    have hcz15_0 := bc BK713 0 (.slice A0_0 l0_0.length c0_0)
    have hfz15_0 := blk_frozen BK713.out 0
    go_wp2_with (first | ((with_reducible refine gate_callee (f := 16) rfl ?_); refine gl (some 30) Try.func16 #[.agg #[.slice A0_0 l0_0.length c0_0]] ?_; (with_reducible refine (spec_NumeratorOf.calls k1 _ _ l0_0 t720 _ ?side1 ?side2 A13.out).mono ?_); (case side1 => exact co (Kd.C_below HR0_0.out HB.out)); (case side2 => exact HC0_0.out); rintro e w16 ⟨v721, rfl, ho0, hb⟩; refine ⟨_, rfl, ?_⟩; have HO722 := am (Kd.R_lower ho0 (below_size bw)); replace BK713 := kb BK713 hb; replace HB := am (below_step bw hb); clear hb ho0; obtain ⟨Ao17, co17, eo17⟩ := Kd.R_slice HO722.out; subst eo17) | ((with_reducible refine gate_callee (f := 18) rfl ?_); refine gl (some 32) Try.func18 #[.slice Ao17 t720.length co17, .int .i64 x3_1] ?_; (with_reducible refine (spec_SeriesFrom.calls k1 _ _ t720 x3_1 t723 _ ?side1 ?side2 A14.out).mono ?_); (case side1 => exact co (Kd.R_reads' HO722.out).2.2); (case side2 => exact (Kd.R_reads' HO722.out).2.1); rintro e w18 ⟨v724, rfl, ho0, hb⟩; refine ⟨_, rfl, ?_⟩; have HO725 := am (Kd.R_lower (Kd.R_new' ho0 (Kd.R_lt (ro HO722.out))) (below_size bw)); replace HO722 := am (Kd.R_elder' (ro HO722.out) (Kd.R_base ho0) hb); replace BK713 := kb BK713 hb; replace HB := am (below_step bw hb); clear hb ho0))
    go_loopg [6] k1 (fun kq v6 w' => ∃ (x5_2 : List Int) (x6_2 : Int), v6 = .int .i64 x6_2 ∧ Aside0 (spec_EulerList.l1 kq x3_1 x5_2 x6_2 l0_0 = some r) ∧ Aside0 (kq ≤ k1) ∧ Aside0 (Kd.R (Kd.int .i64) 3 w' w.heap.size (fun _ => True) v724 x5_2) ∧ Aside0 (w'.heap[gb713]? = some (.cells #[(.slice A0_0 l0_0.length c0_0)] 26 (0, 0))) ∧ Aside0 (Below w.heap.size w w'))
    case atStart => exact ⟨(t723), (0), rr, H', ⟨Nat.le_refl _⟩, ⟨by (with_reducible repeat (first | apply Kd.R_alloc | apply Kd.R_drewN | apply Kd.R_drew)); exact Kd.R_mono HO725.out (fun _ hk => trivial)⟩, ⟨bo BK713.out⟩, ⟨bw⟩⟩
    case round =>
     clear H'
     try clear c10b0; try clear c11b0; try clear hcz12_0; try clear hcz15_0; try clear hcz6_0; try clear hcz8_0; try clear hfz12_0; try clear hfz15_0; try clear hfz6_0; try clear hfz8_0; try clear hx719_0; try clear p719; try clear q719
     obtain ⟨x5_2, x6_2, rfl, HA, HK2, HO_5, BK713, HB⟩ := hrel
     cases gk with
     | zero => exact absurd HA.out (by simp [spec_EulerList.l1])
     | succ k2 =>
      have H := HA.out
      clear HA
      simp only [spec_EulerList.l1] at H
      replace H := gi H; obtain ⟨c19b0, H⟩ | ⟨c19b0, H⟩ := H
      ·have H' := am H
       clear H
       have hcz20_0 := bc BK713 0 (.slice A0_0 l0_0.length c0_0)
       have hfz20_0 := blk_frozen BK713.out 0
       go_wp2
       go_loopg [7] k2 (fun kq v7 w' => ∃ (x5_3 : List Int) (x7_3 : Int), v7 = .int .i64 x7_3 ∧ Aside0 (spec_EulerList.l2 kq x3_1 x5_3 x6_2 x7_3 l0_0 = some r) ∧ Aside0 (kq ≤ k2) ∧ Aside0 (Kd.R (Kd.int .i64) 3 w' w.heap.size (fun _ => True) v724 x5_3) ∧ Aside0 (w'.heap[gb713]? = some (.cells #[(.slice A0_0 l0_0.length c0_0)] 26 (0, 0))) ∧ Aside0 (Below w.heap.size w w'))
       case atStart => exact ⟨(x5_2), (wrap64 (x3_1 - 1)), rr, H', ⟨Nat.le_refl _⟩, ⟨ro HO_5.out⟩, ⟨bo BK713.out⟩, ⟨bw⟩⟩
       case round =>
        clear H'
        try clear c10b0; try clear c11b0; try clear c19b0; try clear hcz12_0; try clear hcz15_0; try clear hcz20_0; try clear hcz6_0; try clear hcz8_0; try clear hfz12_0; try clear hfz15_0; try clear hfz20_0; try clear hfz6_0; try clear hfz8_0; try clear hx719_0; try clear p719; try clear q719
        obtain ⟨x5_3, x7_3, rfl, HA, HK3, HO_5, BK713, HB⟩ := hrel
        cases gk with
        | zero => exact absurd HA.out (by simp [spec_EulerList.l2])
        | succ k3 =>
         have H := HA.out
         clear HA
         simp only [spec_EulerList.l2] at H
         replace H := gd H; obtain ⟨c21b0, H⟩ := H
         replace H := gd H; obtain ⟨c22b0, H⟩ := H
         replace H := gj H; obtain ⟨c23, H⟩ | ⟨c23, H⟩ := H
         ·have c23b0 : decide ((rd l0_0 x6_2) ≤ x7_3) = true := decide_eq_true c23
          clear c23
          replace H := gd H; obtain ⟨c24b0, H⟩ := H
          replace H := gd H; obtain ⟨c25b0, H⟩ := H
          obtain ⟨ji26, hji26⟩ : ∃ j_ : Int, (wrap64 (x7_3 - (rd l0_0 x6_2))) = j_ := ⟨_, rfl⟩
          replace H : (if 0 ≤ (ji26) then (if (ji26) < (x5_3.length : Int) then (spec_EulerList.l2 k3 x3_1 (x5_3.set (x7_3 : Int).toNat (wrap64 ((rd x5_3 x7_3) - (rd x5_3 (ji26))))) x6_2 (wrap64 (x7_3 - 1)) l0_0) else (none)) else (none)) = some r := by first | (rw [hji26] at H; exact H) | (simp only [hji26] at H ⊢; exact H)
          have hji26w : (IntKind.i64.wrap (x7_3 - (rd l0_0 x6_2))) = ji26 := (i64_w _).trans hji26
          replace H := gd H; obtain ⟨c27b0, H⟩ := H
          replace H := gd H; obtain ⟨c28b0, H⟩ := H
          obtain ⟨y730, hy730⟩ : ∃ y_ : List Int, y_ = (x5_3.set (x7_3 : Int).toNat (wrap64 ((rd x5_3 x7_3) - (rd x5_3 (ji26))))) := ⟨_, rfl⟩
          replace H : (spec_EulerList.l2 k3 x3_1 y730 x6_2 (wrap64 (x7_3 - 1)) l0_0) = some r := by first | (rw [hy730]; with_reducible first | exact H | exact bs H) | (with_reducible first | exact bs H | exact H) | (rw [hy730]; exact H) | exact H
          have Ny730 := am hy730
          clear hy730
          have H' := am H
          clear H
          have hcz30_0 := bc BK713 0 (.slice A0_0 l0_0.length c0_0)
          have hfz30_0 := blk_frozen BK713.out 0
          obtain ⟨⟨ad726, e726, hx726_0⟩, p726, q726⟩ := pq (Kd.at_int HR0_0.out x6_2)
          cases e726
          replace hx726_0 := hw HB hx726_0
          try go_wp2
          replace HO_5 := am (Kd.R_drew HO_5.out)
          replace BK713 := bd BK713
          replace HB := am (below_drew1 HB.out)
          obtain ⟨Ao32, co32, eo32⟩ := Kd.R_slice HO_5.out
          (first | subst eo32 | (injection eo32 with f1_ f2_ f3_; have f4_ := f1_.symm; have f5_ := f3_.symm; clear f1_ f2_ f3_; subst f4_; subst f5_))
          obtain ⟨⟨ad727, e727, hx727_0⟩, p727, q727⟩ := pq (Kd.at_int (Kd.R_reads' HO_5.out).2.2 x7_3)
          cases e727
          obtain ⟨⟨ad728, e728, hx728_0⟩, p728, q728⟩ := pq (Kd.at_int HR0_0.out x6_2)
          have hw728_0 := hx728_0
          obtain rfl : ad726 = ad728 := (by injection e728)
          replace hx728_0 := hw HB hx728_0
          obtain ⟨⟨ad729, e729, hx729_0⟩, p729, q729⟩ := pq (Kd.at_int (Kd.R_reads' HO_5.out).2.2 (ji26))
          obtain rfl : ad727 = ad729 := (by injection e729)
          have p29 : 0 ≤ (x7_3 : Int) := of_decide_eq_true (by first | (with_reducible assumption) | assumption)
          have q29 : (x7_3 : Int) < ((x5_3.length : Int) : Int) := of_decide_eq_true (by first | (with_reducible assumption) | assumption)
          obtain ⟨go29, co29, eo29, gb29, gl29, cl29, HG29⟩ := Kd.R_form HO_5.out (by omega)
          (first | cases eo29 | (injection eo29 with ea_ en_ ec_; (first | subst ea_ | (injection ea_ with ea_; subst ea_)); subst ec_; clear en_))
          have GB29 := am gb29
          have GG29 := am HG29
          clear gb29 gl29 HG29
          (first | simp only [add_plain] at hx727_0 | skip)
          (first | simp only [add_plain] at hx729_0 | skip)
          obtain ⟨hx29_0, hf29_0⟩ := Kd.R_celln 0 HO_5.out (x7_3 : Int) p29 q29
          replace p29 := eq_true p29
          replace q29 := eq_true q29
          have HP33 := Kd.R_putn HO_5.out (x7_3 : Int) (wrap64 ((rd x5_3 x7_3) - (rd x5_3 (ji26))))
          rw [← Ny730.out] at HP33
          have HQ33 := am HP33
          clear HP33
          refine start_ (n := 19) (S := fun w' => w'.cell? ⟨gb713, 0, none⟩ = some (.slice (some ad726) l0_0.length c0_0) ∧ w'.cell? ⟨go29, (x7_3).toNat, none⟩ = some (.int .i64 (rd x5_3 x7_3)) ∧ w'.cell? (ad726.add (x6_2).toNat) = some (.int .i64 (rd l0_0 x6_2)) ∧ w'.cell? ⟨go29, ((ji26)).toNat, none⟩ = some (.int .i64 (rd x5_3 (ji26)))) (ds := [18]) (yz 19 0) (by kernel_rfl) rfl rfl ⟨bc BK713 0 _, hx727_0, ((HB.out.cell (World.block_lt_of_cell? w _ hw728_0)).trans hw728_0), hx729_0⟩ (fun hHeld => ?_); refine with_tabW spec_EulerList.tab15 spec_EulerList.bits15 (fun HT_ HW_ => ?_)
          generalize wr.drew = w31 at HO_5 BK713 HB GG29 HQ33 hf29_0 hx29_0 hx727_0 hx728_0 hx729_0 hHeld ⊢
          refine pa 0 (some 51) (yz 19 1) HT_ ?_
          refine pa 1 (some 52) (yz 19 3) HT_ ?_
          refine pa 2 (some 53) (yz 19 7) HT_ ?_
          refine pa 3 (some 54) (yz 19 15) HT_ ?_
          refine pa 4 (some 55) (yz 19 31) HT_ ?_
          refine pa 6 (some 57) (yz 19 95) HT_ ?_
          refine pa 7 (some 58) (yz 19 223) HT_ ?_
          refine pa 8 (some 59) (yz 19 479) HT_ ?_
          refine pa 10 (some 61) (yz 19 1503) HT_ ?_
          refine tk 5 (some 56) (yz 19 1535) HT_ HW_ hHeld ?_
          refine tk 9 (some 60) (yz 19 2047) HT_ HW_ hHeld ?_
          refine pa 11 (some 62) (yz 19 4095) HT_ ?_
          refine tk 12 (some 63) (yz 19 8191) HT_ HW_ hHeld ?_
          refine pa 13 (some 64) (yz 19 16383) HT_ ?_
          refine pa 14 (some 65) (yz 19 32767) HT_ ?_
          refine tk 15 (some 66) (yz 19 65535) HT_ HW_ hHeld ?_
          refine pa 16 (some 67) (yz 19 131071) HT_ ?_
          refine pa 17 (some 68) (yz 19 262143) HT_ ?_
          refine last_ (i := 18) (N := none) (yz 19 524287) rfl rfl (one_of HT_.out (by kernel_rfl)) (by decide) (fun K hK => ?_)
          refine skip_ (w1 := ?_) (by rfl) rfl ?_ ?_
          rotate_left
          ·go_simp
           rfl
          refine hK.out _ _ ?_
          clear hK K
          refine done_ (done_of HT_.out (by kernel_rfl)) ?_
          try go_wp2
          go_roundg k3
          case measure => have := HK1.out; have := HK2.out; have := HK3.out; omega
          case rel => exact ⟨(y730), (wrap64 (x7_3 - 1)), rr, H', ⟨by have := HK1.out; have := HK2.out; have := HK3.out; omega⟩, ⟨ro HQ33.out⟩, ⟨by (with_reducible repeat (first | refine blk_drewN ?_ _ | refine blk_drew ?_ | refine blk_alloc ?_ _)); refine blk_far ?_ (by have h_ := Kd.R_ne HO_5.out BK713.out (by decide); intro e_; exact h_ (by rw [e_]; rfl)) _; (with_reducible repeat (first | refine blk_drewN ?_ _ | refine blk_drew ?_ | refine blk_alloc ?_ _)); exact BK713.out⟩, ⟨bw⟩⟩
         have c23b0 : decide ((rd l0_0 x6_2) ≤ x7_3) = false := decide_eq_false c23
         clear c23
         have H' := am H
         clear H
         have hcz34_0 := bc BK713 0 (.slice A0_0 l0_0.length c0_0)
         have hfz34_0 := blk_frozen BK713.out 0
         obtain ⟨⟨ad726, e726, hx726_0⟩, p726, q726⟩ := pq (Kd.at_int HR0_0.out x6_2)
         cases e726
         replace hx726_0 := hw HB hx726_0
         go_wp2
         go_roundg k3
         case measure => have := HK1.out; have := HK2.out; have := HK3.out; omega
         case rel => exact ⟨(x5_3), (wrap64 (x6_2 + 1)), rr, H', ⟨by have := HK1.out; have := HK2.out; have := HK3.out; omega⟩, ⟨ro HO_5.out⟩, ⟨bo BK713.out⟩, ⟨bw⟩⟩
      obtain rfl := Option.some.inj H
      have hcz35_0 := bc BK713 0 (.slice A0_0 l0_0.length c0_0)
      have hfz35_0 := blk_frozen BK713.out 0
      go_wp2
      go_ret
      exact ⟨_, re, ro HO_5.out, bw⟩
 obtain ⟨y715, hy715⟩ : ∃ y_ : List Int, y_ = (([] : List Int)) := ⟨_, rfl⟩
 replace H : (some y715) = some r := by first | (rw [hy715]; with_reducible first | exact H | exact bs H) | (with_reducible first | exact bs H | exact H) | (rw [hy715]; exact H) | exact H
 have Ny715 := am hy715
 clear hy715
 obtain rfl := Option.some.inj H
 go_enter Try.func25, Try.ntmps25
 go_wp2_with (first | ((with_reducible refine gate_dst (N := 1) rfl ?_); refine bx 1 #[.slice A0_0 l0_0.length c0_0] 26 ?_; intro gb713 hg w36 hbox hb; have BK713 := am (hbox); have GW713 := am (gs hg : w.heap.size ≤ gb713); have GE713 := GW713; replace HB := am (below_step bw hb); clear hb hbox hg; have hcz37_0 := bc BK713 0 (.slice A0_0 l0_0.length c0_0); have hfz37_0 := blk_frozen BK713.out 0) | ((with_reducible refine gate_callee (f := 26) rfl ?_); refine gl (some 9) Try.func26 #[.agg #[.slice A0_0 l0_0.length c0_0]] ?_; (with_reducible refine (spec_IsSemigroup.calls k _ _ l0_0 false _ ?side1 ?side2 A2.out).mono ?_); (case side1 => exact co (Kd.C_below HR0_0.out HB.out)); (case side2 => exact HC0_0.out); rintro e w38 ⟨rfl, hb⟩; refine ⟨_, rfl, ?_⟩; replace BK713 := kb BK713 hb; replace HB := am (below_step bw hb); clear hb) | ((with_reducible refine gate_dst (N := 11) rfl ?_); refine Kd.R_lit (Kd.int .i64) _ 3 ?hg (N := 11) ?hd (xs := ([] : List Int)) (inner := []) (ok := fun _ => True) (okp := fun _ => True) ?hr ?hp (fun _ hk => hk) trivial (Below.refl _ _) (Nat.le_refl _) (by simp) ?_; (case hd => rfl); (case hg => rfl); (case hr => first | (go_simp; done) | (go_simp; rfl)); (case hp => exact (Reps.none _ _)); intro v716 w39 ho40 hb hg_ hnew_; clear hg_ hnew_; (first | rw [← Ny715.out] at ho40 | (simp only [Int.reduceToNat] at ho40; rw [← Ny715.out] at ho40)); have HO717 := am (Kd.R_lower ho40 (below_size bw)); replace BK713 := kb BK713 hb; replace HB := am (below_step bw hb); clear hb ho40))
 go_ret
 exact ⟨_, re, ro HO717.out, bw⟩


/-! ### spec_Contains: function 27 -/
def spec_Contains.f (k : Nat) (l0_0 : List Int) (a1 : Int) : Option (Bool) := (spec_IsSemigroup.f k l0_0).bind fun t732 => (if t732 = true then ((spec_l3Has.f k l0_0 a1).bind fun t733 => (some t733)) else (some false))
set_option maxHeartbeats 8000000 in
set_option maxRecDepth 100000 in
theorem spec_Contains.calls (k : Nat) (A0_0 : Option Addr) (c0_0 : Nat) (l0_0 : List Int) (a1 : Int) (r : Bool) (w : World) (hr0_0 : Kd.C (Kd.int .i64) w A0_0 l0_0.length l0_0) (hc0_0 : l0_0.length ≤ c0_0) (h : spec_Contains.f k l0_0 a1 = some r) :
  Calls Try.prog 27 #[.agg #[.slice A0_0 l0_0.length c0_0], .int .i64 a1] w fun e w' => e = .returned (.bool r) ∧ Below w.heap.size w w' := by
 have hu26 := Try.underlying26
 have HR0_0 := am hr0_0
 have HC0_0 := am hc0_0
 clear hr0_0 hc0_0
 have HB := am (Below.refl w.heap.size w)
 have H : ((spec_IsSemigroup.f k l0_0).bind fun t732 => (if t732 = true then ((spec_l3Has.f k l0_0 a1).bind fun t733 => (some t733)) else (some false))) = some r := h
 clear h
 replace H := ga H; obtain ⟨t732, A3, H⟩ := H
 replace H := gb H; obtain ⟨rfl, H⟩ | ⟨rfl, H⟩ := H
 ·replace H := ga H; obtain ⟨t733, A5, H⟩ := H
  obtain rfl := Option.some.inj H
  go_enter Try.func27, Try.ntmps27
  go_wp2_with (first | ((with_reducible refine gate_dst (N := 2) rfl ?_); refine bx 2 #[.slice A0_0 l0_0.length c0_0] 26 ?_; intro gb731 hg w6 hbox hb; have BK731 := am (hbox); have GW731 := am (gs hg : w.heap.size ≤ gb731); have GE731 := GW731; replace HB := am (below_step bw hb); clear hb hbox hg; have hcz7_0 := bc BK731 0 (.slice A0_0 l0_0.length c0_0); have hfz7_0 := blk_frozen BK731.out 0) | ((with_reducible refine gate_callee (f := 26) rfl ?_); refine gl (some 6) Try.func26 #[.agg #[.slice A0_0 l0_0.length c0_0]] ?_; (with_reducible refine (spec_IsSemigroup.calls k _ _ l0_0 true _ ?side1 ?side2 A3.out).mono ?_); (case side1 => exact co (Kd.C_below HR0_0.out HB.out)); (case side2 => exact HC0_0.out); rintro e w8 ⟨rfl, hb⟩; refine ⟨_, rfl, ?_⟩; replace BK731 := kb BK731 hb; replace HB := am (below_step bw hb); clear hb; have hcz9_0 := bc BK731 0 (.slice A0_0 l0_0.length c0_0); have hfz9_0 := blk_frozen BK731.out 0) | (go_at_call 91; (with_reducible refine (spec_l3Has.calls k _ _ l0_0 a1 t733 _ ?side1 ?side2 A5.out).mono ?_); (case side1 => exact co (Kd.C_below HR0_0.out HB.out)); (case side2 => exact HC0_0.out); rintro e w10 ⟨rfl, hb⟩; replace BK731 := kb BK731 hb; replace HB := am (below_step bw hb); clear hb))
  go_ret
  exact ⟨re, bw⟩
 obtain rfl := Option.some.inj H
 go_enter Try.func27, Try.ntmps27
 go_wp2_with (first | ((with_reducible refine gate_dst (N := 2) rfl ?_); refine bx 2 #[.slice A0_0 l0_0.length c0_0] 26 ?_; intro gb731 hg w11 hbox hb; have BK731 := am (hbox); have GW731 := am (gs hg : w.heap.size ≤ gb731); have GE731 := GW731; replace HB := am (below_step bw hb); clear hb hbox hg; have hcz12_0 := bc BK731 0 (.slice A0_0 l0_0.length c0_0); have hfz12_0 := blk_frozen BK731.out 0) | ((with_reducible refine gate_callee (f := 26) rfl ?_); refine gl (some 6) Try.func26 #[.agg #[.slice A0_0 l0_0.length c0_0]] ?_; (with_reducible refine (spec_IsSemigroup.calls k _ _ l0_0 false _ ?side1 ?side2 A3.out).mono ?_); (case side1 => exact co (Kd.C_below HR0_0.out HB.out)); (case side2 => exact HC0_0.out); rintro e w13 ⟨rfl, hb⟩; refine ⟨_, rfl, ?_⟩; replace BK731 := kb BK731 hb; replace HB := am (below_step bw hb); clear hb))
 go_ret
 exact ⟨re, bw⟩


/-! ### spec_l9Mirror: function 92 -/
mutual
def spec_l9Mirror.l0 : Nat → Bool → Int → Int → List Int → Option (Bool)
 | 0, _, _, _, _ => none
 | k + 1, x1, x5, x6, x735000 => if x6 ≤ x5 then (if x1 = true then (spec_l9Mirror.j1 k x1 x5 x6 ((wrap64 (2 * x6)) == x5) x735000) else (spec_l9Mirror.j1 k x1 x5 x6 false x735000)) else (some true)
def spec_l9Mirror.j1 : Nat → Bool → Int → Int → Bool → List Int → Option (Bool)
 | 0, _, _, _, _, _ => none
 | k + 1, x1, x5, x6, x20, x735000 => if x20 = true then (spec_l9Mirror.l0 k x1 x5 (wrap64 (x6 + 1)) x735000) else ((spec_l3Has.f k x735000 x6).bind fun t736 => ((spec_l3Has.f k x735000 (wrap64 (x5 - x6))).bind fun t737 => (if (t736 == t737) = true then (some false) else (spec_l9Mirror.l0 k x1 x5 (wrap64 (x6 + 1)) x735000))))
end
def spec_l9Mirror.f (k : Nat) (l0_0 : List Int) (a1 : Bool) : Option (Bool) := (spec_FrobeniusOf.f k l0_0).bind fun t735 => (spec_l9Mirror.l0 k a1 t735 0 l0_0)
def spec_l9Mirror.T6 : Bool × List (List Nat × List Nat) := (true, [([], []), ([], []), ([0, 1], [0, 1]), ([], []), ([], []), ([], []), ([4, 5], [4, 5]), ([3, 6, 2], [3, 6]), ([2, 7], [2, 7])])
def spec_l9Mirror.B6 : List Nat := [0, 0, 3, 0, 0, 0, 48, 127, 255]
theorem spec_l9Mirror.tab6 : rtab .any (opsOf Try.f92 6) = spec_l9Mirror.T6 := by kernel_rfl
theorem spec_l9Mirror.bits6 : waitsOk spec_l9Mirror.T6.2 spec_l9Mirror.B6 = true := by kernel_rfl
set_option maxHeartbeats 8000000 in
set_option maxRecDepth 100000 in
theorem spec_l9Mirror.calls (k : Nat) (A0_0 : Option Addr) (c0_0 : Nat) (l0_0 : List Int) (a1 : Bool) (r : Bool) (w : World) (hr0_0 : Kd.C (Kd.int .i64) w A0_0 l0_0.length l0_0) (hc0_0 : l0_0.length ≤ c0_0) (h : spec_l9Mirror.f k l0_0 a1 = some r) :
  Calls Try.prog 92 #[.agg #[.slice A0_0 l0_0.length c0_0], .bool a1] w fun e w' => e = .returned (.bool r) ∧ Below w.heap.size w w' := by
 have hu26 := Try.underlying26
 have HR0_0 := am hr0_0
 have HC0_0 := am hc0_0
 clear hr0_0 hc0_0
 have HB := am (Below.refl w.heap.size w)
 have H : ((spec_FrobeniusOf.f k l0_0).bind fun t735 => (spec_l9Mirror.l0 k a1 t735 0 l0_0)) = some r := h
 clear h
 replace H := ga H; obtain ⟨t735, A3, H⟩ := H
 have H' := am H
 clear H
 go_enter Try.func92, Try.ntmps92
 go_wp2_with (first | ((with_reducible refine gate_dst (N := 2) rfl ?_); refine bx 2 #[.slice A0_0 l0_0.length c0_0] 26 ?_; intro gb734 hg w4 hbox hb; have BK734 := am (hbox); have GW734 := am (gs hg : w.heap.size ≤ gb734); have GE734 := GW734; replace HB := am (below_step bw hb); clear hb hbox hg; have hcz5_0 := bc BK734 0 (.slice A0_0 l0_0.length c0_0); have hfz5_0 := blk_frozen BK734.out 0) | ((with_reducible refine gate_callee (f := 84) rfl ?_); refine gl (some 8) Try.func84 #[.agg #[.slice A0_0 l0_0.length c0_0]] ?_; (with_reducible refine (spec_FrobeniusOf.calls k _ _ l0_0 t735 _ ?side1 ?side2 A3.out).mono ?_); (case side1 => exact co (Kd.C_below HR0_0.out HB.out)); (case side2 => exact HC0_0.out); rintro e w6 ⟨rfl, hb⟩; refine ⟨_, rfl, ?_⟩; replace BK734 := kb BK734 hb; replace HB := am (below_step bw hb); clear hb))
 go_loopg [6] k (fun kq v6 w' => ∃ (x6_1 : Int), v6 = .int .i64 x6_1 ∧ Aside0 (spec_l9Mirror.l0 kq a1 t735 x6_1 l0_0 = some r) ∧ Aside0 (kq ≤ k) ∧ Aside0 (w'.heap[gb734]? = some (.cells #[(.slice A0_0 l0_0.length c0_0)] 26 (0, 0))) ∧ Aside0 (Below w.heap.size w w'))
 case atStart => exact ⟨(0), rr, H', ⟨Nat.le_refl _⟩, ⟨bo BK734.out⟩, ⟨bw⟩⟩
 case round =>
  clear H'
  try clear hcz5_0; try clear hfz5_0
  obtain ⟨x6_1, rfl, HA, HK1, BK734, HB⟩ := hrel
  cases gk with
  | zero => exact absurd HA.out (by simp [spec_l9Mirror.l0])
  | succ k1 =>
   have H := HA.out
   clear HA
   simp only [spec_l9Mirror.l0] at H
   replace H := gi H; obtain ⟨c7b0, H⟩ | ⟨c7b0, H⟩ := H
   ·have HC8 := am H
    clear H
    go_upto_region 5 with (fail)
    go_cut [20] (fun v20 wc => ∃ (kq : Nat) (x20_7 : Bool), v20 = .bool x20_7 ∧ Aside0 (spec_l9Mirror.j1 kq a1 t735 x6_1 x20_7 l0_0 = some r) ∧ Aside0 (kq ≤ k1) ∧ Aside0 (wc.heap[gb734]? = some (.cells #[(.slice A0_0 l0_0.length c0_0)] 26 (0, 0))) ∧ Aside0 (Below w.heap.size w wc))
    case first =>
     have H := HC8.out
     clear HC8
     replace H := gb H; obtain ⟨rfl, H⟩ | ⟨rfl, H⟩ := H
     ·have H' := am H
      clear H
      go_wp2
      go_meet
      case rel => exact ⟨_, (((wrap64 (2 * x6_1)) == t735)), rr, H', ⟨by have := HK1.out; first | omega | exact Nat.le_refl _⟩, ⟨bo BK734.out⟩, ⟨bw⟩⟩
     have H' := am H
     clear H
     go_wp2
     go_meet
     case rel => exact ⟨_, (false), rr, H', ⟨by have := HK1.out; first | omega | exact Nat.le_refl _⟩, ⟨bo BK734.out⟩, ⟨bw⟩⟩
    case rest =>
     clear HC8
     try clear c7b0; try clear hcz5_0; try clear hfz5_0
     obtain ⟨kq, x20_7, rfl, HA, HJ7, BK734, HB⟩ := hcut
     cases kq with
     | zero => exact absurd HA.out (by simp [spec_l9Mirror.j1])
     | succ kj7 =>
      have H := HA.out
      clear HA
      simp only [spec_l9Mirror.j1] at H
      replace H := gb H; obtain ⟨rfl, H⟩ | ⟨rfl, H⟩ := H
      ·have H' := am H
       clear H
       go_wp2
       go_roundg kj7
       case measure => have := HK1.out; have := HJ7.out; omega
       case rel => exact ⟨(wrap64 (x6_1 + 1)), rr, H', ⟨by have := HK1.out; have := HJ7.out; omega⟩, ⟨bo BK734.out⟩, ⟨bw⟩⟩
      replace H := ga H; obtain ⟨t736, A11, H⟩ := H
      replace H := ga H; obtain ⟨t737, A12, H⟩ := H
      by_cases c13 : (t736 == t737) = true
      ·rw [if_pos c13] at H
       have c13b0 : (t736 == t737) = true := c13
       (try (have c13b1 : decide (t736 = t737) = true := by simpa using c13))
       (try (have c13b2 : (t736 == t737) = true := by simpa using c13))
       clear c13
       obtain rfl := Option.some.inj H
       try go_wp2
       replace BK734 := bd BK734
       replace HB := am (below_drew1 HB.out)
       refine start_ (n := 9) (S := fun w' => w'.cell? ⟨gb734, 0, none⟩ = some (.slice A0_0 l0_0.length c0_0)) (ds := []) (yz 9 0) (by kernel_rfl) rfl rfl (bc BK734 0 _) (fun hHeld => ?_); refine with_tabW spec_l9Mirror.tab6 spec_l9Mirror.bits6 (fun HT_ HW_ => ?_)
       generalize wc.drew = w14 at BK734 HB hHeld ⊢
       refine pa 1 (some 22) (yz 9 2) HT_ ?_
       refine pa 4 (some 25) (yz 9 18) HT_ ?_
       refine pa 5 (some 26) (yz 9 50) HT_ ?_
       refine pa 6 (some 27) (yz 9 114) HT_ ?_
       refine tK 0 (some 21) (yz 9 115) HT_ HW_ hHeld ?_
       refine tK 3 (some 24) (yz 9 123) HT_ HW_ hHeld ?_
       refine oa 2 (some 23) (yz 9 127) HT_ (fun K hK => ?_)
       refine gm Try.func91 #[.agg #[.slice A0_0 l0_0.length c0_0], .int .i64 x6_1] ?_
       with_reducible refine (spec_l3Has.calls kj7 _ _ l0_0 x6_1 t736 _ ?side1 ?side2 A11.out).mono ?_
       (case side1 => exact co (Kd.C_below HR0_0.out HB.out))
       (case side2 => exact HC0_0.out)
       rintro e w15 ⟨rfl, hb⟩
       refine ⟨_, rfl, ?_⟩
       replace BK734 := kb BK734 hb
       replace HB := am (below_step bw hb)
       clear hb
       refine hK.out _ _ (bc BK734 0 _) (fun hHeld => ?_)
       clear hK K
       refine nm (some 23) ?_
       refine oa 7 (some 28) (yz 9 255) HT_ (fun K hK => ?_)
       refine gm Try.func91 #[.agg #[.slice A0_0 l0_0.length c0_0], .int .i64 (wrap64 (t735 - x6_1))] ?_
       with_reducible refine (spec_l3Has.calls kj7 _ _ l0_0 (wrap64 (t735 - x6_1)) t737 _ ?side1 ?side2 A12.out).mono ?_
       (case side1 => exact co (Kd.C_below HR0_0.out HB.out))
       (case side2 => exact HC0_0.out)
       rintro e w16 ⟨rfl, hb⟩
       refine ⟨_, rfl, ?_⟩
       replace BK734 := kb BK734 hb
       replace HB := am (below_step bw hb)
       clear hb
       refine hK.out _ _ (bc BK734 0 _) (fun hHeld => ?_)
       clear hK K
       refine nm (some 28) ?_
       refine pa 8 (some 29) (yz 9 511) HT_ ?_
       refine done_ (done_of HT_.out (by kernel_rfl)) ?_
       try go_wp2
       go_ret
       exact ⟨re, bw⟩
      rw [if_neg c13] at H
      have c13b0 : (t736 == t737) = false := by simpa using c13
      (try (have c13b1 : decide (t736 = t737) = false := by simpa using c13))
      (try (have c13b2 : (t736 == t737) = false := by simpa using c13))
      (try (have c13b3 : ¬ (t736 = t737) := by simpa using c13))
      clear c13
      have H' := am H
      clear H
      try go_wp2
      replace BK734 := bd BK734
      replace HB := am (below_drew1 HB.out)
      refine start_ (n := 9) (S := fun w' => w'.cell? ⟨gb734, 0, none⟩ = some (.slice A0_0 l0_0.length c0_0)) (ds := []) (yz 9 0) (by kernel_rfl) rfl rfl (bc BK734 0 _) (fun hHeld => ?_); refine with_tabW spec_l9Mirror.tab6 spec_l9Mirror.bits6 (fun HT_ HW_ => ?_)
      generalize wc.drew = w17 at BK734 HB hHeld ⊢
      refine pa 1 (some 22) (yz 9 2) HT_ ?_
      refine pa 4 (some 25) (yz 9 18) HT_ ?_
      refine pa 5 (some 26) (yz 9 50) HT_ ?_
      refine pa 6 (some 27) (yz 9 114) HT_ ?_
      refine tK 0 (some 21) (yz 9 115) HT_ HW_ hHeld ?_
      refine tK 3 (some 24) (yz 9 123) HT_ HW_ hHeld ?_
      refine oa 2 (some 23) (yz 9 127) HT_ (fun K hK => ?_)
      refine gm Try.func91 #[.agg #[.slice A0_0 l0_0.length c0_0], .int .i64 x6_1] ?_
      with_reducible refine (spec_l3Has.calls kj7 _ _ l0_0 x6_1 t736 _ ?side1 ?side2 A11.out).mono ?_
      (case side1 => exact co (Kd.C_below HR0_0.out HB.out))
      (case side2 => exact HC0_0.out)
      rintro e w18 ⟨rfl, hb⟩
      refine ⟨_, rfl, ?_⟩
      replace BK734 := kb BK734 hb
      replace HB := am (below_step bw hb)
      clear hb
      refine hK.out _ _ (bc BK734 0 _) (fun hHeld => ?_)
      clear hK K
      refine nm (some 23) ?_
      refine oa 7 (some 28) (yz 9 255) HT_ (fun K hK => ?_)
      refine gm Try.func91 #[.agg #[.slice A0_0 l0_0.length c0_0], .int .i64 (wrap64 (t735 - x6_1))] ?_
      with_reducible refine (spec_l3Has.calls kj7 _ _ l0_0 (wrap64 (t735 - x6_1)) t737 _ ?side1 ?side2 A12.out).mono ?_
      (case side1 => exact co (Kd.C_below HR0_0.out HB.out))
      (case side2 => exact HC0_0.out)
      rintro e w19 ⟨rfl, hb⟩
      refine ⟨_, rfl, ?_⟩
      replace BK734 := kb BK734 hb
      replace HB := am (below_step bw hb)
      clear hb
      refine hK.out _ _ (bc BK734 0 _) (fun hHeld => ?_)
      clear hK K
      refine nm (some 28) ?_
      refine pa 8 (some 29) (yz 9 511) HT_ ?_
      refine done_ (done_of HT_.out (by kernel_rfl)) ?_
      try go_wp2
      go_roundg kj7
      case measure => have := HK1.out; have := HJ7.out; omega
      case rel => exact ⟨(wrap64 (x6_1 + 1)), rr, H', ⟨by have := HK1.out; have := HJ7.out; omega⟩, ⟨bo BK734.out⟩, ⟨bw⟩⟩
   obtain rfl := Option.some.inj H
   go_wp2
   go_ret
   exact ⟨re, bw⟩


/-! ### spec_IsSymmetric: function 28 -/
def spec_IsSymmetric.f (k : Nat) (l0_0 : List Int) : Option (Bool) := (spec_IsSemigroup.f k l0_0).bind fun t739 => (if t739 = true then ((spec_l9Mirror.f k l0_0 false).bind fun t740 => (some t740)) else (some false))
set_option maxHeartbeats 8000000 in
set_option maxRecDepth 100000 in
theorem spec_IsSymmetric.calls (k : Nat) (A0_0 : Option Addr) (c0_0 : Nat) (l0_0 : List Int) (r : Bool) (w : World) (hr0_0 : Kd.C (Kd.int .i64) w A0_0 l0_0.length l0_0) (hc0_0 : l0_0.length ≤ c0_0) (h : spec_IsSymmetric.f k l0_0 = some r) :
  Calls Try.prog 28 #[.agg #[.slice A0_0 l0_0.length c0_0]] w fun e w' => e = .returned (.bool r) ∧ Below w.heap.size w w' := by
 have hu26 := Try.underlying26
 have HR0_0 := am hr0_0
 have HC0_0 := am hc0_0
 clear hr0_0 hc0_0
 have HB := am (Below.refl w.heap.size w)
 have H : ((spec_IsSemigroup.f k l0_0).bind fun t739 => (if t739 = true then ((spec_l9Mirror.f k l0_0 false).bind fun t740 => (some t740)) else (some false))) = some r := h
 clear h
 replace H := ga H; obtain ⟨t739, A2, H⟩ := H
 replace H := gb H; obtain ⟨rfl, H⟩ | ⟨rfl, H⟩ := H
 ·replace H := ga H; obtain ⟨t740, A4, H⟩ := H
  obtain rfl := Option.some.inj H
  go_enter Try.func28, Try.ntmps28
  go_wp2_with (first | ((with_reducible refine gate_dst (N := 1) rfl ?_); refine bx 1 #[.slice A0_0 l0_0.length c0_0] 26 ?_; intro gb738 hg w5 hbox hb; have BK738 := am (hbox); have GW738 := am (gs hg : w.heap.size ≤ gb738); have GE738 := GW738; replace HB := am (below_step bw hb); clear hb hbox hg; have hcz6_0 := bc BK738 0 (.slice A0_0 l0_0.length c0_0); have hfz6_0 := blk_frozen BK738.out 0) | ((with_reducible refine gate_callee (f := 26) rfl ?_); refine gl (some 4) Try.func26 #[.agg #[.slice A0_0 l0_0.length c0_0]] ?_; (with_reducible refine (spec_IsSemigroup.calls k _ _ l0_0 true _ ?side1 ?side2 A2.out).mono ?_); (case side1 => exact co (Kd.C_below HR0_0.out HB.out)); (case side2 => exact HC0_0.out); rintro e w7 ⟨rfl, hb⟩; refine ⟨_, rfl, ?_⟩; replace BK738 := kb BK738 hb; replace HB := am (below_step bw hb); clear hb; have hcz8_0 := bc BK738 0 (.slice A0_0 l0_0.length c0_0); have hfz8_0 := blk_frozen BK738.out 0) | (go_at_call 92; (with_reducible refine (spec_l9Mirror.calls k _ _ l0_0 false t740 _ ?side1 ?side2 A4.out).mono ?_); (case side1 => exact co (Kd.C_below HR0_0.out HB.out)); (case side2 => exact HC0_0.out); rintro e w9 ⟨rfl, hb⟩; replace BK738 := kb BK738 hb; replace HB := am (below_step bw hb); clear hb))
  go_ret
  exact ⟨re, bw⟩
 obtain rfl := Option.some.inj H
 go_enter Try.func28, Try.ntmps28
 go_wp2_with (first | ((with_reducible refine gate_dst (N := 1) rfl ?_); refine bx 1 #[.slice A0_0 l0_0.length c0_0] 26 ?_; intro gb738 hg w10 hbox hb; have BK738 := am (hbox); have GW738 := am (gs hg : w.heap.size ≤ gb738); have GE738 := GW738; replace HB := am (below_step bw hb); clear hb hbox hg; have hcz11_0 := bc BK738 0 (.slice A0_0 l0_0.length c0_0); have hfz11_0 := blk_frozen BK738.out 0) | ((with_reducible refine gate_callee (f := 26) rfl ?_); refine gl (some 4) Try.func26 #[.agg #[.slice A0_0 l0_0.length c0_0]] ?_; (with_reducible refine (spec_IsSemigroup.calls k _ _ l0_0 false _ ?side1 ?side2 A2.out).mono ?_); (case side1 => exact co (Kd.C_below HR0_0.out HB.out)); (case side2 => exact HC0_0.out); rintro e w12 ⟨rfl, hb⟩; refine ⟨_, rfl, ?_⟩; replace BK738 := kb BK738 hb; replace HB := am (below_step bw hb); clear hb))
 go_ret
 exact ⟨re, bw⟩

end Go.Proofs.Ytbbehmbpoilffaa.C
