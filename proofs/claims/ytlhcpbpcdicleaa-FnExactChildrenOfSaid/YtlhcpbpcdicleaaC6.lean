/- Contracts of functions of the program: spec_ChildrenOf, impl_within, impl_allWithin, impl_IsAscending, impl_GcdOf, impl_GcdOfList, impl_leasts, impl_usable. -/
import Derived.Test.YtlhcpbpcdicleaaC0
import Derived.Test.YtlhcpbpcdicleaaC3
import Derived.Test.YtlhcpbpcdicleaaC5
namespace Go.Proofs.Ytlhcpbpcdicleaa.C
open Go.RowKit Go.Proofs.YtlhcpbpcdicleaaW.PrintWords Go.Proofs.YtlhcpbpcdicleaaW.PrintLast Go.Proofs.YtlhcpbpcdicleaaW.PrintMore
attribute [local go_sem] max2_int min2_int max_two min_two max_three min_three max_four min_four
set_option linter.unusedVariables false
set_option linter.unusedSimpArgs false

/-! ### spec_ChildrenOf: function 13 -/
def spec_ChildrenOf.l0 : Nat → List (S26) → Int → Int → List Int → Option ((List (S26)) × Bool)
 | 0, _, _, _, _ => none
 | k + 1, x4, x5, x6, x311000 => if x6 < (x311000.length : Int) then (if 0 ≤ x6 then (if (rd x311000 x6) ≤ x5 then (spec_ChildrenOf.l0 k x4 x5 (wrap64 (x6 + 1)) x311000) else ((spec_RemoveGenerator.f k x311000 (rd x311000 x6)).bind fun bt321 => (if bt321.2 = true then (if x4.length < 5864062014805 then (spec_ChildrenOf.l0 k (x4 ++ [(⟨bt321.1⟩ : S26)]) x5 (wrap64 (x6 + 1)) x311000) else (none)) else (some ((([] : List (S26))), false))))) else (none)) else (some (x4, true))
def spec_ChildrenOf.f (k : Nat) (l0_0 : List Int) : Option ((List (S26)) × Bool) := (spec_IsSemigroup.f k l0_0).bind fun t311 => (if t311 = true then ((spec_FrobeniusOf.f k l0_0).bind fun t318 => (spec_ChildrenOf.l0 k (([] : List (S26))) t318 0 l0_0)) else (some ((([] : List (S26))), false)))
def spec_ChildrenOf.T9 : Bool × List (List Nat × List Nat) := (true, [([], []), ([], []), ([1], [1]), ([], []), ([2, 3], [2, 3]), ([4], [4]), ([0, 5], [0, 5]), ([6], [6]), ([7], [7]), ([7], [7]), ([], []), ([10, 8, 6, 0, 1, 2, 3, 4, 5, 6, 7, 8, 10], [8, 10]), ([9, 11, 0, 1, 2, 3, 4, 5, 6, 7, 8, 9, 10, 11], [9])])
def spec_ChildrenOf.B9 : List Nat := [0, 0, 2, 0, 14, 30, 63, 127, 255, 255, 0, 1535, 4095]
theorem spec_ChildrenOf.tab9 : rtab .any (opsOf Try.f13 9) = spec_ChildrenOf.T9 := by kernel_rfl
theorem spec_ChildrenOf.bits9 : waitsOk spec_ChildrenOf.T9.2 spec_ChildrenOf.B9 = true := by kernel_rfl
set_option maxHeartbeats 8000000 in
set_option maxRecDepth 100000 in
theorem spec_ChildrenOf.calls (k : Nat) (A0_0 : Option Addr) (c0_0 : Nat) (l0_0 : List Int) (r1 : List (S26)) (r2 : Bool) (w : World) (hr0_0 : Kd.C (Kd.int .i64) w A0_0 l0_0.length l0_0) (hc0_0 : l0_0.length ≤ c0_0) (h : spec_ChildrenOf.f k l0_0 = some (r1, r2)) :
  Calls Try.prog 13 #[.agg #[.slice A0_0 l0_0.length c0_0]] w fun e w' => ∃ v0_ : Value, e = .returned (.tuple #[v0_, .bool r2]) ∧ Kd.S k26 26 w' w.heap.size (fun _ => True) v0_ r1 ∧ Below w.heap.size w w' := by
 have hu26 := Try.underlying26
 have HR0_0 := am hr0_0
 have HC0_0 := am hc0_0
 clear hr0_0 hc0_0
 have HB := am (Below.refl w.heap.size w)
 have H : ((spec_IsSemigroup.f k l0_0).bind fun t311 => (if t311 = true then ((spec_FrobeniusOf.f k l0_0).bind fun t318 => (spec_ChildrenOf.l0 k (([] : List (S26))) t318 0 l0_0)) else (some ((([] : List (S26))), false)))) = some (r1, r2) := h
 clear h
 replace H := ga H; obtain ⟨t311, A2, H⟩ := H
 replace H := gb H; obtain ⟨rfl, H⟩ | ⟨rfl, H⟩ := H
 ·obtain ⟨y315, hy315⟩ : ∃ y_ : List (S26), y_ = (([] : List (S26))) := ⟨_, rfl⟩
  replace H : ((spec_FrobeniusOf.f k l0_0).bind fun t318 => (spec_ChildrenOf.l0 k y315 t318 0 l0_0)) = some (r1, r2) := by first | (rw [hy315]; with_reducible first | exact H | exact bs H) | (with_reducible first | exact bs H | exact H) | (rw [hy315]; exact H) | exact H
  have Ny315 := am hy315
  clear hy315
  replace H := ga H; obtain ⟨t318, A4, H⟩ := H
  have H' := am H
  clear H
  go_enter Try.func13, Try.ntmps13
  go_wp2_with (first | ((with_reducible refine gate_dst (N := 1) rfl ?_); refine bx 1 #[.slice A0_0 l0_0.length c0_0] 26 ?_; intro gb310 hg w5 hbox hb; have BK310 := am (hbox); have GW310 := am (gs hg : w.heap.size ≤ gb310); have GE310 := GW310; replace HB := am (below_step bw hb); clear hb hbox hg; have hcz6_0 := bc BK310 0 (.slice A0_0 l0_0.length c0_0); have hfz6_0 := blk_frozen BK310.out 0) | ((with_reducible refine gate_callee (f := 21) rfl ?_); refine gl (some 10) Try.func21 #[.agg #[.slice A0_0 l0_0.length c0_0]] ?_; (with_reducible refine (spec_IsSemigroup.calls k _ _ l0_0 true _ ?side1 ?side2 A2.out).mono ?_); (case side1 => exact co (Kd.C_below HR0_0.out HB.out)); (case side2 => exact HC0_0.out); rintro e w7 ⟨rfl, hb⟩; refine ⟨_, rfl, ?_⟩; replace BK310 := kb BK310 hb; replace HB := am (below_step bw hb); clear hb) | ((with_reducible refine gate_dst (N := 13) rfl ?_); refine Kd.S_lit k26 _ 26 ?hg (N := 13) ?hd (xs := ([] : List (S26))) (inner := []) (ok := fun _ => True) (okp := fun _ => True) ?hr ?hp (fun _ hk => hk) trivial (Below.refl _ _) (Nat.le_refl _) (by simp) ?_; (case hd => rfl); (case hg => rfl); (case hr => first | (go_simp; done) | (go_simp; rfl)); (case hp => exact (Reps.none _ _)); intro v316 w8 ho9 hb hg_ hnew_; clear hg_ hnew_; (first | rw [← Ny315.out] at ho9 | (simp only [Int.reduceToNat] at ho9; rw [← Ny315.out] at ho9)); have HO317 := am (Kd.S_lower (Kd.S_newB ho9 (g := gb310) (o := .cells #[.slice A0_0 l0_0.length c0_0] 26 (0, 0)) (bo BK310.out)) (below_size bw)); replace BK310 := kb BK310 hb; replace HB := am (below_step bw hb); clear hb ho9; have hcz10_0 := bc BK310 0 (.slice A0_0 l0_0.length c0_0); have hfz10_0 := blk_frozen BK310.out 0) | ((with_reducible refine gate_callee (f := 35) rfl ?_); refine gl (some 15) Try.func35 #[.agg #[.slice A0_0 l0_0.length c0_0]] ?_; (with_reducible refine (spec_FrobeniusOf.calls k _ _ l0_0 t318 _ ?side1 ?side2 A4.out).mono ?_); (case side1 => exact co (Kd.C_below HR0_0.out HB.out)); (case side2 => exact HC0_0.out); rintro e w11 ⟨rfl, hb⟩; refine ⟨_, rfl, ?_⟩; replace HO317 := sK HO317 hb; replace BK310 := kb BK310 hb; replace HB := am (below_step bw hb); clear hb))
  go_loopg [4, 6] k (fun kq v4 v6 w' => ∃ (x4_1 : List (S26)) (x6_1 : Int), v6 = .int .i64 x6_1 ∧ Aside0 (spec_ChildrenOf.l0 kq x4_1 t318 x6_1 l0_0 = some (r1, r2)) ∧ Aside0 (kq ≤ k) ∧ Aside0 (Kd.S k26 26 w' w.heap.size (fun k_ => k_ ≠ gb310) v4 x4_1) ∧ Aside0 (w'.heap[gb310]? = some (.cells #[(.slice A0_0 l0_0.length c0_0)] 26 (0, 0))) ∧ Aside0 (Below w.heap.size w w'))
  case atStart => exact ⟨(y315), (0), rr, H', ⟨Nat.le_refl _⟩, ⟨by (with_reducible repeat (first | apply Kd.S_alloc | apply Kd.S_drewN | apply Kd.S_drew)); exact Kd.S_mono HO317.out (fun _ hk => hk.2)⟩, ⟨bo BK310.out⟩, ⟨bw⟩⟩
  case round =>
   clear H'
   try clear hcz10_0; try clear hcz6_0; try clear hfz10_0; try clear hfz6_0
   obtain ⟨x4_1, x6_1, rfl, HA, HK1, HO_4, BK310, HB⟩ := hrel
   cases gk with
   | zero => exact absurd HA.out (by simp [spec_ChildrenOf.l0])
   | succ k1 =>
    have H := HA.out
    clear HA
    simp only [spec_ChildrenOf.l0] at H
    replace H := gi H; obtain ⟨c12b0, H⟩ | ⟨c12b0, H⟩ := H
    ·replace H := gd H; obtain ⟨c13b0, H⟩ := H
     replace H := gi H; obtain ⟨c14b0, H⟩ | ⟨c14b0, H⟩ := H
     ·have H' := am H
      clear H
      have hcz15_0 := bc BK310 0 (.slice A0_0 l0_0.length c0_0)
      have hfz15_0 := blk_frozen BK310.out 0
      obtain ⟨⟨ad319, e319, hx319_0⟩, p319, q319⟩ := pq (Kd.at_int HR0_0.out x6_1)
      cases e319
      replace hx319_0 := hw HB hx319_0
      go_wp2
      go_roundg k1
      case measure => have := HK1.out; omega
      case rel => exact ⟨(x4_1), (wrap64 (x6_1 + 1)), rr, H', ⟨by have := HK1.out; omega⟩, ⟨so HO_4.out⟩, ⟨bo BK310.out⟩, ⟨bw⟩⟩
     replace H := ga H; obtain ⟨⟨t321, t324⟩, A16, H⟩ := H
     replace H : (if t324 = true then (if x4_1.length < 5864062014805 then (spec_ChildrenOf.l0 k1 (x4_1 ++ [(⟨t321⟩ : S26)]) t318 (wrap64 (x6_1 + 1)) l0_0) else (none)) else (some ((([] : List (S26))), false))) = some (r1, r2) := H
     replace H := gb H; obtain ⟨rfl, H⟩ | ⟨rfl, H⟩ := H
     ·by_cases c18 : x4_1.length < 5864062014805
      rotate_left
      ·rw [if_neg c18] at H
       exact absurd H (by simp)
      rw [if_pos c18] at H
      have LMc18 := am c18
      clear c18
      obtain ⟨y326, hy326⟩ : ∃ y_ : List (S26), y_ = (x4_1 ++ [(⟨t321⟩ : S26)]) := ⟨_, rfl⟩
      replace H : (spec_ChildrenOf.l0 k1 y326 t318 (wrap64 (x6_1 + 1)) l0_0) = some (r1, r2) := by first | (rw [hy326]; with_reducible first | exact H | exact bs H) | (with_reducible first | exact bs H | exact H) | (rw [hy326]; exact H) | exact H
      have Ny326 := am hy326
      clear hy326
      have H' := am H
      clear H
      have hcz19_0 := bc BK310 0 (.slice A0_0 l0_0.length c0_0)
      have hfz19_0 := blk_frozen BK310.out 0
      obtain ⟨⟨ad319, e319, hx319_0⟩, p319, q319⟩ := pq (Kd.at_int HR0_0.out x6_1)
      cases e319
      replace hx319_0 := hw HB hx319_0
      try go_wp2
      replace HO_4 := am (Kd.S_drew HO_4.out)
      replace BK310 := bd BK310
      replace HB := am (below_drew1 HB.out)
      obtain ⟨⟨ad320, e320, hx320_0⟩, p320, q320⟩ := pq (Kd.at_int HR0_0.out x6_1)
      have hw320_0 := hx320_0
      obtain rfl : ad319 = ad320 := (by injection e320)
      replace hx320_0 := hw HB hx320_0
      refine start_ (n := 13) (S := fun w' => w'.cell? ⟨gb310, 0, none⟩ = some (.slice (some ad319) l0_0.length c0_0) ∧ w'.cell? (ad319.add (x6_1).toNat) = some (.int .i64 (rd l0_0 x6_1))) (ds := []) (yz 13 0) (by kernel_rfl) rfl rfl ⟨bc BK310 0 _, ((HB.out.cell (World.block_lt_of_cell? w _ hw320_0)).trans hw320_0)⟩ (fun hHeld => ?_); refine with_tabW spec_ChildrenOf.tab9 spec_ChildrenOf.bits9 (fun HT_ HW_ => ?_)
      generalize wr.drew = w20 at HO_4 BK310 HB hx320_0 hHeld ⊢
      refine pa 1 (some 32) (yz 13 2) HT_ ?_
      refine pa 3 (some 34) (yz 13 10) HT_ ?_
      refine tk 0 (some 31) (yz 13 11) HT_ HW_ hHeld ?_
      refine tk 2 (some 33) (yz 13 15) HT_ HW_ hHeld ?_
      refine pa 4 (some 35) (yz 13 31) HT_ ?_
      refine tk 5 (some 36) (yz 13 63) HT_ HW_ hHeld ?_
      refine join_ (σ := Value × Nat) 2 (yz 13 2047) (fun s_ => [(37, .tuple #[.agg #[s_.1], .bool true]), (7, .pointer (some ⟨s_.2, 0, none⟩)), (30, .tuple #[.agg #[s_.1], .bool true]), (38, .agg #[s_.1]), (39, .bool true)]) (fun s_ w' => (w'.cell? ⟨gb310, 0, none⟩ = some (.slice (some ad319) l0_0.length c0_0) ∧ w'.cell? (ad319.add (x6_1).toNat) = some (.int .i64 (rd l0_0 x6_1))) ∧ (Kd.R (Kd.int .i64) 3 w' w.heap.size (fun _ => True) s_.1 t321) ∧ (Kd.S k26 26 w' w.heap.size (fun k_ => some k_ ≠ (s_.1 : Value).ownBlock ∧ k_ ≠ gb310 ∧ k_ ≠ s_.2) u4 x4_1) ∧ (w'.heap[gb310]? = some (.cells #[.slice (some ad319) l0_0.length c0_0] 26 (0, 0))) ∧ (w'.heap[s_.2]? = some (.cells #[.slice none 0 0] 26 (0, 0))) ∧ (w.heap.size ≤ s_.2) ∧ (w.heap.size ≤ s_.2) ∧ (gb310 ≠ s_.2) ∧ (s_.2 ≠ gb310) ∧ (Below w.heap.size w w')) ?_ ?_
      rotate_left
      ·intro hCont
       refine two_ (i := 6) (j := 10) (Ni := some 37) (Nj := some 7) (yz 13 127) (yz 13 1087) rfl rfl rfl rfl (two_of HT_.out (by kernel_rfl)) (by decide) (by decide) (fun K hK => ?_) (fun K hK => ?_)
       ·skip
        refine gm Try.func7 #[.agg #[.slice (some ad319) l0_0.length c0_0], .int .i64 (rd l0_0 x6_1)] ?_
        with_reducible refine (spec_RemoveGenerator.calls k1 _ _ l0_0 (rd l0_0 x6_1) t321 true _ ?side1 ?side2 A16.out).mono ?_
        (case side1 => exact co (Kd.C_below HR0_0.out HB.out))
        (case side2 => exact HC0_0.out)
        rintro e w21 ⟨v322, rfl, ho0, hb⟩
        refine ⟨_, rfl, ?_⟩
        replace HO_4 := am (Kd.S_elder' (so HO_4.out) (Kd.R_base ho0) hb)
        have HO323 := am (Kd.R_lower ho0 (below_size bw))
        replace BK310 := kb BK310 hb
        replace HB := am (below_step bw hb)
        clear hb ho0
        refine hK.out _ _ ⟨bc BK310 0 _, ((HB.out.cell (World.block_lt_of_cell? w _ hw320_0)).trans hw320_0)⟩ (fun hHeld => ?_)
        clear hK K
        refine nm (some 37) ?_
        refine pa 7 (some 30) (yz 13 255) HT_ ?_
        refine pa 8 (some 38) (yz 13 511) HT_ ?_
        refine pa 9 (some 39) (yz 13 1023) HT_ ?_
        refine oa 10 (some 7) (yz 13 2047) HT_ (fun K hK => ?_)
        refine box_step ?hg (N := 7) ?hd (cs := #[.slice none 0 0]) (t := 26) ?hr ?_; (case hd => rfl); (case hg => rfl); (case hr => first | (go_simp; done) | (go_simp; rfl))
        intro gb325 hg w22 hbox hb
        replace HO_4 := am (Kd.S_below (Kd.S_elderB (so HO_4.out) gb325 (Nat.le_of_eq hg.symm)) hb)
        replace HO323 := rK HO323 hb
        have BK325 := am (hbox)
        have GW325 := am (gs hg : w.heap.size ≤ gb325)
        have GE325 := am (gs hg : w.heap.size ≤ gb325)
        replace HB := am (below_step bw hb)
        have NB310_325 := nl hg BK310
        have NB325_310 := ng hg BK310
        replace BK310 := kb BK310 hb
        clear hb hbox hg
        refine hK.out _ _ ⟨bc BK310 0 _, ((HB.out.cell (World.block_lt_of_cell? w _ hw320_0)).trans hw320_0)⟩ (fun hHeld => ?_)
        clear hK K
        refine nm (some 7) ?_
        exact norm_ (by simp only [putAll, Act.put, List.setIfInBounds_toArray, List.set_cons_zero, List.set_cons_succ]) (hCont (v322, gb325) _ ⟨hHeld, (ro HO323.out), (by (with_reducible repeat (first | apply Kd.S_alloc | apply Kd.S_drewN | apply Kd.S_drew)); exact Kd.S_mono HO_4.out (fun _ hk => ⟨hk.1.2, ⟨hk.1.1, hk.2⟩⟩)), (bo BK310.out), (bo BK325.out), GW325.out, GE325.out, NB310_325.out, NB325_310.out, bw⟩)
       skip
       refine box_step ?hg (N := 7) ?hd (cs := #[.slice none 0 0]) (t := 26) ?hr ?_; (case hd => rfl); (case hg => rfl); (case hr => first | (go_simp; done) | (go_simp; rfl))
       intro gb325 hg w21 hbox hb
       replace HO_4 := am (Kd.S_below (Kd.S_elderB (so HO_4.out) gb325 (Nat.le_of_eq hg.symm)) hb)
       have BK325 := am (hbox)
       have GW325 := am (gs hg : w.heap.size ≤ gb325)
       have GE325 := am (gs hg : w.heap.size ≤ gb325)
       replace HB := am (below_step bw hb)
       have NB310_325 := nl hg BK310
       have NB325_310 := ng hg BK310
       replace BK310 := kb BK310 hb
       clear hb hbox hg
       refine hK.out _ _ ⟨bc BK310 0 _, ((HB.out.cell (World.block_lt_of_cell? w _ hw320_0)).trans hw320_0)⟩ (fun hHeld => ?_)
       clear hK K
       refine nm (some 7) ?_
       refine oa 6 (some 37) (yz 13 1151) HT_ (fun K hK => ?_)
       refine gm Try.func7 #[.agg #[.slice (some ad319) l0_0.length c0_0], .int .i64 (rd l0_0 x6_1)] ?_
       with_reducible refine (spec_RemoveGenerator.calls k1 _ _ l0_0 (rd l0_0 x6_1) t321 true _ ?side1 ?side2 A16.out).mono ?_
       (case side1 => exact co (Kd.C_below HR0_0.out HB.out))
       (case side2 => exact HC0_0.out)
       rintro e w22 ⟨v322, rfl, ho0, hb⟩
       refine ⟨_, rfl, ?_⟩
       replace HO_4 := am (Kd.S_elder' (so HO_4.out) (Kd.R_base ho0) hb)
       have HO323 := am (Kd.R_lower ho0 (below_size bw))
       replace BK310 := kb BK310 hb
       replace BK325 := kb BK325 hb
       replace HB := am (below_step bw hb)
       clear hb ho0
       refine hK.out _ _ ⟨bc BK310 0 _, ((HB.out.cell (World.block_lt_of_cell? w _ hw320_0)).trans hw320_0)⟩ (fun hHeld => ?_)
       clear hK K
       refine nm (some 37) ?_
       refine pa 7 (some 30) (yz 13 1279) HT_ ?_
       refine pa 8 (some 38) (yz 13 1535) HT_ ?_
       refine pa 9 (some 39) (yz 13 2047) HT_ ?_
       exact norm_ (by simp only [putAll, Act.put, List.setIfInBounds_toArray, List.set_cons_zero, List.set_cons_succ]) (hCont (v322, gb325) _ ⟨hHeld, (ro HO323.out), (by (with_reducible repeat (first | apply Kd.S_alloc | apply Kd.S_drewN | apply Kd.S_drew)); exact Kd.S_mono HO_4.out (fun _ hk => ⟨hk.2, ⟨hk.1.1, hk.1.2⟩⟩)), (bo BK310.out), (bo BK325.out), GW325.out, GE325.out, NB310_325.out, NB325_310.out, bw⟩)
      rintro ⟨v322, gb325⟩ w23 ⟨hS_, h0_, h1_, h2_, h3_, h4_, h5_, h6_, h7_, h8_⟩
      have n0_ : Aside0 (Kd.R (Kd.int .i64) 3 w23 w.heap.size (fun _ => True) v322 t321) := ⟨h0_⟩
      have n1_ : Aside0 (Kd.S k26 26 w23 w.heap.size (fun k_ => some k_ ≠ (v322 : Value).ownBlock ∧ k_ ≠ gb310 ∧ k_ ≠ gb325) u4 x4_1) := ⟨h1_⟩
      have n2_ : Aside0 (w23.heap[gb310]? = some (.cells #[.slice (some ad319) l0_0.length c0_0] 26 (0, 0))) := ⟨h2_⟩
      have n3_ : Aside0 (w23.heap[gb325]? = some (.cells #[.slice none 0 0] 26 (0, 0))) := ⟨h3_⟩
      have n4_ : Aside0 (w.heap.size ≤ gb325) := ⟨h4_⟩
      have n5_ : Aside0 (w.heap.size ≤ gb325) := ⟨h5_⟩
      have n6_ : Aside0 (gb310 ≠ gb325) := ⟨h6_⟩
      have n7_ : Aside0 (gb325 ≠ gb310) := ⟨h7_⟩
      have n8_ : Aside0 (Below w.heap.size w w23) := ⟨h8_⟩
      clear HO_4
      clear BK310
      clear HB
      clear h0_ h1_ h2_ h3_ h4_ h5_ h6_ h7_ h8_
      have HO323 := n0_
      have HO_4 := n1_
      have BK310 := n2_
      have BK325 := n3_
      have GW325 := n4_
      have GE325 := n5_
      have NB310_325 := n6_
      have NB325_310 := n7_
      have HB := n8_
      clear n0_ n1_ n2_ n3_ n4_ n5_ n6_ n7_ n8_
      have hHeld : w23.cell? ⟨gb310, 0, none⟩ = some (.slice (some ad319) l0_0.length c0_0) ∧ w23.cell? (ad319.add (x6_1).toNat) = some (.int .i64 (rd l0_0 x6_1)) := hS_
      obtain ⟨Ao24, co24, eo24⟩ := Kd.R_slice HO323.out
      (first | subst eo24 | (injection eo24 with f1_ f2_ f3_; have f4_ := f1_.symm; have f5_ := f3_.symm; clear f1_ f2_ f3_; subst f4_; subst f5_))
      refine norm_ (a' := ?_) ?_ ?_
      rotate_left
      ·simp only [putAll, Act.put, List.setIfInBounds_toArray, List.set_cons_zero, List.set_cons_succ]
       rfl
      refine oa 11 none (yz 13 4095) HT_ (fun K hK => ?_)
      have hs25 := bc BK325 0 (.slice none 0 0)
      have hfs25 := blk_frozen BK325.out 0
      have hns25_0 := NB310_325.out
      have hms25_0 := NB325_310.out
      refine skip_ (w1 := ?_) (by rfl) rfl ?_ ?_
      rotate_left
      ·go_simp
       rfl
      refine hK.out _ _ ⟨((cell_far (p := ⟨gb325, _, none⟩) NB310_325.out _).trans (hHeld.1)), ((cell_far (p := ⟨gb325, _, none⟩) (by first | exact Nat.ne_of_lt (Nat.lt_of_lt_of_le (by have := World.block_lt_of_cell? _ _ hw320_0; first | rwa [add_block] at this | exact this) GW325.out) | (rw [add_block]; exact Nat.ne_of_lt (Nat.lt_of_lt_of_le (by have := World.block_lt_of_cell? _ _ hw320_0; first | rwa [add_block] at this | exact this) GW325.out)) | (show (Addr.add _ _).block ≠ _; rw [add_block]; exact Nat.ne_of_lt (Nat.lt_of_lt_of_le (by have := World.block_lt_of_cell? _ _ hw320_0; first | rwa [add_block] at this | exact this) GW325.out)) | (dsimp only; exact Nat.ne_of_lt (Nat.lt_of_lt_of_le (by have := World.block_lt_of_cell? _ _ hw320_0; first | rwa [add_block] at this | exact this) GW325.out))) _).trans (hHeld.2))⟩ (fun hHeld => ?_)
      clear hK K
      refine pa 12 (some 8) (yz 13 8191) HT_ ?_
      refine done_ (done_of HT_.out (by kernel_rfl)) ?_
      have n0_ : Aside0 (Kd.S k26 26 (w23.setCell ⟨gb325, 0, none⟩ (.slice Ao24 t321.length co24)) w.heap.size (fun k_ => nb k_ Ao24 t321 co24 ∧ k_ ≠ gb310 ∧ k_ ≠ gb325) u4 x4_1) := ⟨by (with_reducible repeat (first | apply Kd.S_alloc | apply Kd.S_drewN | apply Kd.S_drew)); exact Kd.S_mono (Kd.S_far (p := ⟨gb325, 0, none⟩) (Kd.S_mono HO_4.out (fun k_ hk => (⟨hk, hk.2.2⟩ : _ ∧ k_ ≠ gb325))) (fun _ hk => hk.2) (.slice Ao24 t321.length co24)) (fun _ hk => ⟨hk.1.1, ⟨hk.1.2.1, hk.1.2.2⟩⟩)⟩
      have n1_ : Aside0 (Kd.R (Kd.int .i64) 3 (w23.setCell ⟨gb325, 0, none⟩ (.slice Ao24 t321.length co24)) w.heap.size (fun _ => True) (.slice Ao24 t321.length co24) t321) := ⟨by (with_reducible repeat (first | apply Kd.R_alloc | apply Kd.R_drewN | apply Kd.R_drew)); exact Kd.R_mono (Kd.R_far (p := ⟨gb325, 0, none⟩) (Kd.R_types HO323.out BK325.out (by decide)) (fun _ hk => hk.2) (.slice Ao24 t321.length co24)) (fun _ hk => trivial)⟩
      have n2_ : Aside0 ((w23.setCell ⟨gb325, 0, none⟩ (.slice Ao24 t321.length co24)).heap[gb310]? = some (.cells #[.slice (some ad319) l0_0.length c0_0] 26 (0, 0))) := ⟨bf BK310.out⟩
      have n3_ : Aside0 ((w23.setCell ⟨gb325, 0, none⟩ (.slice Ao24 t321.length co24)).heap[gb325]? = some (.cells #[.slice Ao24 t321.length co24] 26 (0, 0))) := ⟨by (with_reducible repeat (first | refine blk_drewN ?_ _ | refine blk_drew ?_ | refine blk_alloc ?_ _)); refine blk_put (cs := #[.slice none 0 0]) ?_ 0 _ rfl; (with_reducible repeat (first | refine blk_drewN ?_ _ | refine blk_drew ?_ | refine blk_alloc ?_ _)); exact BK325.out⟩
      have n4_ : Aside0 (Below w.heap.size w (w23.setCell ⟨gb325, 0, none⟩ (.slice Ao24 t321.length co24))) := ⟨bw⟩
      (try clear HO_4); (try clear HO323); (try clear BK310); (try clear BK325); (try clear HB)
      generalize (w23.setCell ⟨gb325, 0, none⟩ (.slice Ao24 t321.length co24)) = w26 at n0_ n1_ n2_ n3_ n4_ ⊢
      have HO_4 := n0_
      have HO323 := n1_
      have BK310 := n2_
      have BK325 := n3_
      have HB := n4_
      clear n0_ n1_ n2_ n3_ n4_
      have hnb27 := NB325_310.out
      have hnc27 := NB310_325.out
      have hcz28_0 := bc BK325 0 (.slice Ao24 t321.length co24)
      have hfz28_0 := blk_frozen BK325.out 0
      try go_wp2_with (first | ((with_reducible refine gate_builtin (b := .append) (xs := #[.tmp 43, .tmp 45]) rfl ?_); at_builtin; refine Kd.S_append k26 (w0 := w) w.heap.size rfl (.tmp 43) (.tmp 45) 33 26 (.agg #[(.slice none 0 0)]) 24 rfl Try.underlying33 info26 rfl (by decide) (by omega) u4 x4_1 (⟨t321⟩ : S26) [.slice Ao24 t321.length co24] (fun k_ => k_ ≠ gb310 ∧ k_ ≠ gb325) (fun k_ => some k_ = (.slice Ao24 t321.length co24 : Value).ownBlock) rfl rfl ?aP (fun k_ hk_ => ((Kd.R_mono (ok' := fun k_ => ((fun k_ => k_ ≠ gb310 ∧ k_ ≠ gb325)) k_ ∧ some k_ ≠ (u4 : Value).ownBlock) (Kd.R_types (Kd.R_types (Kd.R_apart' (HO323.out) (Kd.S_typed HO_4.out) (by decide)) BK310.out (by decide)) BK325.out (by decide)) (fun k_ hk => ⟨⟨hk.1.2, hk.2⟩, hk.1.1.2⟩))).1 k_ hk_.symm) ?aF ?aO ?aB ?aS ?aL ?_; (case aP => exact k26_mkM _ _ _ (⟨t321⟩ : S26) (Kd.R_mono (Kd.R_tight rfl (Kd.R_mono (ok' := fun k_ => ((fun k_ => k_ ≠ gb310 ∧ k_ ≠ gb325)) k_ ∧ some k_ ≠ (u4 : Value).ownBlock) (Kd.R_types (Kd.R_types (Kd.R_apart' (HO323.out) (Kd.S_typed HO_4.out) (by decide)) BK310.out (by decide)) BK325.out (by decide)) (fun k_ hk => ⟨⟨hk.1.2, hk.2⟩, hk.1.1.2⟩))) (fun _ h_ => h_))); (case aB => exact bw); (case aF => exact (fun k_ hk => ⟨Kd.freshB (g := gb310) (o := .cells #[.slice (some ad319) l0_0.length c0_0] 26 (0, 0)) (bo BK310.out) k_ hk, Kd.freshB (g := gb325) (o := .cells #[.slice Ao24 t321.length co24] 26 (0, 0)) (bo BK325.out) k_ hk⟩)); (case aO => exact (by (with_reducible repeat (first | apply Kd.S_alloc | apply Kd.S_drewN | apply Kd.S_drew)); exact Kd.S_mono HO_4.out (fun k_ hk => ⟨⟨hk.2.1, hk.2.2⟩, fun e_ => hk.1 e_⟩))); (case aS => exact (below_size bw)); (case aL => have := LMc18.out; omega); intro v327 w29 ho hb hg hat; rw [← Ny326.out] at ho; replace BK310 := am (blk_grown (g := gb310) (o := .cells #[.slice (some ad319) l0_0.length c0_0] 26 (0, 0)) (bo BK310.out) hg (Kd.S_away HO_4.out (fun _ hk => by first | exact hk.2.1 | simp_all))); replace BK325 := am (blk_grown (g := gb325) (o := .cells #[.slice Ao24 t321.length co24] 26 (0, 0)) (bo BK325.out) hg (Kd.S_away HO_4.out (fun _ hk => by first | exact hk.2.2 | simp_all))); replace HB := am (hb); have HO328 := am (ho); clear HO_4 HO323 ho hb hg hat))
      go_roundg k1
      case measure => have := HK1.out; omega
      case rel => exact ⟨(y326), (wrap64 (x6_1 + 1)), rr, H', ⟨by have := HK1.out; omega⟩, ⟨by (with_reducible repeat (first | apply Kd.S_alloc | apply Kd.S_drewN | apply Kd.S_drew)); exact Kd.S_mono HO328.out (fun _ hk => hk.1)⟩, ⟨bo BK310.out⟩, ⟨bw⟩⟩
     obtain ⟨y329, hy329⟩ : ∃ y_ : List (S26), y_ = (([] : List (S26))) := ⟨_, rfl⟩
     replace H : (some (y329, false)) = some (r1, r2) := by first | (rw [hy329]; with_reducible first | exact H | exact bs H) | (with_reducible first | exact bs H | exact H) | (rw [hy329]; exact H) | exact H
     have Ny329 := am hy329
     clear hy329
     simp only [Option.some.injEq, Prod.mk.injEq] at H
     obtain ⟨rfl, rfl⟩ := H
     have hcz30_0 := bc BK310 0 (.slice A0_0 l0_0.length c0_0)
     have hfz30_0 := blk_frozen BK310.out 0
     obtain ⟨⟨ad319, e319, hx319_0⟩, p319, q319⟩ := pq (Kd.at_int HR0_0.out x6_1)
     cases e319
     replace hx319_0 := hw HB hx319_0
     try go_wp2
     replace HO_4 := am (Kd.S_drew HO_4.out)
     replace BK310 := bd BK310
     replace HB := am (below_drew1 HB.out)
     obtain ⟨⟨ad320, e320, hx320_0⟩, p320, q320⟩ := pq (Kd.at_int HR0_0.out x6_1)
     have hw320_0 := hx320_0
     obtain rfl : ad319 = ad320 := (by injection e320)
     replace hx320_0 := hw HB hx320_0
     refine start_ (n := 13) (S := fun w' => w'.cell? ⟨gb310, 0, none⟩ = some (.slice (some ad319) l0_0.length c0_0) ∧ w'.cell? (ad319.add (x6_1).toNat) = some (.int .i64 (rd l0_0 x6_1))) (ds := []) (yz 13 0) (by kernel_rfl) rfl rfl ⟨bc BK310 0 _, ((HB.out.cell (World.block_lt_of_cell? w _ hw320_0)).trans hw320_0)⟩ (fun hHeld => ?_); refine with_tabW spec_ChildrenOf.tab9 spec_ChildrenOf.bits9 (fun HT_ HW_ => ?_)
     generalize wr.drew = w31 at HO_4 BK310 HB hx320_0 hHeld ⊢
     refine pa 1 (some 32) (yz 13 2) HT_ ?_
     refine pa 3 (some 34) (yz 13 10) HT_ ?_
     refine tk 0 (some 31) (yz 13 11) HT_ HW_ hHeld ?_
     refine tk 2 (some 33) (yz 13 15) HT_ HW_ hHeld ?_
     refine pa 4 (some 35) (yz 13 31) HT_ ?_
     refine tk 5 (some 36) (yz 13 63) HT_ HW_ hHeld ?_
     refine join_ (σ := Value × Nat) 2 (yz 13 2047) (fun s_ => [(37, .tuple #[.agg #[s_.1], .bool false]), (7, .pointer (some ⟨s_.2, 0, none⟩)), (30, .tuple #[.agg #[s_.1], .bool false]), (38, .agg #[s_.1]), (39, .bool false)]) (fun s_ w' => (w'.cell? ⟨gb310, 0, none⟩ = some (.slice (some ad319) l0_0.length c0_0) ∧ w'.cell? (ad319.add (x6_1).toNat) = some (.int .i64 (rd l0_0 x6_1))) ∧ (Kd.R (Kd.int .i64) 3 w' w.heap.size (fun _ => True) s_.1 t321) ∧ (Kd.S k26 26 w' w.heap.size (fun k_ => some k_ ≠ (s_.1 : Value).ownBlock ∧ k_ ≠ gb310 ∧ k_ ≠ s_.2) u4 x4_1) ∧ (w'.heap[gb310]? = some (.cells #[.slice (some ad319) l0_0.length c0_0] 26 (0, 0))) ∧ (w'.heap[s_.2]? = some (.cells #[.slice none 0 0] 26 (0, 0))) ∧ (w.heap.size ≤ s_.2) ∧ (w.heap.size ≤ s_.2) ∧ (gb310 ≠ s_.2) ∧ (s_.2 ≠ gb310) ∧ (Below w.heap.size w w')) ?_ ?_
     rotate_left
     ·intro hCont
      refine two_ (i := 6) (j := 10) (Ni := some 37) (Nj := some 7) (yz 13 127) (yz 13 1087) rfl rfl rfl rfl (two_of HT_.out (by kernel_rfl)) (by decide) (by decide) (fun K hK => ?_) (fun K hK => ?_)
      ·skip
       refine gm Try.func7 #[.agg #[.slice (some ad319) l0_0.length c0_0], .int .i64 (rd l0_0 x6_1)] ?_
       with_reducible refine (spec_RemoveGenerator.calls k1 _ _ l0_0 (rd l0_0 x6_1) t321 false _ ?side1 ?side2 A16.out).mono ?_
       (case side1 => exact co (Kd.C_below HR0_0.out HB.out))
       (case side2 => exact HC0_0.out)
       rintro e w32 ⟨v322, rfl, ho0, hb⟩
       refine ⟨_, rfl, ?_⟩
       replace HO_4 := am (Kd.S_elder' (so HO_4.out) (Kd.R_base ho0) hb)
       have HO323 := am (Kd.R_lower ho0 (below_size bw))
       replace BK310 := kb BK310 hb
       replace HB := am (below_step bw hb)
       clear hb ho0
       refine hK.out _ _ ⟨bc BK310 0 _, ((HB.out.cell (World.block_lt_of_cell? w _ hw320_0)).trans hw320_0)⟩ (fun hHeld => ?_)
       clear hK K
       refine nm (some 37) ?_
       refine pa 7 (some 30) (yz 13 255) HT_ ?_
       refine pa 8 (some 38) (yz 13 511) HT_ ?_
       refine pa 9 (some 39) (yz 13 1023) HT_ ?_
       refine oa 10 (some 7) (yz 13 2047) HT_ (fun K hK => ?_)
       refine box_step ?hg (N := 7) ?hd (cs := #[.slice none 0 0]) (t := 26) ?hr ?_; (case hd => rfl); (case hg => rfl); (case hr => first | (go_simp; done) | (go_simp; rfl))
       intro gb325 hg w33 hbox hb
       replace HO_4 := am (Kd.S_below (Kd.S_elderB (so HO_4.out) gb325 (Nat.le_of_eq hg.symm)) hb)
       replace HO323 := rK HO323 hb
       have BK325 := am (hbox)
       have GW325 := am (gs hg : w.heap.size ≤ gb325)
       have GE325 := am (gs hg : w.heap.size ≤ gb325)
       replace HB := am (below_step bw hb)
       have NB310_325 := nl hg BK310
       have NB325_310 := ng hg BK310
       replace BK310 := kb BK310 hb
       clear hb hbox hg
       refine hK.out _ _ ⟨bc BK310 0 _, ((HB.out.cell (World.block_lt_of_cell? w _ hw320_0)).trans hw320_0)⟩ (fun hHeld => ?_)
       clear hK K
       refine nm (some 7) ?_
       exact norm_ (by simp only [putAll, Act.put, List.setIfInBounds_toArray, List.set_cons_zero, List.set_cons_succ]) (hCont (v322, gb325) _ ⟨hHeld, (ro HO323.out), (by (with_reducible repeat (first | apply Kd.S_alloc | apply Kd.S_drewN | apply Kd.S_drew)); exact Kd.S_mono HO_4.out (fun _ hk => ⟨hk.1.2, ⟨hk.1.1, hk.2⟩⟩)), (bo BK310.out), (bo BK325.out), GW325.out, GE325.out, NB310_325.out, NB325_310.out, bw⟩)
      skip
      refine box_step ?hg (N := 7) ?hd (cs := #[.slice none 0 0]) (t := 26) ?hr ?_; (case hd => rfl); (case hg => rfl); (case hr => first | (go_simp; done) | (go_simp; rfl))
      intro gb325 hg w32 hbox hb
      replace HO_4 := am (Kd.S_below (Kd.S_elderB (so HO_4.out) gb325 (Nat.le_of_eq hg.symm)) hb)
      have BK325 := am (hbox)
      have GW325 := am (gs hg : w.heap.size ≤ gb325)
      have GE325 := am (gs hg : w.heap.size ≤ gb325)
      replace HB := am (below_step bw hb)
      have NB310_325 := nl hg BK310
      have NB325_310 := ng hg BK310
      replace BK310 := kb BK310 hb
      clear hb hbox hg
      refine hK.out _ _ ⟨bc BK310 0 _, ((HB.out.cell (World.block_lt_of_cell? w _ hw320_0)).trans hw320_0)⟩ (fun hHeld => ?_)
      clear hK K
      refine nm (some 7) ?_
      refine oa 6 (some 37) (yz 13 1151) HT_ (fun K hK => ?_)
      refine gm Try.func7 #[.agg #[.slice (some ad319) l0_0.length c0_0], .int .i64 (rd l0_0 x6_1)] ?_
      with_reducible refine (spec_RemoveGenerator.calls k1 _ _ l0_0 (rd l0_0 x6_1) t321 false _ ?side1 ?side2 A16.out).mono ?_
      (case side1 => exact co (Kd.C_below HR0_0.out HB.out))
      (case side2 => exact HC0_0.out)
      rintro e w33 ⟨v322, rfl, ho0, hb⟩
      refine ⟨_, rfl, ?_⟩
      replace HO_4 := am (Kd.S_elder' (so HO_4.out) (Kd.R_base ho0) hb)
      have HO323 := am (Kd.R_lower ho0 (below_size bw))
      replace BK310 := kb BK310 hb
      replace BK325 := kb BK325 hb
      replace HB := am (below_step bw hb)
      clear hb ho0
      refine hK.out _ _ ⟨bc BK310 0 _, ((HB.out.cell (World.block_lt_of_cell? w _ hw320_0)).trans hw320_0)⟩ (fun hHeld => ?_)
      clear hK K
      refine nm (some 37) ?_
      refine pa 7 (some 30) (yz 13 1279) HT_ ?_
      refine pa 8 (some 38) (yz 13 1535) HT_ ?_
      refine pa 9 (some 39) (yz 13 2047) HT_ ?_
      exact norm_ (by simp only [putAll, Act.put, List.setIfInBounds_toArray, List.set_cons_zero, List.set_cons_succ]) (hCont (v322, gb325) _ ⟨hHeld, (ro HO323.out), (by (with_reducible repeat (first | apply Kd.S_alloc | apply Kd.S_drewN | apply Kd.S_drew)); exact Kd.S_mono HO_4.out (fun _ hk => ⟨hk.2, ⟨hk.1.1, hk.1.2⟩⟩)), (bo BK310.out), (bo BK325.out), GW325.out, GE325.out, NB310_325.out, NB325_310.out, bw⟩)
     rintro ⟨v322, gb325⟩ w34 ⟨hS_, h0_, h1_, h2_, h3_, h4_, h5_, h6_, h7_, h8_⟩
     have n0_ : Aside0 (Kd.R (Kd.int .i64) 3 w34 w.heap.size (fun _ => True) v322 t321) := ⟨h0_⟩
     have n1_ : Aside0 (Kd.S k26 26 w34 w.heap.size (fun k_ => some k_ ≠ (v322 : Value).ownBlock ∧ k_ ≠ gb310 ∧ k_ ≠ gb325) u4 x4_1) := ⟨h1_⟩
     have n2_ : Aside0 (w34.heap[gb310]? = some (.cells #[.slice (some ad319) l0_0.length c0_0] 26 (0, 0))) := ⟨h2_⟩
     have n3_ : Aside0 (w34.heap[gb325]? = some (.cells #[.slice none 0 0] 26 (0, 0))) := ⟨h3_⟩
     have n4_ : Aside0 (w.heap.size ≤ gb325) := ⟨h4_⟩
     have n5_ : Aside0 (w.heap.size ≤ gb325) := ⟨h5_⟩
     have n6_ : Aside0 (gb310 ≠ gb325) := ⟨h6_⟩
     have n7_ : Aside0 (gb325 ≠ gb310) := ⟨h7_⟩
     have n8_ : Aside0 (Below w.heap.size w w34) := ⟨h8_⟩
     clear HO_4
     clear BK310
     clear HB
     clear h0_ h1_ h2_ h3_ h4_ h5_ h6_ h7_ h8_
     have HO323 := n0_
     have HO_4 := n1_
     have BK310 := n2_
     have BK325 := n3_
     have GW325 := n4_
     have GE325 := n5_
     have NB310_325 := n6_
     have NB325_310 := n7_
     have HB := n8_
     clear n0_ n1_ n2_ n3_ n4_ n5_ n6_ n7_ n8_
     have hHeld : w34.cell? ⟨gb310, 0, none⟩ = some (.slice (some ad319) l0_0.length c0_0) ∧ w34.cell? (ad319.add (x6_1).toNat) = some (.int .i64 (rd l0_0 x6_1)) := hS_
     obtain ⟨Ao35, co35, eo35⟩ := Kd.R_slice HO323.out
     (first | subst eo35 | (injection eo35 with f1_ f2_ f3_; have f4_ := f1_.symm; have f5_ := f3_.symm; clear f1_ f2_ f3_; subst f4_; subst f5_))
     refine norm_ (a' := ?_) ?_ ?_
     rotate_left
     ·simp only [putAll, Act.put, List.setIfInBounds_toArray, List.set_cons_zero, List.set_cons_succ]
      rfl
     refine oa 11 none (yz 13 4095) HT_ (fun K hK => ?_)
     have hs36 := bc BK325 0 (.slice none 0 0)
     have hfs36 := blk_frozen BK325.out 0
     have hns36_0 := NB310_325.out
     have hms36_0 := NB325_310.out
     refine skip_ (w1 := ?_) (by rfl) rfl ?_ ?_
     rotate_left
     ·go_simp
      rfl
     refine hK.out _ _ ⟨((cell_far (p := ⟨gb325, _, none⟩) NB310_325.out _).trans (hHeld.1)), ((cell_far (p := ⟨gb325, _, none⟩) (by first | exact Nat.ne_of_lt (Nat.lt_of_lt_of_le (by have := World.block_lt_of_cell? _ _ hw320_0; first | rwa [add_block] at this | exact this) GW325.out) | (rw [add_block]; exact Nat.ne_of_lt (Nat.lt_of_lt_of_le (by have := World.block_lt_of_cell? _ _ hw320_0; first | rwa [add_block] at this | exact this) GW325.out)) | (show (Addr.add _ _).block ≠ _; rw [add_block]; exact Nat.ne_of_lt (Nat.lt_of_lt_of_le (by have := World.block_lt_of_cell? _ _ hw320_0; first | rwa [add_block] at this | exact this) GW325.out)) | (dsimp only; exact Nat.ne_of_lt (Nat.lt_of_lt_of_le (by have := World.block_lt_of_cell? _ _ hw320_0; first | rwa [add_block] at this | exact this) GW325.out))) _).trans (hHeld.2))⟩ (fun hHeld => ?_)
     clear hK K
     refine pa 12 (some 8) (yz 13 8191) HT_ ?_
     refine done_ (done_of HT_.out (by kernel_rfl)) ?_
     try go_wp2_with (first | ((with_reducible refine gate_dst (N := 42) rfl ?_); refine Kd.S_lit k26 _ 26 ?hg (N := 42) ?hd (xs := ([] : List (S26))) (inner := []) (ok := fun _ => True) (okp := fun _ => True) ?hr ?hp (fun _ hk => hk) trivial (Below.refl _ _) (Nat.le_refl _) (by simp) ?_; (case hd => rfl); (case hg => rfl); (case hr => first | (go_simp; done) | (go_simp; rfl)); (case hp => exact (Reps.none _ _)); intro v330 w37 ho38 hb hg_ hnew_; clear hg_ hnew_; (first | rw [← Ny329.out] at ho38 | (simp only [Int.reduceToNat] at ho38; rw [← Ny329.out] at ho38)); have HO331 := am (Kd.S_lower (Kd.S_newB (Kd.S_newB (Kd.S_new' (Kd.S_new' ho38 (Kd.S_lt (by (with_reducible repeat (first | apply Kd.S_alloc | apply Kd.S_drewN | apply Kd.S_drew)); exact (Kd.S_mono (Kd.S_far (p := ⟨gb325, 0, none⟩) (Kd.S_mono HO_4.out (fun k_ hk => (⟨hk, hk.2.2⟩ : _ ∧ k_ ≠ gb325))) (fun _ hk => hk.2) (.slice Ao35 t321.length co35)) (fun _ h_ => h_.1))))) (Kd.R_lt (rF HO323 BK325 (.slice Ao35 t321.length co35)))) (g := gb310) (o := .cells #[.slice (some ad319) l0_0.length c0_0] 26 (0, 0)) (bf BK310.out)) (g := gb325) (o := .cells #[.slice Ao35 t321.length co35] 26 (0, 0)) (by (with_reducible repeat (first | refine blk_drewN ?_ _ | refine blk_drew ?_ | refine blk_alloc ?_ _)); refine blk_put (cs := #[.slice none 0 0]) ?_ 0 _ rfl; (with_reducible repeat (first | refine blk_drewN ?_ _ | refine blk_drew ?_ | refine blk_alloc ?_ _)); exact BK325.out)) (below_size bw)); replace HO_4 := am (Kd.S_elder' (by (with_reducible repeat (first | apply Kd.S_alloc | apply Kd.S_drewN | apply Kd.S_drew)); exact (Kd.S_mono (Kd.S_far (p := ⟨gb325, 0, none⟩) (Kd.S_mono HO_4.out (fun k_ hk => (⟨hk, hk.2.2⟩ : _ ∧ k_ ≠ gb325))) (fun _ hk => hk.2) (.slice Ao35 t321.length co35)) (fun _ h_ => h_.1))) (Kd.S_base ho38) hb); replace HO323 := am (Kd.R_below (rF HO323 BK325 (.slice Ao35 t321.length co35)) hb); replace BK310 := kb BK310 hb; replace BK325 := am (blk_below (g := gb325) (o := .cells #[.slice Ao35 t321.length co35] 26 (0, 0)) (by (with_reducible repeat (first | refine blk_drewN ?_ _ | refine blk_drew ?_ | refine blk_alloc ?_ _)); refine blk_put (cs := #[.slice none 0 0]) ?_ 0 _ rfl; (with_reducible repeat (first | refine blk_drewN ?_ _ | refine blk_drew ?_ | refine blk_alloc ?_ _)); exact BK325.out) hb); replace HB := am (below_step bw hb); clear hb ho38))
     go_ret2
     exact ⟨_, re, by (with_reducible repeat (first | apply Kd.S_alloc | apply Kd.S_drewN | apply Kd.S_drew)); exact Kd.S_mono HO331.out (fun _ hk => trivial), bw⟩
    simp only [Option.some.injEq, Prod.mk.injEq] at H
    obtain ⟨rfl, rfl⟩ := H
    have hcz39_0 := bc BK310 0 (.slice A0_0 l0_0.length c0_0)
    have hfz39_0 := blk_frozen BK310.out 0
    go_wp2
    go_ret2
    exact ⟨_, re, by (with_reducible repeat (first | apply Kd.S_alloc | apply Kd.S_drewN | apply Kd.S_drew)); exact Kd.S_mono HO_4.out (fun _ hk => trivial), bw⟩
 obtain ⟨y312, hy312⟩ : ∃ y_ : List (S26), y_ = (([] : List (S26))) := ⟨_, rfl⟩
 replace H : (some (y312, false)) = some (r1, r2) := by first | (rw [hy312]; with_reducible first | exact H | exact bs H) | (with_reducible first | exact bs H | exact H) | (rw [hy312]; exact H) | exact H
 have Ny312 := am hy312
 clear hy312
 simp only [Option.some.injEq, Prod.mk.injEq] at H
 obtain ⟨rfl, rfl⟩ := H
 go_enter Try.func13, Try.ntmps13
 go_wp2_with (first | ((with_reducible refine gate_dst (N := 1) rfl ?_); refine bx 1 #[.slice A0_0 l0_0.length c0_0] 26 ?_; intro gb310 hg w40 hbox hb; have BK310 := am (hbox); have GW310 := am (gs hg : w.heap.size ≤ gb310); have GE310 := GW310; replace HB := am (below_step bw hb); clear hb hbox hg; have hcz41_0 := bc BK310 0 (.slice A0_0 l0_0.length c0_0); have hfz41_0 := blk_frozen BK310.out 0) | ((with_reducible refine gate_callee (f := 21) rfl ?_); refine gl (some 10) Try.func21 #[.agg #[.slice A0_0 l0_0.length c0_0]] ?_; (with_reducible refine (spec_IsSemigroup.calls k _ _ l0_0 false _ ?side1 ?side2 A2.out).mono ?_); (case side1 => exact co (Kd.C_below HR0_0.out HB.out)); (case side2 => exact HC0_0.out); rintro e w42 ⟨rfl, hb⟩; refine ⟨_, rfl, ?_⟩; replace BK310 := kb BK310 hb; replace HB := am (below_step bw hb); clear hb) | ((with_reducible refine gate_dst (N := 12) rfl ?_); refine Kd.S_lit k26 _ 26 ?hg (N := 12) ?hd (xs := ([] : List (S26))) (inner := []) (ok := fun _ => True) (okp := fun _ => True) ?hr ?hp (fun _ hk => hk) trivial (Below.refl _ _) (Nat.le_refl _) (by simp) ?_; (case hd => rfl); (case hg => rfl); (case hr => first | (go_simp; done) | (go_simp; rfl)); (case hp => exact (Reps.none _ _)); intro v313 w43 ho44 hb hg_ hnew_; clear hg_ hnew_; (first | rw [← Ny312.out] at ho44 | (simp only [Int.reduceToNat] at ho44; rw [← Ny312.out] at ho44)); have HO314 := am (Kd.S_lower (Kd.S_newB ho44 (g := gb310) (o := .cells #[.slice A0_0 l0_0.length c0_0] 26 (0, 0)) (bo BK310.out)) (below_size bw)); replace BK310 := kb BK310 hb; replace HB := am (below_step bw hb); clear hb ho44))
 go_ret2
 exact ⟨_, re, by (with_reducible repeat (first | apply Kd.S_alloc | apply Kd.S_drewN | apply Kd.S_drew)); exact Kd.S_mono HO314.out (fun _ hk => trivial), bw⟩


/-! ### impl_within: function 54 -/
def impl_within.f (a0 : Int) (a1 : Int) (a2 : Int) : Option (Bool) := if a0 ≥ a1 then (some (decide (a0 ≤ a2))) else (some false)
set_option maxHeartbeats 8000000 in
set_option maxRecDepth 100000 in
theorem impl_within.calls (a0 : Int) (a1 : Int) (a2 : Int) (r : Bool) (w : World) (h : impl_within.f a0 a1 a2 = some r) :
  Calls Try.prog 54 #[.int .i64 a0, .int .i64 a1, .int .i64 a2] w fun e w' => e = .returned (.bool r) ∧ Drawn0 w w' := by
 have H : (if a0 ≥ a1 then (some (decide (a0 ≤ a2))) else (some false)) = some r := h
 clear h
 replace H := gj H; obtain ⟨c4, H⟩ | ⟨c4, H⟩ := H
 ·have c4b0 : decide (a1 ≤ a0) = true := decide_eq_true c4
  clear c4
  obtain rfl := Option.some.inj H
  go_enter Try.func54, Try.ntmps54
  go_wp2
  go_ret
  exact ⟨rr, dw⟩
 have c4b0 : decide (a1 ≤ a0) = false := decide_eq_false c4
 clear c4
 obtain rfl := Option.some.inj H
 go_enter Try.func54, Try.ntmps54
 go_wp2
 go_ret
 exact ⟨rr, dw⟩


/-! ### impl_allWithin: function 55 -/
def impl_allWithin.l0 : Nat → Int → Int → List Int → Int → Int → Option (Bool)
 | 0, _, _, _, _, _ => none
 | k + 1, x1, x2, x9, x10, x11 => if x11 < x10 then (if 0 ≤ x11 then (if x11 < (x9.length : Int) then ((impl_within.f (rd x9 x11) x1 x2).bind fun t333 => (if t333 = true then (impl_allWithin.l0 k x1 x2 x9 x10 (wrap64 (x11 + 1))) else (some false))) else (none)) else (none)) else (some true)
def impl_allWithin.f (k : Nat) (l0 : List Int) (a1 : Int) (a2 : Int) : Option (Bool) := impl_allWithin.l0 k a1 a2 l0 (l0.length : Int) 0
set_option maxHeartbeats 8000000 in
set_option maxRecDepth 100000 in
theorem impl_allWithin.calls (k : Nat) (A0 : Option Addr) (c0 : Nat) (l0 : List Int) (a1 : Int) (a2 : Int) (r : Bool) (w : World) (hr0 : Kd.C (Kd.int .i64) w A0 l0.length l0) (hc0 : l0.length ≤ c0) (h : impl_allWithin.f k l0 a1 a2 = some r) :
  Calls Try.prog 55 #[.slice A0 l0.length c0, .int .i64 a1, .int .i64 a2] w fun e w' => e = .returned (.bool r) ∧ Drawn0 w w' := by
 have HR0 := am hr0
 have HC0 := am hc0
 clear hr0 hc0
 have H : (impl_allWithin.l0 k a1 a2 l0 (l0.length : Int) 0) = some r := h
 clear h
 have H' := am H
 clear H
 go_enter Try.func55, Try.ntmps55
 go_wp2
 go_loopg [11] k (fun kq v11 w' => ∃ (x11_1 : Int), v11 = .int .i64 x11_1 ∧ Aside0 (impl_allWithin.l0 kq a1 a2 l0 (l0.length : Int) x11_1 = some r) ∧ Aside0 (kq ≤ k) ∧ Drawn0 w w')
 case atStart => exact ⟨(0), rr, H', ⟨Nat.le_refl _⟩, dw⟩
 case round =>
  clear H'
  obtain ⟨x11_1, rfl, HA, HK1, ⟨m1, rfl⟩⟩ := hrel
  cases gk with
  | zero => exact absurd HA.out (by simp [impl_allWithin.l0])
  | succ k1 =>
   have H := HA.out
   clear HA
   simp only [impl_allWithin.l0] at H
   replace H := gi H; obtain ⟨c4b0, H⟩ | ⟨c4b0, H⟩ := H
   ·replace H := gd H; obtain ⟨c5b0, H⟩ := H
    replace H := gd H; obtain ⟨c6b0, H⟩ := H
    replace H := ga H; obtain ⟨t333, A7, H⟩ := H
    replace H := gb H; obtain ⟨rfl, H⟩ | ⟨rfl, H⟩ := H
    ·have H' := am H
     clear H
     obtain ⟨⟨ad332, e332, hx332_0⟩, p332, q332⟩ := pq (Kd.at_int HR0.out x11_1)
     cases e332
     go_wp2_with (first | ((with_reducible refine gate_callee (f := 54) rfl ?_); refine gl (some 18) Try.func54 #[.int .i64 (rd l0 x11_1), .int .i64 a1, .int .i64 a2] ?_; (with_reducible refine (impl_within.calls (rd l0 x11_1) a1 a2 true _ A7.out).mono ?_); rintro e w' ⟨rfl, ⟨nd, rfl⟩⟩; refine ⟨_, rfl, ?_⟩))
     go_roundg k1
     case measure => have := HK1.out; omega
     case rel => exact ⟨(wrap64 (x11_1 + 1)), rr, H', ⟨by have := HK1.out; omega⟩, dw⟩
    obtain rfl := Option.some.inj H
    obtain ⟨⟨ad332, e332, hx332_0⟩, p332, q332⟩ := pq (Kd.at_int HR0.out x11_1)
    cases e332
    go_wp2_with (first | ((with_reducible refine gate_callee (f := 54) rfl ?_); refine gl (some 18) Try.func54 #[.int .i64 (rd l0 x11_1), .int .i64 a1, .int .i64 a2] ?_; (with_reducible refine (impl_within.calls (rd l0 x11_1) a1 a2 false _ A7.out).mono ?_); rintro e w' ⟨rfl, ⟨nd, rfl⟩⟩; refine ⟨_, rfl, ?_⟩))
    go_ret
    exact ⟨rr, dw⟩
   obtain rfl := Option.some.inj H
   go_wp2
   go_ret
   exact ⟨rr, dw⟩


/-! ### impl_IsAscending: function 56 -/
def impl_IsAscending.l0 : Nat → List Int → Int → Option (Bool)
 | 0, _, _ => none
 | k + 1, x0, x3 => if x3 < (x0.length : Int) then (if 0 ≤ x3 then (if 0 ≤ (wrap64 (x3 - 1)) then (if (wrap64 (x3 - 1)) < (x0.length : Int) then (if (rd x0 x3) ≤ (rd x0 (wrap64 (x3 - 1))) then (some false) else (impl_IsAscending.l0 k x0 (wrap64 (x3 + 1)))) else (none)) else (none)) else (none)) else (some true)
def impl_IsAscending.f (k : Nat) (l0 : List Int) : Option (Bool) := impl_IsAscending.l0 k l0 1
set_option maxHeartbeats 8000000 in
set_option maxRecDepth 100000 in
theorem impl_IsAscending.calls (k : Nat) (A0 : Option Addr) (c0 : Nat) (l0 : List Int) (r : Bool) (w : World) (hr0 : Kd.C (Kd.int .i64) w A0 l0.length l0) (hc0 : l0.length ≤ c0) (h : impl_IsAscending.f k l0 = some r) :
  Calls Try.prog 56 #[.slice A0 l0.length c0] w fun e w' => e = .returned (.bool r) ∧ Drawn0 w w' := by
 have HR0 := am hr0
 have HC0 := am hc0
 clear hr0 hc0
 have H : (impl_IsAscending.l0 k l0 1) = some r := h
 clear h
 have H' := am H
 clear H
 go_enter Try.func56, Try.ntmps56
 go_wp2
 repeat (go_quiet (fail); try go_wp2)
 go_loopg [3] k (fun kq v3 w' => ∃ (x3_1 : Int), v3 = .int .i64 x3_1 ∧ Aside0 (impl_IsAscending.l0 kq l0 x3_1 = some r) ∧ Aside0 (kq ≤ k) ∧ Drawn0 w w')
 case atStart => exact ⟨(1), rr, H', ⟨Nat.le_refl _⟩, dw⟩
 case round =>
  clear H'
  obtain ⟨x3_1, rfl, HA, HK1, ⟨m1, rfl⟩⟩ := hrel
  cases gk with
  | zero => exact absurd HA.out (by simp [impl_IsAscending.l0])
  | succ k1 =>
   have H := HA.out
   clear HA
   simp only [impl_IsAscending.l0] at H
   replace H := gi H; obtain ⟨c2b0, H⟩ | ⟨c2b0, H⟩ := H
   ·replace H := gd H; obtain ⟨c3b0, H⟩ := H
    obtain ⟨ji4, hji4⟩ : ∃ j_ : Int, (wrap64 (x3_1 - 1)) = j_ := ⟨_, rfl⟩
    replace H : (if 0 ≤ (ji4) then (if (ji4) < (l0.length : Int) then (if (rd l0 x3_1) ≤ (rd l0 (ji4)) then (some false) else (impl_IsAscending.l0 k1 l0 (wrap64 (x3_1 + 1)))) else (none)) else (none)) = some r := by first | (rw [hji4] at H; exact H) | (simp only [hji4] at H ⊢; exact H)
    have hji4w : (IntKind.i64.wrap (x3_1 - 1)) = ji4 := (i64_w _).trans hji4
    replace H := gd H; obtain ⟨c5b0, H⟩ := H
    replace H := gd H; obtain ⟨c6b0, H⟩ := H
    replace H := gi H; obtain ⟨c7b0, H⟩ | ⟨c7b0, H⟩ := H
    ·obtain rfl := Option.some.inj H
     obtain ⟨⟨ad334, e334, hx334_0⟩, p334, q334⟩ := pq (Kd.at_int HR0.out x3_1)
     cases e334
     obtain ⟨⟨ad335, e335, hx335_0⟩, p335, q335⟩ := pq (Kd.at_int HR0.out (ji4))
     obtain rfl : ad334 = ad335 := (by injection e335)
     go_wp2
     repeat (go_quiet (fail); try go_wp2)
     go_ret
     exact ⟨by first | rfl | (simp; done) | (simp only [← hji4] <;> (first | rfl | simp)) | (simp [*]; done), dw⟩
    have H' := am H
    clear H
    obtain ⟨⟨ad334, e334, hx334_0⟩, p334, q334⟩ := pq (Kd.at_int HR0.out x3_1)
    cases e334
    obtain ⟨⟨ad335, e335, hx335_0⟩, p335, q335⟩ := pq (Kd.at_int HR0.out (ji4))
    obtain rfl : ad334 = ad335 := (by injection e335)
    go_wp2
    repeat (go_quiet (fail); try go_wp2)
    go_roundg k1
    case measure => have := HK1.out; omega
    case rel => exact ⟨(wrap64 (x3_1 + 1)), rr, H', ⟨by have := HK1.out; omega⟩, dw⟩
   obtain rfl := Option.some.inj H
   go_wp2
   repeat (go_quiet (fail); try go_wp2)
   go_ret
   exact ⟨rr, dw⟩


/-! ### impl_GcdOf: function 77 -/
def impl_GcdOf.l0 : Nat → Int → Int → Option (Int)
 | 0, _, _ => none
 | k + 1, x0, x1 => if x0 = 0 then (some x1) else (impl_GcdOf.l0 k (Int.tmod x1 x0) x0)
def impl_GcdOf.f (k : Nat) (a0 : Int) (a1 : Int) : Option (Int) := (impl_allWithin.f k (([a0, a1] : List Int)) (-1000000) 1000000).bind fun t339 => (if t339 = true then (impl_GcdOf.l0 k (mx a0 (wrap64 (-a0))) (mx a1 (wrap64 (-a1)))) else (some 0))
set_option maxHeartbeats 8000000 in
set_option maxRecDepth 100000 in
theorem impl_GcdOf.calls (k : Nat) (a0 : Int) (a1 : Int) (r : Int) (w : World) (h : impl_GcdOf.f k a0 a1 = some r) :
  Calls Try.prog 77 #[.int .i64 a0, .int .i64 a1] w fun e w' => e = .returned (.int .i64 r) ∧ Below w.heap.size w w' := by
 have HB := am (Below.refl w.heap.size w)
 have H : ((impl_allWithin.f k (([a0, a1] : List Int)) (-1000000) 1000000).bind fun t339 => (if t339 = true then (impl_GcdOf.l0 k (mx a0 (wrap64 (-a0))) (mx a1 (wrap64 (-a1)))) else (some 0))) = some r := h
 clear h
 obtain ⟨y336, hy336⟩ : ∃ y_ : List Int, y_ = (([a0, a1] : List Int)) := ⟨_, rfl⟩
 replace H : ((impl_allWithin.f k y336 (-1000000) 1000000).bind fun t339 => (if t339 = true then (impl_GcdOf.l0 k (mx a0 (wrap64 (-a0))) (mx a1 (wrap64 (-a1)))) else (some 0))) = some r := by first | (rw [hy336]; with_reducible first | exact H | exact bs H) | (with_reducible first | exact bs H | exact H) | (rw [hy336]; exact H) | exact H
 have Ny336 := am hy336
 clear hy336
 replace H := ga H; obtain ⟨t339, A3, H⟩ := H
 replace H := gb H; obtain ⟨rfl, H⟩ | ⟨rfl, H⟩ := H
 ·obtain ⟨ji5, hji5⟩ : ∃ j_ : Int, (mx a0 (wrap64 (-a0))) = j_ := ⟨_, rfl⟩
  replace H : (impl_GcdOf.l0 k ji5 (mx a1 (wrap64 (-a1)))) = some r := by first | (rw [hji5] at H; exact H) | (simp only [hji5] at H ⊢; exact H)
  (try rw [hji5] at A3)
  have hji5_ : (if a0 < (wrap64 (-a0)) then (wrap64 (-a0)) else a0) = ji5 := hji5
  obtain ⟨ji6, hji6⟩ : ∃ j_ : Int, (mx a1 (wrap64 (-a1))) = j_ := ⟨_, rfl⟩
  replace H : (impl_GcdOf.l0 k ji5 ji6) = some r := by first | (rw [hji6] at H; exact H) | (simp only [hji6] at H ⊢; exact H)
  (try rw [hji6] at A3)
  have hji6_ : (if a1 < (wrap64 (-a1)) then (wrap64 (-a1)) else a1) = ji6 := hji6
  have H' := am H
  clear H
  go_enter Try.func77, Try.ntmps77
  go_wp2_with (first | ((with_reducible refine gate_dst (N := 7) rfl ?_); refine Kd.R_lit (Kd.int .i64) _ 3 ?hg (N := 7) ?hd (xs := ([a0, a1] : List Int)) (inner := [.int .i64 a0, .int .i64 a1]) (ok := fun _ => True) (okp := fun _ => True) ?hr ?hp (fun _ hk => hk) trivial (Below.refl _ _) (Nat.le_refl _) (by simp) ?_; (case hd => rfl); (case hg => rfl); (case hr => first | (go_simp; done) | (go_simp; rfl)); (case hp => exact (Reps.one (show Kd.M (Kd.int .i64) _ _ _ a0 [.int .i64 a0] from rfl) (Reps.one (show Kd.M (Kd.int .i64) _ _ _ a1 [.int .i64 a1] from rfl) (Reps.none _ _)))); intro v337 w7 ho8 hb hg_ hnew_; clear hg_ hnew_; (first | rw [← Ny336.out] at ho8 | (simp only [Int.reduceToNat] at ho8; rw [← Ny336.out] at ho8)); have HO338 := am (Kd.R_lower ho8 (below_size bw)); replace HB := am (below_step bw hb); clear hb ho8; obtain ⟨Ao9, co9, eo9⟩ := Kd.R_slice HO338.out; subst eo9) | ((with_reducible refine gate_callee (f := 55) rfl ?_); refine gl (some 8) Try.func55 #[.slice Ao9 y336.length co9, .int .i64 (-1000000), .int .i64 1000000] ?_; (with_reducible refine (impl_allWithin.calls k _ _ y336 (-1000000) 1000000 true _ ?side1 ?side2 A3.out).mono ?_); (case side1 => exact co (Kd.R_reads' HO338.out).2.2); (case side2 => exact (Kd.R_reads' HO338.out).2.1); rintro e w' ⟨rfl, ⟨nd, rfl⟩⟩; refine ⟨_, rfl, ?_⟩))
  go_loopg [0, 1] k (fun kq v0 v1 w' => ∃ (x0_1 : Int) (x1_1 : Int), v0 = .int .i64 x0_1 ∧ v1 = .int .i64 x1_1 ∧ Aside0 (impl_GcdOf.l0 kq x0_1 x1_1 = some r) ∧ Aside0 (kq ≤ k) ∧ Aside0 (Below w.heap.size w w'))
  case atStart => exact ⟨(ji5), (ji6), (by first | rfl | (simp; done) | (simp only [← hji5] <;> (first | rfl | simp)) | (simp [*]; done)), (by first | rfl | (simp; done) | (simp only [← hji6] <;> (first | rfl | simp)) | (simp [*]; done)), H', ⟨Nat.le_refl _⟩, ⟨bw⟩⟩
  case round =>
   clear H'
   obtain ⟨x0_1, x1_1, rfl, rfl, HA, HK1, HB⟩ := hrel
   cases gk with
   | zero => exact absurd HA.out (by simp [impl_GcdOf.l0])
   | succ k1 =>
    have H := HA.out
    clear HA
    simp only [impl_GcdOf.l0] at H
    by_cases c10 : x0_1 = 0
    ·rw [if_pos c10] at H
     have c10b0 : (x0_1 == 0) = true := beq_iff_eq.mpr c10
     have c10b1 : (x0_1 != 0) = false := bne_eq_false_iff_eq.mpr c10
     clear c10
     obtain rfl := Option.some.inj H
     go_wp2
     go_ret
     exact ⟨by first | rfl | (simp [errW_none, errW_some] <;> rfl) | (simp only [← hji5, ← hji6]; first | rfl | (simp [errW_none, errW_some] <;> rfl)) | (simp [*, errW_none, errW_some] <;> rfl), bw⟩
    rw [if_neg c10] at H
    have c10b0 : (x0_1 == 0) = false := beq_eq_false_iff_ne.mpr c10
    have c10b1 : (x0_1 != 0) = true := bne_iff_ne.mpr c10
    have H' := am H
    clear H
    go_wp2
    go_roundg k1
    case measure => have := HK1.out; omega
    case rel => exact ⟨(Int.tmod x1_1 x0_1), (x0_1), rr, rr, H', ⟨by have := HK1.out; omega⟩, ⟨bw⟩⟩
 obtain rfl := Option.some.inj H
 go_enter Try.func77, Try.ntmps77
 go_wp2_with (first | ((with_reducible refine gate_dst (N := 7) rfl ?_); refine Kd.R_lit (Kd.int .i64) _ 3 ?hg (N := 7) ?hd (xs := ([a0, a1] : List Int)) (inner := [.int .i64 a0, .int .i64 a1]) (ok := fun _ => True) (okp := fun _ => True) ?hr ?hp (fun _ hk => hk) trivial (Below.refl _ _) (Nat.le_refl _) (by simp) ?_; (case hd => rfl); (case hg => rfl); (case hr => first | (go_simp; done) | (go_simp; rfl)); (case hp => exact (Reps.one (show Kd.M (Kd.int .i64) _ _ _ a0 [.int .i64 a0] from rfl) (Reps.one (show Kd.M (Kd.int .i64) _ _ _ a1 [.int .i64 a1] from rfl) (Reps.none _ _)))); intro v337 w11 ho12 hb hg_ hnew_; clear hg_ hnew_; (first | rw [← Ny336.out] at ho12 | (simp only [Int.reduceToNat] at ho12; rw [← Ny336.out] at ho12)); have HO338 := am (Kd.R_lower ho12 (below_size bw)); replace HB := am (below_step bw hb); clear hb ho12; obtain ⟨Ao13, co13, eo13⟩ := Kd.R_slice HO338.out; subst eo13) | ((with_reducible refine gate_callee (f := 55) rfl ?_); refine gl (some 8) Try.func55 #[.slice Ao13 y336.length co13, .int .i64 (-1000000), .int .i64 1000000] ?_; (with_reducible refine (impl_allWithin.calls k _ _ y336 (-1000000) 1000000 false _ ?side1 ?side2 A3.out).mono ?_); (case side1 => exact co (Kd.R_reads' HO338.out).2.2); (case side2 => exact (Kd.R_reads' HO338.out).2.1); rintro e w' ⟨rfl, ⟨nd, rfl⟩⟩; refine ⟨_, rfl, ?_⟩))
 go_ret
 exact ⟨re, bw⟩


/-! ### impl_GcdOfList: function 57 -/
def impl_GcdOfList.l0 : Nat → Int → List Int → Int → Int → Option (Int)
 | 0, _, _, _, _ => none
 | k + 1, x3, x6, x7, x8 => if x8 < x7 then (if 0 ≤ x8 then (if x8 < (x6.length : Int) then ((impl_GcdOf.f k x3 (rd x6 x8)).bind fun t341 => (impl_GcdOfList.l0 k t341 x6 x7 (wrap64 (x8 + 1)))) else (none)) else (none)) else (some x3)
def impl_GcdOfList.f (k : Nat) (l0 : List Int) : Option (Int) := impl_GcdOfList.l0 k 0 l0 (l0.length : Int) 0
set_option maxHeartbeats 8000000 in
set_option maxRecDepth 100000 in
theorem impl_GcdOfList.calls (k : Nat) (A0 : Option Addr) (c0 : Nat) (l0 : List Int) (r : Int) (w : World) (hr0 : Kd.C (Kd.int .i64) w A0 l0.length l0) (hc0 : l0.length ≤ c0) (h : impl_GcdOfList.f k l0 = some r) :
  Calls Try.prog 57 #[.slice A0 l0.length c0] w fun e w' => e = .returned (.int .i64 r) ∧ Below w.heap.size w w' := by
 have HR0 := am hr0
 have HC0 := am hc0
 clear hr0 hc0
 have HB := am (Below.refl w.heap.size w)
 have H : (impl_GcdOfList.l0 k 0 l0 (l0.length : Int) 0) = some r := h
 clear h
 have H' := am H
 clear H
 go_enter Try.func57, Try.ntmps57
 go_wp2
 go_loopg [3, 8] k (fun kq v3 v8 w' => ∃ (x3_1 : Int) (x8_1 : Int), v3 = .int .i64 x3_1 ∧ v8 = .int .i64 x8_1 ∧ Aside0 (impl_GcdOfList.l0 kq x3_1 l0 (l0.length : Int) x8_1 = some r) ∧ Aside0 (kq ≤ k) ∧ Aside0 (Below w.heap.size w w'))
 case atStart => exact ⟨(0), (0), rr, rr, H', ⟨Nat.le_refl _⟩, ⟨bw⟩⟩
 case round =>
  clear H'
  obtain ⟨x3_1, x8_1, rfl, rfl, HA, HK1, HB⟩ := hrel
  cases gk with
  | zero => exact absurd HA.out (by simp [impl_GcdOfList.l0])
  | succ k1 =>
   have H := HA.out
   clear HA
   simp only [impl_GcdOfList.l0] at H
   replace H := gi H; obtain ⟨c2b0, H⟩ | ⟨c2b0, H⟩ := H
   ·replace H := gd H; obtain ⟨c3b0, H⟩ := H
    replace H := gd H; obtain ⟨c4b0, H⟩ := H
    replace H := ga H; obtain ⟨t341, A5, H⟩ := H
    have H' := am H
    clear H
    obtain ⟨⟨ad340, e340, hx340_0⟩, p340, q340⟩ := pq (Kd.at_int HR0.out x8_1)
    cases e340
    replace hx340_0 := hw HB hx340_0
    go_wp2_with (first | ((with_reducible refine gate_callee (f := 77) rfl ?_); refine gl (some 14) Try.func77 #[.int .i64 x3_1, .int .i64 (rd l0 x8_1)] ?_; (with_reducible refine (impl_GcdOf.calls k1 x3_1 (rd l0 x8_1) t341 _ A5.out).mono ?_); rintro e w6 ⟨rfl, hb⟩; refine ⟨_, rfl, ?_⟩; replace HB := am (below_step bw hb); clear hb))
    go_roundg k1
    case measure => have := HK1.out; omega
    case rel => exact ⟨(t341), (wrap64 (x8_1 + 1)), rr, rr, H', ⟨by have := HK1.out; omega⟩, ⟨bw⟩⟩
   obtain rfl := Option.some.inj H
   go_wp2
   go_ret
   exact ⟨re, bw⟩


/-! ### impl_leasts: function 59 -/
mutual
def impl_leasts.l0 : Nat → List Int → Int → List Int → Int → Int → Option (List Int)
 | 0, _, _, _, _, _ => none
 | k + 1, x0, x1, x5, x16, x17 => if x17 < x16 then (if 0 ≤ x17 then (if x17 < (x5.length : Int) then (impl_leasts.l0 k x0 x1 (x5.set (x17 : Int).toNat (-1)) x16 (wrap64 (x17 + 1))) else (none)) else (none)) else (if 0 < (x5.length : Int) then (impl_leasts.l1 k x0 x1 (x5.set (0 : Int).toNat 0) true) else (none))
def impl_leasts.l1 : Nat → List Int → Int → List Int → Bool → Option (List Int)
 | 0, _, _, _, _ => none
 | k + 1, x0, x1, x5, x7 => if x7 = true then (impl_leasts.l2 k x0 x1 x5 false (x5.length : Int) 0) else (some x5)
def impl_leasts.l2 : Nat → List Int → Int → List Int → Bool → Int → Int → Option (List Int)
 | 0, _, _, _, _, _, _ => none
 | k + 1, x0, x1, x5, x7, x28, x29 => if x29 < x28 then (if 0 ≤ x29 then (if x29 < (x5.length : Int) then (if (rd x5 x29) < 0 then (impl_leasts.l2 k x0 x1 x5 x7 x28 (wrap64 (x29 + 1))) else (impl_leasts.l3 k x0 x1 x5 x7 x29 (rd x5 x29) x28 x29 x0 (x0.length : Int) 0)) else (none)) else (none)) else (impl_leasts.l1 k x0 x1 x5 x7)
def impl_leasts.l3 : Nat → List Int → Int → List Int → Bool → Int → Int → Int → Int → List Int → Int → Int → Option (List Int)
 | 0, _, _, _, _, _, _, _, _, _, _, _ => none
 | k + 1, x0, x1, x5, x7, x8, x9, x28, x29, x36, x37, x38 => if x38 < x37 then (if 0 ≤ x38 then (if x38 < (x36.length : Int) then (if x1 = 0 then (none) else (if 0 ≤ (Int.tmod (wrap64 (x8 + (rd x36 x38))) x1) then (if (Int.tmod (wrap64 (x8 + (rd x36 x38))) x1) < (x5.length : Int) then (if (rd x5 (Int.tmod (wrap64 (x8 + (rd x36 x38))) x1)) < 0 then (impl_leasts.l3 k x0 x1 (x5.set ((Int.tmod (wrap64 (x8 + (rd x36 x38))) x1) : Int).toNat (wrap64 (x9 + (rd x36 x38)))) true x8 x9 x28 x29 x36 x37 (wrap64 (x38 + 1))) else (if (wrap64 (x9 + (rd x36 x38))) < (rd x5 (Int.tmod (wrap64 (x8 + (rd x36 x38))) x1)) then (impl_leasts.l3 k x0 x1 (x5.set ((Int.tmod (wrap64 (x8 + (rd x36 x38))) x1) : Int).toNat (wrap64 (x9 + (rd x36 x38)))) true x8 x9 x28 x29 x36 x37 (wrap64 (x38 + 1))) else (impl_leasts.l3 k x0 x1 x5 x7 x8 x9 x28 x29 x36 x37 (wrap64 (x38 + 1))))) else (none)) else (none))) else (none)) else (none)) else (impl_leasts.l2 k x0 x1 x5 x7 x28 (wrap64 (x29 + 1)))
end
def impl_leasts.f (k : Nat) (l0 : List Int) (a1 : Int) : Option (List Int) := if 0 ≤ a1 then (if (a1 : Int).toNat ≤ 35184372088832 then ((some (List.replicate (a1 : Int).toNat 0 : List Int)).bind fun y342 => (impl_leasts.l0 k l0 a1 y342 (y342.length : Int) 0)) else (none)) else (none)
set_option maxHeartbeats 8000000 in
set_option maxRecDepth 100000 in
theorem impl_leasts.calls (k : Nat) (A0 : Option Addr) (c0 : Nat) (l0 : List Int) (a1 : Int) (r : List Int) (w : World) (hr0 : Kd.C (Kd.int .i64) w A0 l0.length l0) (hc0 : l0.length ≤ c0) (h : impl_leasts.f k l0 a1 = some r) :
  Calls Try.prog 59 #[.slice A0 l0.length c0, .int .i64 a1] w fun e w' => ∃ v0_ : Value, e = .returned (v0_) ∧ Kd.R (Kd.int .i64) 3 w' w.heap.size (fun _ => True) v0_ r ∧ Below w.heap.size w w' := by
 have HR0 := am hr0
 have HC0 := am hc0
 clear hr0 hc0
 have HB := am (Below.refl w.heap.size w)
 have H : (if 0 ≤ a1 then (if (a1 : Int).toNat ≤ 35184372088832 then ((some (List.replicate (a1 : Int).toNat 0 : List Int)).bind fun y342 => (impl_leasts.l0 k l0 a1 y342 (y342.length : Int) 0)) else (none)) else (none)) = some r := h
 clear h
 replace H := gp H; obtain ⟨c3, H⟩ := H
 have c3b0 := eq_true c3
 have c3b1 : decide (0 ≤ a1) = true := decide_eq_true c3
 clear c3
 replace H := gp H; obtain ⟨c4, H⟩ := H
 have c4b0 := eq_true c4
 have c4b1 : decide ((a1 : Int).toNat ≤ 35184372088832) = true := decide_eq_true c4
 clear c4
 obtain ⟨y342, hy342⟩ : ∃ y_ : List Int, y_ = (List.replicate (a1 : Int).toNat 0) := ⟨_, rfl⟩
 replace H : (impl_leasts.l0 k l0 a1 y342 (y342.length : Int) 0) = some r := by first | (rw [hy342]; with_reducible first | exact H | exact bs H) | (with_reducible first | exact bs H | exact H) | (rw [hy342]; exact H) | exact H
 have Ny342 := am hy342
 clear hy342
 have H' := am H
 clear H
 go_enter Try.func59, Try.ntmps59
 go_wp2_with (first | ((with_reducible refine gate_dst (N := 14) rfl ?_); refine Kd.R_make (Kd.int .i64) _ 3 rfl (N := 14) rfl 22 _ _ rfl a1 rfl rfl Try.underlying22 (.int .i64 0) 8 info3 rfl (by decide) (by omega) 0 (ok := fun _ => True) (okp := fun _ => True) rfl (fun _ hk => hk) trivial (of_decide_eq_true (by first | (with_reducible assumption) | assumption)) (Nat.le_trans (Nat.mul_le_mul_right _ (of_decide_eq_true (by first | (with_reducible assumption) | assumption) : a1.toNat ≤ 35184372088832)) (by omega)) (Below.refl _ _) (Nat.le_refl _) ?_; intro v343 w5 ho6 hb hg_ hnew_; clear hg_ hnew_; (first | rw [← Ny342.out] at ho6 | (simp only [Int.reduceToNat] at ho6; rw [← Ny342.out] at ho6)); have HO344 := am (Kd.R_lower ho6 (below_size bw)); replace HB := am (below_step bw hb); clear hb ho6; obtain ⟨Ao7, co7, eo7⟩ := Kd.R_slice HO344.out; subst eo7))
 go_loopg [17] k (fun kq v17 w' => ∃ (x5_1 : List Int) (x17_1 : Int), v17 = .int .i64 x17_1 ∧ Aside0 (impl_leasts.l0 kq l0 a1 x5_1 (y342.length : Int) x17_1 = some r) ∧ Aside0 (kq ≤ k) ∧ Aside0 (Kd.R (Kd.int .i64) 3 w' w.heap.size (fun _ => True) (.slice Ao7 y342.length co7) x5_1) ∧ Aside0 (Below w.heap.size w w'))
 case atStart => exact ⟨(y342), (0), rr, H', ⟨Nat.le_refl _⟩, ⟨ro HO344.out⟩, ⟨bw⟩⟩
 case round =>
  clear H'
  try clear c3; try clear c3b0; try clear c3b1; try clear c4; try clear c4b0; try clear c4b1
  obtain ⟨x5_1, x17_1, rfl, HA, HK1, HO_5, HB⟩ := hrel
  have hl5_1 := (Kd.R_reads' HO_5.out).1
  rw [hl5_1] at HO_5
  (try simp only [hl5_1])
  cases gk with
  | zero => exact absurd HA.out (by simp [impl_leasts.l0])
  | succ k1 =>
   have H := HA.out
   clear HA
   simp only [impl_leasts.l0] at H
   by_cases c8 : x17_1 < (y342.length : Int)
   ·rw [if_pos c8] at H
    have c8b0 : decide (x17_1 < (y342.length : Int)) = true := decide_eq_true c8
    (try simp only [hl5_1] at c8b0)
    clear c8
    replace H := gd H; obtain ⟨c9b0, H⟩ := H
    by_cases c10 : x17_1 < (x5_1.length : Int)
    rotate_left
    ·rw [if_neg c10] at H
     exact absurd H (by simp)
    rw [if_pos c10] at H
    have c10b0 : decide (x17_1 < (x5_1.length : Int)) = true := decide_eq_true c10
    (try simp only [hl5_1] at c10b0)
    clear c10
    obtain ⟨y345, hy345⟩ : ∃ y_ : List Int, y_ = (x5_1.set (x17_1 : Int).toNat (-1)) := ⟨_, rfl⟩
    replace H : (impl_leasts.l0 k1 l0 a1 y345 (y342.length : Int) (wrap64 (x17_1 + 1))) = some r := by first | (rw [hy345]; with_reducible first | exact H | exact bs H) | (with_reducible first | exact bs H | exact H) | (rw [hy345]; exact H) | exact H
    have Ny345 := am hy345
    clear hy345
    have H' := am H
    clear H
    have p11 : 0 ≤ (x17_1 : Int) := of_decide_eq_true (by first | (with_reducible assumption) | assumption)
    have q11 : (x17_1 : Int) < ((x5_1.length : Int) : Int) := of_decide_eq_true (by first | (with_reducible assumption) | assumption)
    obtain ⟨go11, co11, eo11, gb11, gl11, cl11, HG11⟩ := Kd.R_form HO_5.out (by omega)
    (first | cases eo11 | (injection eo11 with ea_ en_ ec_; (first | subst ea_ | (injection ea_ with ea_; subst ea_)); subst ec_; clear en_))
    have GB11 := am gb11
    have GG11 := am HG11
    clear gb11 gl11 HG11
    obtain ⟨hx11_0, hf11_0⟩ := Kd.R_celln 0 HO_5.out (x17_1 : Int) p11 q11
    replace p11 := eq_true p11
    replace q11 := eq_true q11
    have HP12 := Kd.R_putg HO_5.out (x17_1 : Int) (-1)
    go_wp2_with (first | ((with_reducible refine gate_store (t := 3) (p := 22) rfl ?_); refine store_event (t := 3) (p := 22) (v := ?vo_w13) (w1 := (wr.setCell ⟨go11, (x17_1 : Int).toNat, none⟩ (.int .i64 (-1)))) ?hg ?ho ?hn ?hr ?_; (case ho => rfl); (case hg => rfl); (case hn => rfl); (case hr => first | (go_simp; done) | (go_simp; rfl)); intro w13 hw; have hg : wr.grownBy w13 (some go11) := (by rw [hw]; exact HP12.2); have hp_ : Kd.R (Kd.int .i64) 3 w13 w.heap.size (fun _ => True) (.slice (some ⟨go11, 0, none⟩) x5_1.length co7) y345 := (by rw [hw, Ny345.out]; exact HP12.1); clear HP12; replace HO_5 := am (hp_); replace HB := am ((by rw [hw]; exact below_set (HB.out) GB11.out : Below w.heap.size w w13)); clear hg hw hp_))
    (try simp only [← hl5_1])
    go_roundg k1
    case measure => have := HK1.out; omega
    case rel => exact ⟨(y345), (wrap64 (x17_1 + 1)), rr, H', ⟨by have := HK1.out; omega⟩, ⟨by (try simp only [hl5_1]); (with_reducible repeat (first | apply Kd.R_alloc | apply Kd.R_drewN | apply Kd.R_drew)); exact HO_5.out⟩, ⟨bw⟩⟩
   rw [if_neg c8] at H
   have c8b0 : decide (x17_1 < (y342.length : Int)) = false := decide_eq_false c8
   (try simp only [hl5_1] at c8b0)
   clear c8
   by_cases c14 : 0 < (x5_1.length : Int)
   rotate_left
   ·rw [if_neg c14] at H
    exact absurd H (by simp)
   rw [if_pos c14] at H
   have c14b0 : decide (0 < (x5_1.length : Int)) = true := decide_eq_true c14
   (try simp only [hl5_1] at c14b0)
   have c14b1 : decide (0 < x5_1.length) = true := decide_eq_true (by omega)
   (try simp only [hl5_1] at c14b1)
   clear c14
   obtain ⟨y346, hy346⟩ : ∃ y_ : List Int, y_ = (x5_1.set (0 : Int).toNat 0) := ⟨_, rfl⟩
   replace H : (impl_leasts.l1 k1 l0 a1 y346 true) = some r := by first | (rw [hy346]; with_reducible first | exact H | exact bs H) | (with_reducible first | exact bs H | exact H) | (rw [hy346]; exact H) | exact H
   have Ny346 := am hy346
   clear hy346
   have H' := am H
   clear H
   have p15 : 0 ≤ (0 : Int) := (by omega)
   have q15 : (0 : Int) < ((x5_1.length : Int) : Int) := of_decide_eq_true (by first | (with_reducible assumption) | assumption)
   have qi15 : (0 < x5_1.length) = True := eq_true (by omega)
   obtain ⟨go15, co15, eo15, gb15, gl15, cl15, HG15⟩ := Kd.R_form HO_5.out (by omega)
   (first | cases eo15 | (injection eo15 with ea_ en_ ec_; (first | subst ea_ | (injection ea_ with ea_; subst ea_)); subst ec_; clear en_))
   have GB15 := am gb15
   have GG15 := am HG15
   clear gb15 gl15 HG15
   obtain ⟨hx15_0, hf15_0⟩ := Kd.R_celln 0 HO_5.out (0 : Int) p15 q15
   (try rw [show ((0 : Int)).toNat = 0 from rfl] at hx15_0)
   (try simp only [Nat.reduceMul, Nat.zero_mul, Nat.zero_add, Nat.reduceAdd] at hx15_0)
   (try rw [show ((0 : Int)).toNat = 0 from rfl] at hf15_0)
   (try simp only [Nat.reduceMul, Nat.zero_mul, Nat.zero_add, Nat.reduceAdd] at hf15_0)
   replace p15 := eq_true p15
   replace q15 := eq_true q15
   have HP16 := Kd.R_putg HO_5.out (0 : Int) 0
   go_wp2_with (first | ((with_reducible refine gate_store (t := 3) (p := 25) rfl ?_); refine store_event (t := 3) (p := 25) (v := ?vo_w17) (w1 := (wr.setCell ⟨go15, (0 : Int).toNat, none⟩ (.int .i64 0))) ?hg ?ho ?hn ?hr ?_; (case ho => rfl); (case hg => rfl); (case hn => rfl); (case hr => first | (go_simp; done) | (go_simp; rfl)); intro w17 hw; have hg : wr.grownBy w17 (some go15) := (by rw [hw]; exact HP16.2); have hp_ : Kd.R (Kd.int .i64) 3 w17 w.heap.size (fun _ => True) (.slice (some ⟨go15, 0, none⟩) x5_1.length co7) y346 := (by rw [hw, Ny346.out]; exact HP16.1); clear HP16; replace HO_5 := am (hp_); replace HB := am ((by rw [hw]; exact below_set (HB.out) GB15.out : Below w.heap.size w w17)); clear hg hw hp_))
   go_loopg [7] k1 (fun kq v7 w' => ∃ (x5_2 : List Int) (x7_2 : Bool), v7 = .bool x7_2 ∧ Aside0 (impl_leasts.l1 kq l0 a1 x5_2 x7_2 = some r) ∧ Aside0 (kq ≤ k1) ∧ Aside0 (Kd.R (Kd.int .i64) 3 w' w.heap.size (fun _ => True) (.slice (some ⟨go15, 0, none⟩) x5_1.length co7) x5_2) ∧ Aside0 (Below w.heap.size w w'))
   case atStart => exact ⟨(y346), (true), rr, H', ⟨Nat.le_refl _⟩, ⟨by (try simp only [hl5_1]); (with_reducible repeat (first | apply Kd.R_alloc | apply Kd.R_drewN | apply Kd.R_drew)); exact HO_5.out⟩, ⟨bw⟩⟩
   case round =>
    clear H'
    try clear c3; try clear c3b0; try clear c3b1; try clear c4; try clear c4b0; try clear c4b1; try clear c8; try clear c8b0; try clear c9b0; try clear c10; try clear c10b0; try clear p11; try clear q11; try clear c14; try clear c14b0; try clear c14b1; try clear p15; try clear q15; try clear qi15; try clear hx11_0; try clear hx15_0
    obtain ⟨x5_2, x7_2, rfl, HA, HK2, HO_5, HB⟩ := hrel
    have hl5_2 := (Kd.R_reads' HO_5.out).1
    rw [hl5_2] at HO_5
    (try simp only [hl5_2])
    cases gk with
    | zero => exact absurd HA.out (by simp [impl_leasts.l1])
    | succ k2 =>
     have H := HA.out
     clear HA
     simp only [impl_leasts.l1] at H
     replace H := gb H; obtain ⟨rfl, H⟩ | ⟨rfl, H⟩ := H
     ·have H' := am H
      clear H
      go_wp2
      go_loopg [7, 29] k2 (fun kq v7 v29 w' => ∃ (x5_3 : List Int) (x7_3 : Bool) (x29_3 : Int), v7 = .bool x7_3 ∧ v29 = .int .i64 x29_3 ∧ Aside0 (impl_leasts.l2 kq l0 a1 x5_3 x7_3 (x5_2.length : Int) x29_3 = some r) ∧ Aside0 (kq ≤ k2) ∧ Aside0 (Kd.R (Kd.int .i64) 3 w' w.heap.size (fun _ => True) (.slice (some ⟨go15, 0, none⟩) x5_2.length co7) x5_3) ∧ Aside0 (Below w.heap.size w w'))
      case atStart => exact ⟨(x5_2), (false), (0), rr, rr, H', ⟨Nat.le_refl _⟩, ⟨by (try simp only [hl5_1]); (try simp only [hl5_2]); (with_reducible repeat (first | apply Kd.R_alloc | apply Kd.R_drewN | apply Kd.R_drew)); exact HO_5.out⟩, ⟨bw⟩⟩
      case round =>
       clear H'
       try clear c3; try clear c3b0; try clear c3b1; try clear c4; try clear c4b0; try clear c4b1; try clear c8; try clear c8b0; try clear c9b0; try clear c10; try clear c10b0; try clear p11; try clear q11; try clear c14; try clear c14b0; try clear c14b1; try clear p15; try clear q15; try clear qi15; try clear hx11_0; try clear hx15_0
       obtain ⟨x5_3, x7_3, x29_3, rfl, rfl, HA, HK3, HO_5, HB⟩ := hrel
       have hl5_3 := (Kd.R_reads' HO_5.out).1
       rw [hl5_3] at HO_5
       (try simp only [hl5_3])
       cases gk with
       | zero => exact absurd HA.out (by simp [impl_leasts.l2])
       | succ k3 =>
        have H := HA.out
        clear HA
        simp only [impl_leasts.l2] at H
        by_cases c19 : x29_3 < (x5_2.length : Int)
        ·rw [if_pos c19] at H
         have c19b0 : decide (x29_3 < (x5_2.length : Int)) = true := decide_eq_true c19
         (try simp only [hl5_1, hl5_2, hl5_3] at c19b0)
         clear c19
         replace H := gd H; obtain ⟨c20b0, H⟩ := H
         by_cases c21 : x29_3 < (x5_3.length : Int)
         rotate_left
         ·rw [if_neg c21] at H
          exact absurd H (by simp)
         rw [if_pos c21] at H
         have c21b0 : decide (x29_3 < (x5_3.length : Int)) = true := decide_eq_true c21
         (try simp only [hl5_1, hl5_2, hl5_3] at c21b0)
         clear c21
         replace H := gi H; obtain ⟨c22b0, H⟩ | ⟨c22b0, H⟩ := H
         ·have H' := am H
          clear H
          obtain ⟨⟨ad347, e347, hx347_0⟩, p347, q347⟩ := pq (Kd.at_int (Kd.R_reads' HO_5.out).2.2 x29_3)
          obtain rfl : (⟨go15, 0, none⟩ : Addr) = ad347 := (by injection e347)
          (first | simp only [add_plain] at hx347_0 | simp only [add_at] at hx347_0 | simp only [Addr.add, Nat.zero_add] at hx347_0 | skip)
          go_wp2
          (try simp only [← hl5_3])
          go_roundg k3
          case measure => have := HK1.out; have := HK2.out; have := HK3.out; omega
          case rel => exact ⟨(x5_3), (x7_3), (wrap64 (x29_3 + 1)), rr, rr, H', ⟨by have := HK1.out; have := HK2.out; have := HK3.out; omega⟩, ⟨by (try simp only [hl5_1]); (try simp only [hl5_2]); (try simp only [hl5_3]); (with_reducible repeat (first | apply Kd.R_alloc | apply Kd.R_drewN | apply Kd.R_drew)); exact HO_5.out⟩, ⟨bw⟩⟩
         have H' := am H
         clear H
         obtain ⟨⟨ad347, e347, hx347_0⟩, p347, q347⟩ := pq (Kd.at_int (Kd.R_reads' HO_5.out).2.2 x29_3)
         obtain rfl : (⟨go15, 0, none⟩ : Addr) = ad347 := (by injection e347)
         (first | simp only [add_plain] at hx347_0 | simp only [add_at] at hx347_0 | simp only [Addr.add, Nat.zero_add] at hx347_0 | skip)
         go_wp2
         go_loopg [7, 38] k3 (fun kq v7 v38 w' => ∃ (x5_4 : List Int) (x7_4 : Bool) (x38_4 : Int), v7 = .bool x7_4 ∧ v38 = .int .i64 x38_4 ∧ Aside0 (impl_leasts.l3 kq l0 a1 x5_4 x7_4 x29_3 (rd x5_3 x29_3) (x5_2.length : Int) x29_3 l0 (l0.length : Int) x38_4 = some r) ∧ Aside0 (kq ≤ k3) ∧ Aside0 (Kd.R (Kd.int .i64) 3 w' w.heap.size (fun _ => True) (.slice (some ⟨go15, 0, none⟩) x5_3.length co7) x5_4) ∧ Aside0 (Below w.heap.size w w'))
         case atStart => exact ⟨(x5_3), (x7_3), (0), rr, rr, H', ⟨Nat.le_refl _⟩, ⟨by (try simp only [hl5_1]); (try simp only [hl5_2]); (try simp only [hl5_3]); (with_reducible repeat (first | apply Kd.R_alloc | apply Kd.R_drewN | apply Kd.R_drew)); exact HO_5.out⟩, ⟨bw⟩⟩
         case round =>
          clear H'
          try clear c3; try clear c3b0; try clear c3b1; try clear c4; try clear c4b0; try clear c4b1; try clear c8; try clear c8b0; try clear c9b0; try clear c10; try clear c10b0; try clear p11; try clear q11; try clear c14; try clear c14b0; try clear c14b1; try clear p15; try clear q15; try clear qi15; try clear c19; try clear c19b0; try clear c20b0; try clear c21; try clear c21b0; try clear c22b0; try clear hx11_0; try clear hx15_0; try clear hx347_0; try clear p347; try clear q347
          obtain ⟨x5_4, x7_4, x38_4, rfl, rfl, HA, HK4, HO_5, HB⟩ := hrel
          have hl5_4 := (Kd.R_reads' HO_5.out).1
          rw [hl5_4] at HO_5
          (try simp only [hl5_4])
          cases gk with
          | zero => exact absurd HA.out (by simp [impl_leasts.l3])
          | succ k4 =>
           have H := HA.out
           clear HA
           simp only [impl_leasts.l3] at H
           replace H := gi H; obtain ⟨c23b0, H⟩ | ⟨c23b0, H⟩ := H
           ·replace H := gd H; obtain ⟨c24b0, H⟩ := H
            replace H := gd H; obtain ⟨c25b0, H⟩ := H
            by_cases c26 : a1 = 0
            ·rw [if_pos c26] at H
             exact absurd H (by simp)
            rw [if_neg c26] at H
            have c26b0 : (a1 == 0) = false := beq_eq_false_iff_ne.mpr c26
            have c26b1 : (a1 != 0) = true := bne_iff_ne.mpr c26
            obtain ⟨ji27, hji27⟩ : ∃ j_ : Int, (Int.tmod (wrap64 (x29_3 + (rd l0 x38_4))) a1) = j_ := ⟨_, rfl⟩
            replace H : (if 0 ≤ (ji27) then (if (ji27) < (x5_4.length : Int) then (if (rd x5_4 (ji27)) < 0 then (impl_leasts.l3 k4 l0 a1 (x5_4.set ((ji27) : Int).toNat (wrap64 ((rd x5_3 x29_3) + (rd l0 x38_4)))) true x29_3 (rd x5_3 x29_3) (x5_2.length : Int) x29_3 l0 (l0.length : Int) (wrap64 (x38_4 + 1))) else (if (wrap64 ((rd x5_3 x29_3) + (rd l0 x38_4))) < (rd x5_4 (ji27)) then (impl_leasts.l3 k4 l0 a1 (x5_4.set ((ji27) : Int).toNat (wrap64 ((rd x5_3 x29_3) + (rd l0 x38_4)))) true x29_3 (rd x5_3 x29_3) (x5_2.length : Int) x29_3 l0 (l0.length : Int) (wrap64 (x38_4 + 1))) else (impl_leasts.l3 k4 l0 a1 x5_4 x7_4 x29_3 (rd x5_3 x29_3) (x5_2.length : Int) x29_3 l0 (l0.length : Int) (wrap64 (x38_4 + 1))))) else (none)) else (none)) = some r := by first | (rw [hji27] at H; exact H) | (simp only [hji27] at H ⊢; exact H)
            replace H := gd H; obtain ⟨c28b0, H⟩ := H
            by_cases c29 : (ji27) < (x5_4.length : Int)
            rotate_left
            ·rw [if_neg c29] at H
             exact absurd H (by simp)
            rw [if_pos c29] at H
            have c29b0 : decide ((ji27) < (x5_4.length : Int)) = true := decide_eq_true c29
            (try simp only [hl5_1, hl5_2, hl5_3, hl5_4] at c29b0)
            clear c29
            replace H := gi H; obtain ⟨c30b0, H⟩ | ⟨c30b0, H⟩ := H
            ·obtain ⟨y350, hy350⟩ : ∃ y_ : List Int, y_ = (x5_4.set ((ji27) : Int).toNat (wrap64 ((rd x5_3 x29_3) + (rd l0 x38_4)))) := ⟨_, rfl⟩
             replace H : (impl_leasts.l3 k4 l0 a1 y350 true x29_3 (rd x5_3 x29_3) (x5_2.length : Int) x29_3 l0 (l0.length : Int) (wrap64 (x38_4 + 1))) = some r := by first | (rw [hy350]; with_reducible first | exact H | exact bs H) | (with_reducible first | exact bs H | exact H) | (rw [hy350]; exact H) | exact H
             have Ny350 := am hy350
             clear hy350
             have H' := am H
             clear H
             obtain ⟨⟨ad348, e348, hx348_0⟩, p348, q348⟩ := pq (Kd.at_int HR0.out x38_4)
             cases e348
             replace hx348_0 := hw HB hx348_0
             obtain ⟨⟨ad349, e349, hx349_0⟩, p349, q349⟩ := pq (Kd.at_int (Kd.R_reads' HO_5.out).2.2 (ji27))
             obtain rfl : (⟨go15, 0, none⟩ : Addr) = ad349 := (by injection e349)
             (first | simp only [add_plain] at hx349_0 | simp only [add_at] at hx349_0 | simp only [Addr.add, Nat.zero_add] at hx349_0 | skip)
             have p31 : 0 ≤ ((ji27) : Int) := of_decide_eq_true (by first | (with_reducible assumption) | assumption)
             have q31 : ((ji27) : Int) < ((x5_4.length : Int) : Int) := of_decide_eq_true (by first | (with_reducible assumption) | assumption)
             obtain ⟨hx31_0, hf31_0⟩ := Kd.R_celln 0 HO_5.out ((ji27) : Int) p31 q31
             replace p31 := eq_true p31
             replace q31 := eq_true q31
             have HP32 := Kd.R_putg HO_5.out ((ji27) : Int) (wrap64 ((rd x5_3 x29_3) + (rd l0 x38_4)))
             go_wp2_with (first | ((with_reducible refine gate_store (t := 3) (p := 67) rfl ?_); refine store_event (t := 3) (p := 67) (v := ?vo_w33) (w1 := (wr.setCell ⟨go15, ((ji27) : Int).toNat, none⟩ (.int .i64 (wrap64 ((rd x5_3 x29_3) + (rd l0 x38_4)))))) ?hg ?ho ?hn ?hr ?_; (case ho => rfl); (case hg => rfl); (case hn => rfl); (case hr => first | (go_simp; done) | (go_simp; rfl)); intro w33 hw; have hg : wr.grownBy w33 (some go15) := (by rw [hw]; exact HP32.2); have hp_ : Kd.R (Kd.int .i64) 3 w33 w.heap.size (fun _ => True) (.slice (some ⟨go15, 0, none⟩) x5_4.length co7) y350 := (by rw [hw, Ny350.out]; exact HP32.1); clear HP32; replace HO_5 := am (hp_); replace HB := am ((by rw [hw]; exact below_set (HB.out) GB15.out : Below w.heap.size w w33)); clear hg hw hp_))
             (try simp only [← hl5_4])
             go_roundg k4
             case measure => have := HK1.out; have := HK2.out; have := HK3.out; have := HK4.out; omega
             case rel => exact ⟨(y350), (true), (wrap64 (x38_4 + 1)), rr, rr, H', ⟨by have := HK1.out; have := HK2.out; have := HK3.out; have := HK4.out; omega⟩, ⟨by (try simp only [hl5_1]); (try simp only [hl5_2]); (try simp only [hl5_3]); (try simp only [hl5_4]); (with_reducible repeat (first | apply Kd.R_alloc | apply Kd.R_drewN | apply Kd.R_drew)); exact HO_5.out⟩, ⟨bw⟩⟩
            replace H := gi H; obtain ⟨c34b0, H⟩ | ⟨c34b0, H⟩ := H
            ·obtain ⟨y352, hy352⟩ : ∃ y_ : List Int, y_ = (x5_4.set ((ji27) : Int).toNat (wrap64 ((rd x5_3 x29_3) + (rd l0 x38_4)))) := ⟨_, rfl⟩
             replace H : (impl_leasts.l3 k4 l0 a1 y352 true x29_3 (rd x5_3 x29_3) (x5_2.length : Int) x29_3 l0 (l0.length : Int) (wrap64 (x38_4 + 1))) = some r := by first | (rw [hy352]; with_reducible first | exact H | exact bs H) | (with_reducible first | exact bs H | exact H) | (rw [hy352]; exact H) | exact H
             have Ny352 := am hy352
             clear hy352
             have H' := am H
             clear H
             obtain ⟨⟨ad348, e348, hx348_0⟩, p348, q348⟩ := pq (Kd.at_int HR0.out x38_4)
             cases e348
             replace hx348_0 := hw HB hx348_0
             obtain ⟨⟨ad349, e349, hx349_0⟩, p349, q349⟩ := pq (Kd.at_int (Kd.R_reads' HO_5.out).2.2 (ji27))
             obtain rfl : (⟨go15, 0, none⟩ : Addr) = ad349 := (by injection e349)
             (first | simp only [add_plain] at hx349_0 | simp only [add_at] at hx349_0 | simp only [Addr.add, Nat.zero_add] at hx349_0 | skip)
             obtain ⟨⟨ad351, e351, hx351_0⟩, p351, q351⟩ := pq (Kd.at_int (Kd.R_reads' HO_5.out).2.2 (ji27))
             obtain rfl : (⟨go15, 0, none⟩ : Addr) = ad351 := (by injection e351)
             (first | simp only [add_plain] at hx351_0 | simp only [add_at] at hx351_0 | simp only [Addr.add, Nat.zero_add] at hx351_0 | skip)
             have p35 : 0 ≤ ((ji27) : Int) := of_decide_eq_true (by first | (with_reducible assumption) | assumption)
             have q35 : ((ji27) : Int) < ((x5_4.length : Int) : Int) := of_decide_eq_true (by first | (with_reducible assumption) | assumption)
             obtain ⟨hx35_0, hf35_0⟩ := Kd.R_celln 0 HO_5.out ((ji27) : Int) p35 q35
             replace p35 := eq_true p35
             replace q35 := eq_true q35
             have HP36 := Kd.R_putg HO_5.out ((ji27) : Int) (wrap64 ((rd x5_3 x29_3) + (rd l0 x38_4)))
             go_wp2_with (first | ((with_reducible refine gate_store (t := 3) (p := 67) rfl ?_); refine store_event (t := 3) (p := 67) (v := ?vo_w37) (w1 := (wr.setCell ⟨go15, ((ji27) : Int).toNat, none⟩ (.int .i64 (wrap64 ((rd x5_3 x29_3) + (rd l0 x38_4)))))) ?hg ?ho ?hn ?hr ?_; (case ho => rfl); (case hg => rfl); (case hn => rfl); (case hr => first | (go_simp; done) | (go_simp; rfl)); intro w37 hw; have hg : wr.grownBy w37 (some go15) := (by rw [hw]; exact HP36.2); have hp_ : Kd.R (Kd.int .i64) 3 w37 w.heap.size (fun _ => True) (.slice (some ⟨go15, 0, none⟩) x5_4.length co7) y352 := (by rw [hw, Ny352.out]; exact HP36.1); clear HP36; replace HO_5 := am (hp_); replace HB := am ((by rw [hw]; exact below_set (HB.out) GB15.out : Below w.heap.size w w37)); clear hg hw hp_))
             (try simp only [← hl5_4])
             go_roundg k4
             case measure => have := HK1.out; have := HK2.out; have := HK3.out; have := HK4.out; omega
             case rel => exact ⟨(y352), (true), (wrap64 (x38_4 + 1)), rr, rr, H', ⟨by have := HK1.out; have := HK2.out; have := HK3.out; have := HK4.out; omega⟩, ⟨by (try simp only [hl5_1]); (try simp only [hl5_2]); (try simp only [hl5_3]); (try simp only [hl5_4]); (with_reducible repeat (first | apply Kd.R_alloc | apply Kd.R_drewN | apply Kd.R_drew)); exact HO_5.out⟩, ⟨bw⟩⟩
            have H' := am H
            clear H
            obtain ⟨⟨ad348, e348, hx348_0⟩, p348, q348⟩ := pq (Kd.at_int HR0.out x38_4)
            cases e348
            replace hx348_0 := hw HB hx348_0
            obtain ⟨⟨ad349, e349, hx349_0⟩, p349, q349⟩ := pq (Kd.at_int (Kd.R_reads' HO_5.out).2.2 (ji27))
            obtain rfl : (⟨go15, 0, none⟩ : Addr) = ad349 := (by injection e349)
            (first | simp only [add_plain] at hx349_0 | simp only [add_at] at hx349_0 | simp only [Addr.add, Nat.zero_add] at hx349_0 | skip)
            obtain ⟨⟨ad351, e351, hx351_0⟩, p351, q351⟩ := pq (Kd.at_int (Kd.R_reads' HO_5.out).2.2 (ji27))
            obtain rfl : (⟨go15, 0, none⟩ : Addr) = ad351 := (by injection e351)
            (first | simp only [add_plain] at hx351_0 | simp only [add_at] at hx351_0 | simp only [Addr.add, Nat.zero_add] at hx351_0 | skip)
            go_wp2
            (try simp only [← hl5_4])
            go_roundg k4
            case measure => have := HK1.out; have := HK2.out; have := HK3.out; have := HK4.out; omega
            case rel => exact ⟨(x5_4), (x7_4), (wrap64 (x38_4 + 1)), rr, rr, H', ⟨by have := HK1.out; have := HK2.out; have := HK3.out; have := HK4.out; omega⟩, ⟨by (try simp only [hl5_1]); (try simp only [hl5_2]); (try simp only [hl5_3]); (try simp only [hl5_4]); (with_reducible repeat (first | apply Kd.R_alloc | apply Kd.R_drewN | apply Kd.R_drew)); exact HO_5.out⟩, ⟨bw⟩⟩
           have H' := am H
           clear H
           go_wp2
           (try simp only [← hl5_3, ← hl5_4])
           go_roundg k4
           case measure => have := HK1.out; have := HK2.out; have := HK3.out; have := HK4.out; omega
           case rel => exact ⟨(x5_4), (x7_4), (wrap64 (x29_3 + 1)), rr, rr, H', ⟨by have := HK1.out; have := HK2.out; have := HK3.out; have := HK4.out; omega⟩, ⟨by (try simp only [hl5_1]); (try simp only [hl5_2]); (try simp only [hl5_3]); (try simp only [hl5_4]); (with_reducible repeat (first | apply Kd.R_alloc | apply Kd.R_drewN | apply Kd.R_drew)); exact HO_5.out⟩, ⟨bw⟩⟩
        rw [if_neg c19] at H
        have c19b0 : decide (x29_3 < (x5_2.length : Int)) = false := decide_eq_false c19
        (try simp only [hl5_1, hl5_2, hl5_3] at c19b0)
        clear c19
        have H' := am H
        clear H
        go_wp2
        (try simp only [← hl5_2, ← hl5_3])
        go_roundg k3
        case measure => have := HK1.out; have := HK2.out; have := HK3.out; omega
        case rel => exact ⟨(x5_3), (x7_3), rr, H', ⟨by have := HK1.out; have := HK2.out; have := HK3.out; omega⟩, ⟨by (try simp only [hl5_1]); (try simp only [hl5_2]); (try simp only [hl5_3]); (with_reducible repeat (first | apply Kd.R_alloc | apply Kd.R_drewN | apply Kd.R_drew)); exact HO_5.out⟩, ⟨bw⟩⟩
     obtain rfl := Option.some.inj H
     go_wp2
     go_ret
     exact ⟨_, re, ro HO_5.out, bw⟩


/-! ### impl_usable: function 78 -/
def impl_usable.f (k : Nat) (l0 : List Int) : Option (Bool) := (impl_within.f (l0.length : Int) 1 20).bind fun t353 => (if t353 = true then ((impl_allWithin.f k l0 1 60).bind fun t354 => (some t354)) else (some false))
set_option maxHeartbeats 8000000 in
set_option maxRecDepth 100000 in
theorem impl_usable.calls (k : Nat) (A0 : Option Addr) (c0 : Nat) (l0 : List Int) (r : Bool) (w : World) (hr0 : Kd.C (Kd.int .i64) w A0 l0.length l0) (hc0 : l0.length ≤ c0) (h : impl_usable.f k l0 = some r) :
  Calls Try.prog 78 #[.slice A0 l0.length c0] w fun e w' => e = .returned (.bool r) ∧ Drawn0 w w' := by
 have HR0 := am hr0
 have HC0 := am hc0
 clear hr0 hc0
 have H : ((impl_within.f (l0.length : Int) 1 20).bind fun t353 => (if t353 = true then ((impl_allWithin.f k l0 1 60).bind fun t354 => (some t354)) else (some false))) = some r := h
 clear h
 replace H := ga H; obtain ⟨t353, A2, H⟩ := H
 replace H := gb H; obtain ⟨rfl, H⟩ | ⟨rfl, H⟩ := H
 ·replace H := ga H; obtain ⟨t354, A4, H⟩ := H
  obtain rfl := Option.some.inj H
  go_enter Try.func78, Try.ntmps78
  go_wp2_with (first | ((with_reducible refine gate_callee (f := 54) rfl ?_); refine gl (some 5) Try.func54 #[.int .i64 (l0.length : Int), .int .i64 1, .int .i64 20] ?_; (with_reducible refine (impl_within.calls (l0.length : Int) 1 20 true _ A2.out).mono ?_); rintro e w' ⟨rfl, ⟨nd, rfl⟩⟩; refine ⟨_, rfl, ?_⟩) | (go_at_call 55; (with_reducible refine (impl_allWithin.calls k _ _ l0 1 60 t354 _ ?side1 ?side2 A4.out).mono ?_); (case side1 => exact co HR0.out); (case side2 => exact HC0.out); rintro e w' ⟨rfl, ⟨nd, rfl⟩⟩))
  go_ret
  exact ⟨rr, dw⟩
 obtain rfl := Option.some.inj H
 go_enter Try.func78, Try.ntmps78
 go_wp2_with (first | ((with_reducible refine gate_callee (f := 54) rfl ?_); refine gl (some 5) Try.func54 #[.int .i64 (l0.length : Int), .int .i64 1, .int .i64 20] ?_; (with_reducible refine (impl_within.calls (l0.length : Int) 1 20 false _ A2.out).mono ?_); rintro e w' ⟨rfl, ⟨nd, rfl⟩⟩; refine ⟨_, rfl, ?_⟩))
 go_ret
 exact ⟨rr, dw⟩

end Go.Proofs.Ytlhcpbpcdicleaa.C
