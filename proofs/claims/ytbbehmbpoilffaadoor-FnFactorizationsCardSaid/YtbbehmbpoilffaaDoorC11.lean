/- Contracts of functions of the program: spec_l11List, spec_DrawIsFactorization, spec_DrawValueOf, laws_sameInts, laws_sameLists, impl_CountFactorizations. -/
import Derived.Test.YtbbehmbpoilffaaDoorC0
import Derived.Test.YtbbehmbpoilffaaDoorC1
import Derived.Test.YtbbehmbpoilffaaDoorC6
import Derived.Test.YtbbehmbpoilffaaDoorC7
import Derived.Test.YtbbehmbpoilffaaDoorC8
import Derived.Test.YtbbehmbpoilffaaDoorC10
namespace Go.Proofs.YtbbehmbpoilffaaDoor.C
open Go.RowKit Go.Proofs.YtbbehmbpoilffaaDoorW.PrintWords Go.Proofs.YtbbehmbpoilffaaDoorW.PrintLast Go.Proofs.YtbbehmbpoilffaaDoorW.PrintMore
attribute [local go_sem] max2_int min2_int max_two min_two max_three min_three max_four min_four
set_option linter.unusedVariables false
set_option linter.unusedSimpArgs false

/-! ### spec_l11List: function 32 -/
def spec_l11List.j0 : Nat → Int → List Int → List Int → List Int → Int → Int → Option (List Int × Int × List Int)
 | 0, _, _, _, _, _, _ => none
 | k + 1, x6, x9, x559000, x563000, x563001, x563002 => (spec_l1Below.f x563000 x563001 x563002 10).bind fun bt576 => (if bt576.1 = 0 then (if x9.length < 17592186044416 then (some (x559000, x6, (x9 ++ [1]))) else (none)) else (if bt576.1 = 1 then (if (x9.length : Int) > 0 then ((spec_l1PickInt.f x563000 bt576.2.1 bt576.2.2 (([(-1), 1000000, 1000001, 3] : List Int))).bind fun bt585 => (if 0 < (x9.length : Int) then (some (x559000, x6, (x9.set (0 : Int).toNat bt585.1))) else (none))) else (some (x559000, x6, x9))) else (some (x559000, x6, x9))))
def spec_l11List.f (k : Nat) (l0 : List Int) : Option (List Int × Int × List Int) := (spec_l11Case.f k l0).bind fun bt554 => ((spec_l1New.f k l0).bind fun bt559 => ((spec_Factorizations.f k bt554.1 bt554.2).bind fun t563 => (if (t563.length : Int) > 0 then ((spec_l1Below.f bt559.1 bt559.2.1 bt559.2.2 (t563.length : Int)).bind fun bt569 => (if 0 ≤ bt569.1 then (if bt569.1 < (t563.length : Int) then (spec_l11List.j0 k bt554.2 (rd_L2 t563 bt569.1) bt554.1 bt559.1 bt569.2.1 bt569.2.2) else (none)) else (none))) else (spec_l11List.j0 k bt554.2 (([1, 2] : List Int)) bt554.1 bt559.1 bt559.2.1 bt559.2.2))))
set_option maxHeartbeats 8000000 in
set_option maxRecDepth 100000 in
theorem spec_l11List.calls (k : Nat) (A0 : Option Addr) (c0 : Nat) (l0 : List Int) (r1 : List Int) (r2 : Int) (r3 : List Int) (w : World) (hr0 : Kd.C (Kd.int .u8) w A0 l0.length l0) (hc0 : l0.length ≤ c0) (h : spec_l11List.f k l0 = some (r1, r2, r3)) :
  Calls Tryd.prog 32 #[.slice A0 l0.length c0] w fun e w' => ∃ v0_ v2_ : Value, e = .returned (.tuple #[.agg #[v0_], .int .i64 r2, v2_]) ∧ Kd.Q (Kd.int .i64) 3 w' w.heap.size (fun k_ => some k_ ≠ (v2_ : Value).ownBlock) v0_ r1 ∧ Kd.R (Kd.int .i64) 3 w' w.heap.size (fun k_ => some k_ ≠ (v0_ : Value).ownBlock) v2_ r3 ∧ Below w.heap.size w w' := by
 have hu26 := Tryd.underlying26
 have HR0 := am hr0
 have HC0 := am hc0
 clear hr0 hc0
 have HB := am (Below.refl w.heap.size w)
 have H : ((spec_l11Case.f k l0).bind fun bt554 => ((spec_l1New.f k l0).bind fun bt559 => ((spec_Factorizations.f k bt554.1 bt554.2).bind fun t563 => (if (t563.length : Int) > 0 then ((spec_l1Below.f bt559.1 bt559.2.1 bt559.2.2 (t563.length : Int)).bind fun bt569 => (if 0 ≤ bt569.1 then (if bt569.1 < (t563.length : Int) then (spec_l11List.j0 k bt554.2 (rd_L2 t563 bt569.1) bt554.1 bt559.1 bt569.2.1 bt569.2.2) else (none)) else (none))) else (spec_l11List.j0 k bt554.2 (([1, 2] : List Int)) bt554.1 bt559.1 bt559.2.1 bt559.2.2))))) = some (r1, r2, r3) := h
 clear h
 replace H := ga H; obtain ⟨⟨t554, t557⟩, A2, H⟩ := H
 replace H : ((spec_l1New.f k l0).bind fun bt559 => ((spec_Factorizations.f k t554 t557).bind fun t563 => (if (t563.length : Int) > 0 then ((spec_l1Below.f bt559.1 bt559.2.1 bt559.2.2 (t563.length : Int)).bind fun bt569 => (if 0 ≤ bt569.1 then (if bt569.1 < (t563.length : Int) then (spec_l11List.j0 k t557 (rd_L2 t563 bt569.1) t554 bt559.1 bt569.2.1 bt569.2.2) else (none)) else (none))) else (spec_l11List.j0 k t557 (([1, 2] : List Int)) t554 bt559.1 bt559.2.1 bt559.2.2)))) = some (r1, r2, r3) := H
 replace H := ga H; obtain ⟨⟨t559, t560, t561⟩, A3, H⟩ := H
 replace H : ((spec_Factorizations.f k t554 t557).bind fun t563 => (if (t563.length : Int) > 0 then ((spec_l1Below.f t559 t560 t561 (t563.length : Int)).bind fun bt569 => (if 0 ≤ bt569.1 then (if bt569.1 < (t563.length : Int) then (spec_l11List.j0 k t557 (rd_L2 t563 bt569.1) t554 t559 bt569.2.1 bt569.2.2) else (none)) else (none))) else (spec_l11List.j0 k t557 (([1, 2] : List Int)) t554 t559 t560 t561))) = some (r1, r2, r3) := H
 replace H := ga H; obtain ⟨t563, A4, H⟩ := H
 obtain ⟨y566, hy566⟩ : ∃ y_ : List Int, y_ = (([1, 2] : List Int)) := ⟨_, rfl⟩
 replace H : (if (t563.length : Int) > 0 then ((spec_l1Below.f t559 t560 t561 (t563.length : Int)).bind fun bt569 => (if 0 ≤ bt569.1 then (if bt569.1 < (t563.length : Int) then (spec_l11List.j0 k t557 (rd_L2 t563 bt569.1) t554 t559 bt569.2.1 bt569.2.2) else (none)) else (none))) else (spec_l11List.j0 k t557 y566 t554 t559 t560 t561)) = some (r1, r2, r3) := by first | (rw [hy566]; with_reducible first | exact H | exact bs H) | (with_reducible first | exact bs H | exact H) | (rw [hy566]; exact H) | exact H
 have Ny566 := am hy566
 clear hy566
 have HC5 := am H
 clear H
 go_enter Tryd.func32, Tryd.ntmps32
 go_upto_if 23 with (first | ((with_reducible refine gate_dst (N := 2) rfl ?_); refine bx 2 #[.slice none 0 0] 26 ?_; intro gb553 hg w6 hbox hb; have BK553 := am (hbox); have GW553 := am (gs hg : w.heap.size ≤ gb553); have GE553 := GW553; replace HB := am (below_step bw hb); clear hb hbox hg) | ((with_reducible refine gate_callee (f := 24) rfl ?_); refine goesL_ (some 12) rfl rfl Tryd.func24 (by kernel_rfl) rfl #[.slice A0 l0.length c0] rfl (by (try simp only [List.map_toArray, List.map_cons, List.map_nil]); first | done | rfl | (simp only [List.length_drop, List.length_take]; rfl)) ?_; (with_reducible refine (spec_l11Case.calls k _ _ l0 t554 t557 _ ?side1 ?side2 A2.out).mono ?_); (case side1 => exact co (Kd.C_below HR0.out HB.out)); (case side2 => exact HC0.out); rintro e w7 ⟨v555, rfl, ho0, hb⟩; refine ⟨_, rfl, ?_⟩; have HO556 := am (Kd.Q_lower ho0 (below_size bw)); replace BK553 := kb BK553 hb; replace HB := am (below_step bw hb); clear hb ho0) | ((with_reducible refine gate_dst (N := 5) rfl ?_); refine bx 5 #[.slice none 0 0] 26 ?_; intro gb558 hg w8 hbox hb; replace HO556 := qK HO556 hb; have BK558 := am (hbox); have GW558 := am (gs hg : w.heap.size ≤ gb558); have GE558 := GW558; replace HB := am (below_step bw hb); have NB553_558 := nl hg BK553; have NB558_553 := ns NB553_558; replace BK553 := kb BK553 hb; clear hb hbox hg; obtain ⟨Ao9, co9, eo9, _⟩ := Kd.Q_slice HO556.out; subst eo9; have hnb10 := NB558_553.out; have hnc10 := NB553_558.out; have hcz11_0 := bc BK558 0 (.slice none 0 0); have hfz11_0 := blk_frozen BK558.out 0) | ((with_reducible refine gate_callee (f := 28) rfl ?_); refine goesL_ (some 16) rfl rfl Tryd.func28 (by kernel_rfl) rfl #[.slice A0 l0.length c0] rfl (by (try simp only [List.map_toArray, List.map_cons, List.map_nil]); first | done | rfl | (simp only [List.length_drop, List.length_take]; rfl)) ?_; (with_reducible refine (spec_l1New.calls k _ _ l0 t559 t560 t561 w _ ?side1 ?side2 ?side3 A3.out).mono ?_); (case side1 => exact bw); (case side2 => exact HR0.out); (case side3 => exact HC0.out); rintro e w12 ⟨g562, rfl, hi, hb, hb2⟩; refine ⟨_, rfl, ?_⟩; replace HO556 := am (Kd.Q_below (qF HO556 BK558 (.slice Ao9 t554.length co9)) hb2); replace HB := am (hb); have HI562 := am (hi); have NB562_553 := am (IsS63.ne_blk hi (blk_below (g := gb553) (o := .cells #[.slice none 0 0] 26 (0, 0)) (bf BK553.out) hb2) (by decide)); have NB553_562 := ns NB562_553; replace BK553 := kb BK553 hb2; have NB562_558 := am (IsS63.ne_blk hi (blk_below (g := gb558) (o := .cells #[.slice Ao9 t554.length co9] 26 (0, 0)) (bp BK558.out) hb2) (by decide)); have NB558_562 := ns NB562_558; replace BK558 := am (blk_below (g := gb558) (o := .cells #[.slice Ao9 t554.length co9] 26 (0, 0)) (bp BK558.out) hb2); clear hb hb2 hi; have hnb13 := NB558_562.out; have hnc13 := NB562_558.out; have hcz14_0 := bc BK558 0 (.slice Ao9 t554.length co9); have hfz14_0 := blk_frozen BK558.out 0) | ((with_reducible refine gate_callee (f := 11) rfl ?_); refine goesL_ (some 19) rfl rfl Tryd.func11 (by kernel_rfl) rfl #[.agg #[.slice Ao9 t554.length co9], .int .i64 t557] rfl (by (try simp only [List.map_toArray, List.map_cons, List.map_nil]); first | done | rfl | (simp only [List.length_drop, List.length_take]; rfl)) ?_; (with_reducible refine (spec_Factorizations.callsO k _ _ t554 t557 t563 _ ?side1 ?side2 A4.out).mono ?_); (case side1 => exact co (Kd.Q_reads' HO556.out).2.2); (case side2 => exact (Kd.Q_reads' HO556.out).2.1); rintro e w15 ⟨v564, rfl, ho0, hb⟩; refine ⟨_, rfl, ?_⟩; have HO565 := am (Kd.N_lower (Kd.N_mono (ok' := fun k_ => nb k_ Ao9 t554 co9 ∧ k_ ≠ gb553 ∧ k_ ≠ gb558 ∧ k_ ≠ g562 ∧ w.heap.size ≤ k_) ho0 (fun k_ hk_ => ⟨(Kd.fresh' (Kd.Q_lt (qo HO556.out)) k_ hk_), (Kd.freshB (g := gb553) (o := .cells #[.slice none 0 0] 26 (0, 0)) (bo BK553.out) k_ hk_), (Kd.freshB (g := gb558) (o := .cells #[.slice Ao9 t554.length co9] 26 (0, 0)) (bo BK558.out) k_ hk_), (IsS63.fresh (iw HI562.out) k_ hk_), Nat.le_trans (below_size bv) hk_⟩)) (below_size bv)); replace HO556 := qK HO556 hb; replace BK553 := kb BK553 hb; replace BK558 := kb BK558 hb; replace HB := am (below_step bv hb); replace HI562 := am (IsS63.below (iw HI562.out) hb); clear hb ho0) | ((with_reducible refine gate_dst (N := 20) rfl ?_); refine Kd.R_lit (Kd.int .i64) _ 3 ?hg (N := 20) ?hd (xs := ([1, 2] : List Int)) (inner := [.int .i64 1, .int .i64 2]) (ok := fun _ => True) (okp := fun _ => True) ?hr ?hp (fun _ hk => hk) trivial (Below.refl _ _) (Nat.le_refl _) (by simp) ?_; (case hd => rfl); (case hg => rfl); (case hr => first | (go_simp; done) | (go_simp; rfl)); (case hp => exact (Reps.one (show Kd.M (Kd.int .i64) _ _ _ 1 [.int .i64 1] from rfl) (Reps.one (show Kd.M (Kd.int .i64) _ _ _ 2 [.int .i64 2] from rfl) (Reps.none _ _)))); intro v567 w16 ho17 hb hg_ hnew_; clear hg_ hnew_; (first | rw [← Ny566.out] at ho17 | (simp only [Int.reduceToNat] at ho17; rw [← Ny566.out] at ho17)); replace HO565 := am (Kd.N_elder' (no HO565.out) (Kd.R_base ho17) hb); have HO568 := am (Kd.R_lower (Kd.R_new' ho17 (Kd.Q_lt (qo HO556.out))) (below_size bv)); replace HO556 := am (Kd.Q_elder' (qo HO556.out) (Kd.R_base ho17) hb); replace BK553 := kb BK553 hb; replace BK558 := kb BK558 hb; replace HB := am (below_step bv hb); replace HI562 := am (IsS63.below (iw HI562.out) hb); clear hb ho17; obtain ⟨Ao18, co18, eo18⟩ := Kd.N_slice HO565.out; subst eo18))
 (try simp only [Act.put, List.setIfInBounds_toArray, List.set_cons_zero, List.set_cons_succ])
 go_cut [9] (fun v9 wc => ∃ (kq : Nat) (x9_4 : List Int) (x563001_4 : Int) (x563002_4 : Int), Aside0 (spec_l11List.j0 kq t557 x9_4 t554 t559 x563001_4 x563002_4 = some (r1, r2, r3)) ∧ Aside0 (kq ≤ k) ∧ Aside0 (Kd.R (Kd.int .i64) 3 wc w.heap.size (fun k_ => nb k_ Ao9 t554 co9) v9 x9_4) ∧ Aside0 (Kd.Q (Kd.int .i64) 3 wc w.heap.size (fun k_ => some k_ ≠ (v9 : Value).ownBlock) (.slice Ao9 t554.length co9) t554) ∧ Aside0 (wc.heap[gb553]? = some (.cells #[(.slice none 0 0)] 26 (0, 0))) ∧ Aside0 (wc.heap[gb558]? = some (.cells #[(.slice Ao9 t554.length co9)] 26 (0, 0))) ∧ Aside0 (IsS63 w wc g562 t559 x563001_4 x563002_4) ∧ Aside0 (Below w.heap.size w wc))
 case first =>
  have H := HC5.out
  clear HC5
  replace H := gj H; obtain ⟨c19, H⟩ | ⟨c19, H⟩ := H
  ·have c19b0 : decide (0 < (t563.length : Int)) = true := decide_eq_true c19
   have c19b1 : decide (0 < t563.length) = true := decide_eq_true (by omega)
   clear c19
   (first | rw [c19b0] | (simp only [i64_w, i32_w]; rw [c19b0]) | skip)
   replace H := ga H; obtain ⟨⟨t569, t570, t571⟩, A20, H⟩ := H
   replace H : (if 0 ≤ t569 then (if t569 < (t563.length : Int) then (spec_l11List.j0 k t557 (rd_L2 t563 t569) t554 t559 t570 t571) else (none)) else (none)) = some (r1, r2, r3) := H
   replace H := gd H; obtain ⟨c21b0, H⟩ := H
   replace H := gd H; obtain ⟨c22b0, H⟩ := H
   have H' := am H
   clear H
   go_wp2_with (first | ((with_reducible refine gate_callee (f := 31) rfl ?_); refine goesL_ (some 28) rfl rfl Tryd.func31 (by kernel_rfl) rfl #[.pointer (some ⟨g562, 0, none⟩), .int .i64 (t563.length : Int)] rfl (by (try simp only [List.map_toArray, List.map_cons, List.map_nil]); first | done | rfl | (simp only [List.length_drop, List.length_take]; rfl)) ?_; (with_reducible refine (spec_l1Below.calls g562 t559 t560 t561 (t563.length : Int) t569 t570 t571 w _ ?side1 ?side2 A20.out).mono ?_); (case side1 => exact iw HI562.out); (case side2 => exact bv); rintro e w24 ⟨rfl, hi, hb, hk⟩; refine ⟨_, rfl, ?_⟩; replace BK553 := kk hk BK553 NB553_562; replace HO556 := am (Kd.Q_mono (Kd.Q_keep (IsS63.apartQ (show IsS63 w _ g562 t559 t560 t561 from (iw HI562.out)) (qo HO556.out) (by decide)) hk (fun _ h => h.2)) (fun _ h => h.1)); replace BK558 := kk hk BK558 NB558_562; replace HO565 := am (Kd.N_mono (Kd.N_keep (Kd.N_mono (ok := fun k_ => ((nb k_ Ao9 t554 co9 ∧ (k_ ≠ gb553 ∧ (k_ ≠ gb558 ∧ (k_ ≠ g562 ∧ w.heap.size ≤ k_)))) ∧ some k_ ≠ (v567 : Value).ownBlock)) (no HO565.out) (fun k_ hk_ => (⟨hk_, hk_.1.2.2.2.1⟩ : _ ∧ k_ ≠ g562))) hk (fun _ h => h.2)) (fun _ h => h.1)); replace HO568 := am (Kd.R_mono (Kd.R_keep (IsS63.apart (show IsS63 w _ g562 t559 t560 t561 from (iw HI562.out)) (ro HO568.out) (by decide)) hk (fun _ h => h.2)) (fun _ h => h.1)); replace HB := am (hb); replace HI562 := am (hi); clear hb hk hi; have p572 : 0 ≤ (t569 : Int) := of_decide_eq_true (by first | (with_reducible assumption) | assumption); have q572 : t569 < (t563.length : Int) := of_decide_eq_true (by first | (with_reducible assumption) | assumption); obtain ⟨ad572, A572_0, c572_0, e572, hx572_0, hl572_0, hi572_0⟩ := at_L2 (kow_C (Kd.N_reads' HO565.out).2.2) t569 p572 q572; cases e572; obtain ⟨ce572, hce572, hMe572, hcc572⟩ := Kd.N_get HO565.out [] t569 p572 (by first | exact q572 | exact of_decide_eq_true (by first | (with_reducible assumption) | assumption) | (have e_ := (Kd.N_reads' HO565.out).1; omega)); obtain ⟨ua572_0, uc572_0, rfl, ge572_0⟩ := kow_open (base := w.heap.size) hMe572 (fun k_ h_ => h_.1.1.2.2.2.2); have hv572_0 := hcc572 0 _ rfl; rw [Nat.add_zero, show (kow).sz = 1 from rfl, Nat.mul_one] at hv572_0; replace hv572_0 := Option.some.inj (hv572_0.symm.trans hx572_0); injection hv572_0 with hva_ hvn_ hvc_; rw [hva_] at ge572_0; rw [hvc_] at ge572_0; have HO575 := am ge572_0; clear hva_ hvn_ hvc_ ge572_0 hcc572 hce572; have HR572_0 := am hi572_0; have HC572_0 := am hl572_0; clear hi572_0 hl572_0; replace p572 := eq_true p572; replace q572 := eq_true q572))
   any_goals (first | (exfalso; have h_ := of_decide_eq_true c19b1; contradiction) | skip)
   go_meet
   case rel => exact ⟨_, (rd_L2 t563 t569), (t570), (t571), H', ⟨om⟩, ⟨by (with_reducible repeat (first | apply Kd.R_alloc | apply Kd.R_drewN | apply Kd.R_drew)); exact Kd.R_mono HO575.out (fun _ hk => hk.1.1.1)⟩, ⟨by (with_reducible repeat (first | apply Kd.Q_alloc | apply Kd.Q_drewN | apply Kd.Q_drew)); exact Kd.Q_mono (Kd.Q_tight rfl HO556.out) (fun k_ hk e_ => (HO575.out.1 k_ e_.symm).1.1.1 hk)⟩, ⟨bo BK553.out⟩, ⟨bo BK558.out⟩, ⟨(iw HI562.out)⟩, ⟨bv⟩⟩
  have c19b0 : decide (0 < (t563.length : Int)) = false := decide_eq_false c19
  have c19b1 : decide (0 < t563.length) = false := decide_eq_false (by omega)
  clear c19
  (first | rw [c19b0] | (simp only [i64_w, i32_w]; rw [c19b0]) | skip)
  have H' := am H
  clear H
  go_wp2
  any_goals (first | (exfalso; have h_ := of_decide_eq_false c19b1; contradiction) | skip)
  go_meet
  case rel => exact ⟨_, (y566), (t560), (t561), H', ⟨om⟩, ⟨by (with_reducible repeat (first | apply Kd.R_alloc | apply Kd.R_drewN | apply Kd.R_drew)); exact Kd.R_mono HO568.out (fun _ hk => hk.2)⟩, ⟨by (with_reducible repeat (first | apply Kd.Q_alloc | apply Kd.Q_drewN | apply Kd.Q_drew)); exact Kd.Q_mono HO556.out (fun _ hk => hk.2)⟩, ⟨bo BK553.out⟩, ⟨bo BK558.out⟩, ⟨(iw HI562.out)⟩, ⟨bv⟩⟩
 case rest =>
  clear HC5
  try clear c19; try clear c19b0; try clear c19b1; try clear c21b0; try clear c22b0; try clear hcz11_0; try clear hcz14_0; try clear hfz11_0; try clear hfz14_0; try clear hx572_0; try clear p572; try clear q572
  obtain ⟨kq, x9_4, x563001_4, x563002_4, HA, HJ4, HO_9, HO_559000, BK553, BK558, HI562, HB⟩ := hcut
  cases kq with
  | zero => exact absurd HA.out (by simp [spec_l11List.j0])
  | succ kj4 =>
   have H := HA.out
   clear HA
   simp only [spec_l11List.j0] at H
   replace H := ga H; obtain ⟨⟨t576, t577, t578⟩, A26, H⟩ := H
   replace H : (if t576 = 0 then (if x9_4.length < 17592186044416 then (some (t554, t557, (x9_4 ++ [1]))) else (none)) else (if t576 = 1 then (if (x9_4.length : Int) > 0 then ((spec_l1PickInt.f t559 t577 t578 (([(-1), 1000000, 1000001, 3] : List Int))).bind fun bt585 => (if 0 < (x9_4.length : Int) then (some (t554, t557, (x9_4.set (0 : Int).toNat bt585.1))) else (none))) else (some (t554, t557, x9_4))) else (some (t554, t557, x9_4)))) = some (r1, r2, r3) := H
   by_cases c27 : t576 = 0
   ·rw [if_pos c27] at H
    have c27b0 : (t576 == 0) = true := beq_iff_eq.mpr c27
    have c27b1 : (t576 != 0) = false := bne_eq_false_iff_eq.mpr c27
    clear c27
    by_cases c28 : x9_4.length < 17592186044416
    rotate_left
    ·rw [if_neg c28] at H
     exact absurd H (by simp)
    rw [if_pos c28] at H
    have LMc28 := am c28
    clear c28
    obtain ⟨y579, hy579⟩ : ∃ y_ : List Int, y_ = (x9_4 ++ [1]) := ⟨_, rfl⟩
    replace H : (some (t554, t557, y579)) = some (r1, r2, r3) := by first | (rw [hy579]; with_reducible first | exact H | exact bs H) | (with_reducible first | exact bs H | exact H) | (rw [hy579]; exact H) | exact H
    have Ny579 := am hy579
    clear hy579
    simp only [Option.some.injEq, Prod.mk.injEq] at H
    obtain ⟨rfl, rfl, rfl⟩ := H
    go_wp2_with (first | ((with_reducible refine gate_callee (f := 31) rfl ?_); refine goesL_ (some 32) rfl rfl Tryd.func31 (by kernel_rfl) rfl #[.pointer (some ⟨g562, 0, none⟩), .int .i64 10] rfl (by (try simp only [List.map_toArray, List.map_cons, List.map_nil]); first | done | rfl | (simp only [List.length_drop, List.length_take]; rfl)) ?_; (with_reducible refine (spec_l1Below.calls g562 t559 x563001_4 x563002_4 10 t576 t577 t578 w _ ?side1 ?side2 A26.out).mono ?_); (case side1 => exact iw HI562.out); (case side2 => exact bv); rintro e w29 ⟨rfl, hi, hb, hk⟩; refine ⟨_, rfl, ?_⟩; replace HO_9 := am (Kd.R_mono (Kd.R_keep (IsS63.apart (show IsS63 w _ g562 t559 x563001_4 x563002_4 from (iw HI562.out)) (ro HO_9.out) (by decide)) hk (fun _ h => h.2)) (fun _ h => h.1)); replace HO_559000 := am (Kd.Q_mono (Kd.Q_keep (IsS63.apartQ (show IsS63 w _ g562 t559 x563001_4 x563002_4 from (iw HI562.out)) (qo HO_559000.out) (by decide)) hk (fun _ h => h.2)) (fun _ h => h.1)); replace BK553 := kk hk BK553 NB553_562; replace BK558 := kk hk BK558 NB558_562; replace HB := am (hb); replace HI562 := am (hi); clear hb hk hi) | ((with_reducible refine gate_builtin (b := .append) (xs := #[.tmp 35, .tmp 36]) rfl ?_); at_builtin; refine Kd.R_append (Kd.int .i64) (w0 := w) w.heap.size rfl (.tmp 35) (.tmp 36) 24 3 (.int .i64 0) 8 rfl Tryd.underlying24 info3 rfl (by decide) (by omega) u9 x9_4 1 [.int .i64 1] (fun k_ => nb k_ Ao9 t554 co9) (fun _ => False) rfl rfl ?aP (fun _ hk => hk.elim) ?aF ?aO ?aB ?aS ?aL ?_; (case aP => exact rfl); (case aB => exact bv); (case aF => exact (fun k_ hk => Kd.fresh' (Kd.Q_lt (qo HO_559000.out)) k_ hk)); (case aO => exact (ro HO_9.out)); (case aS => exact (below_size bv)); (case aL => have := LMc28.out; omega); intro v580 w30 ho hb hg hat; rw [← Ny579.out] at ho; replace HO_559000 := am (Kd.Q_after (ok := (fun _ => True)) (by (with_reducible repeat (first | apply Kd.Q_alloc | apply Kd.Q_drewN | apply Kd.Q_drew)); exact Kd.Q_mono HO_559000.out (fun _ hk => ⟨trivial, by first | exact hk | exact (by intro a n m c x h; cases a <;> exact h : ∀ (a : Option Addr) (n m c x : Nat), some x ≠ (Value.slice a n c).ownBlock → some x ≠ (Value.slice a m c).ownBlock) _ _ _ _ _ hk⟩)) hg hat); replace BK553 := am (blk_grown (g := gb553) (o := .cells #[.slice none 0 0] 26 (0, 0)) (bo BK553.out) hg (Kd.R_ne HO_9.out BK553.out (by decide))); replace BK558 := am (blk_grown (g := gb558) (o := .cells #[.slice Ao9 t554.length co9] 26 (0, 0)) (bo BK558.out) hg (Kd.R_ne HO_9.out BK558.out (by decide))); replace HI562 := am (IsS63.grown (iw HI562.out) hg (IsS63.own_ne HI562.out HO_9.out (by decide))); replace HB := am (hb); have HO581 := am (ho); clear HO_9 ho hb hg hat; have hnb31 := NB558_553.out; have hnc31 := NB553_558.out; have hnb32 := NB558_562.out; have hnc32 := NB562_558.out; have hcz33_0 := bc BK558 0 (.slice Ao9 t554.length co9); have hfz33_0 := blk_frozen BK558.out 0; have hnb34 := NB553_562.out; have hnc34 := NB562_553.out; have hcz35_0 := bc BK553 0 (.slice none 0 0); have hfz35_0 := blk_frozen BK553.out 0))
    refine bodyPost_ret (results_ctt rfl _ _ gb553 26 #[.slice Ao9 t554.length co9] (0, 0) _ rfl (bp BK553.out) Tryd.underlying26 rfl (by kernel_rfl)) rfl ?_
    exact ⟨_, _, re, by (with_reducible repeat (first | apply Kd.Q_alloc | apply Kd.Q_drewN | apply Kd.Q_drew)); exact Kd.Q_mono (Kd.Q_far (p := ⟨gb553, 0, none⟩) (Kd.Q_types HO_559000.out BK553.out (by decide)) (fun _ hk => hk.2) (.slice Ao9 t554.length co9)) (fun _ hk => by first | exact hk.1.2 | simp_all), by (with_reducible repeat (first | apply Kd.R_alloc | apply Kd.R_drewN | apply Kd.R_drew)); exact Kd.R_mono (Kd.R_far (p := ⟨gb553, 0, none⟩) (Kd.R_types HO581.out BK553.out (by decide)) (fun _ hk => hk.2) (.slice Ao9 t554.length co9)) (fun _ hk => hk.1), bv⟩
   rw [if_neg c27] at H
   have c27b0 : (t576 == 0) = false := beq_eq_false_iff_ne.mpr c27
   have c27b1 : (t576 != 0) = true := bne_iff_ne.mpr c27
   by_cases c36 : t576 = 1
   ·rw [if_pos c36] at H
    have c36b0 : (t576 == 1) = true := beq_iff_eq.mpr c36
    have c36b1 : (t576 != 1) = false := bne_eq_false_iff_eq.mpr c36
    clear c36
    replace H := gj H; obtain ⟨c37, H⟩ | ⟨c37, H⟩ := H
    ·have c37b0 : decide (0 < (x9_4.length : Int)) = true := decide_eq_true c37
     have c37b1 : decide (0 < x9_4.length) = true := decide_eq_true (by omega)
     clear c37
     obtain ⟨y582, hy582⟩ : ∃ y_ : List Int, y_ = (([(-1), 1000000, 1000001, 3] : List Int)) := ⟨_, rfl⟩
     replace H : ((spec_l1PickInt.f t559 t577 t578 y582).bind fun bt585 => (if 0 < (x9_4.length : Int) then (some (t554, t557, (x9_4.set (0 : Int).toNat bt585.1))) else (none))) = some (r1, r2, r3) := by first | (rw [hy582]; with_reducible first | exact H | exact bs H) | (with_reducible first | exact bs H | exact H) | (rw [hy582]; exact H) | exact H
     have Ny582 := am hy582
     clear hy582
     replace H := ga H; obtain ⟨⟨t585, t586, t587⟩, A38, H⟩ := H
     replace H : (if 0 < (x9_4.length : Int) then (some (t554, t557, (x9_4.set (0 : Int).toNat t585))) else (none)) = some (r1, r2, r3) := H
     replace H := gp H; obtain ⟨c39, H⟩ := H
     have c39b0 : decide (0 < (x9_4.length : Int)) = true := decide_eq_true c39
     have c39b1 : decide (0 < x9_4.length) = true := decide_eq_true (by omega)
     clear c39
     obtain ⟨y588, hy588⟩ : ∃ y_ : List Int, y_ = (x9_4.set (0 : Int).toNat t585) := ⟨_, rfl⟩
     replace H : (some (t554, t557, y588)) = some (r1, r2, r3) := by first | (rw [hy588]; with_reducible first | exact H | exact bs H) | (with_reducible first | exact bs H | exact H) | (rw [hy588]; exact H) | exact H
     have Ny588 := am hy588
     clear hy588
     simp only [Option.some.injEq, Prod.mk.injEq] at H
     obtain ⟨rfl, rfl, rfl⟩ := H
     go_wp2_with (first | ((with_reducible refine gate_callee (f := 31) rfl ?_); refine goesL_ (some 32) rfl rfl Tryd.func31 (by kernel_rfl) rfl #[.pointer (some ⟨g562, 0, none⟩), .int .i64 10] rfl (by (try simp only [List.map_toArray, List.map_cons, List.map_nil]); first | done | rfl | (simp only [List.length_drop, List.length_take]; rfl)) ?_; (with_reducible refine (spec_l1Below.calls g562 t559 x563001_4 x563002_4 10 t576 t577 t578 w _ ?side1 ?side2 A26.out).mono ?_); (case side1 => exact iw HI562.out); (case side2 => exact bv); rintro e w41 ⟨rfl, hi, hb, hk⟩; refine ⟨_, rfl, ?_⟩; replace HO_9 := am (Kd.R_mono (Kd.R_keep (IsS63.apart (show IsS63 w _ g562 t559 x563001_4 x563002_4 from (iw HI562.out)) (ro HO_9.out) (by decide)) hk (fun _ h => h.2)) (fun _ h => h.1)); replace HO_559000 := am (Kd.Q_mono (Kd.Q_keep (IsS63.apartQ (show IsS63 w _ g562 t559 x563001_4 x563002_4 from (iw HI562.out)) (qo HO_559000.out) (by decide)) hk (fun _ h => h.2)) (fun _ h => h.1)); replace BK553 := kk hk BK553 NB553_562; replace BK558 := kk hk BK558 NB558_562; replace HB := am (hb); replace HI562 := am (hi); clear hb hk hi; obtain ⟨Ao42, co42, eo42⟩ := Kd.R_slice HO_9.out; subst eo42) | ((with_reducible refine gate_dst (N := 45) rfl ?_); refine Kd.R_lit (Kd.int .i64) _ 3 ?hg (N := 45) ?hd (xs := ([(-1), 1000000, 1000001, 3] : List Int)) (inner := [.int .i64 (-1), .int .i64 1000000, .int .i64 1000001, .int .i64 3]) (ok := fun _ => True) (okp := fun _ => True) ?hr ?hp (fun _ hk => hk) trivial (Below.refl _ _) (Nat.le_refl _) (by simp) ?_; (case hd => rfl); (case hg => rfl); (case hr => first | (go_simp; done) | (go_simp; rfl)); (case hp => exact (Reps.one (show Kd.M (Kd.int .i64) _ _ _ (-1) [.int .i64 (-1)] from rfl) (Reps.one (show Kd.M (Kd.int .i64) _ _ _ 1000000 [.int .i64 1000000] from rfl) (Reps.one (show Kd.M (Kd.int .i64) _ _ _ 1000001 [.int .i64 1000001] from rfl) (Reps.one (show Kd.M (Kd.int .i64) _ _ _ 3 [.int .i64 3] from rfl) (Reps.none _ _)))))); intro v583 w43 ho44 hb hg_ hnew_; clear hg_ hnew_; (first | rw [← Ny582.out] at ho44 | (simp only [Int.reduceToNat] at ho44; rw [← Ny582.out] at ho44)); have HO584 := am (Kd.R_lower (Kd.R_new' (Kd.R_new' ho44 (Kd.R_lt (ro HO_9.out))) (Kd.Q_lt (qo HO_559000.out))) (below_size bv)); replace HO_9 := am (Kd.R_elder' (ro HO_9.out) (Kd.R_base ho44) hb); replace HO_559000 := am (Kd.Q_elder' (qo HO_559000.out) (Kd.R_base ho44) hb); replace BK553 := kb BK553 hb; replace BK558 := kb BK558 hb; replace HB := am (below_step bv hb); replace HI562 := am (IsS63.below (iw HI562.out) hb); clear hb ho44; obtain ⟨Ao45, co45, eo45⟩ := Kd.R_slice HO584.out; subst eo45) | ((with_reducible refine gate_callee (f := 30) rfl ?_); refine goesL_ (some 46) rfl rfl Tryd.func30 (by kernel_rfl) rfl #[.pointer (some ⟨g562, 0, none⟩), .slice Ao45 y582.length co45] rfl (by (try simp only [List.map_toArray, List.map_cons, List.map_nil]); first | done | rfl | (simp only [List.length_drop, List.length_take]; rfl)) ?_; (with_reducible refine (spec_l1PickInt.calls g562 t559 t577 t578 _ _ y582 t585 t586 t587 w _ ?side1 ?side2 ?side3 ?side4 ?side5 A38.out).mono ?_); (case side1 => exact iw HI562.out); (case side2 => exact bv); (case side3 => exact co (Kd.R_reads' HO584.out).2.2); (case side4 => exact (Kd.R_reads' HO584.out).2.1); (case side5 => exact far_slice (IsS63.own_ne HI562.out HO584.out (by decide))); rintro e w46 ⟨rfl, hi, hb, hk⟩; refine ⟨_, rfl, ?_⟩; replace HO_9 := am (Kd.R_mono (Kd.R_keep (IsS63.apart (show IsS63 w _ g562 t559 t577 t578 from (iw HI562.out)) (ro HO_9.out) (by decide)) hk (fun _ h => h.2)) (fun _ h => h.1)); replace HO_559000 := am (Kd.Q_mono (Kd.Q_keep (IsS63.apartQ (show IsS63 w _ g562 t559 t577 t578 from (iw HI562.out)) (qo HO_559000.out) (by decide)) hk (fun _ h => h.2)) (fun _ h => h.1)); replace BK553 := kk hk BK553 NB553_562; replace BK558 := kk hk BK558 NB558_562; replace HO584 := am (Kd.R_mono (Kd.R_keep (IsS63.apart (show IsS63 w _ g562 t559 t577 t578 from (iw HI562.out)) (ro HO584.out) (by decide)) hk (fun _ h => h.2)) (fun _ h => h.1)); replace HB := am (hb); replace HI562 := am (hi); clear hb hk hi; have p40 : 0 ≤ (0 : Int) := (by omega); have q40 : (0 : Int) < ((x9_4.length : Int) : Int) := of_decide_eq_true (by first | (with_reducible assumption) | assumption); have qi40 : (0 < x9_4.length) = True := eq_true (by omega); obtain ⟨go40, co40, eo40, gb40, gl40, cl40, HG40⟩ := Kd.R_form HO_9.out (by omega); (first | cases eo40 | (injection eo40 with ea_ en_ ec_; (first | subst ea_ | (injection ea_ with ea_; subst ea_)); subst ec_; clear en_)); have GB40 := am gb40; have GG40 := am HG40; clear gb40 gl40 HG40; obtain ⟨hx40_0, hf40_0⟩ := Kd.R_celln 0 HO_9.out (0 : Int) p40 q40; (try rw [show ((0 : Int)).toNat = 0 from rfl] at hx40_0); (try simp only [Nat.reduceMul, Nat.zero_mul, Nat.zero_add, Nat.reduceAdd] at hx40_0); (try rw [show ((0 : Int)).toNat = 0 from rfl] at hf40_0); (try simp only [Nat.reduceMul, Nat.zero_mul, Nat.zero_add, Nat.reduceAdd] at hf40_0); replace p40 := eq_true p40; replace q40 := eq_true q40; obtain ⟨hy47_, hz47_⟩ := Kd.R_celln 0 HO_9.out (0 : Int) (by omega) (of_decide_eq_true (by first | (with_reducible assumption) | assumption)); (try simp only [Int.reduceToNat, Int.toNat_zero, Int.toNat_ofNat, Nat.reduceMul, Nat.zero_mul, Nat.zero_add] at hy47_ hz47_); (try rw [show ((0 : Int)).toNat = 0 from rfl] at hy47_); (try rw [show ((0 : Int)).toNat = 0 from rfl] at hz47_); have HP47 := Kd.R_putg HO_9.out (0 : Int) t585) | ((with_reducible refine gate_store (t := 3) (p := 47) rfl ?_); refine store_event (t := 3) (p := 47) (v := ?vo_w48) (w1 := (w46.setCell ⟨go40, (0 : Int).toNat, none⟩ (.int .i64 t585))) ?hg ?ho ?hn ?hr ?_; (case ho => rfl); (case hg => rfl); (case hn => rfl); (case hr => first | (go_simp; done) | (go_simp; rfl)); intro w48 hw; have hg : w46.grownBy w48 (some go40) := (by rw [hw]; exact HP47.2); have hp_ : Kd.R (Kd.int .i64) 3 w48 w.heap.size (fun k_ => nb k_ Ao9 t554 co9 ∧ nb k_ Ao45 y582 co45) (.slice (some ⟨go40, 0, none⟩) x9_4.length co42) y588 := (by rw [hw, Ny588.out]; exact HP47.1); clear HP47; replace HO_559000 := am (Kd.Q_after (v := (.slice (some ⟨go40, 0, none⟩) x9_4.length co42)) (v1 := (.slice (some ⟨go40, 0, none⟩) x9_4.length co42)) (ok := (fun k_ => nb k_ Ao45 y582 co45)) (by (with_reducible repeat (first | apply Kd.Q_alloc | apply Kd.Q_drewN | apply Kd.Q_drew)); exact Kd.Q_mono HO_559000.out (fun _ hk => by first | exact ⟨hk.2, hk.1⟩ | simp_all)) hg (.inl rfl)); replace BK553 := am (blk_grown (g := gb553) (o := .cells #[.slice none 0 0] 26 (0, 0)) (bo BK553.out) hg (Kd.R_ne HO_9.out BK553.out (by decide))); replace BK558 := am (blk_grown (g := gb558) (o := .cells #[.slice Ao9 t554.length co9] 26 (0, 0)) (bo BK558.out) hg (Kd.R_ne HO_9.out BK558.out (by decide))); replace HI562 := am (IsS63.grown (iw HI562.out) hg (IsS63.own_ne HI562.out HO_9.out (by decide))); replace HO_9 := am (hp_); replace HO584 := am (Kd.R_after (v := (.slice (some ⟨go40, 0, none⟩) x9_4.length co42)) (v1 := (.slice (some ⟨go40, 0, none⟩) x9_4.length co42)) (ok := (fun k_ => nb k_ Ao9 t554 co9)) (by (with_reducible repeat (first | apply Kd.R_alloc | apply Kd.R_drewN | apply Kd.R_drew)); exact Kd.R_mono HO584.out (fun _ hk => by first | exact ⟨hk.2, hk.1.2⟩ | simp_all)) hg (.inl rfl)); replace HB := am ((by rw [hw]; exact below_set (HB.out) GB40.out : Below w.heap.size w w48)); clear hg hw hp_; have hnb49 := NB558_553.out; have hnc49 := NB553_558.out; have hnb50 := NB558_562.out; have hnc50 := NB562_558.out; have hcz51_0 := bc BK558 0 (.slice Ao9 t554.length co9); have hfz51_0 := blk_frozen BK558.out 0; have hnb52 := NB553_562.out; have hnc52 := NB562_553.out; have hcz53_0 := bc BK553 0 (.slice none 0 0); have hfz53_0 := blk_frozen BK553.out 0))
     refine bodyPost_ret (results_ctt rfl _ _ gb553 26 #[.slice Ao9 t554.length co9] (0, 0) _ rfl (bp BK553.out) Tryd.underlying26 rfl (by kernel_rfl)) rfl ?_
     exact ⟨_, _, re, by (with_reducible repeat (first | apply Kd.Q_alloc | apply Kd.Q_drewN | apply Kd.Q_drew)); exact Kd.Q_mono (Kd.Q_far (p := ⟨gb553, 0, none⟩) (Kd.Q_types HO_559000.out BK553.out (by decide)) (fun _ hk => hk.2) (.slice Ao9 t554.length co9)) (fun _ hk => by first | exact hk.1.2 | simp_all), by (with_reducible repeat (first | apply Kd.R_alloc | apply Kd.R_drewN | apply Kd.R_drew)); exact Kd.R_mono (Kd.R_far (p := ⟨gb553, 0, none⟩) (Kd.R_types HO_9.out BK553.out (by decide)) (fun _ hk => hk.2) (.slice Ao9 t554.length co9)) (fun _ hk => by first | exact hk.1.1 | simp_all), bv⟩
    have c37b0 : decide (0 < (x9_4.length : Int)) = false := decide_eq_false c37
    have c37b1 : decide (0 < x9_4.length) = false := decide_eq_false (by omega)
    clear c37
    simp only [Option.some.injEq, Prod.mk.injEq] at H
    obtain ⟨rfl, rfl, rfl⟩ := H
    go_wp2_with (first | ((with_reducible refine gate_callee (f := 31) rfl ?_); refine goesL_ (some 32) rfl rfl Tryd.func31 (by kernel_rfl) rfl #[.pointer (some ⟨g562, 0, none⟩), .int .i64 10] rfl (by (try simp only [List.map_toArray, List.map_cons, List.map_nil]); first | done | rfl | (simp only [List.length_drop, List.length_take]; rfl)) ?_; (with_reducible refine (spec_l1Below.calls g562 t559 x563001_4 x563002_4 10 t576 t577 t578 w _ ?side1 ?side2 A26.out).mono ?_); (case side1 => exact iw HI562.out); (case side2 => exact bv); rintro e w54 ⟨rfl, hi, hb, hk⟩; refine ⟨_, rfl, ?_⟩; replace HO_9 := am (Kd.R_mono (Kd.R_keep (IsS63.apart (show IsS63 w _ g562 t559 x563001_4 x563002_4 from (iw HI562.out)) (ro HO_9.out) (by decide)) hk (fun _ h => h.2)) (fun _ h => h.1)); replace HO_559000 := am (Kd.Q_mono (Kd.Q_keep (IsS63.apartQ (show IsS63 w _ g562 t559 x563001_4 x563002_4 from (iw HI562.out)) (qo HO_559000.out) (by decide)) hk (fun _ h => h.2)) (fun _ h => h.1)); replace BK553 := kk hk BK553 NB553_562; replace BK558 := kk hk BK558 NB558_562; replace HB := am (hb); replace HI562 := am (hi); clear hb hk hi; obtain ⟨Ao55, co55, eo55⟩ := Kd.R_slice HO_9.out; subst eo55; have hnb56 := NB558_553.out; have hnc56 := NB553_558.out; have hnb57 := NB558_562.out; have hnc57 := NB562_558.out; have hcz58_0 := bc BK558 0 (.slice Ao9 t554.length co9); have hfz58_0 := blk_frozen BK558.out 0; have hnb59 := NB553_562.out; have hnc59 := NB562_553.out; have hcz60_0 := bc BK553 0 (.slice none 0 0); have hfz60_0 := blk_frozen BK553.out 0))
    refine bodyPost_ret (results_ctt rfl _ _ gb553 26 #[.slice Ao9 t554.length co9] (0, 0) _ rfl (bp BK553.out) Tryd.underlying26 rfl (by kernel_rfl)) rfl ?_
    exact ⟨_, _, re, by (with_reducible repeat (first | apply Kd.Q_alloc | apply Kd.Q_drewN | apply Kd.Q_drew)); exact Kd.Q_mono (Kd.Q_far (p := ⟨gb553, 0, none⟩) (Kd.Q_types HO_559000.out BK553.out (by decide)) (fun _ hk => hk.2) (.slice Ao9 t554.length co9)) (fun _ hk => hk.1), by (with_reducible repeat (first | apply Kd.R_alloc | apply Kd.R_drewN | apply Kd.R_drew)); exact Kd.R_mono (Kd.R_far (p := ⟨gb553, 0, none⟩) (Kd.R_types HO_9.out BK553.out (by decide)) (fun _ hk => hk.2) (.slice Ao9 t554.length co9)) (fun _ hk => hk.1), bv⟩
   rw [if_neg c36] at H
   have c36b0 : (t576 == 1) = false := beq_eq_false_iff_ne.mpr c36
   have c36b1 : (t576 != 1) = true := bne_iff_ne.mpr c36
   simp only [Option.some.injEq, Prod.mk.injEq] at H
   obtain ⟨rfl, rfl, rfl⟩ := H
   go_wp2_with (first | ((with_reducible refine gate_callee (f := 31) rfl ?_); refine goesL_ (some 32) rfl rfl Tryd.func31 (by kernel_rfl) rfl #[.pointer (some ⟨g562, 0, none⟩), .int .i64 10] rfl (by (try simp only [List.map_toArray, List.map_cons, List.map_nil]); first | done | rfl | (simp only [List.length_drop, List.length_take]; rfl)) ?_; (with_reducible refine (spec_l1Below.calls g562 t559 x563001_4 x563002_4 10 t576 t577 t578 w _ ?side1 ?side2 A26.out).mono ?_); (case side1 => exact iw HI562.out); (case side2 => exact bv); rintro e w61 ⟨rfl, hi, hb, hk⟩; refine ⟨_, rfl, ?_⟩; replace HO_9 := am (Kd.R_mono (Kd.R_keep (IsS63.apart (show IsS63 w _ g562 t559 x563001_4 x563002_4 from (iw HI562.out)) (ro HO_9.out) (by decide)) hk (fun _ h => h.2)) (fun _ h => h.1)); replace HO_559000 := am (Kd.Q_mono (Kd.Q_keep (IsS63.apartQ (show IsS63 w _ g562 t559 x563001_4 x563002_4 from (iw HI562.out)) (qo HO_559000.out) (by decide)) hk (fun _ h => h.2)) (fun _ h => h.1)); replace BK553 := kk hk BK553 NB553_562; replace BK558 := kk hk BK558 NB558_562; replace HB := am (hb); replace HI562 := am (hi); clear hb hk hi; have hnb62 := NB558_553.out; have hnc62 := NB553_558.out; have hnb63 := NB558_562.out; have hnc63 := NB562_558.out; have hcz64_0 := bc BK558 0 (.slice Ao9 t554.length co9); have hfz64_0 := blk_frozen BK558.out 0; have hnb65 := NB553_562.out; have hnc65 := NB562_553.out; have hcz66_0 := bc BK553 0 (.slice none 0 0); have hfz66_0 := blk_frozen BK553.out 0))
   refine bodyPost_ret (results_ctt rfl _ _ gb553 26 #[.slice Ao9 t554.length co9] (0, 0) _ rfl (bp BK553.out) Tryd.underlying26 rfl (by kernel_rfl)) rfl ?_
   exact ⟨_, _, re, by (with_reducible repeat (first | apply Kd.Q_alloc | apply Kd.Q_drewN | apply Kd.Q_drew)); exact Kd.Q_mono (Kd.Q_far (p := ⟨gb553, 0, none⟩) (Kd.Q_types HO_559000.out BK553.out (by decide)) (fun _ hk => hk.2) (.slice Ao9 t554.length co9)) (fun _ hk => hk.1), by (with_reducible repeat (first | apply Kd.R_alloc | apply Kd.R_drewN | apply Kd.R_drew)); exact Kd.R_mono (Kd.R_far (p := ⟨gb553, 0, none⟩) (Kd.R_types HO_9.out BK553.out (by decide)) (fun _ hk => hk.2) (.slice Ao9 t554.length co9)) (fun _ hk => hk.1), bv⟩


/-! ### spec_DrawIsFactorization: function 8 -/
def spec_DrawIsFactorization.f (k : Nat) (l0 : List Int) : Option (List Int × Int × List Int) := (spec_l11List.f k l0).bind fun bt590 => (some (bt590.1, bt590.2.1, bt590.2.2))
set_option maxHeartbeats 8000000 in
set_option maxRecDepth 100000 in
theorem spec_DrawIsFactorization.calls (k : Nat) (A0 : Option Addr) (c0 : Nat) (l0 : List Int) (r1 : List Int) (r2 : Int) (r3 : List Int) (w : World) (hr0 : Kd.C (Kd.int .u8) w A0 l0.length l0) (hc0 : l0.length ≤ c0) (h : spec_DrawIsFactorization.f k l0 = some (r1, r2, r3)) :
  Calls Tryd.prog 8 #[.slice A0 l0.length c0] w fun e w' => ∃ v0_ v2_ : Value, e = .returned (.tuple #[.agg #[v0_], .int .i64 r2, v2_]) ∧ Kd.Q (Kd.int .i64) 3 w' w.heap.size (fun k_ => some k_ ≠ (v2_ : Value).ownBlock) v0_ r1 ∧ Kd.R (Kd.int .i64) 3 w' w.heap.size (fun k_ => some k_ ≠ (v0_ : Value).ownBlock) v2_ r3 ∧ Below w.heap.size w w' := by
 have hu26 := Tryd.underlying26
 have HR0 := am hr0
 have HC0 := am hc0
 clear hr0 hc0
 have HB := am (Below.refl w.heap.size w)
 have H : ((spec_l11List.f k l0).bind fun bt590 => (some (bt590.1, bt590.2.1, bt590.2.2))) = some (r1, r2, r3) := h
 clear h
 replace H := ga H; obtain ⟨⟨t590, t593, t594⟩, A2, H⟩ := H
 replace H : (some (t590, t593, t594)) = some (r1, r2, r3) := H
 simp only [Option.some.injEq, Prod.mk.injEq] at H
 obtain ⟨rfl, rfl, rfl⟩ := H
 go_enter Tryd.func8, Tryd.ntmps8
 go_wp2_with (first | ((with_reducible refine gate_dst (N := 2) rfl ?_); refine bx 2 #[.slice none 0 0] 26 ?_; intro gb589 hg w3 hbox hb; have BK589 := am (hbox); have GW589 := am (gs hg : w.heap.size ≤ gb589); have GE589 := GW589; replace HB := am (below_step bw hb); clear hb hbox hg) | ((with_reducible refine gate_callee (f := 32) rfl ?_); refine goesL_ (some 10) rfl rfl Tryd.func32 (by kernel_rfl) rfl #[.slice A0 l0.length c0] rfl (by (try simp only [List.map_toArray, List.map_cons, List.map_nil]); first | done | rfl | (simp only [List.length_drop, List.length_take]; rfl)) ?_; (with_reducible refine (spec_l11List.calls k _ _ l0 t590 t593 t594 _ ?side1 ?side2 A2.out).mono ?_); (case side1 => exact co (Kd.C_below HR0.out HB.out)); (case side2 => exact HC0.out); rintro e w4 ⟨v591, v595, rfl, ho0, ho1, hb⟩; refine ⟨_, rfl, ?_⟩; have HO592 := am (Kd.Q_lower ho0 (below_size bw)); have HO596 := am (Kd.R_lower ho1 (below_size bw)); replace BK589 := kb BK589 hb; replace HB := am (below_step bw hb); clear hb ho0 ho1) | ((with_reducible refine gate_dst (N := 5) rfl ?_); refine bx 5 #[.slice none 0 0] 26 ?_; intro gb597 hg w5 hbox hb; replace HO592 := qK HO592 hb; replace HO596 := rK HO596 hb; have BK597 := am (hbox); have GW597 := am (gs hg : w.heap.size ≤ gb597); have GE597 := GW597; replace HB := am (below_step bw hb); have NB589_597 := nl hg BK589; have NB597_589 := ns NB589_597; replace BK589 := kb BK589 hb; clear hb hbox hg; obtain ⟨Ao6, co6, eo6, _⟩ := Kd.Q_slice HO592.out; subst eo6; have hnb7 := NB597_589.out; have hnc7 := NB589_597.out; have hcz8_0 := bc BK597 0 (.slice none 0 0); have hfz8_0 := blk_frozen BK597.out 0; have hcz9_0 := bc BK589 0 (.slice none 0 0); have hfz9_0 := blk_frozen BK589.out 0))
 refine bodyPost_ret (results_ctt rfl _ _ gb589 26 #[.slice Ao6 t590.length co6] (0, 0) _ rfl (by (with_reducible repeat (first | refine blk_drewN ?_ _ | refine blk_drew ?_ | refine blk_alloc ?_ _)); refine blk_put (cs := #[.slice none 0 0]) ?_ 0 _ rfl; (with_reducible repeat (first | refine blk_drewN ?_ _ | refine blk_drew ?_ | refine blk_alloc ?_ _)); refine blk_far ?_ NB589_597.out _; (with_reducible repeat (first | refine blk_drewN ?_ _ | refine blk_drew ?_ | refine blk_alloc ?_ _)); exact BK589.out) Tryd.underlying26 rfl (by kernel_rfl)) rfl ?_
 exact ⟨_, _, re, by (with_reducible repeat (first | apply Kd.Q_alloc | apply Kd.Q_drewN | apply Kd.Q_drew)); exact Kd.Q_mono (Kd.Q_far (p := ⟨gb589, 0, none⟩) (Kd.Q_far (p := ⟨gb597, 0, none⟩) (Kd.Q_types (Kd.Q_types HO592.out BK597.out (by decide)) BK589.out (by decide)) (fun _ hk => by first | exact hk.1.2 | simp_all) (.slice Ao6 t590.length co6)) (fun _ hk => hk.2) (.slice Ao6 t590.length co6)) (fun _ hk => by first | exact hk.1.1 | simp_all), by (with_reducible repeat (first | apply Kd.R_alloc | apply Kd.R_drewN | apply Kd.R_drew)); exact Kd.R_mono (Kd.R_far (p := ⟨gb589, 0, none⟩) (Kd.R_far (p := ⟨gb597, 0, none⟩) (Kd.R_types (Kd.R_types HO596.out BK597.out (by decide)) BK589.out (by decide)) (fun _ hk => by first | exact hk.1.2 | simp_all) (.slice Ao6 t590.length co6)) (fun _ hk => hk.2) (.slice Ao6 t590.length co6)) (fun _ hk => by first | exact hk.1.1 | simp_all), bw⟩


/-! ### spec_DrawValueOf: function 9 -/
def spec_DrawValueOf.f (k : Nat) (l0 : List Int) : Option (List Int × List Int) := (spec_l11List.f k l0).bind fun bt599 => (some (bt599.1, bt599.2.2))
set_option maxHeartbeats 8000000 in
set_option maxRecDepth 100000 in
theorem spec_DrawValueOf.calls (k : Nat) (A0 : Option Addr) (c0 : Nat) (l0 : List Int) (r1 : List Int) (r2 : List Int) (w : World) (hr0 : Kd.C (Kd.int .u8) w A0 l0.length l0) (hc0 : l0.length ≤ c0) (h : spec_DrawValueOf.f k l0 = some (r1, r2)) :
  Calls Tryd.prog 9 #[.slice A0 l0.length c0] w fun e w' => ∃ v0_ v1_ : Value, e = .returned (.tuple #[.agg #[v0_], v1_]) ∧ Kd.Q (Kd.int .i64) 3 w' w.heap.size (fun k_ => some k_ ≠ (v1_ : Value).ownBlock) v0_ r1 ∧ Kd.R (Kd.int .i64) 3 w' w.heap.size (fun k_ => some k_ ≠ (v0_ : Value).ownBlock) v1_ r2 ∧ Below w.heap.size w w' := by
 have hu26 := Tryd.underlying26
 have HR0 := am hr0
 have HC0 := am hc0
 clear hr0 hc0
 have HB := am (Below.refl w.heap.size w)
 have H : ((spec_l11List.f k l0).bind fun bt599 => (some (bt599.1, bt599.2.2))) = some (r1, r2) := h
 clear h
 replace H := ga H; obtain ⟨⟨t599, t602, t603⟩, A2, H⟩ := H
 replace H : (some (t599, t603)) = some (r1, r2) := H
 simp only [Option.some.injEq, Prod.mk.injEq] at H
 obtain ⟨rfl, rfl⟩ := H
 go_enter Tryd.func9, Tryd.ntmps9
 go_wp2_with (first | ((with_reducible refine gate_dst (N := 2) rfl ?_); refine bx 2 #[.slice none 0 0] 26 ?_; intro gb598 hg w3 hbox hb; have BK598 := am (hbox); have GW598 := am (gs hg : w.heap.size ≤ gb598); have GE598 := GW598; replace HB := am (below_step bw hb); clear hb hbox hg) | ((with_reducible refine gate_callee (f := 32) rfl ?_); refine goesL_ (some 9) rfl rfl Tryd.func32 (by kernel_rfl) rfl #[.slice A0 l0.length c0] rfl (by (try simp only [List.map_toArray, List.map_cons, List.map_nil]); first | done | rfl | (simp only [List.length_drop, List.length_take]; rfl)) ?_; (with_reducible refine (spec_l11List.calls k _ _ l0 t599 t602 t603 _ ?side1 ?side2 A2.out).mono ?_); (case side1 => exact co (Kd.C_below HR0.out HB.out)); (case side2 => exact HC0.out); rintro e w4 ⟨v600, v604, rfl, ho0, ho1, hb⟩; refine ⟨_, rfl, ?_⟩; have HO601 := am (Kd.Q_lower ho0 (below_size bw)); have HO605 := am (Kd.R_lower ho1 (below_size bw)); replace BK598 := kb BK598 hb; replace HB := am (below_step bw hb); clear hb ho0 ho1) | ((with_reducible refine gate_dst (N := 4) rfl ?_); refine bx 4 #[.slice none 0 0] 26 ?_; intro gb606 hg w5 hbox hb; replace HO601 := qK HO601 hb; replace HO605 := rK HO605 hb; have BK606 := am (hbox); have GW606 := am (gs hg : w.heap.size ≤ gb606); have GE606 := GW606; replace HB := am (below_step bw hb); have NB598_606 := nl hg BK598; have NB606_598 := ns NB598_606; replace BK598 := kb BK598 hb; clear hb hbox hg; obtain ⟨Ao6, co6, eo6, _⟩ := Kd.Q_slice HO601.out; subst eo6; have hnb7 := NB606_598.out; have hnc7 := NB598_606.out; have hcz8_0 := bc BK606 0 (.slice none 0 0); have hfz8_0 := blk_frozen BK606.out 0; have hcz9_0 := bc BK598 0 (.slice none 0 0); have hfz9_0 := blk_frozen BK598.out 0))
 refine bodyPost_ret (results_ct rfl _ _ gb598 26 #[.slice Ao6 t599.length co6] (0, 0) _ rfl (by (with_reducible repeat (first | refine blk_drewN ?_ _ | refine blk_drew ?_ | refine blk_alloc ?_ _)); refine blk_put (cs := #[.slice none 0 0]) ?_ 0 _ rfl; (with_reducible repeat (first | refine blk_drewN ?_ _ | refine blk_drew ?_ | refine blk_alloc ?_ _)); refine blk_far ?_ NB598_606.out _; (with_reducible repeat (first | refine blk_drewN ?_ _ | refine blk_drew ?_ | refine blk_alloc ?_ _)); exact BK598.out) Tryd.underlying26 rfl (by kernel_rfl)) rfl ?_
 exact ⟨_, _, re, by (with_reducible repeat (first | apply Kd.Q_alloc | apply Kd.Q_drewN | apply Kd.Q_drew)); exact Kd.Q_mono (Kd.Q_far (p := ⟨gb598, 0, none⟩) (Kd.Q_far (p := ⟨gb606, 0, none⟩) (Kd.Q_types (Kd.Q_types HO601.out BK606.out (by decide)) BK598.out (by decide)) (fun _ hk => by first | exact hk.1.2 | simp_all) (.slice Ao6 t599.length co6)) (fun _ hk => hk.2) (.slice Ao6 t599.length co6)) (fun _ hk => by first | exact hk.1.1 | simp_all), by (with_reducible repeat (first | apply Kd.R_alloc | apply Kd.R_drewN | apply Kd.R_drew)); exact Kd.R_mono (Kd.R_far (p := ⟨gb598, 0, none⟩) (Kd.R_far (p := ⟨gb606, 0, none⟩) (Kd.R_types (Kd.R_types HO605.out BK606.out (by decide)) BK598.out (by decide)) (fun _ hk => by first | exact hk.1.2 | simp_all) (.slice Ao6 t599.length co6)) (fun _ hk => hk.2) (.slice Ao6 t599.length co6)) (fun _ hk => by first | exact hk.1.1 | simp_all), bw⟩


/-! ### laws_sameInts: function 21 -/
def laws_sameInts.l0 : Nat → List Int → List Int → Int → Option (Bool)
 | 0, _, _, _ => none
 | k + 1, x0, x1, x5 => if x5 < (x0.length : Int) then (if 0 ≤ x5 then (if x5 < (x1.length : Int) then (if (rd x0 x5) = (rd x1 x5) then (laws_sameInts.l0 k x0 x1 (wrap64 (x5 + 1))) else (some false)) else (none)) else (none)) else (some true)
def laws_sameInts.f (k : Nat) (l0 : List Int) (l1 : List Int) : Option (Bool) := if (l0.length : Int) = (l1.length : Int) then (laws_sameInts.l0 k l0 l1 0) else (some false)
set_option maxHeartbeats 8000000 in
set_option maxRecDepth 100000 in
theorem laws_sameInts.calls (k : Nat) (A0 : Option Addr) (c0 : Nat) (l0 : List Int) (A1 : Option Addr) (c1 : Nat) (l1 : List Int) (r : Bool) (w : World) (hr0 : Kd.C (Kd.int .i64) w A0 l0.length l0) (hc0 : l0.length ≤ c0) (hr1 : Kd.C (Kd.int .i64) w A1 l1.length l1) (hc1 : l1.length ≤ c1) (h : laws_sameInts.f k l0 l1 = some r) :
  Calls Tryd.prog 21 #[.slice A0 l0.length c0, .slice A1 l1.length c1] w fun e w' => e = .returned (.bool r) ∧ Drawn0 w w' := by
 have HR0 := am hr0
 have HC0 := am hc0
 clear hr0 hc0
 have HR1 := am hr1
 have HC1 := am hc1
 clear hr1 hc1
 have H : (if (l0.length : Int) = (l1.length : Int) then (laws_sameInts.l0 k l0 l1 0) else (some false)) = some r := h
 clear h
 by_cases c3 : (l0.length : Int) = (l1.length : Int)
 ·rw [if_pos c3] at H
  have c3b0 : ((l0.length : Int) == (l1.length : Int)) = true := beq_iff_eq.mpr c3
  have c3b1 : ((l0.length : Int) != (l1.length : Int)) = false := bne_eq_false_iff_eq.mpr c3
  have c3b2 : (l0.length == l1.length) = true := by first | simpa using c3 | (simp at c3 ⊢; omega)
  clear c3
  have H' := am H
  clear H
  go_enter Tryd.func21, Tryd.ntmps21
  go_wp2
  repeat (go_quiet (fail); try go_wp2)
  go_loopg [5] k (fun kq v5 w' => ∃ (x5_1 : Int), v5 = .int .i64 x5_1 ∧ Aside0 (laws_sameInts.l0 kq l0 l1 x5_1 = some r) ∧ Aside0 (kq ≤ k) ∧ Drawn0 w w')
  case atStart => exact ⟨(0), rr, H', ⟨Nat.le_refl _⟩, dw⟩
  case round =>
   clear H'
   try clear c1; try clear c3; try clear c3b0; try clear c3b1; try clear c3b2
   obtain ⟨x5_1, rfl, HA, HK1, ⟨m1, rfl⟩⟩ := hrel
   cases gk with
   | zero => exact absurd HA.out (by simp [laws_sameInts.l0])
   | succ k1 =>
    have H := HA.out
    clear HA
    simp only [laws_sameInts.l0] at H
    replace H := gi H; obtain ⟨c4b0, H⟩ | ⟨c4b0, H⟩ := H
    ·replace H := gd H; obtain ⟨c5b0, H⟩ := H
     replace H := gd H; obtain ⟨c6b0, H⟩ := H
     by_cases c7 : (rd l0 x5_1) = (rd l1 x5_1)
     ·rw [if_pos c7] at H
      have c7b0 : ((rd l0 x5_1) == (rd l1 x5_1)) = true := beq_iff_eq.mpr c7
      have c7b1 : ((rd l0 x5_1) != (rd l1 x5_1)) = false := bne_eq_false_iff_eq.mpr c7
      clear c7
      have H' := am H
      clear H
      obtain ⟨⟨ad607, e607, hx607_0⟩, p607, q607⟩ := pq (Kd.at_int HR0.out x5_1)
      cases e607
      obtain ⟨⟨ad608, e608, hx608_0⟩, p608, q608⟩ := pq (Kd.at_int HR1.out x5_1)
      cases e608
      go_wp2
      repeat (go_quiet (fail); try go_wp2)
      go_roundg k1
      case measure => have := HK1.out; omega
      case rel => exact ⟨(wrap64 (x5_1 + 1)), rr, H', ⟨by have := HK1.out; omega⟩, dw⟩
     rw [if_neg c7] at H
     have c7b0 : ((rd l0 x5_1) == (rd l1 x5_1)) = false := beq_eq_false_iff_ne.mpr c7
     have c7b1 : ((rd l0 x5_1) != (rd l1 x5_1)) = true := bne_iff_ne.mpr c7
     obtain rfl := Option.some.inj H
     obtain ⟨⟨ad607, e607, hx607_0⟩, p607, q607⟩ := pq (Kd.at_int HR0.out x5_1)
     cases e607
     obtain ⟨⟨ad608, e608, hx608_0⟩, p608, q608⟩ := pq (Kd.at_int HR1.out x5_1)
     cases e608
     go_wp2
     repeat (go_quiet (fail); try go_wp2)
     go_ret
     exact ⟨rr, dw⟩
    obtain rfl := Option.some.inj H
    go_wp2
    repeat (go_quiet (fail); try go_wp2)
    go_ret
    exact ⟨rr, dw⟩
 rw [if_neg c3] at H
 have c3b0 : ((l0.length : Int) == (l1.length : Int)) = false := beq_eq_false_iff_ne.mpr c3
 have c3b1 : ((l0.length : Int) != (l1.length : Int)) = true := bne_iff_ne.mpr c3
 have c3b2 : (l0.length == l1.length) = false := by first | simpa using c3 | (simp at c3 ⊢; omega)
 obtain rfl := Option.some.inj H
 go_enter Tryd.func21, Tryd.ntmps21
 go_wp2
 repeat (go_quiet (fail); try go_wp2)
 go_ret
 exact ⟨rr, dw⟩


/-! ### laws_sameLists: function 10 -/
def laws_sameLists.l0 : Nat → List (List Int) → List (List Int) → Int → Option (Bool)
 | 0, _, _, _ => none
 | k + 1, x0, x1, x5 => if x5 < (x0.length : Int) then (if 0 ≤ x5 then (if x5 < (x1.length : Int) then ((laws_sameInts.f k (rd_L2 x0 x5) (rd_L2 x1 x5)).bind fun t611 => (if t611 = true then (laws_sameLists.l0 k x0 x1 (wrap64 (x5 + 1))) else (some false))) else (none)) else (none)) else (some true)
def laws_sameLists.f (k : Nat) (l0 : List (List Int)) (l1 : List (List Int)) : Option (Bool) := if (l0.length : Int) = (l1.length : Int) then (laws_sameLists.l0 k l0 l1 0) else (some false)
set_option maxHeartbeats 8000000 in
set_option maxRecDepth 100000 in
theorem laws_sameLists.calls (k : Nat) (A0 : Option Addr) (c0 : Nat) (l0 : List (List Int)) (A1 : Option Addr) (c1 : Nat) (l1 : List (List Int)) (r : Bool) (w : World) (hr0 : Kd.C (Kd.slice 3 (Kd.int .i64)) w A0 l0.length l0) (hc0 : l0.length ≤ c0) (hr1 : Kd.C (Kd.slice 3 (Kd.int .i64)) w A1 l1.length l1) (hc1 : l1.length ≤ c1) (h : laws_sameLists.f k l0 l1 = some r) :
  Calls Tryd.prog 10 #[.slice A0 l0.length c0, .slice A1 l1.length c1] w fun e w' => e = .returned (.bool r) ∧ Drawn0 w w' := by
 have HR0 := am hr0
 have HC0 := am hc0
 clear hr0 hc0
 have HR1 := am hr1
 have HC1 := am hc1
 clear hr1 hc1
 have H : (if (l0.length : Int) = (l1.length : Int) then (laws_sameLists.l0 k l0 l1 0) else (some false)) = some r := h
 clear h
 by_cases c3 : (l0.length : Int) = (l1.length : Int)
 ·rw [if_pos c3] at H
  have c3b0 : ((l0.length : Int) == (l1.length : Int)) = true := beq_iff_eq.mpr c3
  have c3b1 : ((l0.length : Int) != (l1.length : Int)) = false := bne_eq_false_iff_eq.mpr c3
  have c3b2 : (l0.length == l1.length) = true := by first | simpa using c3 | (simp at c3 ⊢; omega)
  clear c3
  have H' := am H
  clear H
  go_enter Tryd.func10, Tryd.ntmps10
  go_wp2
  repeat (go_quiet (fail); try go_wp2)
  go_loopg [5] k (fun kq v5 w' => ∃ (x5_1 : Int), v5 = .int .i64 x5_1 ∧ Aside0 (laws_sameLists.l0 kq l0 l1 x5_1 = some r) ∧ Aside0 (kq ≤ k) ∧ Drawn0 w w')
  case atStart => exact ⟨(0), rr, H', ⟨Nat.le_refl _⟩, dw⟩
  case round =>
   clear H'
   try clear c1; try clear c3; try clear c3b0; try clear c3b1; try clear c3b2
   obtain ⟨x5_1, rfl, HA, HK1, ⟨m1, rfl⟩⟩ := hrel
   cases gk with
   | zero => exact absurd HA.out (by simp [laws_sameLists.l0])
   | succ k1 =>
    have H := HA.out
    clear HA
    simp only [laws_sameLists.l0] at H
    replace H := gi H; obtain ⟨c4b0, H⟩ | ⟨c4b0, H⟩ := H
    ·replace H := gd H; obtain ⟨c5b0, H⟩ := H
     replace H := gd H; obtain ⟨c6b0, H⟩ := H
     replace H := ga H; obtain ⟨t611, A7, H⟩ := H
     replace H := gb H; obtain ⟨rfl, H⟩ | ⟨rfl, H⟩ := H
     ·have H' := am H
      clear H
      obtain ⟨⟨ad609, A609_0, c609_0, e609, hx609_0, hl609_0, hi609_0⟩, p609, q609⟩ := pq (at_L2 HR0.out x5_1)
      cases e609
      have HR609_0 := am hi609_0
      have HC609_0 := am hl609_0
      clear hi609_0 hl609_0
      obtain ⟨⟨ad610, A610_0, c610_0, e610, hx610_0, hl610_0, hi610_0⟩, p610, q610⟩ := pq (at_L2 HR1.out x5_1)
      cases e610
      have HR610_0 := am hi610_0
      have HC610_0 := am hl610_0
      clear hi610_0 hl610_0
      go_wp2_with (first | (go_at_call 21; (with_reducible refine (laws_sameInts.calls k1 _ _ (rd_L2 l0 x5_1) _ _ (rd_L2 l1 x5_1) true _ ?side1 ?side2 ?side3 ?side4 A7.out).mono ?_); (case side1 => exact co HR609_0.out); (case side2 => exact HC609_0.out); (case side3 => exact co HR610_0.out); (case side4 => exact HC610_0.out); rintro e w' ⟨rfl, ⟨nd, rfl⟩⟩; (try first | exact ⟨rfl, _, World.drewN_drewN _ _ _⟩ | exact ⟨rfl, _, Eq.trans (World.drewN_drewN _ _ _) (congrArg (World.drewN _) (Nat.add_assoc _ _ _))⟩)))
      repeat (go_quiet (first | (go_at_call 21; (with_reducible refine (laws_sameInts.calls k1 _ _ (rd_L2 l0 x5_1) _ _ (rd_L2 l1 x5_1) true _ ?side1 ?side2 ?side3 ?side4 A7.out).mono ?_); (case side1 => exact co HR609_0.out); (case side2 => exact HC609_0.out); (case side3 => exact co HR610_0.out); (case side4 => exact HC610_0.out); rintro e w' ⟨rfl, ⟨nd, rfl⟩⟩; (try first | exact ⟨rfl, _, World.drewN_drewN _ _ _⟩ | exact ⟨rfl, _, Eq.trans (World.drewN_drewN _ _ _) (congrArg (World.drewN _) (Nat.add_assoc _ _ _))⟩))); try go_wp2_with (first | (go_at_call 21; (with_reducible refine (laws_sameInts.calls k1 _ _ (rd_L2 l0 x5_1) _ _ (rd_L2 l1 x5_1) true _ ?side1 ?side2 ?side3 ?side4 A7.out).mono ?_); (case side1 => exact co HR609_0.out); (case side2 => exact HC609_0.out); (case side3 => exact co HR610_0.out); (case side4 => exact HC610_0.out); rintro e w' ⟨rfl, ⟨nd, rfl⟩⟩; (try first | exact ⟨rfl, _, World.drewN_drewN _ _ _⟩ | exact ⟨rfl, _, Eq.trans (World.drewN_drewN _ _ _) (congrArg (World.drewN _) (Nat.add_assoc _ _ _))⟩))))
      go_roundg k1
      case measure => have := HK1.out; omega
      case rel => exact ⟨(wrap64 (x5_1 + 1)), rr, H', ⟨by have := HK1.out; omega⟩, dw⟩
     obtain rfl := Option.some.inj H
     obtain ⟨⟨ad609, A609_0, c609_0, e609, hx609_0, hl609_0, hi609_0⟩, p609, q609⟩ := pq (at_L2 HR0.out x5_1)
     cases e609
     have HR609_0 := am hi609_0
     have HC609_0 := am hl609_0
     clear hi609_0 hl609_0
     obtain ⟨⟨ad610, A610_0, c610_0, e610, hx610_0, hl610_0, hi610_0⟩, p610, q610⟩ := pq (at_L2 HR1.out x5_1)
     cases e610
     have HR610_0 := am hi610_0
     have HC610_0 := am hl610_0
     clear hi610_0 hl610_0
     go_wp2_with (first | (go_at_call 21; (with_reducible refine (laws_sameInts.calls k1 _ _ (rd_L2 l0 x5_1) _ _ (rd_L2 l1 x5_1) false _ ?side1 ?side2 ?side3 ?side4 A7.out).mono ?_); (case side1 => exact co HR609_0.out); (case side2 => exact HC609_0.out); (case side3 => exact co HR610_0.out); (case side4 => exact HC610_0.out); rintro e w' ⟨rfl, ⟨nd, rfl⟩⟩; (try first | exact ⟨rfl, _, World.drewN_drewN _ _ _⟩ | exact ⟨rfl, _, Eq.trans (World.drewN_drewN _ _ _) (congrArg (World.drewN _) (Nat.add_assoc _ _ _))⟩)))
     repeat (go_quiet (first | (go_at_call 21; (with_reducible refine (laws_sameInts.calls k1 _ _ (rd_L2 l0 x5_1) _ _ (rd_L2 l1 x5_1) false _ ?side1 ?side2 ?side3 ?side4 A7.out).mono ?_); (case side1 => exact co HR609_0.out); (case side2 => exact HC609_0.out); (case side3 => exact co HR610_0.out); (case side4 => exact HC610_0.out); rintro e w' ⟨rfl, ⟨nd, rfl⟩⟩; (try first | exact ⟨rfl, _, World.drewN_drewN _ _ _⟩ | exact ⟨rfl, _, Eq.trans (World.drewN_drewN _ _ _) (congrArg (World.drewN _) (Nat.add_assoc _ _ _))⟩))); try go_wp2_with (first | (go_at_call 21; (with_reducible refine (laws_sameInts.calls k1 _ _ (rd_L2 l0 x5_1) _ _ (rd_L2 l1 x5_1) false _ ?side1 ?side2 ?side3 ?side4 A7.out).mono ?_); (case side1 => exact co HR609_0.out); (case side2 => exact HC609_0.out); (case side3 => exact co HR610_0.out); (case side4 => exact HC610_0.out); rintro e w' ⟨rfl, ⟨nd, rfl⟩⟩; (try first | exact ⟨rfl, _, World.drewN_drewN _ _ _⟩ | exact ⟨rfl, _, Eq.trans (World.drewN_drewN _ _ _) (congrArg (World.drewN _) (Nat.add_assoc _ _ _))⟩))))
     go_ret
     exact ⟨rr, dw⟩
    obtain rfl := Option.some.inj H
    go_wp2
    repeat (go_quiet (fail); try go_wp2)
    go_ret
    exact ⟨rr, dw⟩
 rw [if_neg c3] at H
 have c3b0 : ((l0.length : Int) == (l1.length : Int)) = false := beq_eq_false_iff_ne.mpr c3
 have c3b1 : ((l0.length : Int) != (l1.length : Int)) = true := bne_iff_ne.mpr c3
 have c3b2 : (l0.length == l1.length) = false := by first | simpa using c3 | (simp at c3 ⊢; omega)
 obtain rfl := Option.some.inj H
 go_enter Tryd.func10, Tryd.ntmps10
 go_wp2
 repeat (go_quiet (fail); try go_wp2)
 go_ret
 exact ⟨rr, dw⟩


/-! ### impl_CountFactorizations: function 12 -/
mutual
def impl_CountFactorizations.j0 : Nat → Int → Bool → List Int → Option (Int)
 | 0, _, _, _ => none
 | k + 1, x1, x16, x613000 => if x16 = true then (some (-1)) else (if 0 ≤ (wrap64 (x1 + 1)) then (if (wrap64 (x1 + 1) : Int).toNat ≤ 35184372088832 then ((some (List.replicate (wrap64 (x1 + 1) : Int).toNat 0 : List Int)).bind fun y615 => (if 0 < (y615.length : Int) then (impl_CountFactorizations.l0 k x1 (y615.set (0 : Int).toNat 1) x613000 (x613000.length : Int) 0) else (none))) else (none)) else (none))
def impl_CountFactorizations.l0 : Nat → Int → List Int → List Int → Int → Int → Option (Int)
 | 0, _, _, _, _, _ => none
 | k + 1, x1, x5, x23, x24, x25 => if x25 < x24 then (if 0 ≤ x25 then (if x25 < (x23.length : Int) then (impl_CountFactorizations.l1 k x1 x5 (rd x23 x25) (rd x23 x25) x23 x24 x25) else (none)) else (none)) else (if 0 ≤ x1 then (if x1 < (x5.length : Int) then (some (rd x5 x1)) else (none)) else (none))
def impl_CountFactorizations.l1 : Nat → Int → List Int → Int → Int → List Int → Int → Int → Option (Int)
 | 0, _, _, _, _, _, _, _ => none
 | k + 1, x1, x5, x7, x8, x23, x24, x25 => if x8 ≤ x1 then (if 0 ≤ x8 then (if x8 < (x5.length : Int) then (if 0 ≤ (wrap64 (x8 - x7)) then (if (wrap64 (x8 - x7)) < (x5.length : Int) then (impl_CountFactorizations.l1 k x1 (x5.set (x8 : Int).toNat (wrap64 ((rd x5 x8) + (rd x5 (wrap64 (x8 - x7)))))) x7 (wrap64 (x8 + 1)) x23 x24 x25) else (none)) else (none)) else (none)) else (none)) else (impl_CountFactorizations.l0 k x1 x5 x23 x24 (wrap64 (x25 + 1)))
end
def impl_CountFactorizations.f (k : Nat) (l0_0 : List Int) (a1 : Int) : Option (Int) := (impl_IsSemigroup.f k l0_0).bind fun t613 => (if t613 = true then ((impl_within.f a1 0 1000).bind fun t614 => (impl_CountFactorizations.j0 k a1 (!t614) l0_0)) else (impl_CountFactorizations.j0 k a1 true l0_0))
def impl_CountFactorizations.T11 : Bool × List (List Nat × List Nat) := (true, [([], []), ([], []), ([0, 1], [0, 1]), ([2], [2]), ([], []), ([], []), ([], []), ([5, 6], [5, 6]), ([4, 7], [4, 7]), ([8], [8]), ([3, 9], [3, 9]), ([0, 1, 0, 1, 2, 3, 4, 5, 6, 7, 8, 9, 10], [0, 1]), ([11, 10, 0, 1, 2, 3, 4, 5, 6, 7, 8, 9, 10], [10, 11])])
def impl_CountFactorizations.B11 : List Nat := [0, 0, 3, 7, 0, 0, 0, 96, 240, 496, 1023, 2047, 4095]
theorem impl_CountFactorizations.tab11 : rtab .any (opsOf Tryd.f12 11) = impl_CountFactorizations.T11 := by kernel_rfl
theorem impl_CountFactorizations.bits11 : waitsOk impl_CountFactorizations.T11.2 impl_CountFactorizations.B11 = true := by kernel_rfl
set_option maxHeartbeats 8000000 in
set_option maxRecDepth 100000 in
theorem impl_CountFactorizations.calls (k : Nat) (A0_0 : Option Addr) (c0_0 : Nat) (l0_0 : List Int) (a1 : Int) (r : Int) (w : World) (hr0_0 : Kd.C (Kd.int .i64) w A0_0 l0_0.length l0_0) (hc0_0 : l0_0.length ≤ c0_0) (h : impl_CountFactorizations.f k l0_0 a1 = some r) :
  Calls Tryd.prog 12 #[.agg #[.slice A0_0 l0_0.length c0_0], .int .i64 a1] w fun e w' => e = .returned (.int .i64 r) ∧ Below w.heap.size w w' := by
 have hu26 := Tryd.underlying26
 have HR0_0 := am hr0_0
 have HC0_0 := am hc0_0
 clear hr0_0 hc0_0
 have HB := am (Below.refl w.heap.size w)
 have H : ((impl_IsSemigroup.f k l0_0).bind fun t613 => (if t613 = true then ((impl_within.f a1 0 1000).bind fun t614 => (impl_CountFactorizations.j0 k a1 (!t614) l0_0)) else (impl_CountFactorizations.j0 k a1 true l0_0))) = some r := h
 clear h
 have HC3 := am H
 clear H
 go_enter Tryd.func12, Tryd.ntmps12
 go_upto_region 1 with (first | ((with_reducible refine gate_dst (N := 2) rfl ?_); refine bx 2 #[.slice A0_0 l0_0.length c0_0] 26 ?_; intro gb612 hg w4 hbox hb; have BK612 := am (hbox); have GW612 := am (gs hg : w.heap.size ≤ gb612); have GE612 := GW612; replace HB := am (below_step bw hb); clear hb hbox hg))
 (try simp only [Act.put, List.setIfInBounds_toArray, List.set_cons_zero, List.set_cons_succ])
 go_cut [16] (fun v16 wc => ∃ (kq : Nat) (x16_2 : Bool), v16 = .bool x16_2 ∧ Aside0 (impl_CountFactorizations.j0 kq a1 x16_2 l0_0 = some r) ∧ Aside0 (kq ≤ k) ∧ Aside0 (wc.heap[gb612]? = some (.cells #[(.slice A0_0 l0_0.length c0_0)] 26 (0, 0))) ∧ Aside0 (Below w.heap.size w wc))
 case first =>
  have H := HC3.out
  clear HC3
  replace H := ga H; obtain ⟨t613, A5, H⟩ := H
  replace H := gb H; obtain ⟨rfl, H⟩ | ⟨rfl, H⟩ := H
  ·replace H := ga H; obtain ⟨t614, A7, H⟩ := H
   have H' := am H
   clear H
   have hcz8_0 := bc BK612 0 (.slice A0_0 l0_0.length c0_0)
   have hfz8_0 := blk_frozen BK612.out 0
   go_wp2_with (first | ((with_reducible refine gate_callee (f := 25) rfl ?_); refine goesL_ (some 10) rfl rfl Tryd.func25 (by kernel_rfl) rfl #[.agg #[.slice A0_0 l0_0.length c0_0]] rfl (by (try simp only [List.map_toArray, List.map_cons, List.map_nil]); first | done | rfl | (simp only [List.length_drop, List.length_take]; rfl)) ?_; (with_reducible refine (impl_IsSemigroup.calls k _ _ l0_0 true _ ?side1 ?side2 A5.out).mono ?_); (case side1 => exact co (Kd.C_below HR0_0.out HB.out)); (case side2 => exact HC0_0.out); rintro e w9 ⟨rfl, hb⟩; refine ⟨_, rfl, ?_⟩; replace BK612 := kb BK612 hb; replace HB := am (below_step bw hb); clear hb) | (go_at_call 26; (with_reducible refine (impl_within.calls a1 0 1000 t614 _ A7.out).mono ?_); rintro e w' ⟨rfl, ⟨nd, rfl⟩⟩))
   go_meet
   case rel => exact ⟨_, (!t614), rr, H', ⟨om⟩, ⟨bo BK612.out⟩, ⟨bw⟩⟩
  have H' := am H
  clear H
  have hcz10_0 := bc BK612 0 (.slice A0_0 l0_0.length c0_0)
  have hfz10_0 := blk_frozen BK612.out 0
  go_wp2_with (first | ((with_reducible refine gate_callee (f := 25) rfl ?_); refine goesL_ (some 10) rfl rfl Tryd.func25 (by kernel_rfl) rfl #[.agg #[.slice A0_0 l0_0.length c0_0]] rfl (by (try simp only [List.map_toArray, List.map_cons, List.map_nil]); first | done | rfl | (simp only [List.length_drop, List.length_take]; rfl)) ?_; (with_reducible refine (impl_IsSemigroup.calls k _ _ l0_0 false _ ?side1 ?side2 A5.out).mono ?_); (case side1 => exact co (Kd.C_below HR0_0.out HB.out)); (case side2 => exact HC0_0.out); rintro e w11 ⟨rfl, hb⟩; refine ⟨_, rfl, ?_⟩; replace BK612 := kb BK612 hb; replace HB := am (below_step bw hb); clear hb))
  go_meet
  case rel => exact ⟨_, (true), rr, H', ⟨om⟩, ⟨bo BK612.out⟩, ⟨bw⟩⟩
 case rest =>
  clear HC3
  try clear hcz10_0; try clear hcz8_0; try clear hfz10_0; try clear hfz8_0
  obtain ⟨kq, x16_2, rfl, HA, HJ2, BK612, HB⟩ := hcut
  cases kq with
  | zero => exact absurd HA.out (by simp [impl_CountFactorizations.j0])
  | succ kj2 =>
   have H := HA.out
   clear HA
   simp only [impl_CountFactorizations.j0] at H
   replace H := gb H; obtain ⟨rfl, H⟩ | ⟨rfl, H⟩ := H
   ·obtain rfl := Option.some.inj H
    go_wp2
    go_ret
    exact ⟨re, bw⟩
   obtain ⟨ji13, hji13⟩ : ∃ j_ : Int, (wrap64 (a1 + 1)) = j_ := ⟨_, rfl⟩
   replace H : (if 0 ≤ (ji13) then (if (ji13 : Int).toNat ≤ 35184372088832 then ((some (List.replicate (ji13 : Int).toNat 0 : List Int)).bind fun y615 => (if 0 < (y615.length : Int) then (impl_CountFactorizations.l0 kj2 a1 (y615.set (0 : Int).toNat 1) l0_0 (l0_0.length : Int) 0) else (none))) else (none)) else (none)) = some r := by first | (rw [hji13] at H; exact H) | (simp only [hji13] at H ⊢; exact H)
   have hji13w : (IntKind.i64.wrap (a1 + 1)) = ji13 := (i64_w _).trans hji13
   replace H := gp H; obtain ⟨c14, H⟩ := H
   have c14b0 := eq_true c14
   have c14b1 : decide (0 ≤ (ji13)) = true := decide_eq_true c14
   clear c14
   replace H := gp H; obtain ⟨c15, H⟩ := H
   have c15b0 := eq_true c15
   have c15b1 : decide ((ji13 : Int).toNat ≤ 35184372088832) = true := decide_eq_true c15
   clear c15
   obtain ⟨y615, hy615⟩ : ∃ y_ : List Int, y_ = (List.replicate (ji13 : Int).toNat 0) := ⟨_, rfl⟩
   replace H : (if 0 < (y615.length : Int) then (impl_CountFactorizations.l0 kj2 a1 (y615.set (0 : Int).toNat 1) l0_0 (l0_0.length : Int) 0) else (none)) = some r := by first | (rw [hy615]; with_reducible first | exact H | exact bs H) | (with_reducible first | exact bs H | exact H) | (rw [hy615]; exact H) | exact H
   have Ny615 := am hy615
   clear hy615
   replace H := gp H; obtain ⟨c16, H⟩ := H
   have c16b0 : decide (0 < (y615.length : Int)) = true := decide_eq_true c16
   have c16b1 : decide (0 < y615.length) = true := decide_eq_true (by omega)
   clear c16
   obtain ⟨y618, hy618⟩ : ∃ y_ : List Int, y_ = (y615.set (0 : Int).toNat 1) := ⟨_, rfl⟩
   replace H : (impl_CountFactorizations.l0 kj2 a1 y618 l0_0 (l0_0.length : Int) 0) = some r := by first | (rw [hy618]; with_reducible first | exact H | exact bs H) | (with_reducible first | exact bs H | exact H) | (rw [hy618]; exact H) | exact H
   have Ny618 := am hy618
   clear hy618
   have H' := am H
   clear H
   go_wp2_with (first | ((with_reducible refine gate_dst (N := 19) rfl ?_); refine Kd.R_make (Kd.int .i64) _ 3 rfl (N := 19) rfl 24 _ _ rfl ji13 rfl rfl Tryd.underlying24 (.int .i64 0) 8 info3 rfl (by decide) (by omega) 0 (ok := fun _ => True) (okp := fun _ => True) rfl (fun _ hk => hk) trivial (of_decide_eq_true (by first | (with_reducible assumption) | assumption)) (Nat.le_trans (Nat.mul_le_mul_right _ (of_decide_eq_true (by first | (with_reducible assumption) | assumption) : ji13.toNat ≤ 35184372088832)) (by omega)) (Below.refl _ _) (Nat.le_refl _) ?_; intro v616 w18 ho19 hb hg_ hnew_; clear hg_ hnew_; (first | rw [← Ny615.out] at ho19 | (simp only [Int.reduceToNat] at ho19; rw [← Ny615.out] at ho19)); have HO617 := am (Kd.R_lower ho19 (below_size bw)); replace BK612 := kb BK612 hb; replace HB := am (below_step bw hb); clear hb ho19; have p17 : 0 ≤ (0 : Int) := (by omega); have q17 : (0 : Int) < ((y615.length : Int) : Int) := of_decide_eq_true (by first | (with_reducible assumption) | assumption); have qi17 : (0 < y615.length) = True := eq_true (by omega); obtain ⟨go17, co17, eo17, gb17, gl17, cl17, HG17⟩ := Kd.R_form HO617.out (by omega); (first | cases eo17 | (injection eo17 with ea_ en_ ec_; (first | subst ea_ | (injection ea_ with ea_; subst ea_)); subst ec_; clear en_)); have GB17 := am gb17; have GG17 := am HG17; clear gb17 gl17 HG17; obtain ⟨hx17_0, hf17_0⟩ := Kd.R_celln 0 HO617.out (0 : Int) p17 q17; (try rw [show ((0 : Int)).toNat = 0 from rfl] at hx17_0); (try simp only [Nat.reduceMul, Nat.zero_mul, Nat.zero_add, Nat.reduceAdd] at hx17_0); (try rw [show ((0 : Int)).toNat = 0 from rfl] at hf17_0); (try simp only [Nat.reduceMul, Nat.zero_mul, Nat.zero_add, Nat.reduceAdd] at hf17_0); replace p17 := eq_true p17; replace q17 := eq_true q17; obtain ⟨hy20_, hz20_⟩ := Kd.R_celln 0 HO617.out (0 : Int) (by omega) (of_decide_eq_true (by first | (with_reducible assumption) | assumption)); (try simp only [Int.reduceToNat, Int.toNat_zero, Int.toNat_ofNat, Nat.reduceMul, Nat.zero_mul, Nat.zero_add] at hy20_ hz20_); (try rw [show ((0 : Int)).toNat = 0 from rfl] at hy20_); (try rw [show ((0 : Int)).toNat = 0 from rfl] at hz20_); have HP20 := Kd.R_putg HO617.out (0 : Int) 1) | ((with_reducible refine gate_store (t := 3) (p := 21) rfl ?_); refine store_event (t := 3) (p := 21) (v := ?vo_w21) (w1 := (w18.setCell ⟨go17, (0 : Int).toNat, none⟩ (.int .i64 1))) ?hg ?ho ?hn ?hr ?_; (case ho => rfl); (case hg => rfl); (case hn => rfl); (case hr => first | (go_simp; done) | (go_simp; rfl)); intro w21 hw; have hg : w18.grownBy w21 (some go17) := (by rw [hw]; exact HP20.2); have hp_ : Kd.R (Kd.int .i64) 3 w21 w.heap.size (fun _ => True) (.slice (some ⟨go17, 0, none⟩) y615.length co17) y618 := (by rw [hw, Ny618.out]; exact HP20.1); clear HP20; replace BK612 := am (blk_grown (g := gb612) (o := .cells #[.slice A0_0 l0_0.length c0_0] 26 (0, 0)) (bo BK612.out) hg (Kd.R_ne HO617.out BK612.out (by decide))); replace HO617 := am (hp_); replace HB := am ((by rw [hw]; exact below_set (HB.out) GB17.out : Below w.heap.size w w21)); clear hg hw hp_; have hcz22_0 := bc BK612 0 (.slice A0_0 l0_0.length c0_0); have hfz22_0 := blk_frozen BK612.out 0))
   go_loopg [25] kj2 (fun kq v25 w' => ∃ (x5_2 : List Int) (x25_2 : Int), v25 = .int .i64 x25_2 ∧ Aside0 (impl_CountFactorizations.l0 kq a1 x5_2 l0_0 (l0_0.length : Int) x25_2 = some r) ∧ Aside0 (kq ≤ kj2) ∧ Aside0 (Kd.R (Kd.int .i64) 3 w' w.heap.size (fun _ => True) (.slice (some ⟨go17, 0, none⟩) y615.length co17) x5_2) ∧ Aside0 (w'.heap[gb612]? = some (.cells #[(.slice A0_0 l0_0.length c0_0)] 26 (0, 0))) ∧ Aside0 (Below w.heap.size w w'))
   case atStart => exact ⟨(y618), (0), rr, H', ⟨Nat.le_refl _⟩, ⟨ro HO617.out⟩, ⟨bo BK612.out⟩, ⟨bw⟩⟩
   case round =>
    clear H'
    try clear c14; try clear c14b0; try clear c14b1; try clear c15; try clear c15b0; try clear c15b1; try clear c16; try clear c16b0; try clear c16b1; try clear p17; try clear q17; try clear qi17; try clear hcz10_0; try clear hcz22_0; try clear hcz8_0; try clear hfz10_0; try clear hfz22_0; try clear hfz8_0; try clear hx17_0
    obtain ⟨x5_2, x25_2, rfl, HA, HK2, HO_5, BK612, HB⟩ := hrel
    have hl5_2 := (Kd.R_reads' HO_5.out).1
    rw [hl5_2] at HO_5
    (try simp only [hl5_2])
    (try simp only [hl5_2] at BK612)
    cases gk with
    | zero => exact absurd HA.out (by simp [impl_CountFactorizations.l0])
    | succ k2 =>
     have H := HA.out
     clear HA
     simp only [impl_CountFactorizations.l0] at H
     replace H := gi H; obtain ⟨c23b0, H⟩ | ⟨c23b0, H⟩ := H
     ·replace H := gd H; obtain ⟨c24b0, H⟩ := H
      replace H := gd H; obtain ⟨c25b0, H⟩ := H
      have H' := am H
      clear H
      obtain ⟨⟨ad620, e620, hx620_0⟩, p620, q620⟩ := pq (Kd.at_int HR0_0.out x25_2)
      cases e620
      replace hx620_0 := hw HB hx620_0
      go_wp2
      go_loopg [8] k2 (fun kq v8 w' => ∃ (x5_3 : List Int) (x8_3 : Int), v8 = .int .i64 x8_3 ∧ Aside0 (impl_CountFactorizations.l1 kq a1 x5_3 (rd l0_0 x25_2) x8_3 l0_0 (l0_0.length : Int) x25_2 = some r) ∧ Aside0 (kq ≤ k2) ∧ Aside0 (Kd.R (Kd.int .i64) 3 w' w.heap.size (fun _ => True) (.slice (some ⟨go17, 0, none⟩) x5_2.length co17) x5_3) ∧ Aside0 (w'.heap[gb612]? = some (.cells #[(.slice (some ad620) l0_0.length c0_0)] 26 (0, 0))) ∧ Aside0 (Below w.heap.size w w'))
      case atStart => exact ⟨(x5_2), (rd l0_0 x25_2), rr, H', ⟨Nat.le_refl _⟩, ⟨by (try simp only [hl5_2]); (with_reducible repeat (first | apply Kd.R_alloc | apply Kd.R_drewN | apply Kd.R_drew)); exact HO_5.out⟩, ⟨by (try simp only [hl5_2]); (with_reducible repeat (first | refine blk_drewN ?_ _ | refine blk_drew ?_ | refine blk_alloc ?_ _)); exact BK612.out⟩, ⟨bw⟩⟩
      case round =>
       clear H'
       try clear c14; try clear c14b0; try clear c14b1; try clear c15; try clear c15b0; try clear c15b1; try clear c16; try clear c16b0; try clear c16b1; try clear p17; try clear q17; try clear qi17; try clear c23b0; try clear c24b0; try clear c25b0; try clear hcz10_0; try clear hcz22_0; try clear hcz8_0; try clear hfz10_0; try clear hfz22_0; try clear hfz8_0; try clear hx17_0; try clear hx620_0; try clear p620; try clear q620
       obtain ⟨x5_3, x8_3, rfl, HA, HK3, HO_5, BK612, HB⟩ := hrel
       have hl5_3 := (Kd.R_reads' HO_5.out).1
       rw [hl5_3] at HO_5
       (try simp only [hl5_3])
       (try simp only [hl5_3] at BK612)
       cases gk with
       | zero => exact absurd HA.out (by simp [impl_CountFactorizations.l1])
       | succ k3 =>
        have H := HA.out
        clear HA
        simp only [impl_CountFactorizations.l1] at H
        replace H := gi H; obtain ⟨c26b0, H⟩ | ⟨c26b0, H⟩ := H
        ·replace H := gd H; obtain ⟨c27b0, H⟩ := H
         by_cases c28 : x8_3 < (x5_3.length : Int)
         rotate_left
         ·rw [if_neg c28] at H
          exact absurd H (by simp)
         rw [if_pos c28] at H
         have c28b0 : decide (x8_3 < (x5_3.length : Int)) = true := decide_eq_true c28
         (try simp only [hl5_2, hl5_3] at c28b0)
         clear c28
         obtain ⟨ji29, hji29⟩ : ∃ j_ : Int, (wrap64 (x8_3 - (rd l0_0 x25_2))) = j_ := ⟨_, rfl⟩
         replace H : (if 0 ≤ (ji29) then (if (ji29) < (x5_3.length : Int) then (impl_CountFactorizations.l1 k3 a1 (x5_3.set (x8_3 : Int).toNat (wrap64 ((rd x5_3 x8_3) + (rd x5_3 (ji29))))) (rd l0_0 x25_2) (wrap64 (x8_3 + 1)) l0_0 (l0_0.length : Int) x25_2) else (none)) else (none)) = some r := by first | (rw [hji29] at H; exact H) | (simp only [hji29] at H ⊢; exact H)
         have hji29w : (IntKind.i64.wrap (x8_3 - (rd l0_0 x25_2))) = ji29 := (i64_w _).trans hji29
         replace H := gd H; obtain ⟨c30b0, H⟩ := H
         by_cases c31 : (ji29) < (x5_3.length : Int)
         rotate_left
         ·rw [if_neg c31] at H
          exact absurd H (by simp)
         rw [if_pos c31] at H
         have c31b0 : decide ((ji29) < (x5_3.length : Int)) = true := decide_eq_true c31
         (try simp only [hl5_2, hl5_3] at c31b0)
         clear c31
         obtain ⟨y623, hy623⟩ : ∃ y_ : List Int, y_ = (x5_3.set (x8_3 : Int).toNat (wrap64 ((rd x5_3 x8_3) + (rd x5_3 (ji29))))) := ⟨_, rfl⟩
         replace H : (impl_CountFactorizations.l1 k3 a1 y623 (rd l0_0 x25_2) (wrap64 (x8_3 + 1)) l0_0 (l0_0.length : Int) x25_2) = some r := by first | (rw [hy623]; with_reducible first | exact H | exact bs H) | (with_reducible first | exact bs H | exact H) | (rw [hy623]; exact H) | exact H
         have Ny623 := am hy623
         clear hy623
         have H' := am H
         clear H
         try go_wp2
         replace HO_5 := am (Kd.R_drew HO_5.out)
         replace BK612 := bd BK612
         replace HB := am (below_drew1 HB.out)
         obtain ⟨⟨ad621, e621, hx621_0⟩, p621, q621⟩ := pq (Kd.at_int (Kd.R_reads' HO_5.out).2.2 x8_3)
         obtain rfl : (⟨go17, 0, none⟩ : Addr) = ad621 := (by injection e621)
         (first | simp only [add_plain] at hx621_0 | simp only [add_at] at hx621_0 | simp only [Addr.add, Nat.zero_add] at hx621_0 | skip)
         obtain ⟨⟨ad622, e622, hx622_0⟩, p622, q622⟩ := pq (Kd.at_int (Kd.R_reads' HO_5.out).2.2 (ji29))
         obtain rfl : (⟨go17, 0, none⟩ : Addr) = ad622 := (by injection e622)
         (first | simp only [add_plain] at hx622_0 | simp only [add_at] at hx622_0 | simp only [Addr.add, Nat.zero_add] at hx622_0 | skip)
         have p32 : 0 ≤ (x8_3 : Int) := of_decide_eq_true (by first | (with_reducible assumption) | assumption)
         have q32 : (x8_3 : Int) < ((x5_3.length : Int) : Int) := of_decide_eq_true (by first | (with_reducible assumption) | assumption)
         obtain ⟨hx32_0, hf32_0⟩ := Kd.R_celln 0 HO_5.out (x8_3 : Int) p32 q32
         replace p32 := eq_true p32
         replace q32 := eq_true q32
         have HP34 := Kd.R_putn HO_5.out (x8_3 : Int) (wrap64 ((rd x5_3 x8_3) + (rd x5_3 (ji29))))
         rw [← Ny623.out] at HP34
         have HQ34 := am HP34
         clear HP34
         refine start_ (n := 13) (S := fun w' => w'.cell? ⟨go17, (x8_3).toNat, none⟩ = some (.int .i64 (rd x5_3 x8_3)) ∧ w'.cell? ⟨go17, ((ji29)).toNat, none⟩ = some (.int .i64 (rd x5_3 (ji29)))) (ds := [12]) (yz 13 0) (by kernel_rfl) rfl rfl ⟨hx621_0, hx622_0⟩ (fun hHeld => ?_); refine with_tabW impl_CountFactorizations.tab11 impl_CountFactorizations.bits11 (fun HT_ HW_ => ?_)
         generalize wr.drew = w33 at HO_5 BK612 HB HQ34 hf32_0 hx32_0 hx621_0 hx622_0 hHeld ⊢
         refine pa 0 (some 35) (yz 13 1) HT_ ?_
         refine pa 1 (some 36) (yz 13 3) HT_ ?_
         refine pa 2 (some 37) (yz 13 7) HT_ ?_
         refine pa 4 (some 39) (yz 13 23) HT_ ?_
         refine pa 5 (some 40) (yz 13 55) HT_ ?_
         refine pa 6 (some 41) (yz 13 119) HT_ ?_
         refine pa 7 (some 42) (yz 13 247) HT_ ?_
         refine pa 8 (some 43) (yz 13 503) HT_ ?_
         refine tk 3 (some 38) (yz 13 511) HT_ HW_ hHeld ?_
         refine tk 9 (some 44) (yz 13 1023) HT_ HW_ hHeld ?_
         refine pa 10 (some 45) (yz 13 2047) HT_ ?_
         refine pa 11 (some 46) (yz 13 4095) HT_ ?_
         refine last_ (i := 12) (N := none) (yz 13 8191) rfl rfl (one_of HT_.out (by kernel_rfl)) (by decide) (fun K hK => ?_)
         refine skip_ (w1 := ?_) (by rfl) rfl ?_ ?_
         rotate_left
         ·go_simp
          rfl
         refine hK.out _ _ ?_
         clear hK K
         refine done_ (done_of HT_.out (by kernel_rfl)) ?_
         try go_wp2
         (try simp only [← hl5_3])
         go_roundg k3
         case measure => have := HJ2.out; have := HK2.out; have := HK3.out; omega
         case rel => exact ⟨(y623), (wrap64 (x8_3 + 1)), rr, H', ⟨by have := HJ2.out; have := HK2.out; have := HK3.out; omega⟩, ⟨by (try simp only [hl5_2]); (try simp only [hl5_3]); (with_reducible repeat (first | apply Kd.R_alloc | apply Kd.R_drewN | apply Kd.R_drew)); exact HQ34.out⟩, ⟨by (try simp only [hl5_2]); (try simp only [hl5_3]); (with_reducible repeat (first | refine blk_drewN ?_ _ | refine blk_drew ?_ | refine blk_alloc ?_ _)); refine blk_far ?_ (by have h_ := Kd.R_ne HO_5.out BK612.out (by decide); intro e_; exact h_ (by rw [e_]; rfl)) _; (with_reducible repeat (first | refine blk_drewN ?_ _ | refine blk_drew ?_ | refine blk_alloc ?_ _)); exact BK612.out⟩, ⟨bw⟩⟩
        have H' := am H
        clear H
        go_wp2
        (try simp only [← hl5_2, ← hl5_3])
        go_roundg k3
        case measure => have := HJ2.out; have := HK2.out; have := HK3.out; omega
        case rel => exact ⟨(x5_3), (wrap64 (x25_2 + 1)), rr, H', ⟨by have := HJ2.out; have := HK2.out; have := HK3.out; omega⟩, ⟨by (try simp only [hl5_2]); (try simp only [hl5_3]); (with_reducible repeat (first | apply Kd.R_alloc | apply Kd.R_drewN | apply Kd.R_drew)); exact HO_5.out⟩, ⟨by (try simp only [hl5_2]); (try simp only [hl5_3]); (with_reducible repeat (first | refine blk_drewN ?_ _ | refine blk_drew ?_ | refine blk_alloc ?_ _)); exact BK612.out⟩, ⟨bw⟩⟩
     replace H := gd H; obtain ⟨c35b0, H⟩ := H
     by_cases c36 : a1 < (x5_2.length : Int)
     rotate_left
     ·rw [if_neg c36] at H
      exact absurd H (by simp)
     rw [if_pos c36] at H
     have c36b0 : decide (a1 < (x5_2.length : Int)) = true := decide_eq_true c36
     (try simp only [hl5_2] at c36b0)
     clear c36
     obtain rfl := Option.some.inj H
     obtain ⟨⟨ad619, e619, hx619_0⟩, p619, q619⟩ := pq (Kd.at_int (Kd.R_reads' HO_5.out).2.2 a1)
     obtain rfl : (⟨go17, 0, none⟩ : Addr) = ad619 := (by injection e619)
     (first | simp only [add_plain] at hx619_0 | simp only [add_at] at hx619_0 | simp only [Addr.add, Nat.zero_add] at hx619_0 | skip)
     go_wp2
     go_ret
     exact ⟨by first | rfl | (simp [errW_none, errW_some] <;> rfl) | (simp only [← hji13]; first | rfl | (simp [errW_none, errW_some] <;> rfl)) | (simp [*, errW_none, errW_some] <;> rfl), bw⟩

end Go.Proofs.YtbbehmbpoilffaaDoor.C
