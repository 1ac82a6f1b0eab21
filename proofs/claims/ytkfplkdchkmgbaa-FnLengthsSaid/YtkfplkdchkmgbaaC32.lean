/- Contracts of functions of the program: impl_factored, impl_Factorizations, impl_LengthsOf, impl_DeltaOf, impl_lowest. -/
import Derived.Test.YtkfplkdchkmgbaaC0
import Derived.Test.YtkfplkdchkmgbaaC6
import Derived.Test.YtkfplkdchkmgbaaC7
import Derived.Test.YtkfplkdchkmgbaaC10
import Derived.Test.YtkfplkdchkmgbaaC31
namespace Go.Proofs.Ytkfplkdchkmgbaa.C
open Go.RowKit Go.Proofs.YtkfplkdchkmgbaaW.PrintWords Go.Proofs.YtkfplkdchkmgbaaW.PrintLast Go.Proofs.YtkfplkdchkmgbaaW.PrintMore
attribute [local go_sem] max2_int min2_int max_two min_two max_three min_three max_four min_four
set_option linter.unusedVariables false
set_option linter.unusedSimpArgs false

/-! ### impl_factored: function 226 -/
mutual
def impl_factored.l0 : Nat → List Int → Int → List (List Int) → Int → Option ((List (List Int)))
 | 0, _, _, _, _ => none
 | k + 1, x0, x1, x5, x6 => if x6 ≥ 0 then (if 1 ≤ (x0.length : Int) then (if 0 < (x0.length : Int) then ((impl_factored.f k (x0.drop 1) (wrap64 (x1 - (wrap64 (x6 * (rd x0 0)))))).bind fun t1175 => (impl_factored.l1 k x0 x1 x5 x6 t1175 (t1175.length : Int) 0)) else (none)) else (none)) else (some x5)
def impl_factored.l1 : Nat → List Int → Int → List (List Int) → Int → List (List Int) → Int → Int → Option ((List (List Int)))
 | 0, _, _, _, _, _, _, _ => none
 | k + 1, x0, x1, x5, x6, x35, x36, x37 => if x37 < x36 then (if 0 ≤ x37 then (if x37 < (x35.length : Int) then ((some (([x6] : List Int) : List Int)).bind fun y1179 => (if y1179.length + (rd_L3 x35 x37).length < 17592186044416 then (if x5.length < 5864062014805 then (impl_factored.l1 k x0 x1 (x5 ++ [(y1179 ++ (rd_L3 x35 x37))]) x6 x35 x36 (wrap64 (x37 + 1))) else (none)) else (none))) else (none)) else (none)) else (impl_factored.l0 k x0 x1 x5 (wrap64 (x6 - 1)))
def impl_factored.f : Nat → List Int → Int → Option ((List (List Int)))
 | 0, _, _ => none
 | k + 1, l0, a1 => if (l0.length : Int) = 0 then (if a1 = 0 then (some (([(([] : List Int))] : List (List Int)))) else (some ([] : List (List Int)))) else (if 0 < (l0.length : Int) then (if (rd l0 0) = 0 then (none) else (impl_factored.l0 k l0 a1 (([] : List (List Int))) (wrap64 (Int.tdiv a1 (rd l0 0))))) else (none))
end
def impl_factored.T9 : Bool × List (List Nat × List Nat) := (true, [([], []), ([0], [0]), ([], []), ([], []), ([], []), ([4], [4]), ([5], [5]), ([3, 6], [3, 6]), ([2, 7], [2, 7]), ([1, 8], [1, 8]), ([9], [9]), ([], [])])
def impl_factored.B9 : List Nat := [0, 1, 0, 0, 0, 16, 48, 120, 252, 511, 1023, 0]
theorem impl_factored.tab9 : rtab .any (opsOf Try.f226 9) = impl_factored.T9 := by kernel_rfl
theorem impl_factored.bits9 : waitsOk impl_factored.T9.2 impl_factored.B9 = true := by kernel_rfl
set_option maxHeartbeats 8000000 in
set_option maxRecDepth 100000 in
theorem impl_factored.calls (k : Nat) : ∀ (A0 : Option Addr) (c0 : Nat) (l0 : List Int) (a1 : Int) (r : List (List Int)) (w : World) (hr0 : Kd.C (Kd.int .i64) w A0 l0.length l0) (hc0 : l0.length ≤ c0) (h : impl_factored.f k l0 a1 = some r),
  Calls Try.prog 226 #[.slice A0 l0.length c0, .int .i64 a1] w fun e w' => ∃ v0_ : Value, e = .returned (v0_) ∧ Kd.S (Kd.slice 3 (Kd.int .i64)) 24 w' w.heap.size (fun _ => True) v0_ r ∧ Below w.heap.size w w' := by
 induction k using Nat.strongRecOn with
 | _ k ih =>
 intro A0 c0 l0 a1 r w hr0 hc0 h
 cases k with
 | zero => exact absurd h (by simp [impl_factored.f])
 | succ k =>
 simp only [impl_factored.f] at h
 have HR0 := am hr0
 have HC0 := am hc0
 clear hr0 hc0
 have HB := am (Below.refl w.heap.size w)
 have H : (if (l0.length : Int) = 0 then (if a1 = 0 then (some (([(([] : List Int))] : List (List Int)))) else (some ([] : List (List Int)))) else (if 0 < (l0.length : Int) then (if (rd l0 0) = 0 then (none) else (impl_factored.l0 k l0 a1 (([] : List (List Int))) (wrap64 (Int.tdiv a1 (rd l0 0))))) else (none))) = some r := h
 clear h
 by_cases c3 : (l0.length : Int) = 0
 ·rw [if_pos c3] at H
  have c3b0 : ((l0.length : Int) == 0) = true := beq_iff_eq.mpr c3
  have c3b1 : ((l0.length : Int) != 0) = false := bne_eq_false_iff_eq.mpr c3
  clear c3
  by_cases c4 : a1 = 0
  ·rw [if_pos c4] at H
   have c4b0 : (a1 == 0) = true := beq_iff_eq.mpr c4
   have c4b1 : (a1 != 0) = false := bne_eq_false_iff_eq.mpr c4
   clear c4
   obtain ⟨y1163, hy1163⟩ : ∃ y_ : List Int, y_ = (([] : List Int)) := ⟨_, rfl⟩
   replace H : (some (([y1163] : List (List Int)))) = some r := by first | (rw [hy1163]; with_reducible exact H) | (have H2_ := (Option.bind_some _ _).symm.trans H; rw [hy1163]; with_reducible exact H2_) | (have H2_ := (Option.bind_some _ _).symm.trans H; with_reducible exact H2_) | with_reducible exact H | (rw [hy1163]; exact H) | exact H
   have Ny1163 := am hy1163
   clear hy1163
   obtain ⟨y1166, hy1166⟩ : ∃ y_ : List (List Int), y_ = (([y1163] : List (List Int))) := ⟨_, rfl⟩
   replace H : (some y1166) = some r := by first | (rw [hy1166]; with_reducible exact H) | (have H2_ := (Option.bind_some _ _).symm.trans H; rw [hy1166]; with_reducible exact H2_) | (have H2_ := (Option.bind_some _ _).symm.trans H; with_reducible exact H2_) | with_reducible exact H | (rw [hy1166]; exact H) | exact H
   have Ny1166 := am hy1166
   clear hy1166
   obtain rfl := Option.some.inj H
   go_enter Try.func226, Try.ntmps226
   go_wp2_with (first | ((with_reducible refine gate_dst (N := 14) rfl ?_); refine Kd.R_lit (Kd.int .i64) _ 3 ?hg (N := 14) ?hd (xs := ([] : List Int)) (inner := []) (ok := fun _ => True) (okp := fun _ => True) ?hr ?hp (fun _ hk => hk) trivial (Below.refl _ _) (Nat.le_refl _) (by simp) ?_; (case hd => rfl); (case hg => rfl); (case hr => first | (go_simp; done) | (go_simp; rfl)); (case hp => exact (Reps.none _ _)); intro v1164 w5 ho6 hb hg_ hnew_; clear hg_ hnew_; (first | rw [← Ny1163.out] at ho6 | (simp only [Int.reduceToNat] at ho6; rw [← Ny1163.out] at ho6)); have HO1165 := am (Kd.R_lower ho6 (below_size bw)); replace HB := am (below_step bw hb); clear hb ho6; obtain ⟨Ao7, co7, eo7⟩ := Kd.R_slice HO1165.out; subst eo7) | ((with_reducible refine gate_dst (N := 15) rfl ?_); refine Kd.S_lits (Kd.slice 3 (Kd.int .i64)) w.heap.size 24 ?hg (N := 15) ?hd (xs := ([y1163] : List (List Int))) (inner := [.slice Ao7 y1163.length co7]) (ok := fun _ => True) (fun j_ _ => j_ = 0) ?hr rfl (litrep (ro HO1165.out)) (fun _ _ _ h1_ h2_ => h1_.trans h2_.symm) (fun _ _ _ => trivial) trivial (show Below w.heap.size w _ from bw) (below_size bw) (by simp) ?_; (case hd => rfl); (case hg => rfl); (case hr => first | (go_simp; done) | (go_simp; rfl)); intro v1167 w8 ho9 hb hg_ hnew_; clear hg_ hnew_; (first | rw [← Ny1166.out] at ho9 | (simp only [Int.reduceToNat] at ho9; rw [← Ny1166.out] at ho9)); have HO1168 := am (ho9); replace HB := am (hb); clear HO1165 hb ho9))
   go_ret
   exact ⟨_, re, by (with_reducible repeat (first | apply Kd.S_alloc | apply Kd.S_drewN | apply Kd.S_drew)); exact HO1168.out, bw⟩
  ·rw [if_neg c4] at H
   have c4b0 : (a1 == 0) = false := beq_eq_false_iff_ne.mpr c4
   have c4b1 : (a1 != 0) = true := bne_iff_ne.mpr c4
   obtain rfl := Option.some.inj H
   go_enter Try.func226, Try.ntmps226
   go_wp2
   go_ret
   exact ⟨_, re, by first | exact Kd.S_nil _ _ _ _ _ | exact Kd.N_nil _ _ _ _ _ | exact Kd.V_nil _ _ _ _ _ | exact Kd.Q_nil _ _ _ _ _ | exact Kd.R_nil _ _ _ _ _, bw⟩
 ·rw [if_neg c3] at H
  have c3b0 : ((l0.length : Int) == 0) = false := beq_eq_false_iff_ne.mpr c3
  have c3b1 : ((l0.length : Int) != 0) = true := bne_iff_ne.mpr c3
  have c3b2 : ¬ (l0 = []) := fun h_ => c3 (by rw [h_]; rfl)
  obtain ⟨y1169, hy1169⟩ : ∃ y_ : List (List Int), y_ = (([] : List (List Int))) := ⟨_, rfl⟩
  replace H : (if 0 < (l0.length : Int) then (if (rd l0 0) = 0 then (none) else (impl_factored.l0 k l0 a1 y1169 (wrap64 (Int.tdiv a1 (rd l0 0))))) else (none)) = some r := by first | (rw [hy1169]; with_reducible exact H) | (have H2_ := (Option.bind_some _ _).symm.trans H; rw [hy1169]; with_reducible exact H2_) | (have H2_ := (Option.bind_some _ _).symm.trans H; with_reducible exact H2_) | with_reducible exact H | (rw [hy1169]; exact H) | exact H
  have Ny1169 := am hy1169
  clear hy1169
  replace H := gp H; obtain ⟨c10, H⟩ := H
  have c10b0 : decide (0 < (l0.length : Int)) = true := decide_eq_true c10
  have c10b1 : decide (0 < l0.length) = true := decide_eq_true (by omega)
  clear c10
  by_cases c11 : (rd l0 0) = 0
  ·rw [if_pos c11] at H
   exact absurd H (by simp)
  ·rw [if_neg c11] at H
   have c11b0 : ((rd l0 0) == 0) = false := beq_eq_false_iff_ne.mpr c11
   have c11b1 : ((rd l0 0) != 0) = true := bne_iff_ne.mpr c11
   have H' := am H
   clear H
   go_enter Try.func226, Try.ntmps226
   go_wp2_with (first | ((with_reducible refine gate_dst (N := 16) rfl ?_); refine Kd.S_lit (Kd.slice 3 (Kd.int .i64)) _ 24 ?hg (N := 16) ?hd (xs := ([] : List (List Int))) (inner := []) (ok := fun _ => True) (okp := fun _ => True) ?hr ?hp (fun _ hk => hk) trivial (Below.refl _ _) (Nat.le_refl _) (by simp) ?_; (case hd => rfl); (case hg => rfl); (case hr => first | (go_simp; done) | (go_simp; rfl)); (case hp => exact (Reps.none _ _)); intro v1170 w12 ho13 hb hg_ hnew_; clear hg_ hnew_; (first | rw [← Ny1169.out] at ho13 | (simp only [Int.reduceToNat] at ho13; rw [← Ny1169.out] at ho13)); have HO1171 := am (Kd.S_lower ho13 (below_size bw)); replace HB := am (below_step bw hb); clear hb ho13; have p1172 : 0 ≤ (0 : Int) := (by omega); have q1172 : 0 < (l0.length : Int) := of_decide_eq_true (by first | (with_reducible assumption) | assumption); obtain ⟨ad1172, e1172, hx1172_0⟩ := Kd.at_int HR0.out 0 p1172 q1172; cases e1172; have qi1172 : (0 < l0.length) = True := eq_true (by omega); (try rw [show ((0 : Int)).toNat = 0 from rfl] at hx1172_0); (try rw [Addr.add_zero'] at hx1172_0); replace hx1172_0 := (HB.out.cell (World.block_lt_of_cell? w _ hx1172_0)).trans hx1172_0; replace p1172 := eq_true p1172; replace q1172 := eq_true q1172))
   go_loopg [5, 6] k (fun kq v5 v6 w' => ∃ (x5_1 : List (List Int)) (x6_1 : Int), v6 = .int .i64 x6_1 ∧ Aside0 (impl_factored.l0 kq l0 a1 x5_1 x6_1 = some r) ∧ Aside0 (kq ≤ k) ∧ Aside0 (Kd.S (Kd.slice 3 (Kd.int .i64)) 24 w' w.heap.size (fun _ => True) v5 x5_1) ∧ Aside0 (Below w.heap.size w w'))
   case atStart => exact ⟨(y1169), (wrap64 (Int.tdiv a1 (rd l0 0))), rr, H', ⟨Nat.le_refl _⟩, ⟨by (with_reducible repeat (first | apply Kd.S_alloc | apply Kd.S_drewN | apply Kd.S_drew)); exact HO1171.out⟩, ⟨bw⟩⟩
   case round =>
    clear H'
    try clear c3; try clear c3b0; try clear c3b1; try clear c3b2; try clear c4; try clear c4b0; try clear c4b1; try clear c10; try clear c10b0; try clear c10b1; try clear c11; try clear c11b0; try clear c11b1; try clear hx1172_0; try clear p1172; try clear q1172
    obtain ⟨x5_1, x6_1, rfl, HA, HK1, HO_5, HB⟩ := hrel
    cases gk with
    | zero => exact absurd HA.out (by simp [impl_factored.l0])
    | succ k1 =>
     have H := HA.out
     clear HA
     simp only [impl_factored.l0] at H
     replace H := gj H; obtain ⟨c14, H⟩ | ⟨c14, H⟩ := H
     ·have c14b0 : decide (0 ≤ x6_1) = true := decide_eq_true c14
      clear c14
      replace H := gp H; obtain ⟨c15, H⟩ := H
      have c15b0 := eq_true c15
      have c15b1 : decide (1 ≤ (l0.length : Int)) = true := decide_eq_true c15
      clear c15
      replace H := gp H; obtain ⟨c16, H⟩ := H
      have c16b0 : decide (0 < (l0.length : Int)) = true := decide_eq_true c16
      have c16b1 : decide (0 < l0.length) = true := decide_eq_true (by omega)
      clear c16
      replace H := ga H; obtain ⟨t1175, A17, H⟩ := H
      have H' := am H
      clear H
      try go_wp2
      replace HO_5 := am (Kd.S_drew HO_5.out)
      replace HB := am (below_drew1 HB.out)
      obtain ⟨i019, hi019, _, hsz19, _⟩ := info_parts info3
      obtain ⟨A19, hcut19, hA19, hC19⟩ := print_drop_of (P := Try.prog) (Value.int .i64) 0 24 3 .i64 Try.underlying24 hi019 hsz19 (some ad1172) c0 l0 1 (by omega) (of_decide_eq_true (by first | (with_reducible assumption) | assumption)) HC0.out
      have HR1173 := am (Kd.C_of_reads (h1 := fun _ => rfl) (hA19 _ (Kd.reads_of_C HR0.out)))
      have HC1173 := am hC19
      clear hA19 hC19 hi019 hsz19
      have p1174 : 0 ≤ (0 : Int) := (by omega)
      have q1174 : 0 < (l0.length : Int) := of_decide_eq_true (by first | (with_reducible assumption) | assumption)
      obtain ⟨ad1174, e1174, hx1174_0⟩ := Kd.at_int HR0.out 0 p1174 q1174
      have hw1174_0 := hx1174_0
      (try rw [show ((0 : Int)).toNat = 0 from rfl] at hw1174_0)
      (try rw [show 0 * 1 = 0 from rfl] at hw1174_0)
      (try rw [Addr.add_zero'] at hw1174_0)
      obtain rfl : ad1172 = ad1174 := (by injection e1174)
      have qi1174 : (0 < l0.length) = True := eq_true (by omega)
      (try rw [show ((0 : Int)).toNat = 0 from rfl] at hx1174_0)
      (try rw [Addr.add_zero'] at hx1174_0)
      replace hx1174_0 := (HB.out.cell (World.block_lt_of_cell? w _ hx1174_0)).trans hx1174_0
      replace p1174 := eq_true p1174
      replace q1174 := eq_true q1174
      refine start_ (n := 12) (S := fun w' => w'.cell? ad1172 = some (.int .i64 (rd l0 0))) (ds := []) (yz 12 0) (by kernel_rfl) rfl rfl (((HB.out.cell (World.block_lt_of_cell? w _ hw1174_0)).trans hw1174_0)) (fun hHeld => ?_); refine with_tabW impl_factored.tab9 impl_factored.bits9 (fun HT_ HW_ => ?_)
      generalize wr.drew = w18 at HO_5 HB HR1173 hx1174_0 hHeld ⊢
      refine pa 0 (some 26) (yz 12 1) HT_ ?_
      refine pa 1 (some 27) (yz 12 3) HT_ ?_
      refine pa 2 (some 28) (yz 12 7) HT_ ?_
      refine pa 3 (some 29) (yz 12 15) HT_ ?_
      refine pa 4 (some 30) (yz 12 31) HT_ ?_
      refine pa 5 (some 31) (yz 12 63) HT_ ?_
      refine pa 11 (some 37) (yz 12 2111) HT_ ?_
      refine take_ (i := 6) (N := some 32) (v := ?_) (a' := ?_) (yz 12 2175) rfl rfl (take_ofW HT_.out HW_.out (by kernel_rfl)) (fun _ _ _ h => h) (Or.inl ⟨by rfl, ?_⟩) hHeld ?_ ?_
      rotate_left
      ·intro w' s0
       go_simp
       with_reducible rfl
      rotate_left
      ·simp only [Act.put, qa, qb, qc, i64_w, i32_w]
       rfl
      refine pa 7 (some 33) (yz 12 2303) HT_ ?_
      refine pa 8 (some 34) (yz 12 2559) HT_ ?_
      refine oa 9 (some 35) (yz 12 3071) HT_ (fun K hK => ?_)
      refine goes_ Try.func226 (by kernel_rfl) rfl #[.slice A19 (l0.drop 1).length (c0 - 1), .int .i64 (wrap64 (a1 - (wrap64 (x6_1 * (rd l0 0)))))] (by rfl) rfl rfl (by (try simp only [List.map_toArray, List.map_cons, List.map_nil]); first | done | (rw [show (l0.drop 1).length = (l0.length - 1) from List.length_drop] <;> rfl) | rfl | (simp only [List.length_drop, List.length_take]; rfl)) ?_
      with_reducible refine (ih k1 (by have := HK1.out; omega) _ _ (l0.drop 1) (wrap64 (a1 - (wrap64 (x6_1 * (rd l0 0))))) t1175 _ ?side1 ?side2 A17.out).mono ?_
      (case side1 => exact co (Kd.C_below HR1173.out HB.out))
      (case side2 => exact HC1173.out)
      rintro e w20 ⟨v1176, rfl, ho0, hb⟩
      refine ⟨_, rfl, ?_⟩
      have HO1177 := am (Kd.S_lower (Kd.S_new' ho0 (Kd.S_lt (so HO_5.out))) (below_size bw))
      replace HO_5 := am (Kd.S_elder' (so HO_5.out) (Kd.S_base ho0) hb)
      replace HB := am (below_step bw hb)
      clear hb ho0
      obtain ⟨Ao21, co21, eo21⟩ := Kd.S_slice HO1177.out
      (first | subst eo21 | (injection eo21 with f1_ f2_ f3_; have f4_ := f1_.symm; have f5_ := f3_.symm; clear f1_ f2_ f3_; subst f4_; subst f5_))
      refine hK.out _ _ (((HB.out.cell (World.block_lt_of_cell? w _ hw1174_0)).trans hw1174_0)) (fun hHeld => ?_)
      clear hK K
      refine norm_ (a' := ?_) ?_ ?_
      rotate_left
      ·show Act.put _ (some 35) _ = _
       simp only [Act.put, qa, qb, qc, i64_w, i32_w]
       rfl
      refine pa 10 (some 36) (yz 12 4095) HT_ ?_
      refine done_ (done_of HT_.out (by kernel_rfl)) ?_
      try go_wp2
      go_loopg [5, 37] k1 (fun kq v5 v37 w' => ∃ (x5_2 : List (List Int)) (x37_2 : Int), v37 = .int .i64 x37_2 ∧ Aside0 (impl_factored.l1 kq l0 a1 x5_2 x6_1 t1175 (t1175.length : Int) x37_2 = some r) ∧ Aside0 (kq ≤ k1) ∧ Aside0 (Kd.S (Kd.slice 3 (Kd.int .i64)) 24 w' w.heap.size (fun k_ => some k_ ≠ ((.slice Ao21 t1175.length co21) : Value).ownBlock) v5 x5_2) ∧ Aside0 (Kd.S (Kd.slice 3 (Kd.int .i64)) 24 w' w.heap.size (fun k_ => some k_ ≠ (v5 : Value).ownBlock) (.slice Ao21 t1175.length co21) t1175) ∧ Aside0 (Below w.heap.size w w'))
      case atStart => exact ⟨(x5_1), (0), rr, H', ⟨Nat.le_refl _⟩, ⟨by (with_reducible repeat (first | apply Kd.S_alloc | apply Kd.S_drewN | apply Kd.S_drew)); exact Kd.S_mono HO_5.out (fun _ hk => hk.2)⟩, ⟨by (with_reducible repeat (first | apply Kd.S_alloc | apply Kd.S_drewN | apply Kd.S_drew)); exact Kd.S_mono HO1177.out (fun _ hk => hk.2)⟩, ⟨bw⟩⟩
      case round =>
       clear H'
       try clear c3; try clear c3b0; try clear c3b1; try clear c3b2; try clear c4; try clear c4b0; try clear c4b1; try clear c10; try clear c10b0; try clear c10b1; try clear c11; try clear c11b0; try clear c11b1; try clear c14; try clear c14b0; try clear c15; try clear c15b0; try clear c15b1; try clear c16; try clear c16b0; try clear c16b1; try clear hx1172_0; try clear hx1174_0; try clear p1172; try clear p1174; try clear q1172; try clear q1174
       obtain ⟨x5_2, x37_2, rfl, HA, HK2, HO_5, HO_35, HB⟩ := hrel
       cases gk with
       | zero => exact absurd HA.out (by simp [impl_factored.l1])
       | succ k2 =>
        have H := HA.out
        clear HA
        simp only [impl_factored.l1] at H
        replace H := gi H; obtain ⟨c22b0, H⟩ | ⟨c22b0, H⟩ := H
        ·replace H := gd H; obtain ⟨c23b0, H⟩ := H
         replace H := gd H; obtain ⟨c24b0, H⟩ := H
         obtain ⟨y1179, hy1179⟩ : ∃ y_ : List Int, y_ = (([x6_1] : List Int)) := ⟨_, rfl⟩
         replace H : (if y1179.length + (rd_L3 t1175 x37_2).length < 17592186044416 then (if x5_2.length < 5864062014805 then (impl_factored.l1 k2 l0 a1 (x5_2 ++ [(y1179 ++ (rd_L3 t1175 x37_2))]) x6_1 t1175 (t1175.length : Int) (wrap64 (x37_2 + 1))) else (none)) else (none)) = some r := by first | (rw [hy1179]; with_reducible exact H) | (have H2_ := (Option.bind_some _ _).symm.trans H; rw [hy1179]; with_reducible exact H2_) | (have H2_ := (Option.bind_some _ _).symm.trans H; with_reducible exact H2_) | with_reducible exact H | (rw [hy1179]; exact H) | exact H
         have Ny1179 := am hy1179
         clear hy1179
         by_cases c25 : y1179.length + (rd_L3 t1175 x37_2).length < 17592186044416
         rotate_left
         ·rw [if_neg c25] at H
          exact absurd H (by simp)
         rw [if_pos c25] at H
         have LMc25 := am c25
         clear c25
         obtain ⟨y1182, hy1182⟩ : ∃ y_ : List Int, y_ = (y1179 ++ (rd_L3 t1175 x37_2)) := ⟨_, rfl⟩
         replace H : (if x5_2.length < 5864062014805 then (impl_factored.l1 k2 l0 a1 (x5_2 ++ [y1182]) x6_1 t1175 (t1175.length : Int) (wrap64 (x37_2 + 1))) else (none)) = some r := by first | (rw [hy1182]; with_reducible exact H) | (have H2_ := (Option.bind_some _ _).symm.trans H; rw [hy1182]; with_reducible exact H2_) | (have H2_ := (Option.bind_some _ _).symm.trans H; with_reducible exact H2_) | with_reducible exact H | (rw [hy1182]; exact H) | exact H
         have Ny1182 := am hy1182
         clear hy1182
         by_cases c26 : x5_2.length < 5864062014805
         rotate_left
         ·rw [if_neg c26] at H
          exact absurd H (by simp)
         rw [if_pos c26] at H
         have LMc26 := am c26
         clear c26
         obtain ⟨y1185, hy1185⟩ : ∃ y_ : List (List Int), y_ = (x5_2 ++ [y1182]) := ⟨_, rfl⟩
         replace H : (impl_factored.l1 k2 l0 a1 y1185 x6_1 t1175 (t1175.length : Int) (wrap64 (x37_2 + 1))) = some r := by first | (rw [hy1185]; with_reducible exact H) | (have H2_ := (Option.bind_some _ _).symm.trans H; rw [hy1185]; with_reducible exact H2_) | (have H2_ := (Option.bind_some _ _).symm.trans H; with_reducible exact H2_) | with_reducible exact H | (rw [hy1185]; exact H) | exact H
         have Ny1185 := am hy1185
         clear hy1185
         have H' := am H
         clear H
         have p1178 : 0 ≤ (x37_2 : Int) := of_decide_eq_true (by first | (with_reducible assumption) | assumption)
         have q1178 : x37_2 < (t1175.length : Int) := of_decide_eq_true (by first | (with_reducible assumption) | assumption)
         obtain ⟨ad1178, A1178_0, c1178_0, e1178, hx1178_0, hl1178_0, hi1178_0⟩ := at_L3 (Kd.S_reads' HO_35.out).2.2 x37_2 p1178 q1178
         cases e1178
         obtain ⟨ce1178, hce1178, hMe1178, hcc1178⟩ := Kd.S_get HO_35.out [] x37_2 p1178 (by first | exact q1178 | exact of_decide_eq_true (by first | (with_reducible assumption) | assumption) | (have e_ := (Kd.S_reads' HO_35.out).1; omega))
         obtain ⟨ve1178_0, rfl, ge1178_0⟩ := hMe1178
         have hv1178_0 := hcc1178 0 _ rfl
         rw [Nat.add_zero, show ((Kd.slice 3 (Kd.int .i64))).sz = 1 from rfl, Nat.mul_one] at hv1178_0
         replace hv1178_0 := Option.some.inj (hv1178_0.symm.trans hx1178_0)
         rw [hv1178_0] at ge1178_0
         have HL1178_0 := am (show Kd.R (Kd.int .i64) 3 _ _ _ _ (rd_L3 t1175 x37_2) from ge1178_0)
         clear hv1178_0 ge1178_0
         clear hcc1178 hce1178
         have HR1178_0 := am hi1178_0
         have HC1178_0 := am hl1178_0
         clear hi1178_0 hl1178_0
         replace p1178 := eq_true p1178
         replace q1178 := eq_true q1178
         go_wp2_with (first | ((with_reducible refine gate_dst (N := 43) rfl ?_); refine Kd.R_lit (Kd.int .i64) _ 3 ?hg (N := 43) ?hd (xs := ([x6_1] : List Int)) (inner := [.int .i64 x6_1]) (ok := fun _ => True) (okp := fun _ => True) ?hr ?hp (fun _ hk => hk) trivial (Below.refl _ _) (Nat.le_refl _) (by simp) ?_; (case hd => rfl); (case hg => rfl); (case hr => first | (go_simp; done) | (go_simp; rfl)); (case hp => exact (Reps.one (show Kd.M (Kd.int .i64) _ _ _ x6_1 [.int .i64 x6_1] from rfl) (Reps.none _ _))); intro v1180 w27 ho28 hb hg_ hnew_; clear hg_ hnew_; (first | rw [← Ny1179.out] at ho28 | (simp only [Int.reduceToNat] at ho28; rw [← Ny1179.out] at ho28)); replace HO_5 := am (Kd.S_elder' (so HO_5.out) (Kd.R_base ho28) hb); replace HO_35 := am (Kd.S_elder' (so HO_35.out) (Kd.R_base ho28) hb); have HO1181 := am (Kd.R_lower (Kd.R_new' ho28 (Kd.R_lt (by (with_reducible repeat (first | apply Kd.R_alloc | apply Kd.R_drewN | apply Kd.R_drew)); exact HL1178_0.out))) (below_size bw)); replace HL1178_0 := am (Kd.R_elder' (by (with_reducible repeat (first | apply Kd.R_alloc | apply Kd.R_drewN | apply Kd.R_drew)); exact HL1178_0.out) (Kd.R_base ho28) hb); replace HR1178_0 := am (Kd.C_below (by repeat (first | (with_reducible exact HR1178_0.out) | (with_reducible refine Kd.C_alloc ?_ _) | (with_reducible refine Kd.C_drewN ?_ _) | (with_reducible refine Kd.C_drew ?_) | exact HR1178_0.out)) hb); replace HB := am (below_step bw hb); clear hb ho28) | ((with_reducible refine gate_builtin (b := .append) (xs := #[.tmp 43, .tmp 44]) rfl ?_); at_builtin; refine Kd.R_append_rows (Kd.int .i64) (w0 := w) w.heap.size rfl (.tmp 43) (.tmp 44) 24 3 (.int .i64 0) 8 rfl Try.underlying24 info3 rfl (by decide) (by omega) v1180 y1179 (rd_L3 t1175 x37_2) _ _ _ (fun k_ => some k_ ≠ (.slice A1178_0 (rd_L3 t1175 x37_2).length c1178_0 : Value).ownBlock) (fun _ => False) rfl rfl ?aO ?aR (fun _ _ h => h) (fun _ h => h.elim) ?aF ?aB ?aS ?aL ?_; (case aR => repeat (first | exact (by repeat (first | (with_reducible exact HR1178_0.out) | (with_reducible refine Kd.C_alloc ?_ _) | (with_reducible refine Kd.C_drewN ?_ _) | (with_reducible refine Kd.C_drew ?_) | exact HR1178_0.out)) | (with_reducible refine Kd.C_alloc ?_ _) | (with_reducible refine Kd.C_drewN ?_ _) | (with_reducible refine Kd.C_drew ?_))); (case aB => exact bw); (case aF => exact (fun k_ hk => Kd.fresh' (Kd.R_lt (by (with_reducible repeat (first | apply Kd.R_alloc | apply Kd.R_drewN | apply Kd.R_drew)); exact HL1178_0.out)) k_ hk)); (case aO => exact (by (with_reducible repeat (first | apply Kd.R_alloc | apply Kd.R_drewN | apply Kd.R_drew)); exact Kd.R_mono HO1181.out (fun _ hk => hk.2))); (case aS => exact (below_size bw)); (case aL => have := LMc25.out; omega); intro v1183 w29 ho hb hg hat; rw [← Ny1182.out] at ho; replace HO_5 := am (Kd.S_after (ok := (fun k_ => some k_ ≠ (.slice (some ad1178) t1175.length co21 : Value).ownBlock)) (so HO_5.out) hg hat); replace HO_35 := am (Kd.S_after (ok := (fun k_ => some k_ ≠ (u5 : Value).ownBlock)) (so HO_35.out) hg hat); replace HL1178_0 := am (Kd.R_after (ok := (fun k_ => some k_ ≠ (u5 : Value).ownBlock ∧ some k_ ≠ (.slice (some ad1178) t1175.length co21 : Value).ownBlock)) (by (with_reducible repeat (first | apply Kd.R_alloc | apply Kd.R_drewN | apply Kd.R_drew)); exact HL1178_0.out) hg hat); replace HB := am (hb); have HO1184 := am (ho); clear HO1181 ho hb hg hat; obtain ⟨Ao31, co31, eo31⟩ := Kd.R_slice HO1184.out; subst eo31) | ((with_reducible refine gate_builtin (b := .append) (xs := #[.tmp 41, .tmp 46]) rfl ?_); at_builtin; refine Kd.S_append (Kd.slice 3 (Kd.int .i64)) (w0 := w) w.heap.size rfl (.tmp 41) (.tmp 46) 58 24 (.slice none 0 0) 24 rfl Try.underlying58 info24 rfl (by decide) (by omega) u5 x5_2 y1182 [.slice Ao31 y1182.length co31] (fun k_ => some k_ ≠ (.slice (some ad1178) t1175.length co21 : Value).ownBlock) (fun k_ => some k_ = (.slice Ao31 y1182.length co31 : Value).ownBlock) rfl rfl ?aP (fun k_ hk_ => ((Kd.R_mono (ok' := fun k_ => ((fun k_ => some k_ ≠ (.slice (some ad1178) t1175.length co21 : Value).ownBlock)) k_ ∧ some k_ ≠ (u5 : Value).ownBlock) (Kd.R_apart' (Kd.R_apart' (HO1184.out) (Kd.S_typed HO_35.out) (by decide)) (Kd.S_typed HO_5.out) (by decide)) (fun k_ hk => ⟨hk.1.2, hk.2⟩))).1 k_ hk_.symm) ?aF ?aO ?aB ?aS ?aL ?_; (case aP => exact Kd.M_row (Kd.R_mono (Kd.R_tight rfl (Kd.R_mono (ok' := fun k_ => ((fun k_ => some k_ ≠ (.slice (some ad1178) t1175.length co21 : Value).ownBlock)) k_ ∧ some k_ ≠ (u5 : Value).ownBlock) (Kd.R_apart' (Kd.R_apart' (HO1184.out) (Kd.S_typed HO_35.out) (by decide)) (Kd.S_typed HO_5.out) (by decide)) (fun k_ hk => ⟨hk.1.2, hk.2⟩))) (fun _ h_ => h_))); (case aB => exact bw); (case aF => exact (fun k_ hk => Kd.fresh' (Kd.S_lt (so HO_35.out)) k_ hk)); (case aO => exact (by (with_reducible repeat (first | apply Kd.S_alloc | apply Kd.S_drewN | apply Kd.S_drew)); exact Kd.S_mono HO_5.out (fun k_ hk => ⟨hk.1, fun e_ => hk.2 e_⟩))); (case aS => exact (below_size bw)); (case aL => have := LMc26.out; omega); intro v1186 w30 ho hb hg hat; rw [← Ny1185.out] at ho; replace HO_35 := am (Kd.S_after (ok := (fun k_ => some k_ ≠ (.slice Ao31 y1182.length co31 : Value).ownBlock)) (by (with_reducible repeat (first | apply Kd.S_alloc | apply Kd.S_drewN | apply Kd.S_drew)); exact Kd.S_mono HO_35.out (fun _ hk => by first | exact ⟨hk.2, hk.1⟩ | simp_all)) hg hat); replace HL1178_0 := am (Kd.R_after (ok := (fun k_ => some k_ ≠ (.slice (some ad1178) t1175.length co21 : Value).ownBlock ∧ some k_ ≠ (.slice Ao31 y1182.length co31 : Value).ownBlock)) (by (with_reducible repeat (first | apply Kd.R_alloc | apply Kd.R_drewN | apply Kd.R_drew)); exact Kd.R_mono HL1178_0.out (fun _ hk => ⟨⟨hk.1.2, hk.2⟩, hk.1.1⟩)) hg hat); replace HB := am (hb); have HO1187 := am (ho); clear HO_5 HO1184 ho hb hg hat))
         go_roundg k2
         case measure => have := HK1.out; have := HK2.out; omega
         case rel => exact ⟨(y1185), (wrap64 (x37_2 + 1)), rr, H', ⟨by have := HK1.out; have := HK2.out; omega⟩, ⟨by (with_reducible repeat (first | apply Kd.S_alloc | apply Kd.S_drewN | apply Kd.S_drew)); exact HO1187.out⟩, ⟨by (with_reducible repeat (first | apply Kd.S_alloc | apply Kd.S_drewN | apply Kd.S_drew)); exact Kd.S_mono HO_35.out (fun _ hk => hk.2)⟩, ⟨bw⟩⟩
        ·have H' := am H
         clear H
         go_wp2
         go_roundg k2
         case measure => have := HK1.out; have := HK2.out; omega
         case rel => exact ⟨(x5_2), (wrap64 (x6_1 - 1)), rr, H', ⟨by have := HK1.out; have := HK2.out; omega⟩, ⟨by (with_reducible repeat (first | apply Kd.S_alloc | apply Kd.S_drewN | apply Kd.S_drew)); exact Kd.S_mono HO_5.out (fun _ hk => trivial)⟩, ⟨bw⟩⟩
     ·have c14b0 : decide (0 ≤ x6_1) = false := decide_eq_false c14
      clear c14
      obtain rfl := Option.some.inj H
      go_wp2
      go_ret
      exact ⟨_, re, by (with_reducible repeat (first | apply Kd.S_alloc | apply Kd.S_drewN | apply Kd.S_drew)); exact HO_5.out, bw⟩


/-! ### impl_Factorizations: function 176 -/
def impl_Factorizations.f (k : Nat) (l0_0 : List Int) (a1 : Int) : Option ((List (List Int))) := (impl_IsSemigroup.f k l0_0).bind fun t1189 => (if t1189 = true then ((impl_within.f a1 0 100).bind fun t1190 => (if t1190 = true then ((impl_factored.f k l0_0 a1).bind fun t1191 => (some t1191)) else (some ([] : List (List Int))))) else (some ([] : List (List Int))))
set_option maxHeartbeats 8000000 in
set_option maxRecDepth 100000 in
theorem impl_Factorizations.calls (k : Nat) (A0_0 : Option Addr) (c0_0 : Nat) (l0_0 : List Int) (a1 : Int) (r : List (List Int)) (w : World) (hr0_0 : Kd.C (Kd.int .i64) w A0_0 l0_0.length l0_0) (hc0_0 : l0_0.length ≤ c0_0) (h : impl_Factorizations.f k l0_0 a1 = some r) :
  Calls Try.prog 176 #[.agg #[.slice A0_0 l0_0.length c0_0], .int .i64 a1] w fun e w' => ∃ v0_ : Value, e = .returned (v0_) ∧ Kd.S (Kd.slice 3 (Kd.int .i64)) 24 w' w.heap.size (fun _ => True) v0_ r ∧ Below w.heap.size w w' := by
 have hu26 := Try.underlying26
 have HR0_0 := am hr0_0
 have HC0_0 := am hc0_0
 clear hr0_0 hc0_0
 have HB := am (Below.refl w.heap.size w)
 have H : ((impl_IsSemigroup.f k l0_0).bind fun t1189 => (if t1189 = true then ((impl_within.f a1 0 100).bind fun t1190 => (if t1190 = true then ((impl_factored.f k l0_0 a1).bind fun t1191 => (some t1191)) else (some ([] : List (List Int))))) else (some ([] : List (List Int))))) = some r := h
 clear h
 replace H := ga H; obtain ⟨t1189, A3, H⟩ := H
 replace H := gb H; obtain ⟨rfl, H⟩ | ⟨rfl, H⟩ := H
 ·replace H := ga H; obtain ⟨t1190, A5, H⟩ := H
  replace H := gb H; obtain ⟨rfl, H⟩ | ⟨rfl, H⟩ := H
  ·replace H := ga H; obtain ⟨t1191, A7, H⟩ := H
   obtain rfl := Option.some.inj H
   go_enter Try.func176, Try.ntmps176
   go_wp2_with (first | ((with_reducible refine gate_dst (N := 2) rfl ?_); refine bx 2 #[.slice A0_0 l0_0.length c0_0] 26 ?_; intro gb1188 hg w8 hbox hb; have BK1188 := am (hbox); have GW1188 := am (gs hg : w.heap.size ≤ gb1188); have GE1188 := GW1188; replace HB := am (below_step bw hb); clear hb hbox hg; have hcz9_0 := bc BK1188 0 (.slice A0_0 l0_0.length c0_0); have hfz9_0 := blk_frozen BK1188.out 0) | ((with_reducible refine gate_callee (f := 151) rfl ?_); refine gl (some 6) Try.func151 #[.agg #[.slice A0_0 l0_0.length c0_0]] ?_; (with_reducible refine (impl_IsSemigroup.calls k _ _ l0_0 true _ ?side1 ?side2 A3.out).mono ?_); (case side1 => exact co (Kd.C_below HR0_0.out HB.out)); (case side2 => exact HC0_0.out); rintro e w10 ⟨rfl, hb⟩; refine ⟨_, rfl, ?_⟩; replace BK1188 := kb BK1188 hb; replace HB := am (below_step bw hb); clear hb) | (go_at_call 139; (with_reducible refine (impl_within.calls a1 0 100 true _ A5.out).mono ?_); rintro e w' ⟨rfl, ⟨nd, rfl⟩⟩; have hcz11_0 := bc BK1188 0 (.slice A0_0 l0_0.length c0_0); have hfz11_0 := blk_frozen BK1188.out 0) | ((with_reducible refine gate_callee (f := 226) rfl ?_); refine gl (some 16) Try.func226 #[.slice A0_0 l0_0.length c0_0, .int .i64 a1] ?_; (with_reducible refine (impl_factored.calls k _ _ l0_0 a1 t1191 _ ?side1 ?side2 A7.out).mono ?_); (case side1 => exact co (Kd.C_below HR0_0.out bw)); (case side2 => exact HC0_0.out); rintro e w12 ⟨v1192, rfl, ho0, hb⟩; refine ⟨_, rfl, ?_⟩; have HO1193 := am (Kd.S_lower ho0 (below_size bw)); replace BK1188 := kb BK1188 hb; replace HB := am (below_step bw hb); clear hb ho0))
   go_ret
   exact ⟨_, re, by (with_reducible repeat (first | apply Kd.S_alloc | apply Kd.S_drewN | apply Kd.S_drew)); exact HO1193.out, bw⟩
  ·obtain rfl := Option.some.inj H
   go_enter Try.func176, Try.ntmps176
   go_wp2_with (first | ((with_reducible refine gate_dst (N := 2) rfl ?_); refine bx 2 #[.slice A0_0 l0_0.length c0_0] 26 ?_; intro gb1188 hg w13 hbox hb; have BK1188 := am (hbox); have GW1188 := am (gs hg : w.heap.size ≤ gb1188); have GE1188 := GW1188; replace HB := am (below_step bw hb); clear hb hbox hg; have hcz14_0 := bc BK1188 0 (.slice A0_0 l0_0.length c0_0); have hfz14_0 := blk_frozen BK1188.out 0) | ((with_reducible refine gate_callee (f := 151) rfl ?_); refine gl (some 6) Try.func151 #[.agg #[.slice A0_0 l0_0.length c0_0]] ?_; (with_reducible refine (impl_IsSemigroup.calls k _ _ l0_0 true _ ?side1 ?side2 A3.out).mono ?_); (case side1 => exact co (Kd.C_below HR0_0.out HB.out)); (case side2 => exact HC0_0.out); rintro e w15 ⟨rfl, hb⟩; refine ⟨_, rfl, ?_⟩; replace BK1188 := kb BK1188 hb; replace HB := am (below_step bw hb); clear hb) | (go_at_call 139; (with_reducible refine (impl_within.calls a1 0 100 false _ A5.out).mono ?_); rintro e w' ⟨rfl, ⟨nd, rfl⟩⟩))
   go_ret
   exact ⟨_, re, by first | exact Kd.S_nil _ _ _ _ _ | exact Kd.N_nil _ _ _ _ _ | exact Kd.V_nil _ _ _ _ _ | exact Kd.Q_nil _ _ _ _ _ | exact Kd.R_nil _ _ _ _ _, bw⟩
 ·obtain rfl := Option.some.inj H
  go_enter Try.func176, Try.ntmps176
  go_wp2_with (first | ((with_reducible refine gate_dst (N := 2) rfl ?_); refine bx 2 #[.slice A0_0 l0_0.length c0_0] 26 ?_; intro gb1188 hg w16 hbox hb; have BK1188 := am (hbox); have GW1188 := am (gs hg : w.heap.size ≤ gb1188); have GE1188 := GW1188; replace HB := am (below_step bw hb); clear hb hbox hg; have hcz17_0 := bc BK1188 0 (.slice A0_0 l0_0.length c0_0); have hfz17_0 := blk_frozen BK1188.out 0) | ((with_reducible refine gate_callee (f := 151) rfl ?_); refine gl (some 6) Try.func151 #[.agg #[.slice A0_0 l0_0.length c0_0]] ?_; (with_reducible refine (impl_IsSemigroup.calls k _ _ l0_0 false _ ?side1 ?side2 A3.out).mono ?_); (case side1 => exact co (Kd.C_below HR0_0.out HB.out)); (case side2 => exact HC0_0.out); rintro e w18 ⟨rfl, hb⟩; refine ⟨_, rfl, ?_⟩; replace BK1188 := kb BK1188 hb; replace HB := am (below_step bw hb); clear hb))
  go_ret
  exact ⟨_, re, by first | exact Kd.S_nil _ _ _ _ _ | exact Kd.N_nil _ _ _ _ _ | exact Kd.V_nil _ _ _ _ _ | exact Kd.Q_nil _ _ _ _ _ | exact Kd.R_nil _ _ _ _ _, bw⟩


/-! ### impl_LengthsOf: function 97 -/
mutual
def impl_LengthsOf.j0 : Nat → Int → Bool → List Int → Option (List Int)
 | 0, _, _, _ => none
 | k + 1, x1, x15, x1195000 => if x15 = true then (some ([] : List Int)) else ((impl_Factorizations.f k x1195000 x1).bind fun t1200 => (impl_LengthsOf.l0 k (([] : List Int)) t1200 (t1200.length : Int) 0))
def impl_LengthsOf.l0 : Nat → List Int → List (List Int) → Int → Int → Option (List Int)
 | 0, _, _, _, _ => none
 | k + 1, x5, x19, x20, x21 => if x21 < x20 then (if 0 ≤ x21 then (if x21 < (x19.length : Int) then ((impl_total.f k (rd_L3 x19 x21)).bind fun t1204 => (if x5.length < 17592186044416 then (impl_LengthsOf.l0 k (x5 ++ [t1204]) x19 x20 (wrap64 (x21 + 1))) else (none))) else (none)) else (none)) else ((impl_SortList.f x5).bind fun t1208 => (some t1208))
end
def impl_LengthsOf.f (k : Nat) (l0_0 : List Int) (a1 : Int) : Option (List Int) := (impl_IsSemigroup.f k l0_0).bind fun t1195 => (if t1195 = true then ((impl_within.f a1 0 100).bind fun t1196 => (impl_LengthsOf.j0 k a1 (!t1196) l0_0)) else (impl_LengthsOf.j0 k a1 true l0_0))
set_option maxHeartbeats 8000000 in
set_option maxRecDepth 100000 in
theorem impl_LengthsOf.calls (k : Nat) (A0_0 : Option Addr) (c0_0 : Nat) (l0_0 : List Int) (a1 : Int) (r : List Int) (w : World) (hr0_0 : Kd.C (Kd.int .i64) w A0_0 l0_0.length l0_0) (hc0_0 : l0_0.length ≤ c0_0) (h : impl_LengthsOf.f k l0_0 a1 = some r) :
  Calls Try.prog 97 #[.agg #[.slice A0_0 l0_0.length c0_0], .int .i64 a1] w fun e w' => ∃ v0_ : Value, e = .returned (v0_) ∧ Kd.R (Kd.int .i64) 3 w' w.heap.size (fun _ => True) v0_ r ∧ Below w.heap.size w w' := by
 have hu26 := Try.underlying26
 have HR0_0 := am hr0_0
 have HC0_0 := am hc0_0
 clear hr0_0 hc0_0
 have HB := am (Below.refl w.heap.size w)
 have H : ((impl_IsSemigroup.f k l0_0).bind fun t1195 => (if t1195 = true then ((impl_within.f a1 0 100).bind fun t1196 => (impl_LengthsOf.j0 k a1 (!t1196) l0_0)) else (impl_LengthsOf.j0 k a1 true l0_0))) = some r := h
 clear h
 have HC3 := am H
 clear H
 go_enter Try.func97, Try.ntmps97
 go_upto_region 1 with (first | ((with_reducible refine gate_dst (N := 2) rfl ?_); refine bx 2 #[.slice A0_0 l0_0.length c0_0] 26 ?_; intro gb1194 hg w4 hbox hb; have BK1194 := am (hbox); have GW1194 := am (gs hg : w.heap.size ≤ gb1194); have GE1194 := GW1194; replace HB := am (below_step bw hb); clear hb hbox hg))
 (try simp only [Act.put, List.setIfInBounds_toArray, List.set_cons_zero, List.set_cons_succ])
 go_cut [15] (fun v15 wc => ∃ (kq : Nat) (x15_2 : Bool), v15 = .bool x15_2 ∧ Aside0 (impl_LengthsOf.j0 kq a1 x15_2 l0_0 = some r) ∧ Aside0 (kq ≤ k) ∧ Aside0 (wc.heap[gb1194]? = some (.cells #[(.slice A0_0 l0_0.length c0_0)] 26 (0, 0))) ∧ Aside0 (Below w.heap.size w wc))
 case first =>
  have H := HC3.out
  clear HC3
  replace H := ga H; obtain ⟨t1195, A5, H⟩ := H
  replace H := gb H; obtain ⟨rfl, H⟩ | ⟨rfl, H⟩ := H
  ·replace H := ga H; obtain ⟨t1196, A7, H⟩ := H
   have H' := am H
   clear H
   have hcz8_0 := bc BK1194 0 (.slice A0_0 l0_0.length c0_0)
   have hfz8_0 := blk_frozen BK1194.out 0
   go_wp2_with (first | ((with_reducible refine gate_callee (f := 151) rfl ?_); refine gl (some 9) Try.func151 #[.agg #[.slice A0_0 l0_0.length c0_0]] ?_; (with_reducible refine (impl_IsSemigroup.calls k _ _ l0_0 true _ ?side1 ?side2 A5.out).mono ?_); (case side1 => exact co (Kd.C_below HR0_0.out HB.out)); (case side2 => exact HC0_0.out); rintro e w9 ⟨rfl, hb⟩; refine ⟨_, rfl, ?_⟩; replace BK1194 := kb BK1194 hb; replace HB := am (below_step bw hb); clear hb) | (go_at_call 139; (with_reducible refine (impl_within.calls a1 0 100 t1196 _ A7.out).mono ?_); rintro e w' ⟨rfl, ⟨nd, rfl⟩⟩))
   go_meet
   case rel => exact ⟨_, (!t1196), rr, H', ⟨om⟩, ⟨bo BK1194.out⟩, ⟨bw⟩⟩
  ·have H' := am H
   clear H
   have hcz10_0 := bc BK1194 0 (.slice A0_0 l0_0.length c0_0)
   have hfz10_0 := blk_frozen BK1194.out 0
   go_wp2_with (first | ((with_reducible refine gate_callee (f := 151) rfl ?_); refine gl (some 9) Try.func151 #[.agg #[.slice A0_0 l0_0.length c0_0]] ?_; (with_reducible refine (impl_IsSemigroup.calls k _ _ l0_0 false _ ?side1 ?side2 A5.out).mono ?_); (case side1 => exact co (Kd.C_below HR0_0.out HB.out)); (case side2 => exact HC0_0.out); rintro e w11 ⟨rfl, hb⟩; refine ⟨_, rfl, ?_⟩; replace BK1194 := kb BK1194 hb; replace HB := am (below_step bw hb); clear hb))
   go_meet
   case rel => exact ⟨_, (true), rr, H', ⟨om⟩, ⟨bo BK1194.out⟩, ⟨bw⟩⟩
 case rest =>
  clear HC3
  try clear hcz10_0; try clear hcz8_0; try clear hfz10_0; try clear hfz8_0
  obtain ⟨kq, x15_2, rfl, HA, HJ2, BK1194, HB⟩ := hcut
  cases kq with
  | zero => exact absurd HA.out (by simp [impl_LengthsOf.j0])
  | succ kj2 =>
   have H := HA.out
   clear HA
   simp only [impl_LengthsOf.j0] at H
   replace H := gb H; obtain ⟨rfl, H⟩ | ⟨rfl, H⟩ := H
   ·obtain rfl := Option.some.inj H
    go_wp2
    go_ret
    exact ⟨_, re, by first | exact Kd.R_nil _ _ _ _ _ | exact Kd.N_nil _ _ _ _ _ | exact Kd.V_nil _ _ _ _ _ | exact Kd.Q_nil _ _ _ _ _ | exact Kd.S_nil _ _ _ _ _, bw⟩
   ·obtain ⟨y1197, hy1197⟩ : ∃ y_ : List Int, y_ = (([] : List Int)) := ⟨_, rfl⟩
    replace H : ((impl_Factorizations.f kj2 l0_0 a1).bind fun t1200 => (impl_LengthsOf.l0 kj2 y1197 t1200 (t1200.length : Int) 0)) = some r := by first | (rw [hy1197]; with_reducible exact H) | (have H2_ := (Option.bind_some _ _).symm.trans H; rw [hy1197]; with_reducible exact H2_) | (have H2_ := (Option.bind_some _ _).symm.trans H; with_reducible exact H2_) | with_reducible exact H | (rw [hy1197]; exact H) | exact H
    have Ny1197 := am hy1197
    clear hy1197
    replace H := ga H; obtain ⟨t1200, A13, H⟩ := H
    have H' := am H
    clear H
    go_wp2_with (first | ((with_reducible refine gate_dst (N := 16) rfl ?_); refine Kd.R_lit (Kd.int .i64) _ 3 ?hg (N := 16) ?hd (xs := ([] : List Int)) (inner := []) (ok := fun _ => True) (okp := fun _ => True) ?hr ?hp (fun _ hk => hk) trivial (Below.refl _ _) (Nat.le_refl _) (by simp) ?_; (case hd => rfl); (case hg => rfl); (case hr => first | (go_simp; done) | (go_simp; rfl)); (case hp => exact (Reps.none _ _)); intro v1198 w14 ho15 hb hg_ hnew_; clear hg_ hnew_; (first | rw [← Ny1197.out] at ho15 | (simp only [Int.reduceToNat] at ho15; rw [← Ny1197.out] at ho15)); have HO1199 := am (Kd.R_lower ho15 (below_size bw)); replace BK1194 := kb BK1194 hb; replace HB := am (below_step bw hb); clear hb ho15; have hcz16_0 := bc BK1194 0 (.slice A0_0 l0_0.length c0_0); have hfz16_0 := blk_frozen BK1194.out 0) | ((with_reducible refine gate_callee (f := 176) rfl ?_); refine gl (some 19) Try.func176 #[.agg #[.slice A0_0 l0_0.length c0_0], .int .i64 a1] ?_; (with_reducible refine (impl_Factorizations.calls kj2 _ _ l0_0 a1 t1200 _ ?side1 ?side2 A13.out).mono ?_); (case side1 => exact co (Kd.C_below HR0_0.out HB.out)); (case side2 => exact HC0_0.out); rintro e w17 ⟨v1201, rfl, ho0, hb⟩; refine ⟨_, rfl, ?_⟩; have HO1202 := am (Kd.S_lower (Kd.S_new' ho0 (Kd.R_lt (ro HO1199.out))) (below_size bw)); replace HO1199 := am (Kd.R_below (ro HO1199.out) hb); replace BK1194 := kb BK1194 hb; replace HB := am (below_step bw hb); clear hb ho0; obtain ⟨Ao18, co18, eo18⟩ := Kd.S_slice HO1202.out; subst eo18))
    go_loopg [5, 21] kj2 (fun kq v5 v21 w' => ∃ (x5_2 : List Int) (x21_2 : Int), v21 = .int .i64 x21_2 ∧ Aside0 (impl_LengthsOf.l0 kq x5_2 t1200 (t1200.length : Int) x21_2 = some r) ∧ Aside0 (kq ≤ kj2) ∧ Aside0 (Kd.R (Kd.int .i64) 3 w' w.heap.size (fun _ => True) v5 x5_2) ∧ Aside0 (Kd.S (Kd.slice 3 (Kd.int .i64)) 24 w' w.heap.size (fun k_ => some k_ ≠ (v5 : Value).ownBlock) (.slice Ao18 t1200.length co18) t1200) ∧ Aside0 (w'.heap[gb1194]? = some (.cells #[(.slice A0_0 l0_0.length c0_0)] 26 (0, 0))) ∧ Aside0 (Below w.heap.size w w'))
    case atStart => exact ⟨(y1197), (0), rr, H', ⟨Nat.le_refl _⟩, ⟨ro HO1199.out⟩, ⟨by (with_reducible repeat (first | apply Kd.S_alloc | apply Kd.S_drewN | apply Kd.S_drew)); exact Kd.S_mono HO1202.out (fun _ hk => hk.2)⟩, ⟨bo BK1194.out⟩, ⟨bw⟩⟩
    case round =>
     clear H'
     try clear hcz10_0; try clear hcz16_0; try clear hcz8_0; try clear hfz10_0; try clear hfz16_0; try clear hfz8_0
     obtain ⟨x5_2, x21_2, rfl, HA, HK2, HO_5, HO_19, BK1194, HB⟩ := hrel
     cases gk with
     | zero => exact absurd HA.out (by simp [impl_LengthsOf.l0])
     | succ k2 =>
      have H := HA.out
      clear HA
      simp only [impl_LengthsOf.l0] at H
      replace H := gi H; obtain ⟨c19b0, H⟩ | ⟨c19b0, H⟩ := H
      ·replace H := gd H; obtain ⟨c20b0, H⟩ := H
       replace H := gd H; obtain ⟨c21b0, H⟩ := H
       replace H := ga H; obtain ⟨t1204, A22, H⟩ := H
       by_cases c23 : x5_2.length < 17592186044416
       rotate_left
       ·rw [if_neg c23] at H
        exact absurd H (by simp)
       rw [if_pos c23] at H
       have LMc23 := am c23
       clear c23
       obtain ⟨y1205, hy1205⟩ : ∃ y_ : List Int, y_ = (x5_2 ++ [t1204]) := ⟨_, rfl⟩
       replace H : (impl_LengthsOf.l0 k2 y1205 t1200 (t1200.length : Int) (wrap64 (x21_2 + 1))) = some r := by first | (rw [hy1205]; with_reducible exact H) | (have H2_ := (Option.bind_some _ _).symm.trans H; rw [hy1205]; with_reducible exact H2_) | (have H2_ := (Option.bind_some _ _).symm.trans H; with_reducible exact H2_) | with_reducible exact H | (rw [hy1205]; exact H) | exact H
       have Ny1205 := am hy1205
       clear hy1205
       have H' := am H
       clear H
       have p1203 : 0 ≤ (x21_2 : Int) := of_decide_eq_true (by first | (with_reducible assumption) | assumption)
       have q1203 : x21_2 < (t1200.length : Int) := of_decide_eq_true (by first | (with_reducible assumption) | assumption)
       obtain ⟨ad1203, A1203_0, c1203_0, e1203, hx1203_0, hl1203_0, hi1203_0⟩ := at_L3 (Kd.S_reads' HO_19.out).2.2 x21_2 p1203 q1203
       cases e1203
       obtain ⟨ce1203, hce1203, hMe1203, hcc1203⟩ := Kd.S_get HO_19.out [] x21_2 p1203 (by first | exact q1203 | exact of_decide_eq_true (by first | (with_reducible assumption) | assumption) | (have e_ := (Kd.S_reads' HO_19.out).1; omega))
       obtain ⟨ve1203_0, rfl, ge1203_0⟩ := hMe1203
       have hv1203_0 := hcc1203 0 _ rfl
       rw [Nat.add_zero, show ((Kd.slice 3 (Kd.int .i64))).sz = 1 from rfl, Nat.mul_one] at hv1203_0
       replace hv1203_0 := Option.some.inj (hv1203_0.symm.trans hx1203_0)
       rw [hv1203_0] at ge1203_0
       have HL1203_0 := am (show Kd.R (Kd.int .i64) 3 _ _ _ _ (rd_L3 t1200 x21_2) from ge1203_0)
       clear hv1203_0 ge1203_0
       clear hcc1203 hce1203
       have HR1203_0 := am hi1203_0
       have HC1203_0 := am hl1203_0
       clear hi1203_0 hl1203_0
       replace p1203 := eq_true p1203
       replace q1203 := eq_true q1203
       go_wp2_with (first | ((with_reducible refine gate_callee (f := 166) rfl ?_); refine gl (some 27) Try.func166 #[.slice A1203_0 (rd_L3 t1200 x21_2).length c1203_0] ?_; (with_reducible refine (impl_total.calls k2 _ _ (rd_L3 t1200 x21_2) t1204 _ ?side1 ?side2 A22.out).mono ?_); (case side1 => repeat (first | exact (by repeat (first | (with_reducible exact HR1203_0.out) | (with_reducible refine Kd.C_alloc ?_ _) | (with_reducible refine Kd.C_drewN ?_ _) | (with_reducible refine Kd.C_drew ?_) | exact HR1203_0.out)) | (with_reducible refine Kd.C_alloc ?_ _) | (with_reducible refine Kd.C_drewN ?_ _) | (with_reducible refine Kd.C_drew ?_))); (case side2 => exact HC1203_0.out); rintro e w' ⟨rfl, ⟨nd, rfl⟩⟩; refine ⟨_, rfl, ?_⟩) | ((with_reducible refine gate_builtin (b := .append) (xs := #[.tmp 25, .tmp 28]) rfl ?_); at_builtin; refine Kd.R_append (Kd.int .i64) (w0 := w) w.heap.size rfl (.tmp 25) (.tmp 28) 24 3 (.int .i64 0) 8 rfl Try.underlying24 info3 rfl (by decide) (by omega) u5 x5_2 t1204 [.int .i64 t1204] (fun _ => True) (fun _ => False) rfl rfl ?aP (fun _ hk => hk.elim) ?aF ?aO ?aB ?aS ?aL ?_; (case aP => exact rfl); (case aB => exact bw); (case aF => exact (fun _ _ => trivial)); (case aO => exact (ro HO_5.out)); (case aS => exact (below_size bw)); (case aL => have := LMc23.out; omega); intro v1206 w24 ho hb hg hat; rw [← Ny1205.out] at ho; replace HO_19 := am (Kd.S_after (ok := (fun _ => True)) (by (with_reducible repeat (first | apply Kd.S_alloc | apply Kd.S_drewN | apply Kd.S_drew)); exact Kd.S_mono HO_19.out (fun _ hk => ⟨trivial, by first | exact hk | exact (by intro a n m c x h; cases a <;> exact h : ∀ (a : Option Addr) (n m c x : Nat), some x ≠ (Value.slice a n c).ownBlock → some x ≠ (Value.slice a m c).ownBlock) _ _ _ _ _ hk⟩)) hg hat); replace BK1194 := am (blk_grown (g := gb1194) (o := .cells #[.slice A0_0 l0_0.length c0_0] 26 (0, 0)) (bo BK1194.out) hg (Kd.R_ne HO_5.out BK1194.out (by decide))); replace HL1203_0 := am (Kd.R_after (ok := (fun k_ => some k_ ≠ (.slice (some ad1203) t1200.length co18 : Value).ownBlock)) (by (with_reducible repeat (first | apply Kd.R_alloc | apply Kd.R_drewN | apply Kd.R_drew)); exact Kd.R_mono HL1203_0.out (fun _ hk => by first | exact ⟨hk.2, hk.1⟩ | simp_all)) hg hat); replace HB := am (hb); have HO1207 := am (ho); clear HO_5 ho hb hg hat))
       go_roundg k2
       case measure => have := HJ2.out; have := HK2.out; omega
       case rel => exact ⟨(y1205), (wrap64 (x21_2 + 1)), rr, H', ⟨by have := HJ2.out; have := HK2.out; omega⟩, ⟨ro HO1207.out⟩, ⟨by (with_reducible repeat (first | apply Kd.S_alloc | apply Kd.S_drewN | apply Kd.S_drew)); exact Kd.S_mono HO_19.out (fun _ hk => hk.2)⟩, ⟨bo BK1194.out⟩, ⟨bw⟩⟩
      ·replace H := ga H; obtain ⟨t1208, A25, H⟩ := H
       obtain rfl := Option.some.inj H
       obtain ⟨Ao26, co26, eo26⟩ := Kd.R_slice HO_5.out
       subst eo26
       go_wp2_with (first | ((with_reducible refine gate_callee (f := 89) rfl ?_); refine gl (some 32) Try.func89 #[.slice Ao26 x5_2.length co26] ?_; (with_reducible refine (impl_SortList.calls _ _ x5_2 t1208 _ ?side1 ?side2 A25.out).mono ?_); (case side1 => exact co (Kd.R_reads' HO_5.out).2.2); (case side2 => exact (Kd.R_reads' HO_5.out).2.1); rintro e w27 ⟨v1209, rfl, ho0, hb⟩; refine ⟨_, rfl, ?_⟩; replace HO_19 := am (Kd.S_elder' (so HO_19.out) (Kd.R_base ho0) hb); have HO1210 := am (Kd.R_lower (Kd.R_new' ho0 (Kd.R_lt (ro HO_5.out))) (below_size bw)); replace HO_5 := am (Kd.R_elder' (ro HO_5.out) (Kd.R_base ho0) hb); replace BK1194 := kb BK1194 hb; replace HB := am (below_step bw hb); clear hb ho0))
       go_ret
       exact ⟨_, re, by (with_reducible repeat (first | apply Kd.R_alloc | apply Kd.R_drewN | apply Kd.R_drew)); exact Kd.R_mono HO1210.out (fun _ hk => trivial), bw⟩


/-! ### impl_DeltaOf: function 98 -/
def impl_DeltaOf.l0 : Nat → List Int → List Int → Int → Option (List Int)
 | 0, _, _, _ => none
 | k + 1, x5, x6, x7 => if x7 < (x5.length : Int) then (if 0 ≤ x7 then (if 0 ≤ (wrap64 (x7 - 1)) then (if (wrap64 (x7 - 1)) < (x5.length : Int) then (if x6.length < 17592186044416 then (impl_DeltaOf.l0 k x5 (x6 ++ [wrap64 ((rd x5 x7) - (rd x5 (wrap64 (x7 - 1))))]) (wrap64 (x7 + 1))) else (none)) else (none)) else (none)) else (none)) else ((impl_SortList.f x6).bind fun t1223 => (some t1223))
def impl_DeltaOf.f (k : Nat) (l0_0 : List Int) (a1 : Int) : Option (List Int) := (impl_LengthsOf.f k l0_0 a1).bind fun t1212 => (impl_DeltaOf.l0 k t1212 (([] : List Int)) 1)
def impl_DeltaOf.T6 : Bool × List (List Nat × List Nat) := (true, [([], []), ([], []), ([], []), ([1, 2], [1, 2]), ([3], [3]), ([], []), ([], []), ([6], [6]), ([5, 7], [5, 7]), ([8], [8]), ([4, 9], [4, 9]), ([10], [10]), ([0, 11], [0, 11]), ([12, 12, 0, 1, 2, 3, 4, 5, 6, 7, 8, 9, 10, 11, 12], [0, 12])])
def impl_DeltaOf.B6 : List Nat := [0, 0, 0, 6, 14, 0, 0, 64, 224, 480, 1022, 2046, 4095, 8191]
theorem impl_DeltaOf.tab6 : rtab .any (opsOf Try.f98 6) = impl_DeltaOf.T6 := by kernel_rfl
theorem impl_DeltaOf.bits6 : waitsOk impl_DeltaOf.T6.2 impl_DeltaOf.B6 = true := by kernel_rfl
set_option maxHeartbeats 8000000 in
set_option maxRecDepth 100000 in
theorem impl_DeltaOf.calls (k : Nat) (A0_0 : Option Addr) (c0_0 : Nat) (l0_0 : List Int) (a1 : Int) (r : List Int) (w : World) (hr0_0 : Kd.C (Kd.int .i64) w A0_0 l0_0.length l0_0) (hc0_0 : l0_0.length ≤ c0_0) (h : impl_DeltaOf.f k l0_0 a1 = some r) :
  Calls Try.prog 98 #[.agg #[.slice A0_0 l0_0.length c0_0], .int .i64 a1] w fun e w' => ∃ v0_ : Value, e = .returned (v0_) ∧ Kd.R (Kd.int .i64) 3 w' w.heap.size (fun _ => True) v0_ r ∧ Below w.heap.size w w' := by
 have hu26 := Try.underlying26
 have HR0_0 := am hr0_0
 have HC0_0 := am hc0_0
 clear hr0_0 hc0_0
 have HB := am (Below.refl w.heap.size w)
 have H : ((impl_LengthsOf.f k l0_0 a1).bind fun t1212 => (impl_DeltaOf.l0 k t1212 (([] : List Int)) 1)) = some r := h
 clear h
 replace H := ga H; obtain ⟨t1212, A3, H⟩ := H
 obtain ⟨y1215, hy1215⟩ : ∃ y_ : List Int, y_ = (([] : List Int)) := ⟨_, rfl⟩
 replace H : (impl_DeltaOf.l0 k t1212 y1215 1) = some r := by first | (rw [hy1215]; with_reducible exact H) | (have H2_ := (Option.bind_some _ _).symm.trans H; rw [hy1215]; with_reducible exact H2_) | (have H2_ := (Option.bind_some _ _).symm.trans H; with_reducible exact H2_) | with_reducible exact H | (rw [hy1215]; exact H) | exact H
 have Ny1215 := am hy1215
 clear hy1215
 have H' := am H
 clear H
 go_enter Try.func98, Try.ntmps98
 go_wp2_with (first | ((with_reducible refine gate_dst (N := 2) rfl ?_); refine bx 2 #[.slice A0_0 l0_0.length c0_0] 26 ?_; intro gb1211 hg w4 hbox hb; have BK1211 := am (hbox); have GW1211 := am (gs hg : w.heap.size ≤ gb1211); have GE1211 := GW1211; replace HB := am (below_step bw hb); clear hb hbox hg; have hcz5_0 := bc BK1211 0 (.slice A0_0 l0_0.length c0_0); have hfz5_0 := blk_frozen BK1211.out 0) | ((with_reducible refine gate_callee (f := 97) rfl ?_); refine gl (some 10) Try.func97 #[.agg #[.slice A0_0 l0_0.length c0_0], .int .i64 a1] ?_; (with_reducible refine (impl_LengthsOf.calls k _ _ l0_0 a1 t1212 _ ?side1 ?side2 A3.out).mono ?_); (case side1 => exact co (Kd.C_below HR0_0.out HB.out)); (case side2 => exact HC0_0.out); rintro e w6 ⟨v1213, rfl, ho0, hb⟩; refine ⟨_, rfl, ?_⟩; have HO1214 := am (Kd.R_lower ho0 (below_size bw)); replace BK1211 := kb BK1211 hb; replace HB := am (below_step bw hb); clear hb ho0) | ((with_reducible refine gate_dst (N := 11) rfl ?_); refine Kd.R_lit (Kd.int .i64) _ 3 ?hg (N := 11) ?hd (xs := ([] : List Int)) (inner := []) (ok := fun _ => True) (okp := fun _ => True) ?hr ?hp (fun _ hk => hk) trivial (Below.refl _ _) (Nat.le_refl _) (by simp) ?_; (case hd => rfl); (case hg => rfl); (case hr => first | (go_simp; done) | (go_simp; rfl)); (case hp => exact (Reps.none _ _)); intro v1216 w7 ho8 hb hg_ hnew_; clear hg_ hnew_; (first | rw [← Ny1215.out] at ho8 | (simp only [Int.reduceToNat] at ho8; rw [← Ny1215.out] at ho8)); have HO1217 := am (Kd.R_lower (Kd.R_new' ho8 (Kd.R_lt (ro HO1214.out))) (below_size bw)); replace HO1214 := am (Kd.R_elder' (ro HO1214.out) (Kd.R_base ho8) hb); replace BK1211 := kb BK1211 hb; replace HB := am (below_step bw hb); clear hb ho8))
 go_loopg [6, 7] k (fun kq v6 v7 w' => ∃ (x6_1 : List Int) (x7_1 : Int), v7 = .int .i64 x7_1 ∧ Aside0 (impl_DeltaOf.l0 kq t1212 x6_1 x7_1 = some r) ∧ Aside0 (kq ≤ k) ∧ Aside0 (Kd.R (Kd.int .i64) 3 w' w.heap.size (fun k_ => some k_ ≠ (v6 : Value).ownBlock) v1213 t1212) ∧ Aside0 (Kd.R (Kd.int .i64) 3 w' w.heap.size (fun k_ => some k_ ≠ (v1213 : Value).ownBlock) v6 x6_1) ∧ Aside0 (w'.heap[gb1211]? = some (.cells #[(.slice A0_0 l0_0.length c0_0)] 26 (0, 0))) ∧ Aside0 (Below w.heap.size w w'))
 case atStart => exact ⟨(y1215), (1), rr, H', ⟨Nat.le_refl _⟩, ⟨by (with_reducible repeat (first | apply Kd.R_alloc | apply Kd.R_drewN | apply Kd.R_drew)); exact Kd.R_mono HO1214.out (fun _ hk => hk.2)⟩, ⟨by (with_reducible repeat (first | apply Kd.R_alloc | apply Kd.R_drewN | apply Kd.R_drew)); exact Kd.R_mono HO1217.out (fun _ hk => hk.2)⟩, ⟨bo BK1211.out⟩, ⟨bw⟩⟩
 case round =>
  clear H'
  try clear hcz5_0; try clear hfz5_0
  obtain ⟨x6_1, x7_1, rfl, HA, HK1, HO_5, HO_6, BK1211, HB⟩ := hrel
  cases gk with
  | zero => exact absurd HA.out (by simp [impl_DeltaOf.l0])
  | succ k1 =>
   have H := HA.out
   clear HA
   simp only [impl_DeltaOf.l0] at H
   replace H := gi H; obtain ⟨c9b0, H⟩ | ⟨c9b0, H⟩ := H
   ·replace H := gd H; obtain ⟨c10b0, H⟩ := H
    obtain ⟨ji11, hji11⟩ : ∃ j_ : Int, (wrap64 (x7_1 - 1)) = j_ := ⟨_, rfl⟩
    replace H : (if 0 ≤ (ji11) then (if (ji11) < (t1212.length : Int) then (if x6_1.length < 17592186044416 then (impl_DeltaOf.l0 k1 t1212 (x6_1 ++ [wrap64 ((rd t1212 x7_1) - (rd t1212 (ji11)))]) (wrap64 (x7_1 + 1))) else (none)) else (none)) else (none)) = some r := by first | (rw [hji11] at H; exact H) | (simp only [hji11] at H ⊢; exact H)
    have hji11w : (IntKind.i64.wrap (x7_1 - 1)) = ji11 := (i64_w _).trans hji11
    replace H := gd H; obtain ⟨c12b0, H⟩ := H
    replace H := gd H; obtain ⟨c13b0, H⟩ := H
    by_cases c14 : x6_1.length < 17592186044416
    rotate_left
    ·rw [if_neg c14] at H
     exact absurd H (by simp)
    rw [if_pos c14] at H
    have LMc14 := am c14
    clear c14
    obtain ⟨y1220, hy1220⟩ : ∃ y_ : List Int, y_ = (x6_1 ++ [wrap64 ((rd t1212 x7_1) - (rd t1212 (ji11)))]) := ⟨_, rfl⟩
    replace H : (impl_DeltaOf.l0 k1 t1212 y1220 (wrap64 (x7_1 + 1))) = some r := by first | (rw [hy1220]; with_reducible exact H) | (have H2_ := (Option.bind_some _ _).symm.trans H; rw [hy1220]; with_reducible exact H2_) | (have H2_ := (Option.bind_some _ _).symm.trans H; with_reducible exact H2_) | with_reducible exact H | (rw [hy1220]; exact H) | exact H
    have Ny1220 := am hy1220
    clear hy1220
    have H' := am H
    clear H
    obtain ⟨Ao15, co15, eo15⟩ := Kd.R_slice HO_5.out
    subst eo15
    try go_wp2
    replace HO_5 := am (Kd.R_drew HO_5.out)
    replace HO_6 := am (Kd.R_drew HO_6.out)
    replace BK1211 := am (blk_drew BK1211.out)
    replace HB := am (below_drew1 HB.out)
    obtain ⟨⟨ad1218, e1218, hx1218_0⟩, p1218, q1218⟩ := pq (Kd.at_int (Kd.R_reads' HO_5.out).2.2 x7_1)
    cases e1218
    obtain ⟨⟨ad1219, e1219, hx1219_0⟩, p1219, q1219⟩ := pq (Kd.at_int (Kd.R_reads' HO_5.out).2.2 (ji11))
    obtain rfl : ad1218 = ad1219 := (by injection e1219)
    refine start_ (n := 14) (S := fun w' => w'.cell? (ad1218.add (x7_1).toNat) = some (.int .i64 (rd t1212 x7_1)) ∧ w'.cell? (ad1218.add ((ji11)).toNat) = some (.int .i64 (rd t1212 (ji11)))) (ds := [11, 12]) (yz 14 0) (by kernel_rfl) rfl rfl ⟨hx1218_0, hx1219_0⟩ (fun hHeld => ?_); refine with_tabW impl_DeltaOf.tab6 impl_DeltaOf.bits6 (fun HT_ HW_ => ?_)
    generalize wr.drew = w16 at HO_5 HO_6 BK1211 HB hx1218_0 hx1219_0 hHeld ⊢
    refine pa 0 (some 18) (yz 14 1) HT_ ?_
    refine pa 1 (some 19) (yz 14 3) HT_ ?_
    refine pa 2 (some 20) (yz 14 7) HT_ ?_
    refine pa 3 (some 21) (yz 14 15) HT_ ?_
    refine pa 5 (some 23) (yz 14 47) HT_ ?_
    refine pa 6 (some 24) (yz 14 111) HT_ ?_
    refine pa 7 (some 25) (yz 14 239) HT_ ?_
    refine pa 8 (some 26) (yz 14 495) HT_ ?_
    refine take_ (i := 4) (N := some 22) (v := ?_) (a' := ?_) (yz 14 511) rfl rfl (take_ofW HT_.out HW_.out (by kernel_rfl)) (fun _ _ _ h => h) (Or.inl ⟨by rfl, ?_⟩) hHeld ?_ ?_
    rotate_left
    ·rintro w' ⟨s0, s1⟩
     go_simp
     with_reducible rfl
    rotate_left
    ·simp only [Act.put, qa, qb, qc, i64_w, i32_w]
     rfl
    refine take_ (i := 9) (N := some 27) (v := ?_) (a' := ?_) (yz 14 1023) rfl rfl (take_ofW HT_.out HW_.out (by kernel_rfl)) (fun _ _ _ h => h) (Or.inl ⟨by rfl, ?_⟩) hHeld ?_ ?_
    rotate_left
    ·rintro w' ⟨s0, s1⟩
     go_simp
     with_reducible rfl
    rotate_left
    ·simp only [Act.put, qa, qb, qc, i64_w, i32_w]
     rfl
    refine pa 10 (some 28) (yz 14 2047) HT_ ?_
    refine last_ (i := 11) (N := some 29) (yz 14 4095) rfl rfl (one_of HT_.out (by kernel_rfl)) (by decide) (fun K hK => ?_)
    refine value_ (w1 := ?_) (v := ?_) (by rfl) rfl ?_ ?_
    rotate_left 2
    ·go_simp
     constructor
     ·rfl
     ·rfl
    refine hK.out _ _ ?_
    clear hK K
    refine norm_ (a' := ?_) ?_ ?_
    rotate_left
    ·show Act.put _ (some 29) _ = _
     simp only [Act.put, qa, qb, qc, i64_w, i32_w]
     rfl
    refine last_ (i := 12) (N := some 30) (yz 14 8191) rfl rfl (one_of HT_.out (by kernel_rfl)) (by decide) (fun K hK => ?_)
    refine Kd.R_append_step (Kd.int .i64) (w0 := w) w.heap.size (by rfl) (.tmp 18) (.tmp 29) 24 3 (.int .i64 0) 8 rfl Try.underlying24 info3 rfl (by decide) (by omega) u6 x6_1 (wrap64 ((rd t1212 x7_1) - (rd t1212 (ji11)))) [.int .i64 (wrap64 ((rd t1212 x7_1) - (rd t1212 (ji11))))] (fun k_ => some k_ ≠ (.slice (some ad1218) t1212.length co15 : Value).ownBlock) (fun _ => False) rfl rfl ?aP (fun _ hk => hk.elim) ?aF ?aO ?aB ?aS ?aL ?_
    (case aP => exact rfl)
    (case aB => exact bw)
    (case aF => exact (fun k_ hk => Kd.fresh' (Kd.R_lt (ro HO_5.out)) k_ hk))
    (case aO => exact (ro HO_6.out))
    (case aS => exact (below_size bw))
    (case aL => have := LMc14.out; omega)
    intro v1221 w17 ho hb hg hat
    rw [← Ny1220.out] at ho
    replace HO_5 := am (Kd.R_after (ok := (fun _ => True)) (by (with_reducible repeat (first | apply Kd.R_alloc | apply Kd.R_drewN | apply Kd.R_drew)); exact Kd.R_mono HO_5.out (fun _ hk => ⟨trivial, by first | exact hk | exact (by intro a n m c x h; cases a <;> exact h : ∀ (a : Option Addr) (n m c x : Nat), some x ≠ (Value.slice a n c).ownBlock → some x ≠ (Value.slice a m c).ownBlock) _ _ _ _ _ hk⟩)) hg hat)
    replace BK1211 := am (blk_grown (g := gb1211) (o := .cells #[.slice A0_0 l0_0.length c0_0] 26 (0, 0)) (bo BK1211.out) hg (Kd.R_ne HO_6.out BK1211.out (by decide)))
    replace HB := am (hb)
    have HO1222 := am (ho)
    clear HO_6 ho hb hg hat
    refine hK.out _ _ ?_
    clear hK K
    refine norm_ (a' := ?_) ?_ ?_
    rotate_left
    ·show Act.put _ (some 30) _ = _
     simp only [Act.put, qa, qb, qc, i64_w, i32_w]
     rfl
    refine pa 13 (some 6) (yz 14 16383) HT_ ?_
    refine done_ (done_of HT_.out (by kernel_rfl)) ?_
    try go_wp2
    go_roundg k1
    case measure => have := HK1.out; omega
    case rel => exact ⟨(y1220), (wrap64 (x7_1 + 1)), rr, H', ⟨by have := HK1.out; omega⟩, ⟨by (with_reducible repeat (first | apply Kd.R_alloc | apply Kd.R_drewN | apply Kd.R_drew)); exact Kd.R_mono HO_5.out (fun _ hk => hk.2)⟩, ⟨ro HO1222.out⟩, ⟨bo BK1211.out⟩, ⟨bw⟩⟩
   ·replace H := ga H; obtain ⟨t1223, A18, H⟩ := H
    obtain rfl := Option.some.inj H
    obtain ⟨Ao19, co19, eo19⟩ := Kd.R_slice HO_5.out
    subst eo19
    obtain ⟨Ao20, co20, eo20⟩ := Kd.R_slice HO_6.out
    subst eo20
    go_wp2_with (first | ((with_reducible refine gate_callee (f := 89) rfl ?_); refine gl (some 32) Try.func89 #[.slice Ao20 x6_1.length co20] ?_; (with_reducible refine (impl_SortList.calls _ _ x6_1 t1223 _ ?side1 ?side2 A18.out).mono ?_); (case side1 => exact co (Kd.R_reads' HO_6.out).2.2); (case side2 => exact (Kd.R_reads' HO_6.out).2.1); rintro e w21 ⟨v1224, rfl, ho0, hb⟩; refine ⟨_, rfl, ?_⟩; have HO1225 := am (Kd.R_lower (Kd.R_new' (Kd.R_new' ho0 (Kd.R_lt (ro HO_5.out))) (Kd.R_lt (ro HO_6.out))) (below_size bw)); replace HO_5 := am (Kd.R_elder' (ro HO_5.out) (Kd.R_base ho0) hb); replace HO_6 := am (Kd.R_elder' (ro HO_6.out) (Kd.R_base ho0) hb); replace BK1211 := kb BK1211 hb; replace HB := am (below_step bw hb); clear hb ho0))
    go_ret
    exact ⟨_, re, by (with_reducible repeat (first | apply Kd.R_alloc | apply Kd.R_drewN | apply Kd.R_drew)); exact Kd.R_mono HO1225.out (fun _ hk => trivial), bw⟩


/-! ### impl_lowest: function 203 -/
def impl_lowest.f (k : Nat) (a0 : Int) (a1 : Int) : Option (Int × Int) := (impl_GcdOf.f k a0 a1).bind fun t1226 => (if t1226 = 0 then (some (0, 0)) else (some (wrap64 (Int.tdiv a0 t1226), wrap64 (Int.tdiv a1 t1226))))
set_option maxHeartbeats 8000000 in
set_option maxRecDepth 100000 in
theorem impl_lowest.calls (k : Nat) (a0 : Int) (a1 : Int) (r1 : Int) (r2 : Int) (w : World) (h : impl_lowest.f k a0 a1 = some (r1, r2)) :
  Calls Try.prog 203 #[.int .i64 a0, .int .i64 a1] w fun e w' => e = .returned (.tuple #[.int .i64 r1, .int .i64 r2]) ∧ Below w.heap.size w w' := by
 have HB := am (Below.refl w.heap.size w)
 have H : ((impl_GcdOf.f k a0 a1).bind fun t1226 => (if t1226 = 0 then (some (0, 0)) else (some (wrap64 (Int.tdiv a0 t1226), wrap64 (Int.tdiv a1 t1226))))) = some (r1, r2) := h
 clear h
 replace H := ga H; obtain ⟨t1226, A3, H⟩ := H
 by_cases c4 : t1226 = 0
 ·rw [if_pos c4] at H
  have c4b0 : (t1226 == 0) = true := beq_iff_eq.mpr c4
  have c4b1 : (t1226 != 0) = false := bne_eq_false_iff_eq.mpr c4
  clear c4
  simp only [Option.some.injEq, Prod.mk.injEq] at H
  obtain ⟨rfl, rfl⟩ := H
  go_enter Try.func203, Try.ntmps203
  go_wp2_with (first | (go_at_call 230; (with_reducible refine (impl_GcdOf.calls k a0 a1 t1226 _ A3.out).mono ?_); rintro e w5 ⟨rfl, hb⟩; replace HB := am (below_step bw hb); clear hb))
  repeat (go_quiet (first | (go_at_call 230; (with_reducible refine (impl_GcdOf.calls k a0 a1 t1226 _ A3.out).mono ?_); rintro e w5 ⟨rfl, hb⟩; have n0_ := am (below_step bw hb); clear HB; have HB := n0_; clear n0_; (try clear hb); (try clear hb2); (try clear hk); (try clear hi))); try go_wp2_with (first | (go_at_call 230; (with_reducible refine (impl_GcdOf.calls k a0 a1 t1226 _ A3.out).mono ?_); rintro e w5 ⟨rfl, hb⟩; have n0_ := am (below_step bw hb); clear HB; have HB := n0_; clear n0_; (try clear hb); (try clear hb2); (try clear hk); (try clear hi))))
  go_ret2
  exact ⟨re, bw⟩
 ·rw [if_neg c4] at H
  have c4b0 : (t1226 == 0) = false := beq_eq_false_iff_ne.mpr c4
  have c4b1 : (t1226 != 0) = true := bne_iff_ne.mpr c4
  simp only [Option.some.injEq, Prod.mk.injEq] at H
  obtain ⟨rfl, rfl⟩ := H
  go_enter Try.func203, Try.ntmps203
  go_wp2_with (first | (go_at_call 230; (with_reducible refine (impl_GcdOf.calls k a0 a1 t1226 _ A3.out).mono ?_); rintro e w6 ⟨rfl, hb⟩; replace HB := am (below_step bw hb); clear hb))
  repeat (go_quiet (first | (go_at_call 230; (with_reducible refine (impl_GcdOf.calls k a0 a1 t1226 _ A3.out).mono ?_); rintro e w6 ⟨rfl, hb⟩; have n0_ := am (below_step bw hb); clear HB; have HB := n0_; clear n0_; (try clear hb); (try clear hb2); (try clear hk); (try clear hi))); try go_wp2_with (first | (go_at_call 230; (with_reducible refine (impl_GcdOf.calls k a0 a1 t1226 _ A3.out).mono ?_); rintro e w6 ⟨rfl, hb⟩; have n0_ := am (below_step bw hb); clear HB; have HB := n0_; clear n0_; (try clear hb); (try clear hb2); (try clear hk); (try clear hi))))
  go_ret2
  exact ⟨re, bw⟩

end Go.Proofs.Ytkfplkdchkmgbaa.C
