/- Contracts of functions of the program: spec_ReachedBy, laws_toRelation, laws_toRelationS, impl_ApplyRelation, impl_within. -/
import Derived.Test.YtfpjjjdiieplkaaC0
import Derived.Test.YtfpjjjdiieplkaaC1
namespace Go.Proofs.Ytfpjjjdiieplkaa.C
open Go.RowKit Go.Proofs.YtfpjjjdiieplkaaW.PrintWords Go.Proofs.YtfpjjjdiieplkaaW.PrintLast Go.Proofs.YtfpjjjdiieplkaaW.PrintMore
attribute [local go_sem] max2_int min2_int max_two min_two max_three min_three max_four min_four
set_option linter.unusedVariables false
set_option linter.unusedSimpArgs false

/-! ### spec_ReachedBy: function 28 -/
mutual
def spec_ReachedBy.l0 : Nat → List (S36) → Int → List (List Int) → Int → Option ((List (List Int)))
 | 0, _, _, _, _ => none
 | k + 1, x0, x2, x7, x8 => if x8 < (x7.length : Int) then (spec_ReachedBy.l1 k x0 x2 x7 x8 0) else (some x7)
def spec_ReachedBy.l1 : Nat → List (S36) → Int → List (List Int) → Int → Int → Option ((List (List Int)))
 | 0, _, _, _, _, _ => none
 | k + 1, x0, x2, x7, x8, x9 => if x9 < (wrap64 (2 * (x0.length : Int))) then (spec_ReachedBy.j2 k x0 x2 x7 x8 x9 (decide ((x7.length : Int) < x2))) else (spec_ReachedBy.j2 k x0 x2 x7 x8 x9 false)
def spec_ReachedBy.j2 : Nat → List (S36) → Int → List (List Int) → Int → Int → Bool → Option ((List (List Int)))
 | 0, _, _, _, _, _, _ => none
 | k + 1, x0, x2, x7, x8, x9, x40 => if x40 = true then (if 0 ≤ (wrap64 (Int.tdiv x9 2)) then (if (wrap64 (Int.tdiv x9 2)) < (x0.length : Int) then (if (Int.tmod x9 2) = 1 then (spec_ReachedBy.j3 k x0 x2 x7 x8 x9 ((rd_T36 x0 (wrap64 (Int.tdiv x9 2))).f1) ((rd_T36 x0 (wrap64 (Int.tdiv x9 2))).f0)) else (spec_ReachedBy.j3 k x0 x2 x7 x8 x9 ((rd_T36 x0 (wrap64 (Int.tdiv x9 2))).f0) ((rd_T36 x0 (wrap64 (Int.tdiv x9 2))).f1))) else (none)) else (none)) else (spec_ReachedBy.l0 k x0 x2 x7 (wrap64 (x8 + 1)))
def spec_ReachedBy.j3 : Nat → List (S36) → Int → List (List Int) → Int → Int → List Int → List Int → Option ((List (List Int)))
 | 0, _, _, _, _, _, _, _ => none
 | k + 1, x0, x2, x7, x8, x9, x151000, x151001 => if 0 ≤ x8 then (if x8 < (x7.length : Int) then ((spec_ApplyRelation.f k x151000 x151001 (rd_L2 x7 x8)).bind fun bt154 => (if bt154.2 = true then ((spec_l13At.f k x7 bt154.1).bind fun t158 => (if t158 < 0 then (if x7.length < 5864062014805 then (spec_ReachedBy.l1 k x0 x2 (x7 ++ [bt154.1]) x8 (wrap64 (x9 + 1))) else (none)) else (spec_ReachedBy.l1 k x0 x2 x7 x8 (wrap64 (x9 + 1))))) else (spec_ReachedBy.l1 k x0 x2 x7 x8 (wrap64 (x9 + 1))))) else (none)) else (none)
end
def spec_ReachedBy.f (k : Nat) (l0 : List (S36)) (l1 : List Int) (a2 : Int) : Option ((List (List Int))) := (some (([] : List (List Int)) : List (List Int))).bind fun y136 => ((spec_l1In.f a2 1 1000).bind fun t139 => (if t139 = true then ((some (([] : List Int) : List Int)).bind fun y140 => (if y140.length + l1.length < 17592186044416 then (if y136.length < 5864062014805 then (spec_ReachedBy.l0 k l0 a2 (y136 ++ [(y140 ++ l1)]) 0) else (none)) else (none))) else (some y136)))
def spec_ReachedBy.T13 : Bool × List (List Nat × List Nat) := (true, [([], []), ([], []), ([1], [1]), ([0, 2], [0, 2]), ([3], [3]), ([4], [4]), ([], []), ([], []), ([7], [7]), ([6, 8], [6, 8]), ([9], [9]), ([10], [10]), ([5, 11], [5, 11]), ([12, 0, 1, 2, 3, 4, 5, 6, 7, 8, 9, 10, 11, 12], [12])])
def spec_ReachedBy.B13 : List Nat := [0, 0, 2, 7, 15, 31, 0, 0, 128, 448, 960, 1984, 4095, 8191]
theorem spec_ReachedBy.tab13 : rtab .any (opsOf Try.f28 13) = spec_ReachedBy.T13 := by kernel_rfl
theorem spec_ReachedBy.bits13 : waitsOk spec_ReachedBy.T13.2 spec_ReachedBy.B13 = true := by kernel_rfl
def spec_ReachedBy.T14 : Bool × List (List Nat × List Nat) := (true, [([], []), ([], []), ([], []), ([1, 2], [1, 2]), ([3], [3]), ([0, 4], [0, 4]), ([5], [5]), ([6], [6]), ([6], [6]), ([7, 5, 0, 1, 2, 3, 4, 5, 6, 7], [7]), ([8, 9, 0, 1, 2, 3, 4, 5, 6, 7, 8, 9], [8])])
def spec_ReachedBy.B14 : List Nat := [0, 0, 0, 6, 14, 31, 63, 127, 127, 255, 1023]
theorem spec_ReachedBy.tab14 : rtab .any (opsOf Try.f28 14) = spec_ReachedBy.T14 := by kernel_rfl
theorem spec_ReachedBy.bits14 : waitsOk spec_ReachedBy.T14.2 spec_ReachedBy.B14 = true := by kernel_rfl
set_option maxHeartbeats 8000000 in
set_option maxRecDepth 100000 in
theorem spec_ReachedBy.calls (k : Nat) (A0 : Option Addr) (c0 : Nat) (l0 : List (S36)) (A1 : Option Addr) (c1 : Nat) (l1 : List Int) (a2 : Int) (r : List (List Int)) (w : World) (hr0 : Kd.C k36 w A0 l0.length l0) (hc0 : l0.length ≤ c0) (hr1 : Kd.C (Kd.int .i64) w A1 l1.length l1) (hc1 : l1.length ≤ c1) (h : spec_ReachedBy.f k l0 l1 a2 = some r) :
  Calls Try.prog 28 #[.slice A0 l0.length c0, .slice A1 l1.length c1, .int .i64 a2] w fun e w' => ∃ v0_ : Value, e = .returned (v0_) ∧ Kd.S (Kd.slice 3 (Kd.int .i64)) 22 w' w.heap.size (fun _ => True) v0_ r ∧ Below w.heap.size w w' := by
 have hu36 := Try.underlying36
 have HR0 := am hr0
 have HC0 := am hc0
 clear hr0 hc0
 have HR1 := am hr1
 have HC1 := am hc1
 clear hr1 hc1
 have HB := am (Below.refl w.heap.size w)
 have H : ((some (([] : List (List Int)) : List (List Int))).bind fun y136 => ((spec_l1In.f a2 1 1000).bind fun t139 => (if t139 = true then ((some (([] : List Int) : List Int)).bind fun y140 => (if y140.length + l1.length < 17592186044416 then (if y136.length < 5864062014805 then (spec_ReachedBy.l0 k l0 a2 (y136 ++ [(y140 ++ l1)]) 0) else (none)) else (none))) else (some y136)))) = some r := h
 clear h
 obtain ⟨y136, hy136⟩ : ∃ y_ : List (List Int), y_ = (([] : List (List Int))) := ⟨_, rfl⟩
 replace H : ((spec_l1In.f a2 1 1000).bind fun t139 => (if t139 = true then ((some (([] : List Int) : List Int)).bind fun y140 => (if y140.length + l1.length < 17592186044416 then (if y136.length < 5864062014805 then (spec_ReachedBy.l0 k l0 a2 (y136 ++ [(y140 ++ l1)]) 0) else (none)) else (none))) else (some y136))) = some r := by first | (rw [hy136]; with_reducible first | exact H | exact bs H) | (with_reducible first | exact bs H | exact H) | (rw [hy136]; exact H) | exact H
 have Ny136 := am hy136
 clear hy136
 replace H := ga H; obtain ⟨t139, A4, H⟩ := H
 replace H := gb H; obtain ⟨rfl, H⟩ | ⟨rfl, H⟩ := H
 ·obtain ⟨y140, hy140⟩ : ∃ y_ : List Int, y_ = (([] : List Int)) := ⟨_, rfl⟩
  replace H : (if y140.length + l1.length < 17592186044416 then (if y136.length < 5864062014805 then (spec_ReachedBy.l0 k l0 a2 (y136 ++ [(y140 ++ l1)]) 0) else (none)) else (none)) = some r := by first | (rw [hy140]; with_reducible first | exact H | exact bs H) | (with_reducible first | exact bs H | exact H) | (rw [hy140]; exact H) | exact H
  have Ny140 := am hy140
  clear hy140
  by_cases c6 : y140.length + l1.length < 17592186044416
  rotate_left
  ·rw [if_neg c6] at H
   exact absurd H (by simp)
  rw [if_pos c6] at H
  have LMc6 := am c6
  clear c6
  obtain ⟨y143, hy143⟩ : ∃ y_ : List Int, y_ = (y140 ++ l1) := ⟨_, rfl⟩
  replace H : (if y136.length < 5864062014805 then (spec_ReachedBy.l0 k l0 a2 (y136 ++ [y143]) 0) else (none)) = some r := by first | (rw [hy143]; with_reducible first | exact H | exact bs H) | (with_reducible first | exact bs H | exact H) | (rw [hy143]; exact H) | exact H
  have Ny143 := am hy143
  clear hy143
  by_cases c7 : y136.length < 5864062014805
  rotate_left
  ·rw [if_neg c7] at H
   exact absurd H (by simp)
  rw [if_pos c7] at H
  have LMc7 := am c7
  clear c7
  obtain ⟨y146, hy146⟩ : ∃ y_ : List (List Int), y_ = (y136 ++ [y143]) := ⟨_, rfl⟩
  replace H : (spec_ReachedBy.l0 k l0 a2 y146 0) = some r := by first | (rw [hy146]; with_reducible first | exact H | exact bs H) | (with_reducible first | exact bs H | exact H) | (rw [hy146]; exact H) | exact H
  have Ny146 := am hy146
  clear hy146
  have H' := am H
  clear H
  go_enter Try.func28, Try.ntmps28
  go_wp2_with (first | ((with_reducible refine gate_dst (N := 13) rfl ?_); (try (refine gate_guard (by rfl) ?_; dsimp only)); refine Kd.S_lit (Kd.slice 3 (Kd.int .i64)) _ 22 ?hg (N := 13) ?hd (xs := ([] : List (List Int))) (inner := []) (ok := fun _ => True) (okp := fun _ => True) ?hr ?hp (fun _ hk => hk) trivial (Below.refl _ _) (Nat.le_refl _) (by simp) ?_; (case hd => rfl); (case hg => rfl); (case hr => first | (go_simp; done) | (go_simp; rfl)); (case hp => exact (Reps.none _ _)); intro v137 w8 ho9 hb hg_ hnew_; clear hg_ hnew_; (first | rw [← Ny136.out] at ho9 | (simp only [Int.reduceToNat] at ho9; rw [← Ny136.out] at ho9)); have HO138 := am (Kd.S_lower ho9 (below_size bw)); replace HB := am (below_step bw hb); clear hb ho9) | ((with_reducible refine gate_callee (f := 36) rfl ?_); refine gl (some 15) Try.func36 #[.int .i64 a2, .int .i64 1, .int .i64 1000] ?_; (with_reducible refine (spec_l1In.calls a2 1 1000 true _ A4.out).mono ?_); rintro e w' ⟨rfl, ⟨nd, rfl⟩⟩; refine ⟨_, rfl, ?_⟩) | ((with_reducible refine gate_dst (N := 19) rfl ?_); (try (refine gate_guard (by rfl) ?_; dsimp only)); refine Kd.R_lit (Kd.int .i64) _ 3 ?hg (N := 19) ?hd (xs := ([] : List Int)) (inner := []) (ok := fun _ => True) (okp := fun _ => True) ?hr ?hp (fun _ hk => hk) trivial (Below.refl _ _) (Nat.le_refl _) (by simp) ?_; (case hd => rfl); (case hg => rfl); (case hr => first | (go_simp; done) | (go_simp; rfl)); (case hp => exact (Reps.none _ _)); intro v141 w10 ho11 hb hg_ hnew_; clear hg_ hnew_; (first | rw [← Ny140.out] at ho11 | (simp only [Int.reduceToNat] at ho11; rw [← Ny140.out] at ho11)); replace HO138 := am (Kd.S_elder' (so HO138.out) (Kd.R_base ho11) hb); have HO142 := am (Kd.R_lower ho11 (below_size bw)); replace HB := am (below_step bw hb); clear hb ho11) | ((with_reducible refine gate_builtin (b := .append) (xs := #[.tmp 19, .tmp 20]) rfl ?_); (try (refine gate_guard (by rfl) ?_; dsimp only)); at_builtin; refine Kd.R_append_rows (Kd.int .i64) (w0 := w) w.heap.size rfl (.tmp 19) (.tmp 20) 22 3 (.int .i64 0) 8 rfl Try.underlying22 info3 rfl (by decide) (by omega) v141 y140 l1 _ _ _ (fun _ => True) (fun _ => False) rfl rfl ?aO ?aR (fun _ _ h => h) (fun _ h => h.elim) ?aF ?aB ?aS ?aL ?_; (case aR => exact co (Kd.C_below HR1.out HB.out)); (case aB => exact bw); (case aF => exact (fun _ _ => trivial)); (case aO => exact (ro HO142.out)); (case aS => exact (below_size bw)); (case aL => have := LMc6.out; omega); intro v144 w12 ho hb hg hat; rw [← Ny143.out] at ho; replace HO138 := am (Kd.S_after (ok := (fun _ => True)) (so HO138.out) hg hat); replace HB := am (hb); have HO145 := am (ho); clear HO142 ho hb hg hat; obtain ⟨Ao14, co14, eo14⟩ := Kd.R_slice HO145.out; subst eo14) | ((with_reducible refine gate_builtin (b := .append) (xs := #[.tmp 18, .tmp 22]) rfl ?_); (try (refine gate_guard (by rfl) ?_; dsimp only)); at_builtin; refine Kd.S_append (Kd.slice 3 (Kd.int .i64)) (w0 := w) w.heap.size rfl (.tmp 18) (.tmp 22) 43 22 (.slice none 0 0) 24 rfl Try.underlying43 info22 rfl (by decide) (by omega) v137 y136 y143 [.slice Ao14 y143.length co14] (fun _ => True) (fun k_ => some k_ = (.slice Ao14 y143.length co14 : Value).ownBlock) rfl rfl ?aP (fun k_ hk_ => ((Kd.R_mono (ok' := fun k_ => ((fun _ => True)) k_ ∧ some k_ ≠ (v137 : Value).ownBlock) (Kd.R_apart' (HO145.out) (Kd.S_typed HO138.out) (by decide)) (fun k_ hk => ⟨trivial, hk.2⟩))).1 k_ hk_.symm) ?aF ?aO ?aB ?aS ?aL ?_; (case aP => exact Kd.M_row (Kd.R_mono (Kd.R_tight rfl (Kd.R_mono (ok' := fun k_ => ((fun _ => True)) k_ ∧ some k_ ≠ (v137 : Value).ownBlock) (Kd.R_apart' (HO145.out) (Kd.S_typed HO138.out) (by decide)) (fun k_ hk => ⟨trivial, hk.2⟩))) (fun _ h_ => h_))); (case aB => exact bw); (case aF => exact (fun _ _ => trivial)); (case aO => exact (by (with_reducible repeat (first | apply Kd.S_alloc | apply Kd.S_drewN | apply Kd.S_drew)); exact Kd.S_mono HO138.out (fun k_ hk => ⟨trivial, fun e_ => hk.2 e_⟩))); (case aS => exact (below_size bw)); (case aL => have := LMc7.out; omega); intro v147 w13 ho hb hg hat; rw [← Ny146.out] at ho; replace HB := am (hb); have HO148 := am (ho); clear HO138 HO145 ho hb hg hat))
  go_loopg [7, 8] k (fun kq v7 v8 w' => ∃ (x7_1 : List (List Int)) (x8_1 : Int), v8 = .int .i64 x8_1 ∧ Aside0 (spec_ReachedBy.l0 kq l0 a2 x7_1 x8_1 = some r) ∧ Aside0 (kq ≤ k) ∧ Aside0 (Kd.S (Kd.slice 3 (Kd.int .i64)) 22 w' w.heap.size (fun _ => True) v7 x7_1) ∧ Aside0 (Below w.heap.size w w'))
  case atStart => exact ⟨(y146), (0), rr, H', ⟨Nat.le_refl _⟩, ⟨so HO148.out⟩, ⟨bw⟩⟩
  case round =>
   clear H'
   try clear c1; try clear c6; try clear c7
   obtain ⟨x7_1, x8_1, rfl, HA, HK1, HO_7, HB⟩ := hrel
   cases gk with
   | zero => exact absurd HA.out (by simp [spec_ReachedBy.l0])
   | succ k1 =>
    have H := HA.out
    clear HA
    simp only [spec_ReachedBy.l0] at H
    replace H := gi H; obtain ⟨c15b0, H⟩ | ⟨c15b0, H⟩ := H
    ·have H' := am H
     clear H
     obtain ⟨Ao16, co16, eo16⟩ := Kd.S_slice HO_7.out
     subst eo16
     go_wp2
     go_loopg [7, 9] k1 (fun kq v7 v9 w' => ∃ (x7_2 : List (List Int)) (x9_2 : Int), v9 = .int .i64 x9_2 ∧ Aside0 (spec_ReachedBy.l1 kq l0 a2 x7_2 x8_1 x9_2 = some r) ∧ Aside0 (kq ≤ k1) ∧ Aside0 (Kd.S (Kd.slice 3 (Kd.int .i64)) 22 w' w.heap.size (fun _ => True) v7 x7_2) ∧ Aside0 (Below w.heap.size w w'))
     case atStart => exact ⟨(x7_1), (0), rr, H', ⟨Nat.le_refl _⟩, ⟨so HO_7.out⟩, ⟨bw⟩⟩
     case round =>
      clear H'
      try clear c1; try clear c6; try clear c7; try clear c15b0
      obtain ⟨x7_2, x9_2, rfl, HA, HK2, HO_7, HB⟩ := hrel
      cases gk with
      | zero => exact absurd HA.out (by simp [spec_ReachedBy.l1])
      | succ k2 =>
       have H := HA.out
       clear HA
       simp only [spec_ReachedBy.l1] at H
       have HC17 := am H
       clear H
       go_upto_region 9 with (fail)
       go_cut [40] (fun v40 wc => ∃ (kq : Nat) (x40_16 : Bool), v40 = .bool x40_16 ∧ Aside0 (spec_ReachedBy.j2 kq l0 a2 x7_2 x8_1 x9_2 x40_16 = some r) ∧ Aside0 (kq ≤ k2) ∧ Aside0 (Kd.S (Kd.slice 3 (Kd.int .i64)) 22 wc w.heap.size (fun _ => True) u7 x7_2) ∧ Aside0 (Below w.heap.size w wc))
       case first =>
        have H := HC17.out
        clear HC17
        replace H := gi H; obtain ⟨c18b0, H⟩ | ⟨c18b0, H⟩ := H
        ·(first | rw [c18b0] | (simp only [i64_w, i32_w]; rw [c18b0]) | skip)
         have H' := am H
         clear H
         obtain ⟨Ao19, co19, eo19⟩ := Kd.S_slice HO_7.out
         subst eo19
         go_wp2
         go_meet
         case rel => exact ⟨_, (decide ((x7_2.length : Int) < a2)), rr, H', ⟨by have := HK1.out; have := HK2.out; first | omega | exact Nat.le_refl _⟩, ⟨so HO_7.out⟩, ⟨bw⟩⟩
        ·(first | rw [c18b0] | (simp only [i64_w, i32_w]; rw [c18b0]) | skip)
         have H' := am H
         clear H
         go_wp2
         go_meet
         case rel => exact ⟨_, (false), rr, H', ⟨by have := HK1.out; have := HK2.out; first | omega | exact Nat.le_refl _⟩, ⟨so HO_7.out⟩, ⟨bw⟩⟩
       case rest =>
        clear HC17
        try clear c1; try clear c6; try clear c7; try clear c15b0; try clear c18b0
        obtain ⟨kq, x40_16, rfl, HA, HJ16, HO_7, HB⟩ := hcut
        cases kq with
        | zero => exact absurd HA.out (by simp [spec_ReachedBy.j2])
        | succ kj16 =>
         have H := HA.out
         clear HA
         simp only [spec_ReachedBy.j2] at H
         replace H := gb H; obtain ⟨rfl, H⟩ | ⟨rfl, H⟩ := H
         ·obtain ⟨ji21, hji21⟩ : ∃ j_ : Int, (wrap64 (Int.tdiv x9_2 2)) = j_ := ⟨_, rfl⟩
          replace H : (if 0 ≤ (ji21) then (if (ji21) < (l0.length : Int) then (if (Int.tmod x9_2 2) = 1 then (spec_ReachedBy.j3 kj16 l0 a2 x7_2 x8_1 x9_2 ((rd_T36 l0 (ji21)).f1) ((rd_T36 l0 (ji21)).f0)) else (spec_ReachedBy.j3 kj16 l0 a2 x7_2 x8_1 x9_2 ((rd_T36 l0 (ji21)).f0) ((rd_T36 l0 (ji21)).f1))) else (none)) else (none)) = some r := by first | (rw [hji21] at H; exact H) | (simp only [hji21] at H ⊢; exact H)
          have hji21w : (IntKind.i64.wrap (Int.tdiv x9_2 2)) = ji21 := (i64_w _).trans hji21
          replace H := gd H; obtain ⟨c22b0, H⟩ := H
          replace H := gd H; obtain ⟨c23b0, H⟩ := H
          have HC24 := am H
          clear H
          have p149 : 0 ≤ ((ji21) : Int) := of_decide_eq_true (by first | (with_reducible assumption) | assumption)
          have q149 : (ji21) < (l0.length : Int) := of_decide_eq_true (by first | (with_reducible assumption) | assumption)
          obtain ⟨ad149, A149_0, c149_0, A149_1, c149_1, e149, hx149_0, hx149_1, hl149_0, hi149_0, hl149_1, hi149_1⟩ := at_T36 HR0.out (ji21) p149 q149
          cases e149
          replace hx149_0 := hw HB hx149_0
          replace hx149_1 := hw HB hx149_1
          have HR149_0 := am hi149_0
          have HC149_0 := am hl149_0
          clear hi149_0 hl149_0
          have HR149_1 := am hi149_1
          have HC149_1 := am hl149_1
          clear hi149_1 hl149_1
          replace p149 := eq_true p149
          replace q149 := eq_true q149
          go_upto_if 50 with (first | ((with_reducible refine gate_dst (N := 10) rfl ?_); (try (refine gate_guard (by rfl) ?_; dsimp only)); refine bx 10 #[.slice none 0 0, .slice none 0 0] 36 ?_; intro gb150 hg w25 hbox hb; replace HO_7 := sK HO_7 hb; have BK150 := am (hbox); have GW150 := am (gs hg : w.heap.size ≤ gb150); have GE150 := GW150; replace HB := am (below_step bw hb); clear hb hbox hg; have hcz26_0 := bc BK150 0 (.slice none 0 0); have hcz26_1 := bc BK150 1 (.slice none 0 0); have hfz26_0 := blk_frozen BK150.out 0; have hfz26_1 := blk_frozen BK150.out 1))
          (try simp only [Act.put, List.setIfInBounds_toArray, List.set_cons_zero, List.set_cons_succ])
          go_cut [] (fun wc => ∃ (kq : Nat) (la_ lb_ : List Int) (Xa : Option Addr) (da : Nat) (Xb : Option Addr) (db : Nat), Aside0 (spec_ReachedBy.j3 kq l0 a2 x7_2 x8_1 x9_2 la_ lb_ = some r) ∧ Aside0 (kq ≤ kj16) ∧ Aside0 (Kd.S (Kd.slice 3 (Kd.int .i64)) 22 wc w.heap.size (fun _ => True) u7 x7_2) ∧ Aside0 (wc.heap[gb150]? = some (.cells #[.slice Xa la_.length da, .slice Xb lb_.length db] 36 (0, 0))) ∧ Aside0 (Below w.heap.size w wc) ∧ Aside0 (Kd.C (Kd.int .i64) w Xa la_.length la_) ∧ Aside0 (la_.length ≤ da) ∧ Aside0 (Kd.C (Kd.int .i64) w Xb lb_.length lb_) ∧ Aside0 (lb_.length ≤ db))
          case first =>
           have H := HC24.out
           clear HC24
           by_cases c27 : (Int.tmod x9_2 2) = 1
           ·rw [if_pos c27] at H
            have c27b0 : ((Int.tmod x9_2 2) == 1) = true := beq_iff_eq.mpr c27
            have c27b1 : ((Int.tmod x9_2 2) != 1) = false := bne_eq_false_iff_eq.mpr c27
            clear c27
            (first | rw [c27b0] | (simp only [i64_w, i32_w]; rw [c27b0]) | skip)
            have H' := am H
            clear H
            try go_wp2
            have n0_ : Aside0 (Kd.S (Kd.slice 3 (Kd.int .i64)) 22 ((w25.setCell ⟨gb150, 0, none⟩ (.slice A149_0 ((rd_T36 l0 (ji21)).f0).length c149_0)).setCell ⟨gb150, 1, none⟩ (.slice A149_1 ((rd_T36 l0 (ji21)).f1).length c149_1)) w.heap.size (fun _ => True) u7 x7_2) := ⟨by (with_reducible repeat (first | apply Kd.S_alloc | apply Kd.S_drewN | apply Kd.S_drew)); exact Kd.S_mono (Kd.S_far (p := ⟨gb150, 1, none⟩) (Kd.S_far (p := ⟨gb150, 0, none⟩) (Kd.S_types HO_7.out BK150.out (by decide)) (fun _ hk => hk.2) (.slice A149_0 ((rd_T36 l0 (ji21)).f0).length c149_0)) (fun _ hk => hk.2) (.slice A149_1 ((rd_T36 l0 (ji21)).f1).length c149_1)) (fun _ hk => trivial)⟩
            have n1_ : Aside0 (((w25.setCell ⟨gb150, 0, none⟩ (.slice A149_0 ((rd_T36 l0 (ji21)).f0).length c149_0)).setCell ⟨gb150, 1, none⟩ (.slice A149_1 ((rd_T36 l0 (ji21)).f1).length c149_1)).heap[gb150]? = some (.cells #[.slice A149_0 ((rd_T36 l0 (ji21)).f0).length c149_0, .slice A149_1 ((rd_T36 l0 (ji21)).f1).length c149_1] 36 (0, 0))) := ⟨by (with_reducible repeat (first | refine blk_drewN ?_ _ | refine blk_drew ?_ | refine blk_alloc ?_ _)); refine blk_put (cs := #[.slice A149_0 ((rd_T36 l0 (ji21)).f0).length c149_0, .slice none 0 0]) ?_ 1 _ rfl; (with_reducible repeat (first | refine blk_drewN ?_ _ | refine blk_drew ?_ | refine blk_alloc ?_ _)); refine blk_put (cs := #[.slice none 0 0, .slice none 0 0]) ?_ 0 _ rfl; (with_reducible repeat (first | refine blk_drewN ?_ _ | refine blk_drew ?_ | refine blk_alloc ?_ _)); exact BK150.out⟩
            have n2_ : Aside0 (Below w.heap.size w ((w25.setCell ⟨gb150, 0, none⟩ (.slice A149_0 ((rd_T36 l0 (ji21)).f0).length c149_0)).setCell ⟨gb150, 1, none⟩ (.slice A149_1 ((rd_T36 l0 (ji21)).f1).length c149_1))) := ⟨bw⟩
            (try clear HO_7); (try clear BK150); (try clear HB)
            generalize ((w25.setCell ⟨gb150, 0, none⟩ (.slice A149_0 ((rd_T36 l0 (ji21)).f0).length c149_0)).setCell ⟨gb150, 1, none⟩ (.slice A149_1 ((rd_T36 l0 (ji21)).f1).length c149_1)) = w28 at n0_ n1_ n2_ ⊢
            have HO_7 := n0_
            have BK150 := n1_
            have HB := n2_
            clear n0_ n1_ n2_
            replace HO_7 := am (Kd.S_drew HO_7.out)
            replace BK150 := bd BK150
            replace HB := am (below_drew1 HB.out)
            have p151 : 0 ≤ ((ji21) : Int) := of_decide_eq_true (by first | (with_reducible assumption) | assumption)
            have q151 : (ji21) < (l0.length : Int) := of_decide_eq_true (by first | (with_reducible assumption) | assumption)
            obtain ⟨ad151, A151_0, c151_0, A151_1, c151_1, e151, hx151_0, hx151_1, hl151_0, hi151_0, hl151_1, hi151_1⟩ := at_T36 HR0.out (ji21) p151 q151
            have hw151_1 := hx151_1
            have hw151_0 := hx151_0
            obtain rfl : ad149 = ad151 := (by injection e151)
            replace hx151_0 := hw HB hx151_0
            replace hx151_1 := hw HB hx151_1
            have HR151_0 := am hi151_0
            have HC151_0 := am hl151_0
            clear hi151_0 hl151_0
            have HR151_1 := am hi151_1
            have HC151_1 := am hl151_1
            clear hi151_1 hl151_1
            replace p151 := eq_true p151
            replace q151 := eq_true q151
            have p152 : 0 ≤ ((ji21) : Int) := of_decide_eq_true (by first | (with_reducible assumption) | assumption)
            have q152 : (ji21) < (l0.length : Int) := of_decide_eq_true (by first | (with_reducible assumption) | assumption)
            obtain ⟨ad152, A152_0, c152_0, A152_1, c152_1, e152, hx152_0, hx152_1, hl152_0, hi152_0, hl152_1, hi152_1⟩ := at_T36 HR0.out (ji21) p152 q152
            have hw152_1 := hx152_1
            have hw152_0 := hx152_0
            obtain rfl : ad149 = ad152 := (by injection e152)
            replace hx152_0 := hw HB hx152_0
            replace hx152_1 := hw HB hx152_1
            have HR152_0 := am hi152_0
            have HC152_0 := am hl152_0
            clear hi152_0 hl152_0
            have HR152_1 := am hi152_1
            have HC152_1 := am hl152_1
            clear hi152_1 hl152_1
            replace p152 := eq_true p152
            replace q152 := eq_true q152
            have ea_ := Option.some.inj (hx151_0.symm.trans hx152_0)
            injection ea_ with ea_ en_ ec_
            subst ea_
            subst ec_
            clear en_
            have ea_ := Option.some.inj (hx151_1.symm.trans hx152_1)
            injection ea_ with ea_ en_ ec_
            subst ea_
            subst ec_
            clear en_
            refine start_ (n := 14) (S := fun w' => w'.cell? (ad149.add (((ji21)).toNat * 2)) = some (.slice A151_0 ((rd_T36 l0 (ji21)).f0).length c151_0) ∧ w'.cell? ⟨(ad149.add (((ji21)).toNat * 2)).block, (ad149.add (((ji21)).toNat * 2)).off + 1, none⟩ = some (.slice A151_1 ((rd_T36 l0 (ji21)).f1).length c151_1) ∧ w'.cell? (ad149.add (((ji21)).toNat * 2)) = some (.slice A151_0 ((rd_T36 l0 (ji21)).f0).length c151_0) ∧ w'.cell? ⟨(ad149.add (((ji21)).toNat * 2)).block, (ad149.add (((ji21)).toNat * 2)).off + 1, none⟩ = some (.slice A151_1 ((rd_T36 l0 (ji21)).f1).length c151_1)) (ds := [13]) (yz 14 0) (by kernel_rfl) rfl rfl ⟨((HB.out.cell (World.block_lt_of_cell? w _ hw151_0)).trans hw151_0), ((HB.out.cell (World.block_lt_of_cell? w _ hw151_1)).trans hw151_1), ((HB.out.cell (World.block_lt_of_cell? w _ hw152_0)).trans hw152_0), ((HB.out.cell (World.block_lt_of_cell? w _ hw152_1)).trans hw152_1)⟩ (fun hHeld => ?_); refine with_tabW spec_ReachedBy.tab13 spec_ReachedBy.bits13 (fun HT_ HW_ => ?_)
            generalize w28.drew = w29 at HO_7 BK150 HB HR151_0 HR151_1 HR152_0 HR152_1 hx151_0 hx151_1 hx152_0 hx152_1 hHeld ⊢
            refine pa 0 (some 51) (yz 14 1) HT_ ?_
            refine pa 1 (some 52) (yz 14 3) HT_ ?_
            refine pa 2 (some 53) (yz 14 7) HT_ ?_
            refine pa 3 (some 54) (yz 14 15) HT_ ?_
            refine pa 4 (some 55) (yz 14 31) HT_ ?_
            refine pa 6 (some 57) (yz 14 95) HT_ ?_
            refine pa 7 (some 58) (yz 14 223) HT_ ?_
            refine pa 8 (some 59) (yz 14 479) HT_ ?_
            refine pa 9 (some 60) (yz 14 991) HT_ ?_
            refine pa 10 (some 61) (yz 14 2015) HT_ ?_
            refine tk 5 (some 56) (yz 14 2047) HT_ HW_ hHeld ?_
            refine tk 11 (some 62) (yz 14 4095) HT_ HW_ hHeld ?_
            refine pa 12 (some 63) (yz 14 8191) HT_ ?_
            have hcy := bc BK150 0 (.slice A149_0 ((rd_T36 l0 (ji21)).f0).length c149_0)
            have hcy1 := bc BK150 1 (.slice A149_1 ((rd_T36 l0 (ji21)).f1).length c149_1)
            have hfy := blk_frozen BK150.out 0
            have hfy1 := blk_frozen BK150.out 1
            refine last_ (i := 13) (N := none) (yz 14 16383) rfl rfl (one_of HT_.out (by kernel_rfl)) (by decide) (fun K hK => ?_)
            refine skip_ (w1 := ((w29.setCell ⟨gb150, 0, none⟩ (.slice A151_1 ((rd_T36 l0 (ji21)).f1).length c151_1)).setCell ⟨gb150, 1, none⟩ (.slice A151_0 ((rd_T36 l0 (ji21)).f0).length c151_0))) (by rfl) rfl ?_ ?_
            ·first | (go_simp; done) | (go_simp; rfl)
            refine hK.out _ _ ?_
            clear hK K hcy hcy1 hfy hfy1
            refine done_ (done_of HT_.out (by kernel_rfl)) ?_
            have n0_ : Aside0 (Kd.S (Kd.slice 3 (Kd.int .i64)) 22 ((w29.setCell ⟨gb150, 0, none⟩ (.slice A151_1 ((rd_T36 l0 (ji21)).f1).length c151_1)).setCell ⟨gb150, 1, none⟩ (.slice A151_0 ((rd_T36 l0 (ji21)).f0).length c151_0)) w.heap.size (fun _ => True) u7 x7_2) := ⟨Kd.S_mono (Kd.S_far (p := ⟨gb150, 1, none⟩) (Kd.S_far (p := ⟨gb150, 0, none⟩) (Kd.S_types HO_7.out BK150.out (by decide)) (fun _ hk => hk.2) (.slice A151_1 ((rd_T36 l0 (ji21)).f1).length c151_1)) (fun _ hk => hk.2) (.slice A151_0 ((rd_T36 l0 (ji21)).f0).length c151_0)) (fun _ hk => trivial)⟩
            have n1_ : Aside0 (((w29.setCell ⟨gb150, 0, none⟩ (.slice A151_1 ((rd_T36 l0 (ji21)).f1).length c151_1)).setCell ⟨gb150, 1, none⟩ (.slice A151_0 ((rd_T36 l0 (ji21)).f0).length c151_0)).heap[gb150]? = some (.cells #[.slice A151_1 ((rd_T36 l0 (ji21)).f1).length c151_1, .slice A151_0 ((rd_T36 l0 (ji21)).f0).length c151_0] 36 (0, 0))) := ⟨by refine blk_put (cs := #[.slice A151_1 ((rd_T36 l0 (ji21)).f1).length c151_1, .slice A149_1 ((rd_T36 l0 (ji21)).f1).length c149_1]) ?_ 1 _ rfl; refine blk_put (cs := #[.slice A149_0 ((rd_T36 l0 (ji21)).f0).length c149_0, .slice A149_1 ((rd_T36 l0 (ji21)).f1).length c149_1]) ?_ 0 _ rfl; exact BK150.out⟩
            have n2_ : Aside0 (Below w.heap.size w ((w29.setCell ⟨gb150, 0, none⟩ (.slice A151_1 ((rd_T36 l0 (ji21)).f1).length c151_1)).setCell ⟨gb150, 1, none⟩ (.slice A151_0 ((rd_T36 l0 (ji21)).f0).length c151_0))) := ⟨bw⟩
            clear HO_7 BK150 HB hHeld
            generalize ((w29.setCell ⟨gb150, 0, none⟩ (.slice A151_1 ((rd_T36 l0 (ji21)).f1).length c151_1)).setCell ⟨gb150, 1, none⟩ (.slice A151_0 ((rd_T36 l0 (ji21)).f0).length c151_0)) = w_ at n0_ n1_ n2_ ⊢
            have HO_7 := n0_
            have BK150 := n1_
            have HB := n2_
            clear n0_ n1_ n2_
            try go_wp2
            go_meet
            case rel => exact ⟨_, _, _, A151_1, c151_1, A151_0, c151_0, H', ⟨by have := HK1.out; have := HK2.out; have := HJ16.out; first | omega | exact Nat.le_refl _⟩, ⟨so HO_7.out⟩, ⟨bo BK150.out⟩, ⟨bw⟩, HR151_1, HC151_1, HR151_0, HC151_0⟩
           rw [if_neg c27] at H
           have c27b0 : ((Int.tmod x9_2 2) == 1) = false := beq_eq_false_iff_ne.mpr c27
           have c27b1 : ((Int.tmod x9_2 2) != 1) = true := bne_iff_ne.mpr c27
           (first | rw [c27b0] | (simp only [i64_w, i32_w]; rw [c27b0]) | skip)
           have H' := am H
           clear H
           go_wp2
           go_meet
           case rel => exact ⟨_, _, _, A149_0, c149_0, A149_1, c149_1, H', ⟨by have := HK1.out; have := HK2.out; have := HJ16.out; first | omega | exact Nat.le_refl _⟩, ⟨by (with_reducible repeat (first | apply Kd.S_alloc | apply Kd.S_drewN | apply Kd.S_drew)); exact Kd.S_mono (Kd.S_far (p := ⟨gb150, 1, none⟩) (Kd.S_far (p := ⟨gb150, 0, none⟩) (Kd.S_types HO_7.out BK150.out (by decide)) (fun _ hk => hk.2) (.slice A149_0 ((rd_T36 l0 (ji21)).f0).length c149_0)) (fun _ hk => hk.2) (.slice A149_1 ((rd_T36 l0 (ji21)).f1).length c149_1)) (fun _ hk => trivial)⟩, ⟨by (with_reducible repeat (first | refine blk_drewN ?_ _ | refine blk_drew ?_ | refine blk_alloc ?_ _)); refine blk_put (cs := #[.slice A149_0 ((rd_T36 l0 (ji21)).f0).length c149_0, .slice none 0 0]) ?_ 1 _ rfl; (with_reducible repeat (first | refine blk_drewN ?_ _ | refine blk_drew ?_ | refine blk_alloc ?_ _)); refine blk_put (cs := #[.slice none 0 0, .slice none 0 0]) ?_ 0 _ rfl; (with_reducible repeat (first | refine blk_drewN ?_ _ | refine blk_drew ?_ | refine blk_alloc ?_ _)); exact BK150.out⟩, ⟨bw⟩, HR149_0, HC149_0, HR149_1, HC149_1⟩
          case rest =>
           clear HC24
           try clear c1; try clear c6; try clear c7; try clear c15b0; try clear c18b0; try clear c22b0; try clear c23b0; try clear c27; try clear c27b0; try clear c27b1; try clear hcz26_0; try clear hcz26_1; try clear hfz26_0; try clear hfz26_1; try clear hx149_0; try clear hx149_1; try clear hx151_0; try clear hx151_1; try clear hx152_0; try clear hx152_1; try clear p149; try clear p151; try clear p152; try clear q149; try clear q151; try clear q152
           obtain ⟨kq, la_, lb_, Xa, da, Xb, db, HA, HJ23, HO_7, BK150, HB, HXa, HDa, HXb, HDb⟩ := hcut
           cases kq with
           | zero => exact absurd HA.out (by simp [spec_ReachedBy.j3])
           | succ kj23 =>
            have H := HA.out
            clear HA
            simp only [spec_ReachedBy.j3] at H
            replace H := gd H; obtain ⟨c30b0, H⟩ := H
            replace H := gd H; obtain ⟨c31b0, H⟩ := H
            replace H := ga H; obtain ⟨⟨t154, t157⟩, A32, H⟩ := H
            replace H : (if t157 = true then ((spec_l13At.f kj23 x7_2 t154).bind fun t158 => (if t158 < 0 then (if x7_2.length < 5864062014805 then (spec_ReachedBy.l1 kj23 l0 a2 (x7_2 ++ [t154]) x8_1 (wrap64 (x9_2 + 1))) else (none)) else (spec_ReachedBy.l1 kj23 l0 a2 x7_2 x8_1 (wrap64 (x9_2 + 1))))) else (spec_ReachedBy.l1 kj23 l0 a2 x7_2 x8_1 (wrap64 (x9_2 + 1)))) = some r := H
            replace H := gb H; obtain ⟨rfl, H⟩ | ⟨rfl, H⟩ := H
            ·replace H := ga H; obtain ⟨t158, A34, H⟩ := H
             replace H := gi H; obtain ⟨c35b0, H⟩ | ⟨c35b0, H⟩ := H
             ·by_cases c36 : x7_2.length < 5864062014805
              rotate_left
              ·rw [if_neg c36] at H
               exact absurd H (by simp)
              rw [if_pos c36] at H
              have LMc36 := am c36
              clear c36
              obtain ⟨y159, hy159⟩ : ∃ y_ : List (List Int), y_ = (x7_2 ++ [t154]) := ⟨_, rfl⟩
              replace H : (spec_ReachedBy.l1 kj23 l0 a2 y159 x8_1 (wrap64 (x9_2 + 1))) = some r := by first | (rw [hy159]; with_reducible first | exact H | exact bs H) | (with_reducible first | exact bs H | exact H) | (rw [hy159]; exact H) | exact H
              have Ny159 := am hy159
              clear hy159
              have H' := am H
              clear H
              try go_wp2
              replace HO_7 := am (Kd.S_drew HO_7.out)
              replace BK150 := bd BK150
              replace HB := am (below_drew1 HB.out)
              obtain ⟨Ao38, co38, eo38⟩ := Kd.S_slice HO_7.out
              (first | subst eo38 | (injection eo38 with f1_ f2_ f3_; have f4_ := f1_.symm; have f5_ := f3_.symm; clear f1_ f2_ f3_; subst f4_; subst f5_))
              have p153 : 0 ≤ (x8_1 : Int) := of_decide_eq_true (by first | (with_reducible assumption) | assumption)
              have q153 : x8_1 < (x7_2.length : Int) := of_decide_eq_true (by first | (with_reducible assumption) | assumption)
              obtain ⟨ad153, A153_0, c153_0, e153, hx153_0, hl153_0, hi153_0⟩ := at_L2 (Kd.S_reads' HO_7.out).2.2 x8_1 p153 q153
              cases e153
              obtain ⟨ce153, hce153, hMe153, hcc153⟩ := Kd.S_get HO_7.out [] x8_1 p153 (by first | exact q153 | exact of_decide_eq_true (by first | (with_reducible assumption) | assumption) | (have e_ := (Kd.S_reads' HO_7.out).1; omega))
              obtain ⟨ve153_0, rfl, ge153_0⟩ := hMe153
              have hv153_0 := hcc153 0 _ rfl
              rw [Nat.add_zero, show ((Kd.slice 3 (Kd.int .i64))).sz = 1 from rfl, Nat.mul_one] at hv153_0
              replace hv153_0 := Option.some.inj (hv153_0.symm.trans hx153_0)
              rw [hv153_0] at ge153_0
              have HL153_0 := am (show Kd.R (Kd.int .i64) 3 _ _ _ _ (rd_L2 x7_2 x8_1) from ge153_0)
              clear hv153_0 ge153_0
              clear hcc153 hce153
              have HR153_0 := am hi153_0
              have HC153_0 := am hl153_0
              clear hi153_0 hl153_0
              replace p153 := eq_true p153
              replace q153 := eq_true q153
              refine start_ (n := 11) (S := fun w' => w'.cell? ⟨gb150, 0, none⟩ = some (.slice Xa la_.length da) ∧ w'.cell? ⟨gb150, 1, none⟩ = some (.slice Xb lb_.length db) ∧ w'.cell? (ad153.add (x8_1).toNat) = some (.slice A153_0 (rd_L2 x7_2 x8_1).length c153_0)) (ds := []) (yz 11 0) (by kernel_rfl) rfl rfl ⟨bc BK150 0 _, bc BK150 1 _, hx153_0⟩ (fun hHeld => ?_); refine with_tabW spec_ReachedBy.tab14 spec_ReachedBy.bits14 (fun HT_ HW_ => ?_)
              generalize wc.drew = w37 at HO_7 BK150 HB HL153_0 HR153_0 hx153_0 hHeld ⊢
              refine pa 1 (some 66) (yz 11 2) HT_ ?_
              refine pa 2 (some 67) (yz 11 6) HT_ ?_
              refine pa 3 (some 68) (yz 11 14) HT_ ?_
              refine tk 0 (some 65) (yz 11 15) HT_ HW_ hHeld ?_
              refine tk 4 (some 69) (yz 11 31) HT_ HW_ hHeld ?_
              refine oa 5 (some 70) (yz 11 63) HT_ (fun K hK => ?_)
              refine gm Try.func22 #[.agg #[.slice Xa la_.length da, .slice Xb lb_.length db], .slice A153_0 (rd_L2 x7_2 x8_1).length c153_0] ?_
              with_reducible refine (spec_ApplyRelation.calls kj23 _ _ la_ _ _ lb_ _ _ (rd_L2 x7_2 x8_1) t154 true _ ?side1 ?side2 ?side3 ?side4 ?side5 ?side6 A32.out).mono ?_
              (case side1 => exact co (Kd.C_below HXa.out HB.out))
              (case side2 => exact HDa.out)
              (case side3 => exact co (Kd.C_below HXb.out HB.out))
              (case side4 => exact HDb.out)
              (case side5 => exact co HR153_0.out)
              (case side6 => exact HC153_0.out)
              rintro e w39 ⟨v155, rfl, ho0, hb⟩
              have HS2_ := (hb.cell (World.block_lt_of_cell? _ _ (hHeld.2.2))).trans (hHeld.2.2)
              refine ⟨_, rfl, ?_⟩
              replace HO_7 := am (Kd.S_elder' (so HO_7.out) (Kd.R_base ho0) hb)
              have HO156 := am (Kd.R_lower (Kd.R_new' ho0 (Kd.R_lt (ro HL153_0.out))) (below_size bw))
              replace HL153_0 := am (Kd.R_elder' (ro HL153_0.out) (Kd.R_base ho0) hb)
              replace BK150 := kb BK150 hb
              replace HR153_0 := am (Kd.C_below (co HR153_0.out) hb)
              replace HB := am (below_step bw hb)
              clear hb ho0
              refine hK.out _ _ ⟨bc BK150 0 _, bc BK150 1 _, HS2_⟩ (fun hHeld => ?_)
              clear hK K
              refine nm (some 70) ?_
              refine pa 6 (some 64) (yz 11 127) HT_ ?_
              refine pa 7 (some 71) (yz 11 255) HT_ ?_
              refine pa 8 (some 72) (yz 11 511) HT_ ?_
              refine pa 9 (some 11) (yz 11 1023) HT_ ?_
              refine pa 10 (some 12) (yz 11 2047) HT_ ?_
              refine done_ (done_of HT_.out (by kernel_rfl)) ?_
              obtain ⟨Ao40, co40, eo40⟩ := Kd.R_slice HO156.out
              subst eo40
              try go_wp2_with (first | (go_at_call 44; (with_reducible refine (spec_l13At.calls kj23 _ _ x7_2 _ _ t154 t158 _ ?side1 ?side2 ?side3 ?side4 A34.out).mono ?_); (case side1 => exact co (Kd.S_reads' HO_7.out).2.2); (case side2 => exact (Kd.S_reads' HO_7.out).2.1); (case side3 => exact co (Kd.R_reads' HO156.out).2.2); (case side4 => exact (Kd.R_reads' HO156.out).2.1); rintro e w' ⟨rfl, ⟨nd, rfl⟩⟩) | ((with_reducible refine gate_builtin (b := .append) (xs := #[.tmp 80, .tmp 82]) rfl ?_); (try (refine gate_guard (by rfl) ?_; dsimp only)); at_builtin; refine Kd.S_append (Kd.slice 3 (Kd.int .i64)) (w0 := w) w.heap.size rfl (.tmp 80) (.tmp 82) 43 22 (.slice none 0 0) 24 rfl Try.underlying43 info22 rfl (by decide) (by omega) (.slice (some ad153) x7_2.length co38) x7_2 t154 [.slice Ao40 t154.length co40] (fun _ => True) (fun k_ => some k_ = (.slice Ao40 t154.length co40 : Value).ownBlock) rfl rfl ?aP (fun k_ hk_ => ((Kd.R_mono (ok' := fun k_ => ((fun _ => True)) k_ ∧ some k_ ≠ (.slice (some ad153) x7_2.length co38 : Value).ownBlock) (Kd.R_apart' (HO156.out) (Kd.S_typed HO_7.out) (by decide)) (fun k_ hk => ⟨trivial, hk.2⟩))).1 k_ hk_.symm) ?aF ?aO ?aB ?aS ?aL ?_; (case aP => exact Kd.M_row (Kd.R_mono (Kd.R_tight rfl (Kd.R_mono (ok' := fun k_ => ((fun _ => True)) k_ ∧ some k_ ≠ (.slice (some ad153) x7_2.length co38 : Value).ownBlock) (Kd.R_apart' (HO156.out) (Kd.S_typed HO_7.out) (by decide)) (fun k_ hk => ⟨trivial, hk.2⟩))) (fun _ h_ => h_))); (case aB => exact bw); (case aF => exact (fun _ _ => trivial)); (case aO => exact (by (with_reducible repeat (first | apply Kd.S_alloc | apply Kd.S_drewN | apply Kd.S_drew)); exact Kd.S_mono HO_7.out (fun k_ hk => ⟨trivial, fun e_ => hk.2 e_⟩))); (case aS => exact (below_size bw)); (case aL => have := LMc36.out; omega); intro v160 w41 ho hb hg hat; rw [← Ny159.out] at ho; replace BK150 := am (blk_grown (g := gb150) (o := .cells #[.slice Xa la_.length da, .slice Xb lb_.length db] 36 (0, 0)) (bo BK150.out) hg (Kd.S_ne HO_7.out BK150.out (by decide))); replace HL153_0 := am (Kd.R_after (ok := (fun k_ => nb k_ Ao40 t154 co40)) (by (with_reducible repeat (first | apply Kd.R_alloc | apply Kd.R_drewN | apply Kd.R_drew)); exact Kd.R_mono HL153_0.out (fun _ hk => by first | exact ⟨hk.2, hk.1.2⟩ | simp_all)) hg hat); replace HB := am (hb); have HO161 := am (ho); clear HO_7 HO156 ho hb hg hat))
              go_roundg kj23
              case measure => have := HK1.out; have := HK2.out; have := HJ16.out; have := HJ23.out; omega
              case rel => exact ⟨(y159), (wrap64 (x9_2 + 1)), rr, H', ⟨by have := HK1.out; have := HK2.out; have := HJ16.out; have := HJ23.out; omega⟩, ⟨so HO161.out⟩, ⟨bw⟩⟩
             have H' := am H
             clear H
             try go_wp2
             replace HO_7 := am (Kd.S_drew HO_7.out)
             replace BK150 := bd BK150
             replace HB := am (below_drew1 HB.out)
             obtain ⟨Ao43, co43, eo43⟩ := Kd.S_slice HO_7.out
             (first | subst eo43 | (injection eo43 with f1_ f2_ f3_; have f4_ := f1_.symm; have f5_ := f3_.symm; clear f1_ f2_ f3_; subst f4_; subst f5_))
             have p153 : 0 ≤ (x8_1 : Int) := of_decide_eq_true (by first | (with_reducible assumption) | assumption)
             have q153 : x8_1 < (x7_2.length : Int) := of_decide_eq_true (by first | (with_reducible assumption) | assumption)
             obtain ⟨ad153, A153_0, c153_0, e153, hx153_0, hl153_0, hi153_0⟩ := at_L2 (Kd.S_reads' HO_7.out).2.2 x8_1 p153 q153
             cases e153
             obtain ⟨ce153, hce153, hMe153, hcc153⟩ := Kd.S_get HO_7.out [] x8_1 p153 (by first | exact q153 | exact of_decide_eq_true (by first | (with_reducible assumption) | assumption) | (have e_ := (Kd.S_reads' HO_7.out).1; omega))
             obtain ⟨ve153_0, rfl, ge153_0⟩ := hMe153
             have hv153_0 := hcc153 0 _ rfl
             rw [Nat.add_zero, show ((Kd.slice 3 (Kd.int .i64))).sz = 1 from rfl, Nat.mul_one] at hv153_0
             replace hv153_0 := Option.some.inj (hv153_0.symm.trans hx153_0)
             rw [hv153_0] at ge153_0
             have HL153_0 := am (show Kd.R (Kd.int .i64) 3 _ _ _ _ (rd_L2 x7_2 x8_1) from ge153_0)
             clear hv153_0 ge153_0
             clear hcc153 hce153
             have HR153_0 := am hi153_0
             have HC153_0 := am hl153_0
             clear hi153_0 hl153_0
             replace p153 := eq_true p153
             replace q153 := eq_true q153
             refine start_ (n := 11) (S := fun w' => w'.cell? ⟨gb150, 0, none⟩ = some (.slice Xa la_.length da) ∧ w'.cell? ⟨gb150, 1, none⟩ = some (.slice Xb lb_.length db) ∧ w'.cell? (ad153.add (x8_1).toNat) = some (.slice A153_0 (rd_L2 x7_2 x8_1).length c153_0)) (ds := []) (yz 11 0) (by kernel_rfl) rfl rfl ⟨bc BK150 0 _, bc BK150 1 _, hx153_0⟩ (fun hHeld => ?_); refine with_tabW spec_ReachedBy.tab14 spec_ReachedBy.bits14 (fun HT_ HW_ => ?_)
             generalize wc.drew = w42 at HO_7 BK150 HB HL153_0 HR153_0 hx153_0 hHeld ⊢
             refine pa 1 (some 66) (yz 11 2) HT_ ?_
             refine pa 2 (some 67) (yz 11 6) HT_ ?_
             refine pa 3 (some 68) (yz 11 14) HT_ ?_
             refine tk 0 (some 65) (yz 11 15) HT_ HW_ hHeld ?_
             refine tk 4 (some 69) (yz 11 31) HT_ HW_ hHeld ?_
             refine oa 5 (some 70) (yz 11 63) HT_ (fun K hK => ?_)
             refine gm Try.func22 #[.agg #[.slice Xa la_.length da, .slice Xb lb_.length db], .slice A153_0 (rd_L2 x7_2 x8_1).length c153_0] ?_
             with_reducible refine (spec_ApplyRelation.calls kj23 _ _ la_ _ _ lb_ _ _ (rd_L2 x7_2 x8_1) t154 true _ ?side1 ?side2 ?side3 ?side4 ?side5 ?side6 A32.out).mono ?_
             (case side1 => exact co (Kd.C_below HXa.out HB.out))
             (case side2 => exact HDa.out)
             (case side3 => exact co (Kd.C_below HXb.out HB.out))
             (case side4 => exact HDb.out)
             (case side5 => exact co HR153_0.out)
             (case side6 => exact HC153_0.out)
             rintro e w44 ⟨v155, rfl, ho0, hb⟩
             have HS2_ := (hb.cell (World.block_lt_of_cell? _ _ (hHeld.2.2))).trans (hHeld.2.2)
             refine ⟨_, rfl, ?_⟩
             replace HO_7 := am (Kd.S_elder' (so HO_7.out) (Kd.R_base ho0) hb)
             have HO156 := am (Kd.R_lower (Kd.R_new' ho0 (Kd.R_lt (ro HL153_0.out))) (below_size bw))
             replace HL153_0 := am (Kd.R_elder' (ro HL153_0.out) (Kd.R_base ho0) hb)
             replace BK150 := kb BK150 hb
             replace HR153_0 := am (Kd.C_below (co HR153_0.out) hb)
             replace HB := am (below_step bw hb)
             clear hb ho0
             refine hK.out _ _ ⟨bc BK150 0 _, bc BK150 1 _, HS2_⟩ (fun hHeld => ?_)
             clear hK K
             refine nm (some 70) ?_
             refine pa 6 (some 64) (yz 11 127) HT_ ?_
             refine pa 7 (some 71) (yz 11 255) HT_ ?_
             refine pa 8 (some 72) (yz 11 511) HT_ ?_
             refine pa 9 (some 11) (yz 11 1023) HT_ ?_
             refine pa 10 (some 12) (yz 11 2047) HT_ ?_
             refine done_ (done_of HT_.out (by kernel_rfl)) ?_
             obtain ⟨Ao45, co45, eo45⟩ := Kd.R_slice HO156.out
             subst eo45
             try go_wp2_with (first | (go_at_call 44; (with_reducible refine (spec_l13At.calls kj23 _ _ x7_2 _ _ t154 t158 _ ?side1 ?side2 ?side3 ?side4 A34.out).mono ?_); (case side1 => exact co (Kd.S_reads' HO_7.out).2.2); (case side2 => exact (Kd.S_reads' HO_7.out).2.1); (case side3 => exact co (Kd.R_reads' HO156.out).2.2); (case side4 => exact (Kd.R_reads' HO156.out).2.1); rintro e w' ⟨rfl, ⟨nd, rfl⟩⟩))
             go_roundg kj23
             case measure => have := HK1.out; have := HK2.out; have := HJ16.out; have := HJ23.out; omega
             case rel => exact ⟨(x7_2), (wrap64 (x9_2 + 1)), rr, H', ⟨by have := HK1.out; have := HK2.out; have := HJ16.out; have := HJ23.out; omega⟩, ⟨by (with_reducible repeat (first | apply Kd.S_alloc | apply Kd.S_drewN | apply Kd.S_drew)); exact Kd.S_mono HO_7.out (fun _ hk => trivial)⟩, ⟨bw⟩⟩
            have H' := am H
            clear H
            try go_wp2
            replace HO_7 := am (Kd.S_drew HO_7.out)
            replace BK150 := bd BK150
            replace HB := am (below_drew1 HB.out)
            obtain ⟨Ao47, co47, eo47⟩ := Kd.S_slice HO_7.out
            (first | subst eo47 | (injection eo47 with f1_ f2_ f3_; have f4_ := f1_.symm; have f5_ := f3_.symm; clear f1_ f2_ f3_; subst f4_; subst f5_))
            have p153 : 0 ≤ (x8_1 : Int) := of_decide_eq_true (by first | (with_reducible assumption) | assumption)
            have q153 : x8_1 < (x7_2.length : Int) := of_decide_eq_true (by first | (with_reducible assumption) | assumption)
            obtain ⟨ad153, A153_0, c153_0, e153, hx153_0, hl153_0, hi153_0⟩ := at_L2 (Kd.S_reads' HO_7.out).2.2 x8_1 p153 q153
            cases e153
            obtain ⟨ce153, hce153, hMe153, hcc153⟩ := Kd.S_get HO_7.out [] x8_1 p153 (by first | exact q153 | exact of_decide_eq_true (by first | (with_reducible assumption) | assumption) | (have e_ := (Kd.S_reads' HO_7.out).1; omega))
            obtain ⟨ve153_0, rfl, ge153_0⟩ := hMe153
            have hv153_0 := hcc153 0 _ rfl
            rw [Nat.add_zero, show ((Kd.slice 3 (Kd.int .i64))).sz = 1 from rfl, Nat.mul_one] at hv153_0
            replace hv153_0 := Option.some.inj (hv153_0.symm.trans hx153_0)
            rw [hv153_0] at ge153_0
            have HL153_0 := am (show Kd.R (Kd.int .i64) 3 _ _ _ _ (rd_L2 x7_2 x8_1) from ge153_0)
            clear hv153_0 ge153_0
            clear hcc153 hce153
            have HR153_0 := am hi153_0
            have HC153_0 := am hl153_0
            clear hi153_0 hl153_0
            replace p153 := eq_true p153
            replace q153 := eq_true q153
            refine start_ (n := 11) (S := fun w' => w'.cell? ⟨gb150, 0, none⟩ = some (.slice Xa la_.length da) ∧ w'.cell? ⟨gb150, 1, none⟩ = some (.slice Xb lb_.length db) ∧ w'.cell? (ad153.add (x8_1).toNat) = some (.slice A153_0 (rd_L2 x7_2 x8_1).length c153_0)) (ds := []) (yz 11 0) (by kernel_rfl) rfl rfl ⟨bc BK150 0 _, bc BK150 1 _, hx153_0⟩ (fun hHeld => ?_); refine with_tabW spec_ReachedBy.tab14 spec_ReachedBy.bits14 (fun HT_ HW_ => ?_)
            generalize wc.drew = w46 at HO_7 BK150 HB HL153_0 HR153_0 hx153_0 hHeld ⊢
            refine pa 1 (some 66) (yz 11 2) HT_ ?_
            refine pa 2 (some 67) (yz 11 6) HT_ ?_
            refine pa 3 (some 68) (yz 11 14) HT_ ?_
            refine tk 0 (some 65) (yz 11 15) HT_ HW_ hHeld ?_
            refine tk 4 (some 69) (yz 11 31) HT_ HW_ hHeld ?_
            refine oa 5 (some 70) (yz 11 63) HT_ (fun K hK => ?_)
            refine gm Try.func22 #[.agg #[.slice Xa la_.length da, .slice Xb lb_.length db], .slice A153_0 (rd_L2 x7_2 x8_1).length c153_0] ?_
            with_reducible refine (spec_ApplyRelation.calls kj23 _ _ la_ _ _ lb_ _ _ (rd_L2 x7_2 x8_1) t154 false _ ?side1 ?side2 ?side3 ?side4 ?side5 ?side6 A32.out).mono ?_
            (case side1 => exact co (Kd.C_below HXa.out HB.out))
            (case side2 => exact HDa.out)
            (case side3 => exact co (Kd.C_below HXb.out HB.out))
            (case side4 => exact HDb.out)
            (case side5 => exact co HR153_0.out)
            (case side6 => exact HC153_0.out)
            rintro e w48 ⟨v155, rfl, ho0, hb⟩
            have HS2_ := (hb.cell (World.block_lt_of_cell? _ _ (hHeld.2.2))).trans (hHeld.2.2)
            refine ⟨_, rfl, ?_⟩
            replace HO_7 := am (Kd.S_elder' (so HO_7.out) (Kd.R_base ho0) hb)
            have HO156 := am (Kd.R_lower (Kd.R_new' ho0 (Kd.R_lt (ro HL153_0.out))) (below_size bw))
            replace HL153_0 := am (Kd.R_elder' (ro HL153_0.out) (Kd.R_base ho0) hb)
            replace BK150 := kb BK150 hb
            replace HR153_0 := am (Kd.C_below (co HR153_0.out) hb)
            replace HB := am (below_step bw hb)
            clear hb ho0
            refine hK.out _ _ ⟨bc BK150 0 _, bc BK150 1 _, HS2_⟩ (fun hHeld => ?_)
            clear hK K
            refine nm (some 70) ?_
            refine pa 6 (some 64) (yz 11 127) HT_ ?_
            refine pa 7 (some 71) (yz 11 255) HT_ ?_
            refine pa 8 (some 72) (yz 11 511) HT_ ?_
            refine pa 9 (some 11) (yz 11 1023) HT_ ?_
            refine pa 10 (some 12) (yz 11 2047) HT_ ?_
            refine done_ (done_of HT_.out (by kernel_rfl)) ?_
            try go_wp2
            go_roundg kj23
            case measure => have := HK1.out; have := HK2.out; have := HJ16.out; have := HJ23.out; omega
            case rel => exact ⟨(x7_2), (wrap64 (x9_2 + 1)), rr, H', ⟨by have := HK1.out; have := HK2.out; have := HJ16.out; have := HJ23.out; omega⟩, ⟨by (with_reducible repeat (first | apply Kd.S_alloc | apply Kd.S_drewN | apply Kd.S_drew)); exact Kd.S_mono HO_7.out (fun _ hk => trivial)⟩, ⟨bw⟩⟩
         have H' := am H
         clear H
         go_wp2
         go_roundg kj16
         case measure => have := HK1.out; have := HK2.out; have := HJ16.out; omega
         case rel => exact ⟨(x7_2), (wrap64 (x8_1 + 1)), rr, H', ⟨by have := HK1.out; have := HK2.out; have := HJ16.out; omega⟩, ⟨so HO_7.out⟩, ⟨bw⟩⟩
    obtain rfl := Option.some.inj H
    obtain ⟨Ao49, co49, eo49⟩ := Kd.S_slice HO_7.out
    subst eo49
    go_wp2
    go_ret
    exact ⟨_, re, by (with_reducible repeat (first | apply Kd.S_alloc | apply Kd.S_drewN | apply Kd.S_drew)); exact HO_7.out, bw⟩
 obtain rfl := Option.some.inj H
 go_enter Try.func28, Try.ntmps28
 go_wp2_with (first | ((with_reducible refine gate_dst (N := 13) rfl ?_); (try (refine gate_guard (by rfl) ?_; dsimp only)); refine Kd.S_lit (Kd.slice 3 (Kd.int .i64)) _ 22 ?hg (N := 13) ?hd (xs := ([] : List (List Int))) (inner := []) (ok := fun _ => True) (okp := fun _ => True) ?hr ?hp (fun _ hk => hk) trivial (Below.refl _ _) (Nat.le_refl _) (by simp) ?_; (case hd => rfl); (case hg => rfl); (case hr => first | (go_simp; done) | (go_simp; rfl)); (case hp => exact (Reps.none _ _)); intro v137 w50 ho51 hb hg_ hnew_; clear hg_ hnew_; (first | rw [← Ny136.out] at ho51 | (simp only [Int.reduceToNat] at ho51; rw [← Ny136.out] at ho51)); have HO138 := am (Kd.S_lower ho51 (below_size bw)); replace HB := am (below_step bw hb); clear hb ho51) | ((with_reducible refine gate_callee (f := 36) rfl ?_); refine gl (some 15) Try.func36 #[.int .i64 a2, .int .i64 1, .int .i64 1000] ?_; (with_reducible refine (spec_l1In.calls a2 1 1000 false _ A4.out).mono ?_); rintro e w' ⟨rfl, ⟨nd, rfl⟩⟩; refine ⟨_, rfl, ?_⟩))
 go_ret
 exact ⟨_, re, by (with_reducible repeat (first | apply Kd.S_alloc | apply Kd.S_drewN | apply Kd.S_drew)); exact HO138.out, bw⟩


/-! ### laws_toRelation: function 23 -/
def laws_toRelation.f (k : Nat) (l0_0 : List Int) (l0_1 : List Int) : Option (List Int × List Int) := (laws_toIntS.f k l0_0).bind fun t165 => ((laws_toIntS.f k l0_1).bind fun t168 => (some (t165, t168)))
set_option maxHeartbeats 8000000 in
set_option maxRecDepth 100000 in
theorem laws_toRelation.calls (k : Nat) (A0_0 : Option Addr) (c0_0 : Nat) (l0_0 : List Int) (A0_1 : Option Addr) (c0_1 : Nat) (l0_1 : List Int) (r1 : List Int) (r2 : List Int) (w : World) (hr0_0 : Kd.C (Kd.int .i64) w A0_0 l0_0.length l0_0) (hc0_0 : l0_0.length ≤ c0_0) (hr0_1 : Kd.C (Kd.int .i64) w A0_1 l0_1.length l0_1) (hc0_1 : l0_1.length ≤ c0_1) (h : laws_toRelation.f k l0_0 l0_1 = some (r1, r2)) :
  Calls Try.prog 23 #[.agg #[.slice A0_0 l0_0.length c0_0, .slice A0_1 l0_1.length c0_1]] w fun e w' => ∃ v0_ v1_ : Value, e = .returned (.agg #[v0_, v1_]) ∧ Kd.R (Kd.int .i64) 3 w' w.heap.size (fun k_ => some k_ ≠ (v1_ : Value).ownBlock) v0_ r1 ∧ Kd.R (Kd.int .i64) 3 w' w.heap.size (fun k_ => some k_ ≠ (v0_ : Value).ownBlock) v1_ r2 ∧ Below w.heap.size w w' := by
 have hu32 := Try.underlying32
 have hu36 := Try.underlying36
 have HR0_0 := am hr0_0
 have HC0_0 := am hc0_0
 clear hr0_0 hc0_0
 have HR0_1 := am hr0_1
 have HC0_1 := am hc0_1
 clear hr0_1 hc0_1
 have HB := am (Below.refl w.heap.size w)
 have H : ((laws_toIntS.f k l0_0).bind fun t165 => ((laws_toIntS.f k l0_1).bind fun t168 => (some (t165, t168)))) = some (r1, r2) := h
 clear h
 replace H := ga H; obtain ⟨t165, A2, H⟩ := H
 replace H := ga H; obtain ⟨t168, A3, H⟩ := H
 simp only [Option.some.injEq, Prod.mk.injEq] at H
 obtain ⟨rfl, rfl⟩ := H
 go_enter Try.func23, Try.ntmps23
 go_wp2_with (first | ((with_reducible refine gate_dst (N := 1) rfl ?_); refine bx 1 #[.slice A0_0 l0_0.length c0_0, .slice A0_1 l0_1.length c0_1] 32 ?_; intro gb162 hg w4 hbox hb; have BK162 := am (hbox); have GW162 := am (gs hg : w.heap.size ≤ gb162); have GE162 := GW162; replace HB := am (below_step bw hb); clear hb hbox hg) | ((with_reducible refine gate_dst (N := 2) rfl ?_); refine bx 2 #[.slice none 0 0, .slice none 0 0] 36 ?_; intro gb163 hg w5 hbox hb; have BK163 := am (hbox); have GW163 := am (gs hg : w.heap.size ≤ gb163); have GE163 := GW163; replace HB := am (below_step bw hb); have NB162_163 := nl hg BK162; have NB163_162 := ns NB162_163; replace BK162 := kb BK162 hb; clear hb hbox hg) | ((with_reducible refine gate_dst (N := 3) rfl ?_); refine bx 3 #[.slice none 0 0, .slice none 0 0] 36 ?_; intro gb164 hg w6 hbox hb; have BK164 := am (hbox); have GW164 := am (gs hg : w.heap.size ≤ gb164); have GE164 := GW164; replace HB := am (below_step bw hb); have NB162_164 := nl hg BK162; have NB164_162 := ns NB162_164; replace BK162 := kb BK162 hb; have NB163_164 := nl hg BK163; have NB164_163 := ns NB163_164; replace BK163 := kb BK163 hb; clear hb hbox hg; have hnb7 := NB162_163.out; have hnc7 := NB163_162.out; have hnb8 := NB162_164.out; have hnc8 := NB164_162.out; have hcz9_0 := bc BK162 0 (.slice A0_0 l0_0.length c0_0); have hcz9_1 := bc BK162 1 (.slice A0_1 l0_1.length c0_1); have hfz9_0 := blk_frozen BK162.out 0; have hfz9_1 := blk_frozen BK162.out 1) | ((with_reducible refine gate_callee (f := 10) rfl ?_); refine gl (some 6) Try.func10 #[.slice A0_0 l0_0.length c0_0] ?_; (with_reducible refine (laws_toIntS.calls k _ _ l0_0 t165 _ ?side1 ?side2 A2.out).mono ?_); (case side1 => exact co (Kd.C_below HR0_0.out HB.out)); (case side2 => exact HC0_0.out); rintro e w10 ⟨v166, rfl, ho0, hb⟩; refine ⟨_, rfl, ?_⟩; have HO167 := am (Kd.R_lower ho0 (below_size bw)); replace BK162 := kb BK162 hb; replace BK163 := kb BK163 hb; replace BK164 := kb BK164 hb; replace HB := am (below_step bw hb); clear hb ho0; obtain ⟨Ao11, co11, eo11⟩ := Kd.R_slice HO167.out; subst eo11; have hnb12 := NB164_163.out; have hnc12 := NB163_164.out; have hcz13_0 := bc BK164 0 (.slice none 0 0); have hcz13_1 := bc BK164 1 (.slice none 0 0); have hfz13_0 := blk_frozen BK164.out 0; have hfz13_1 := blk_frozen BK164.out 1; have hcz14_0 := bc BK162 0 (.slice A0_0 l0_0.length c0_0); have hcz14_1 := bc BK162 1 (.slice A0_1 l0_1.length c0_1); have hfz14_0 := blk_frozen BK162.out 0; have hfz14_1 := blk_frozen BK162.out 1) | ((with_reducible refine gate_callee (f := 10) rfl ?_); refine gl (some 10) Try.func10 #[.slice A0_1 l0_1.length c0_1] ?_; (with_reducible refine (laws_toIntS.calls k _ _ l0_1 t168 _ ?side1 ?side2 A3.out).mono ?_); (case side1 => exact Kd.C_below HR0_1.out bw); (case side2 => exact HC0_1.out); rintro e w15 ⟨v169, rfl, ho0, hb⟩; refine ⟨_, rfl, ?_⟩; have HO170 := am (Kd.R_lower (Kd.R_new' ho0 (Kd.R_lt (rF HO167 BK164 (.slice Ao11 t165.length co11)))) (below_size bw)); replace HO167 := am (Kd.R_elder' (rF HO167 BK164 (.slice Ao11 t165.length co11)) (Kd.R_base ho0) hb); replace BK162 := kb BK162 hb; replace BK163 := kb BK163 hb; replace BK164 := am (blk_below (g := gb164) (o := .cells #[.slice Ao11 t165.length co11, .slice none 0 0] 36 (0, 0)) (by (with_reducible repeat (first | refine blk_drewN ?_ _ | refine blk_drew ?_ | refine blk_alloc ?_ _)); refine blk_put (cs := #[.slice none 0 0, .slice none 0 0]) ?_ 0 _ rfl; (with_reducible repeat (first | refine blk_drewN ?_ _ | refine blk_drew ?_ | refine blk_alloc ?_ _)); exact BK164.out) hb); replace HB := am (below_step bw hb); clear hb ho0; obtain ⟨Ao16, co16, eo16⟩ := Kd.R_slice HO170.out; subst eo16; have hcz17_0 := bc BK164 0 (.slice Ao11 t165.length co11); have hcz17_1 := bc BK164 1 (.slice none 0 0); have hfz17_0 := blk_frozen BK164.out 0; have hfz17_1 := blk_frozen BK164.out 1; have hcz18_0 := bc BK163 0 (.slice none 0 0); have hcz18_1 := bc BK163 1 (.slice none 0 0); have hfz18_0 := blk_frozen BK163.out 0; have hfz18_1 := blk_frozen BK163.out 1))
 refine bodyPost_ret (results_cell_row rfl _ _ gb163 36 #[.slice Ao11 t165.length co11, .slice Ao16 t168.length co16] (0, 0) _ rfl (by (with_reducible repeat (first | refine blk_drewN ?_ _ | refine blk_drew ?_ | refine blk_alloc ?_ _)); refine blk_put (cs := #[.slice Ao11 t165.length co11, .slice none 0 0]) ?_ 1 _ rfl; (with_reducible repeat (first | refine blk_drewN ?_ _ | refine blk_drew ?_ | refine blk_alloc ?_ _)); refine blk_put (cs := #[.slice none 0 0, .slice none 0 0]) ?_ 0 _ rfl; (with_reducible repeat (first | refine blk_drewN ?_ _ | refine blk_drew ?_ | refine blk_alloc ?_ _)); refine blk_far ?_ NB163_164.out _; (with_reducible repeat (first | refine blk_drewN ?_ _ | refine blk_drew ?_ | refine blk_alloc ?_ _)); exact BK163.out) Try.underlying36 rfl (by kernel_rfl)) rfl ?_
 exact ⟨_, _, re, by (with_reducible repeat (first | apply Kd.R_alloc | apply Kd.R_drewN | apply Kd.R_drew)); exact Kd.R_mono (Kd.R_far (p := ⟨gb163, 1, none⟩) (Kd.R_far (p := ⟨gb163, 0, none⟩) (Kd.R_far (p := ⟨gb164, 1, none⟩) (Kd.R_types (Kd.R_types HO167.out BK164.out (by decide)) BK163.out (by decide)) (fun _ hk => by first | exact hk.1.2 | simp_all) (.slice Ao16 t168.length co16)) (fun _ hk => hk.2) (.slice Ao11 t165.length co11)) (fun _ hk => hk.2) (.slice Ao16 t168.length co16)) (fun _ hk => by first | exact hk.1.1.2 | simp_all), by (with_reducible repeat (first | apply Kd.R_alloc | apply Kd.R_drewN | apply Kd.R_drew)); exact Kd.R_mono (Kd.R_far (p := ⟨gb163, 1, none⟩) (Kd.R_far (p := ⟨gb163, 0, none⟩) (Kd.R_far (p := ⟨gb164, 1, none⟩) (Kd.R_types (Kd.R_types HO170.out BK164.out (by decide)) BK163.out (by decide)) (fun _ hk => by first | exact hk.1.2 | simp_all) (.slice Ao16 t168.length co16)) (fun _ hk => hk.2) (.slice Ao11 t165.length co11)) (fun _ hk => hk.2) (.slice Ao16 t168.length co16)) (fun _ hk => by first | exact hk.1.1.2 | simp_all), bw⟩


/-! ### laws_toRelationS: function 29 -/
def laws_toRelationS.l0 : Nat → List (S32) → List (S36) → Int → Option ((List (S36)))
 | 0, _, _, _ => none
 | k + 1, x0, x3, x4 => if x4 < (x0.length : Int) then (if 0 ≤ x4 then ((laws_toRelation.f k ((rd_T32 x0 x4).f0) ((rd_T32 x0 x4).f1)).bind fun bt175 => (if x4 < (x3.length : Int) then (laws_toRelationS.l0 k x0 (x3.set (x4 : Int).toNat (⟨bt175.1, bt175.2⟩ : S36)) (wrap64 (x4 + 1))) else (none))) else (none)) else (some x3)
def laws_toRelationS.f (k : Nat) (l0 : List (S32)) : Option ((List (S36))) := if 0 ≤ (l0.length : Int) then (if ((l0.length : Int) : Int).toNat ≤ 5864062014805 then (laws_toRelationS.l0 k l0 (List.replicate ((l0.length : Int) : Int).toNat z36) 0) else (none)) else (none)
def kpr : Kd S36 where
 sz := k36.sz
 E := k36.E
 K := k36.K
 M := fun w base ok x cs => k36.M w base ok x cs ∧ ∃ v0 v1 : Value, cs = [v0, v1] ∧ ∀ k, v0.ownBlock = some k → v1.ownBlock ≠ some k
 K_len := k36.K_len
 K_one := k36.K_one
 K_below := k36.K_below
 K_of_M := fun h => k36.K_of_M h.1
 M_mono := fun hk h => ⟨k36.M_mono hk h.1, h.2⟩
 M_bound := fun h => ⟨k36.M_bound h.1, h.2⟩
 M_move := fun hm h => ⟨k36.M_move hm h.1, h.2⟩
 M_lower := fun hb h => ⟨k36.M_lower hb h.1, h.2⟩
theorem kpr_openA {w : World} {base : Nat} {ok : Nat → Prop} {x : S36} {cs : List Value} (h : kpr.M w base ok x cs) : ∃ v0 v1, cs = [v0, v1] ∧ (Kd.int .i64).R 3 w base ok v0 x.f0 ∧ (Kd.int .i64).R 3 w base ok v1 x.f1 ∧ ∀ k, v0.ownBlock = some k → v1.ownBlock ≠ some k := by
 obtain ⟨v0, v1, rfl, g0, g1⟩ := k36_openM h.1
 obtain ⟨u0, u1, e, ap⟩ := h.2
 injection e with e0 e1
 injection e1 with e1 _
 subst e0
 subst e1
 exact ⟨v0, v1, rfl, g0, g1, ap⟩
theorem kpr_openM {w : World} {base : Nat} {ok : Nat → Prop} {x : S36} {cs : List Value} (h : kpr.M w base ok x cs) : ∃ v0 v1, cs = [v0, v1] ∧ (Kd.int .i64).R 3 w base ok v0 x.f0 ∧ (Kd.int .i64).R 3 w base ok v1 x.f1 := k36_openM h.1
theorem kpr_mkM (w : World) (base : Nat) (ok : Nat → Prop) (x : S36) {v0 : Value} (g0 : (Kd.int .i64).R 3 w base ok v0 x.f0) {v1 : Value} (g1 : (Kd.int .i64).R 3 w base ok v1 x.f1) (ap : ∀ k, v0.ownBlock = some k → v1.ownBlock ≠ some k) : kpr.M w base ok x [v0, v1] := ⟨k36_mkM w base ok x g0 g1, v0, v1, rfl, ap⟩
theorem kpr_C {w : World} {A : Option Addr} {n : Nat} {xs : List S36} (h : Kd.C kpr w A n xs) : Kd.C k36 w A n xs := h
set_option maxHeartbeats 8000000 in
set_option maxRecDepth 100000 in
theorem laws_toRelationS.calls (k : Nat) (A0 : Option Addr) (c0 : Nat) (l0 : List (S32)) (r : List (S36)) (w : World) (hr0 : Kd.C k32 w A0 l0.length l0) (hc0 : l0.length ≤ c0) (h : laws_toRelationS.f k l0 = some r) :
  Calls Try.prog 29 #[.slice A0 l0.length c0] w fun e w' => ∃ v0_ : Value, e = .returned (v0_) ∧ Kd.S kpr 36 w' w.heap.size (fun _ => True) v0_ r ∧ Below w.heap.size w w' := by
 have hu32 := Try.underlying32
 have hu36 := Try.underlying36
 have HR0 := am hr0
 have HC0 := am hc0
 clear hr0 hc0
 have HB := am (Below.refl w.heap.size w)
 have H : (if 0 ≤ (l0.length : Int) then (if ((l0.length : Int) : Int).toNat ≤ 5864062014805 then (laws_toRelationS.l0 k l0 (List.replicate ((l0.length : Int) : Int).toNat z36) 0) else (none)) else (none)) = some r := h
 clear h
 replace H := gp H; obtain ⟨c2, H⟩ := H
 have c2b0 := eq_true c2
 have c2b1 : decide (0 ≤ (l0.length : Int)) = true := decide_eq_true c2
 clear c2
 replace H := gp H; obtain ⟨c3, H⟩ := H
 have c3b0 := eq_true c3
 have c3b1 : decide (((l0.length : Int) : Int).toNat ≤ 5864062014805) = true := decide_eq_true c3
 clear c3
 obtain ⟨y171, hy171⟩ : ∃ y_ : List (S36), y_ = (List.replicate ((l0.length : Int) : Int).toNat z36) := ⟨_, rfl⟩
 replace H : (laws_toRelationS.l0 k l0 y171 0) = some r := by first | (rw [hy171]; with_reducible first | exact H | exact bs H) | (with_reducible first | exact bs H | exact H) | (rw [hy171]; exact H) | exact H
 have Ny171 := am hy171
 clear hy171
 have H' := am H
 clear H
 go_enter Try.func29, Try.ntmps29
 go_wp2_with (first | ((with_reducible refine gate_dst (N := 7) rfl ?_); refine Kd.S_make kpr _ 36 rfl (N := 7) rfl 45 _ _ rfl (l0.length : Int) rfl rfl Try.underlying45 (.agg #[(.slice none 0 0), (.slice none 0 0)]) 48 info36 rfl (by decide) (by omega) z36 (ok := fun _ => True) (okp := fun _ => True) (kpr_mkM _ _ _ z36 (Kd.R_nil _ _ _ _ _) (Kd.R_nil _ _ _ _ _) (by simp [Value.ownBlock])) (fun _ hk => hk) trivial (of_decide_eq_true (by first | (with_reducible assumption) | assumption)) (Nat.le_trans (Nat.mul_le_mul_right _ (of_decide_eq_true (by first | (with_reducible assumption) | assumption) : (l0.length : Int).toNat ≤ 5864062014805)) (by omega)) (Below.refl _ _) (Nat.le_refl _) ?_; intro v172 w4 ho5 hb hg_ hnew_; clear hg_ hnew_; (first | rw [← Ny171.out] at ho5 | (simp only [Int.reduceToNat] at ho5; rw [← Ny171.out] at ho5)); have HO173 := am (Kd.S_lower ho5 (below_size bw)); replace HB := am (below_step bw hb); clear hb ho5))
 go_loopg [4] k (fun kq v4 w' => ∃ (x3_1 : List (S36)) (x4_1 : Int), v4 = .int .i64 x4_1 ∧ Aside0 (laws_toRelationS.l0 kq l0 x3_1 x4_1 = some r) ∧ Aside0 (kq ≤ k) ∧ Aside0 (Kd.S kpr 36 w' w.heap.size (fun _ => True) v172 x3_1) ∧ Aside0 (Below w.heap.size w w'))
 case atStart => exact ⟨(y171), (0), rr, H', ⟨Nat.le_refl _⟩, ⟨so HO173.out⟩, ⟨bw⟩⟩
 case round =>
  clear H'
  try clear c2; try clear c2b0; try clear c2b1; try clear c3; try clear c3b0; try clear c3b1
  obtain ⟨x3_1, x4_1, rfl, HA, HK1, HO_3, HB⟩ := hrel
  cases gk with
  | zero => exact absurd HA.out (by simp [laws_toRelationS.l0])
  | succ k1 =>
   have H := HA.out
   clear HA
   simp only [laws_toRelationS.l0] at H
   replace H := gi H; obtain ⟨c6b0, H⟩ | ⟨c6b0, H⟩ := H
   ·replace H := gd H; obtain ⟨c7b0, H⟩ := H
    replace H := ga H; obtain ⟨⟨t175, t178⟩, A8, H⟩ := H
    replace H : (if x4_1 < (x3_1.length : Int) then (laws_toRelationS.l0 k1 l0 (x3_1.set (x4_1 : Int).toNat (⟨t175, t178⟩ : S36)) (wrap64 (x4_1 + 1))) else (none)) = some r := H
    replace H := gd H; obtain ⟨c9b0, H⟩ := H
    obtain ⟨y181, hy181⟩ : ∃ y_ : List (S36), y_ = (x3_1.set (x4_1 : Int).toNat (⟨t175, t178⟩ : S36)) := ⟨_, rfl⟩
    replace H : (laws_toRelationS.l0 k1 l0 y181 (wrap64 (x4_1 + 1))) = some r := by first | (rw [hy181]; with_reducible first | exact H | exact bs H) | (with_reducible first | exact bs H | exact H) | (rw [hy181]; exact H) | exact H
    have Ny181 := am hy181
    clear hy181
    have H' := am H
    clear H
    have p174 : 0 ≤ (x4_1 : Int) := of_decide_eq_true (by first | (with_reducible assumption) | assumption)
    have q174 : x4_1 < (l0.length : Int) := of_decide_eq_true (by first | (with_reducible assumption) | assumption)
    obtain ⟨ad174, A174_0, c174_0, A174_1, c174_1, e174, hx174_0, hx174_1, hl174_0, hi174_0, hl174_1, hi174_1⟩ := at_T32 HR0.out x4_1 p174 q174
    cases e174
    replace hx174_0 := hw HB hx174_0
    replace hx174_1 := hw HB hx174_1
    have HR174_0 := am hi174_0
    have HC174_0 := am hl174_0
    clear hi174_0 hl174_0
    have HR174_1 := am hi174_1
    have HC174_1 := am hl174_1
    clear hi174_1 hl174_1
    replace p174 := eq_true p174
    replace q174 := eq_true q174
    go_wp2_with (first | ((with_reducible refine gate_callee (f := 23) rfl ?_); refine gl (some 20) Try.func23 #[.agg #[.slice A174_0 ((rd_T32 l0 x4_1).f0).length c174_0, .slice A174_1 ((rd_T32 l0 x4_1).f1).length c174_1]] ?_; (with_reducible refine (laws_toRelation.calls k1 _ _ ((rd_T32 l0 x4_1).f0) _ _ ((rd_T32 l0 x4_1).f1) t175 t178 _ ?side1 ?side2 ?side3 ?side4 A8.out).mono ?_); (case side1 => exact co (Kd.C_below HR174_0.out HB.out)); (case side2 => exact HC174_0.out); (case side3 => exact co (Kd.C_below HR174_1.out HB.out)); (case side4 => exact HC174_1.out); rintro e w11 ⟨v176, v179, rfl, ho0, ho1, hb⟩; refine ⟨_, rfl, ?_⟩; replace HO_3 := am (Kd.S_mono (Kd.S_told (Kd.S_told (Kd.S_old (so HO_3.out) hb) (Kd.R_base ho0)) (Kd.R_base ho1)) (fun _ h_ => h_.1)); have HO177 := am (Kd.R_lower ho0 (below_size bw)); have HO180 := am (Kd.R_lower ho1 (below_size bw)); replace HB := am (below_step bw hb); clear hb ho0 ho1; obtain ⟨Aq0, cq0, eq0_⟩ := Kd.R_slice HO177.out; subst eq0_; obtain ⟨Aq1, cq1, eq1_⟩ := Kd.R_slice HO180.out; subst eq1_; have p10 : 0 ≤ (x4_1 : Int) := of_decide_eq_true (by first | (with_reducible assumption) | assumption); have q10 : (x4_1 : Int) < ((x3_1.length : Int) : Int) := of_decide_eq_true (by first | (with_reducible assumption) | assumption); obtain ⟨go10, co10, eo10, gb10, gl10, cl10, HG10⟩ := Kd.S_form HO_3.out (by omega); (first | cases eo10 | (injection eo10 with ea_ en_ ec_; (first | subst ea_ | (injection ea_ with ea_; subst ea_)); subst ec_; clear en_)); have GB10 := am gb10; have GG10 := am HG10; clear gb10 gl10 HG10; obtain ⟨_, ce10, hcl10, hM10, hcc10, hfr10, _, _⟩ := Kd.S_elem HO_3.out z36 (x4_1 : Int) p10 q10; obtain ⟨ve10_0, ve10_1, rfl, ge10_0, ge10_1⟩ := kpr_openM hM10; have hx10_0 : w11.cell? ⟨go10, (x4_1 : Int).toNat * 2, none⟩ = some (ve10_0) := hcc10 0 _ rfl; have hx10_1 : w11.cell? ⟨go10, (x4_1 : Int).toNat * 2 + 1, none⟩ = some (ve10_1) := hcc10 1 _ rfl; have hf10_0 : w11.frozen? ⟨go10, (x4_1 : Int).toNat * 2, none⟩ = false := hfr10 0; have hf10_1 : w11.frozen? ⟨go10, (x4_1 : Int).toNat * 2 + 1, none⟩ = false := hfr10 1; clear hcl10 hcc10 hfr10 hM10; replace p10 := eq_true p10; replace q10 := eq_true q10; have n_ := am (Kd.S_mono (ok' := (fun k_ => some k_ ≠ ((.slice Aq0 t175.length cq0) : Value).ownBlock ∧ some k_ ≠ ((.slice Aq1 t178.length cq1) : Value).ownBlock)) HO_3.out (fun k_ hk => ⟨hk.1.2, hk.2⟩)); clear HO_3; have HO_3 := n_; clear n_; have HX12 := am (show Kd.S kpr 36 w11 w.heap.size (fun k_ => ((fun _ => True)) k_ ∧ ¬ ((fun k_ => some k_ = ((.slice Aq0 t175.length cq0) : Value).ownBlock ∨ some k_ = ((.slice Aq1 t178.length cq1) : Value).ownBlock)) k_) (.slice (some ⟨go10, 0, none⟩) x3_1.length co10) x3_1 from (by (with_reducible repeat (first | apply Kd.S_alloc | apply Kd.S_drewN | apply Kd.S_drew)); exact Kd.S_mono HO_3.out (fun k_ hk => ⟨trivial, fun e_ => e_.elim (fun h_ => hk.1 h_) (fun h_ => hk.2 h_)⟩))); obtain ⟨oki12, ce12, hcl12, hM12, hcc12, hfr12, hoki12, hH12⟩ := Kd.S_elem HX12.out z36 (x4_1 : Int) (of_decide_eq_true (by first | (with_reducible assumption) | assumption)) (by have h_ : (x4_1 : Int) < ((x3_1.length : Int) : Int) := of_decide_eq_true (by first | (with_reducible assumption) | assumption); first | exact h_ | (have e_ := (Kd.S_reads' HO_3.out).1; omega) | simpa using h_); obtain ⟨ve12_0, ve12_1, rfl, ge12_0, ge12_1⟩ := kpr_openM hM12; have HP12 := Kd.S_seg hH12 (of_decide_eq_true (by first | (with_reducible assumption) | assumption)) (by have h_ : (x4_1 : Int) < ((x3_1.length : Int) : Int) := of_decide_eq_true (by first | (with_reducible assumption) | assumption); first | exact h_ | (have e_ := (Kd.S_reads' HO_3.out).1; omega) | simpa using h_) (seg := [(.slice Aq0 t175.length cq0), (.slice Aq1 t178.length cq1)]) (j := 0) (show 2 ≤ 2 from by decide) (x' := (⟨t175, t178⟩ : S36)) (kpr_mkM _ _ _ (⟨t175, t178⟩ : S36) (Kd.R_mono (Kd.R_tight rfl (Kd.R_mono (ok' := fun k_ => ((fun _ => True)) k_ ∧ k_ ≠ go10) (Kd.R_apart' (HO177.out) (Kd.S_typed HO_3.out) (by decide)) (fun k_ hk => ⟨trivial, fun e_ => (hk.2) (by rw [e_]; rfl)⟩))) (fun _ h_ => Or.inr (Or.inl h_))) (Kd.R_mono (Kd.R_tight rfl (Kd.R_mono (ok' := fun k_ => ((fun _ => True)) k_ ∧ k_ ≠ go10) (Kd.R_apart' (HO180.out) (Kd.S_typed HO_3.out) (by decide)) (fun k_ hk => ⟨trivial, fun e_ => (hk.2) (by rw [e_]; rfl)⟩))) (fun _ h_ => Or.inr (Or.inr (h_)))) (fun k_ h_ e_ => HO177.out.1 k_ h_ e_.symm)) (fun _ hk => hk) (fun k_ hk_ => hk_.elim (fun h_ => ((Kd.R_mono (ok' := fun k_ => ((fun _ => True)) k_ ∧ k_ ≠ go10) (Kd.R_apart' (HO177.out) (Kd.S_typed HO_3.out) (by decide)) (fun k_ hk => ⟨trivial, fun e_ => (hk.2) (by rw [e_]; rfl)⟩))).1 k_ h_.symm) (fun h_ => ((Kd.R_mono (ok' := fun k_ => ((fun _ => True)) k_ ∧ k_ ≠ go10) (Kd.R_apart' (HO180.out) (Kd.S_typed HO_3.out) (by decide)) (fun k_ hk => ⟨trivial, fun e_ => (hk.2) (by rw [e_]; rfl)⟩))).1 k_ h_.symm)); have hx12_0 := hcc12 0 _ rfl; (try simp only [show (kpr).sz = 2 from rfl, Nat.mul_one, Nat.add_zero] at hx12_0); have hf12_0 := hfr12 0; (try simp only [show (kpr).sz = 2 from rfl, Nat.mul_one, Nat.add_zero] at hf12_0); have hx12_1 := hcc12 1 _ rfl; (try simp only [show (kpr).sz = 2 from rfl, Nat.mul_one, Nat.add_zero] at hx12_1); have hf12_1 := hfr12 1; (try simp only [show (kpr).sz = 2 from rfl, Nat.mul_one, Nat.add_zero] at hf12_1); clear hcl12 hcc12 hfr12 hM12 hoki12 hH12) | ((with_reducible refine gate_store (t := 36) (p := 21) rfl ?_); refine store_event (t := 36) (p := 21) (v := ?vo_w13) (w1 := ((w11.setCell ⟨go10, (x4_1 : Int).toNat * 2, none⟩ ((.slice Aq0 t175.length cq0))).setCell ⟨go10, (x4_1 : Int).toNat * 2 + 1, none⟩ ((.slice Aq1 t178.length cq1)))) ?hg ?ho ?hn ?hr ?_; (case ho => rfl); (case hg => rfl); (case hn => rfl); (case hr => first | (go_simp; done) | (go_simp; rfl)); intro w13 hw; have hg : w11.grownBy w13 (some go10) := (by rw [hw]; exact HP12.2); have hp_ : Kd.S kpr 36 w13 w.heap.size (fun _ => True) (.slice (some ⟨go10, 0, none⟩) x3_1.length co10) y181 := (by rw [hw, Ny181.out]; exact HP12.1); clear HP12; replace HO_3 := am (hp_); replace HB := am ((by rw [hw]; exact below_set (below_set (HB.out) GB10.out) GB10.out : Below w.heap.size w w13)); clear HO177 HO180 hg hw hp_))
    go_roundg k1
    case measure => have := HK1.out; omega
    case rel => exact ⟨(y181), (wrap64 (x4_1 + 1)), rr, H', ⟨by have := HK1.out; omega⟩, ⟨so HO_3.out⟩, ⟨bw⟩⟩
   obtain rfl := Option.some.inj H
   go_wp2
   go_ret
   exact ⟨_, re, by (with_reducible repeat (first | apply Kd.S_alloc | apply Kd.S_drewN | apply Kd.S_drew)); exact HO_3.out, bw⟩


/-! ### impl_ApplyRelation: function 24 -/
mutual
def impl_ApplyRelation.j0 : Nat → List Int → Bool → List Int → List Int → Option (List Int × Bool)
 | 0, _, _, _, _ => none
 | k + 1, x1, x22, x183000, x183001 => if x22 = true then (some (([] : List Int), false)) else (impl_ApplyRelation.l0 k (([] : List Int)) x1 (x1.length : Int) 0 x183000 x183001)
def impl_ApplyRelation.l0 : Nat → List Int → List Int → Int → Int → List Int → List Int → Option (List Int × Bool)
 | 0, _, _, _, _, _, _ => none
 | k + 1, x6, x24, x25, x26, x183000, x183001 => if x26 < x25 then (if 0 ≤ x26 then (if x26 < (x24.length : Int) then (if x26 < (x183000.length : Int) then (if (rd x24 x26) < (rd x183000 x26) then (some (([] : List Int), false)) else (if x26 < (x183001.length : Int) then (if x6.length < 17592186044416 then (impl_ApplyRelation.l0 k (x6 ++ [wrap64 ((wrap64 ((rd x24 x26) - (rd x183000 x26))) + (rd x183001 x26))]) x24 x25 (wrap64 (x26 + 1)) x183000 x183001) else (none)) else (none))) else (none)) else (none)) else (none)) else (some (x6, true))
end
def impl_ApplyRelation.f (k : Nat) (l0_0 : List Int) (l0_1 : List Int) (l1 : List Int) : Option (List Int × Bool) := if (l0_0.length : Int) = (l1.length : Int) then (impl_ApplyRelation.j0 k l1 ((l0_1.length : Int) != (l1.length : Int)) l0_0 l0_1) else (impl_ApplyRelation.j0 k l1 true l0_0 l0_1)
def impl_ApplyRelation.T9 : Bool × List (List Nat × List Nat) := (true, [([], []), ([], []), ([], []), ([2], [2]), ([], []), ([3, 4], [3, 4]), ([5], [5]), ([1, 6], [1, 6]), ([], []), ([8], [8]), ([], []), ([9, 10], [9, 10]), ([11], [11]), ([7, 12], [7, 12]), ([13], [13]), ([0, 14], [0, 14]), ([15, 15, 0, 1, 2, 3, 4, 5, 6, 7, 8, 9, 10, 11, 12, 13, 14, 15], [0, 15])])
def impl_ApplyRelation.B9 : List Nat := [0, 0, 0, 4, 0, 28, 60, 126, 0, 256, 0, 1792, 3840, 8190, 16382, 32767, 65535]
theorem impl_ApplyRelation.tab9 : rtab .any (opsOf Try.f24 9) = impl_ApplyRelation.T9 := by kernel_rfl
theorem impl_ApplyRelation.bits9 : waitsOk impl_ApplyRelation.T9.2 impl_ApplyRelation.B9 = true := by kernel_rfl
set_option maxHeartbeats 8000000 in
set_option maxRecDepth 100000 in
theorem impl_ApplyRelation.calls (k : Nat) (A0_0 : Option Addr) (c0_0 : Nat) (l0_0 : List Int) (A0_1 : Option Addr) (c0_1 : Nat) (l0_1 : List Int) (A1 : Option Addr) (c1 : Nat) (l1 : List Int) (r1 : List Int) (r2 : Bool) (w : World) (hr0_0 : Kd.C (Kd.int .i64) w A0_0 l0_0.length l0_0) (hc0_0 : l0_0.length ≤ c0_0) (hr0_1 : Kd.C (Kd.int .i64) w A0_1 l0_1.length l0_1) (hc0_1 : l0_1.length ≤ c0_1) (hr1 : Kd.C (Kd.int .i64) w A1 l1.length l1) (hc1 : l1.length ≤ c1) (h : impl_ApplyRelation.f k l0_0 l0_1 l1 = some (r1, r2)) :
  Calls Try.prog 24 #[.agg #[.slice A0_0 l0_0.length c0_0, .slice A0_1 l0_1.length c0_1], .slice A1 l1.length c1] w fun e w' => ∃ v0_ : Value, e = .returned (.tuple #[v0_, .bool r2]) ∧ Kd.R (Kd.int .i64) 3 w' w.heap.size (fun _ => True) v0_ r1 ∧ Below w.heap.size w w' := by
 have hu36 := Try.underlying36
 have HR0_0 := am hr0_0
 have HC0_0 := am hc0_0
 clear hr0_0 hc0_0
 have HR0_1 := am hr0_1
 have HC0_1 := am hc0_1
 clear hr0_1 hc0_1
 have HR1 := am hr1
 have HC1 := am hc1
 clear hr1 hc1
 have HB := am (Below.refl w.heap.size w)
 have H : (if (l0_0.length : Int) = (l1.length : Int) then (impl_ApplyRelation.j0 k l1 ((l0_1.length : Int) != (l1.length : Int)) l0_0 l0_1) else (impl_ApplyRelation.j0 k l1 true l0_0 l0_1)) = some (r1, r2) := h
 clear h
 have HC3 := am H
 clear H
 go_enter Try.func24, Try.ntmps24
 go_upto_region 1 with (first | ((with_reducible refine gate_dst (N := 2) rfl ?_); (try (refine gate_guard (by rfl) ?_; dsimp only)); refine bx 2 #[.slice A0_0 l0_0.length c0_0, .slice A0_1 l0_1.length c0_1] 36 ?_; intro gb182 hg w4 hbox hb; have BK182 := am (hbox); have GW182 := am (gs hg : w.heap.size ≤ gb182); have GE182 := GW182; replace HB := am (below_step bw hb); clear hb hbox hg))
 (try simp only [Act.put, List.setIfInBounds_toArray, List.set_cons_zero, List.set_cons_succ])
 go_cut [22] (fun v22 wc => ∃ (kq : Nat) (x22_2 : Bool), v22 = .bool x22_2 ∧ Aside0 (impl_ApplyRelation.j0 kq l1 x22_2 l0_0 l0_1 = some (r1, r2)) ∧ Aside0 (kq ≤ k) ∧ Aside0 (wc.heap[gb182]? = some (.cells #[(.slice A0_0 l0_0.length c0_0), (.slice A0_1 l0_1.length c0_1)] 36 (0, 0))) ∧ Aside0 (Below w.heap.size w wc))
 case first =>
  have H := HC3.out
  clear HC3
  by_cases c5 : (l0_0.length : Int) = (l1.length : Int)
  ·rw [if_pos c5] at H
   have c5b0 : ((l0_0.length : Int) == (l1.length : Int)) = true := beq_iff_eq.mpr c5
   have c5b1 : ((l0_0.length : Int) != (l1.length : Int)) = false := bne_eq_false_iff_eq.mpr c5
   have c5b2 : (l0_0.length == l1.length) = true := by first | simpa using c5 | (simp at c5 ⊢; omega)
   clear c5
   (first | rw [c5b0] | (simp only [i64_w, i32_w]; rw [c5b0]) | skip)
   have H' := am H
   clear H
   have hcz6_0 := bc BK182 0 (.slice A0_0 l0_0.length c0_0)
   have hcz6_1 := bc BK182 1 (.slice A0_1 l0_1.length c0_1)
   have hfz6_0 := blk_frozen BK182.out 0
   have hfz6_1 := blk_frozen BK182.out 1
   go_wp2
   go_meet
   case rel => exact ⟨_, (((l0_1.length : Int) != (l1.length : Int))), rr, H', ⟨om⟩, ⟨bo BK182.out⟩, ⟨bw⟩⟩
  rw [if_neg c5] at H
  have c5b0 : ((l0_0.length : Int) == (l1.length : Int)) = false := beq_eq_false_iff_ne.mpr c5
  have c5b1 : ((l0_0.length : Int) != (l1.length : Int)) = true := bne_iff_ne.mpr c5
  have c5b2 : (l0_0.length == l1.length) = false := by first | simpa using c5 | (simp at c5 ⊢; omega)
  (first | rw [c5b0] | (simp only [i64_w, i32_w]; rw [c5b0]) | skip)
  have H' := am H
  clear H
  have hcz7_0 := bc BK182 0 (.slice A0_0 l0_0.length c0_0)
  have hcz7_1 := bc BK182 1 (.slice A0_1 l0_1.length c0_1)
  have hfz7_0 := blk_frozen BK182.out 0
  have hfz7_1 := blk_frozen BK182.out 1
  go_wp2
  go_meet
  case rel => exact ⟨_, (true), rr, H', ⟨om⟩, ⟨bo BK182.out⟩, ⟨bw⟩⟩
 case rest =>
  clear HC3
  try clear c1; try clear c5; try clear c5b0; try clear c5b1; try clear c5b2; try clear hcz6_0; try clear hcz6_1; try clear hcz7_0; try clear hcz7_1; try clear hfz6_0; try clear hfz6_1; try clear hfz7_0; try clear hfz7_1
  obtain ⟨kq, x22_2, rfl, HA, HJ2, BK182, HB⟩ := hcut
  cases kq with
  | zero => exact absurd HA.out (by simp [impl_ApplyRelation.j0])
  | succ kj2 =>
   have H := HA.out
   clear HA
   simp only [impl_ApplyRelation.j0] at H
   replace H := gb H; obtain ⟨rfl, H⟩ | ⟨rfl, H⟩ := H
   ·simp only [Option.some.injEq, Prod.mk.injEq] at H
    obtain ⟨rfl, rfl⟩ := H
    go_wp2
    go_ret2
    exact ⟨_, re, by first | exact Kd.R_nil _ _ _ _ _ | exact Kd.N_nil _ _ _ _ _ | exact Kd.V_nil _ _ _ _ _ | exact Kd.Q_nil _ _ _ _ _ | exact Kd.S_nil _ _ _ _ _, bw⟩
   obtain ⟨y183, hy183⟩ : ∃ y_ : List Int, y_ = (([] : List Int)) := ⟨_, rfl⟩
   replace H : (impl_ApplyRelation.l0 kj2 y183 l1 (l1.length : Int) 0 l0_0 l0_1) = some (r1, r2) := by first | (rw [hy183]; with_reducible first | exact H | exact bs H) | (with_reducible first | exact bs H | exact H) | (rw [hy183]; exact H) | exact H
   have Ny183 := am hy183
   clear hy183
   have H' := am H
   clear H
   go_wp2_with (first | ((with_reducible refine gate_dst (N := 23) rfl ?_); (try (refine gate_guard (by rfl) ?_; dsimp only)); refine Kd.R_lit (Kd.int .i64) _ 3 ?hg (N := 23) ?hd (xs := ([] : List Int)) (inner := []) (ok := fun _ => True) (okp := fun _ => True) ?hr ?hp (fun _ hk => hk) trivial (Below.refl _ _) (Nat.le_refl _) (by simp) ?_; (case hd => rfl); (case hg => rfl); (case hr => first | (go_simp; done) | (go_simp; rfl)); (case hp => exact (Reps.none _ _)); intro v184 w9 ho10 hb hg_ hnew_; clear hg_ hnew_; (first | rw [← Ny183.out] at ho10 | (simp only [Int.reduceToNat] at ho10; rw [← Ny183.out] at ho10)); have HO185 := am (Kd.R_lower ho10 (below_size bw)); replace BK182 := kb BK182 hb; replace HB := am (below_step bw hb); clear hb ho10))
   go_loopg [6, 26] kj2 (fun kq v6 v26 w' => ∃ (x6_2 : List Int) (x26_2 : Int), v26 = .int .i64 x26_2 ∧ Aside0 (impl_ApplyRelation.l0 kq x6_2 l1 (l1.length : Int) x26_2 l0_0 l0_1 = some (r1, r2)) ∧ Aside0 (kq ≤ kj2) ∧ Aside0 (Kd.R (Kd.int .i64) 3 w' w.heap.size (fun _ => True) v6 x6_2) ∧ Aside0 (w'.heap[gb182]? = some (.cells #[(.slice A0_0 l0_0.length c0_0), (.slice A0_1 l0_1.length c0_1)] 36 (0, 0))) ∧ Aside0 (Below w.heap.size w w'))
   case atStart => exact ⟨(y183), (0), rr, H', ⟨Nat.le_refl _⟩, ⟨ro HO185.out⟩, ⟨bo BK182.out⟩, ⟨bw⟩⟩
   case round =>
    clear H'
    try clear c1; try clear c5; try clear c5b0; try clear c5b1; try clear c5b2; try clear hcz6_0; try clear hcz6_1; try clear hcz7_0; try clear hcz7_1; try clear hfz6_0; try clear hfz6_1; try clear hfz7_0; try clear hfz7_1
    obtain ⟨x6_2, x26_2, rfl, HA, HK2, HO_6, BK182, HB⟩ := hrel
    cases gk with
    | zero => exact absurd HA.out (by simp [impl_ApplyRelation.l0])
    | succ k2 =>
     have H := HA.out
     clear HA
     simp only [impl_ApplyRelation.l0] at H
     replace H := gi H; obtain ⟨c11b0, H⟩ | ⟨c11b0, H⟩ := H
     ·replace H := gd H; obtain ⟨c12b0, H⟩ := H
      replace H := gd H; obtain ⟨c13b0, H⟩ := H
      replace H := gd H; obtain ⟨c14b0, H⟩ := H
      replace H := gi H; obtain ⟨c15b0, H⟩ | ⟨c15b0, H⟩ := H
      ·simp only [Option.some.injEq, Prod.mk.injEq] at H
       obtain ⟨rfl, rfl⟩ := H
       obtain ⟨⟨ad186, e186, hx186_0⟩, p186, q186⟩ := pq (Kd.at_int HR1.out x26_2)
       cases e186
       replace hx186_0 := hw HB hx186_0
       have hcz16_0 := bc BK182 0 (.slice A0_0 l0_0.length c0_0)
       have hcz16_1 := bc BK182 1 (.slice A0_1 l0_1.length c0_1)
       have hfz16_0 := blk_frozen BK182.out 0
       have hfz16_1 := blk_frozen BK182.out 1
       obtain ⟨⟨ad187, e187, hx187_0⟩, p187, q187⟩ := pq (Kd.at_int HR0_0.out x26_2)
       cases e187
       replace hx187_0 := hw HB hx187_0
       go_wp2
       go_ret2
       exact ⟨_, re, by first | exact Kd.R_nil _ _ _ _ _ | exact Kd.N_nil _ _ _ _ _ | exact Kd.V_nil _ _ _ _ _ | exact Kd.Q_nil _ _ _ _ _ | exact Kd.S_nil _ _ _ _ _, bw⟩
      replace H := gd H; obtain ⟨c17b0, H⟩ := H
      by_cases c18 : x6_2.length < 17592186044416
      rotate_left
      ·rw [if_neg c18] at H
       exact absurd H (by simp)
      rw [if_pos c18] at H
      have LMc18 := am c18
      clear c18
      obtain ⟨y190, hy190⟩ : ∃ y_ : List Int, y_ = (x6_2 ++ [wrap64 ((wrap64 ((rd l1 x26_2) - (rd l0_0 x26_2))) + (rd l0_1 x26_2))]) := ⟨_, rfl⟩
      replace H : (impl_ApplyRelation.l0 k2 y190 l1 (l1.length : Int) (wrap64 (x26_2 + 1)) l0_0 l0_1) = some (r1, r2) := by first | (rw [hy190]; with_reducible first | exact H | exact bs H) | (with_reducible first | exact bs H | exact H) | (rw [hy190]; exact H) | exact H
      have Ny190 := am hy190
      clear hy190
      have H' := am H
      clear H
      obtain ⟨⟨ad186, e186, hx186_0⟩, p186, q186⟩ := pq (Kd.at_int HR1.out x26_2)
      cases e186
      replace hx186_0 := hw HB hx186_0
      have hcz19_0 := bc BK182 0 (.slice A0_0 l0_0.length c0_0)
      have hcz19_1 := bc BK182 1 (.slice A0_1 l0_1.length c0_1)
      have hfz19_0 := blk_frozen BK182.out 0
      have hfz19_1 := blk_frozen BK182.out 1
      obtain ⟨⟨ad187, e187, hx187_0⟩, p187, q187⟩ := pq (Kd.at_int HR0_0.out x26_2)
      cases e187
      replace hx187_0 := hw HB hx187_0
      try go_wp2
      replace HO_6 := am (Kd.R_drew HO_6.out)
      replace BK182 := bd BK182
      replace HB := am (below_drew1 HB.out)
      obtain ⟨⟨ad188, e188, hx188_0⟩, p188, q188⟩ := pq (Kd.at_int HR0_0.out x26_2)
      have hw188_0 := hx188_0
      obtain rfl : ad187 = ad188 := (by injection e188)
      replace hx188_0 := hw HB hx188_0
      obtain ⟨⟨ad189, e189, hx189_0⟩, p189, q189⟩ := pq (Kd.at_int HR0_1.out x26_2)
      have hw189_0 := hx189_0
      cases e189
      replace hx189_0 := hw HB hx189_0
      refine start_ (n := 17) (S := fun w' => w'.cell? ⟨gb182, 0, none⟩ = some (.slice (some ad187) l0_0.length c0_0) ∧ w'.cell? ⟨gb182, 1, none⟩ = some (.slice (some ad189) l0_1.length c0_1) ∧ w'.cell? (ad187.add (x26_2).toNat) = some (.int .i64 (rd l0_0 x26_2)) ∧ w'.cell? (ad189.add (x26_2).toNat) = some (.int .i64 (rd l0_1 x26_2))) (ds := []) (yz 17 0) (by kernel_rfl) rfl rfl ⟨bc BK182 0 _, bc BK182 1 _, ((HB.out.cell (World.block_lt_of_cell? w _ hw188_0)).trans hw188_0), ((HB.out.cell (World.block_lt_of_cell? w _ hw189_0)).trans hw189_0)⟩ (fun hHeld => ?_); refine with_tabW impl_ApplyRelation.tab9 impl_ApplyRelation.bits9 (fun HT_ HW_ => ?_)
      generalize wr.drew = w20 at HO_6 BK182 HB hx188_0 hx189_0 hHeld ⊢
      refine pa 0 (some 38) (yz 17 1) HT_ ?_
      refine pa 1 (some 39) (yz 17 3) HT_ ?_
      refine pa 2 (some 40) (yz 17 7) HT_ ?_
      refine pa 4 (some 42) (yz 17 23) HT_ ?_
      refine pa 8 (some 46) (yz 17 279) HT_ ?_
      refine pa 10 (some 48) (yz 17 1303) HT_ ?_
      refine tk 3 (some 41) (yz 17 1311) HT_ HW_ hHeld ?_
      refine pa 5 (some 43) (yz 17 1343) HT_ ?_
      refine tk 6 (some 44) (yz 17 1407) HT_ HW_ hHeld ?_
      refine pa 7 (some 45) (yz 17 1535) HT_ ?_
      refine tk 9 (some 47) (yz 17 2047) HT_ HW_ hHeld ?_
      refine pa 11 (some 49) (yz 17 4095) HT_ ?_
      refine tk 12 (some 50) (yz 17 8191) HT_ HW_ hHeld ?_
      refine pa 13 (some 51) (yz 17 16383) HT_ ?_
      refine oa 14 (some 52) (yz 17 32767) HT_ (fun K hK => ?_)
      refine value_ (w1 := ?_) (v := ?_) (by rfl) rfl ?_ ?_
      rotate_left 2
      ·go_simp
       constructor
       ·rfl
       rfl
      refine hK.out _ _ ⟨(blk_cell (blk_alloc BK182.out _) 0).trans rfl, (blk_cell (blk_alloc BK182.out _) 1).trans rfl, (World.cell?_alloc_lt _ _ _ (World.block_lt_of_cell? _ _ (((HB.out.cell (World.block_lt_of_cell? w _ hw188_0)).trans hw188_0)))).trans (((HB.out.cell (World.block_lt_of_cell? w _ hw188_0)).trans hw188_0)), (World.cell?_alloc_lt _ _ _ (World.block_lt_of_cell? _ _ (((HB.out.cell (World.block_lt_of_cell? w _ hw189_0)).trans hw189_0)))).trans (((HB.out.cell (World.block_lt_of_cell? w _ hw189_0)).trans hw189_0))⟩ (fun hHeld => ?_)
      clear hK K
      refine nm (some 52) ?_
      refine oa 15 (some 53) (yz 17 65535) HT_ (fun K hK => ?_)
      refine Kd.R_append_step (Kd.int .i64) (w0 := w) w.heap.size (by rfl) (.tmp 38) (.tmp 52) 22 3 (.int .i64 0) 8 rfl Try.underlying22 info3 rfl (by decide) (by omega) u6 x6_2 (wrap64 ((wrap64 ((rd l1 x26_2) - (rd l0_0 x26_2))) + (rd l0_1 x26_2))) [.int .i64 (wrap64 ((wrap64 ((rd l1 x26_2) - (rd l0_0 x26_2))) + (rd l0_1 x26_2)))] (fun _ => True) (fun _ => False) rfl rfl ?aP (fun _ hk => hk.elim) ?aF ?aO ?aB ?aS ?aL ?_
      (case aP => exact rfl)
      (case aB => exact bw)
      (case aF => exact (fun _ _ => trivial))
      (case aO => exact (ro HO_6.out))
      (case aS => exact (below_size bw))
      (case aL => have := LMc18.out; omega)
      intro v191 w21 ho hb hg hat
      rw [← Ny190.out] at ho
      replace BK182 := am (blk_grown (g := gb182) (o := .cells #[.slice (some ad187) l0_0.length c0_0, .slice (some ad189) l0_1.length c0_1] 36 (0, 0)) (bo BK182.out) hg (Kd.R_ne HO_6.out BK182.out (by decide)))
      replace HB := am (hb)
      have HO192 := am (ho)
      clear HO_6 ho hb hg hat
      refine hK.out _ _ ⟨bc BK182 0 _, bc BK182 1 _, ((HB.out.cell (World.block_lt_of_cell? w _ hw188_0)).trans hw188_0), ((HB.out.cell (World.block_lt_of_cell? w _ hw189_0)).trans hw189_0)⟩ (fun hHeld => ?_)
      clear hK K
      refine nm (some 53) ?_
      refine pa 16 (some 6) (yz 17 131071) HT_ ?_
      refine done_ (done_of HT_.out (by kernel_rfl)) ?_
      try go_wp2
      go_roundg k2
      case measure => have := HJ2.out; have := HK2.out; omega
      case rel => exact ⟨(y190), (wrap64 (x26_2 + 1)), rr, H', ⟨by have := HJ2.out; have := HK2.out; omega⟩, ⟨ro HO192.out⟩, ⟨bo BK182.out⟩, ⟨bw⟩⟩
     simp only [Option.some.injEq, Prod.mk.injEq] at H
     obtain ⟨rfl, rfl⟩ := H
     go_wp2
     go_ret2
     exact ⟨_, re, ro HO_6.out, bw⟩


/-! ### impl_within: function 37 -/
def impl_within.f (a0 : Int) (a1 : Int) (a2 : Int) : Option (Bool) := if a0 ≥ a1 then (some (decide (a0 ≤ a2))) else (some false)
set_option maxHeartbeats 8000000 in
set_option maxRecDepth 100000 in
theorem impl_within.calls (a0 : Int) (a1 : Int) (a2 : Int) (r : Bool) (w : World) (h : impl_within.f a0 a1 a2 = some r) :
  Calls Try.prog 37 #[.int .i64 a0, .int .i64 a1, .int .i64 a2] w fun e w' => e = .returned (.bool r) ∧ Drawn0 w w' := by
 have H : (if a0 ≥ a1 then (some (decide (a0 ≤ a2))) else (some false)) = some r := h
 clear h
 replace H := gj H; obtain ⟨c4, H⟩ | ⟨c4, H⟩ := H
 ·have c4b0 : decide (a1 ≤ a0) = true := decide_eq_true c4
  clear c4
  obtain rfl := Option.some.inj H
  go_enter Try.func37, Try.ntmps37
  go_wp2
  go_ret
  exact ⟨rr, dw⟩
 have c4b0 : decide (a1 ≤ a0) = false := decide_eq_false c4
 clear c4
 obtain rfl := Option.some.inj H
 go_enter Try.func37, Try.ntmps37
 go_wp2
 go_ret
 exact ⟨rr, dw⟩

end Go.Proofs.Ytfpjjjdiieplkaa.C
