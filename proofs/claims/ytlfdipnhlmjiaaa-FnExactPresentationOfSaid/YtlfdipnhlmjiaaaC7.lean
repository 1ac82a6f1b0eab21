/- Contracts of functions of the program: spec_PresentationOf, impl_within, impl_allWithin, impl_IsAscending, impl_GcdOf, impl_GcdOfList. -/
import Derived.Test.YtlfdipnhlmjiaaaC0
import Derived.Test.YtlfdipnhlmjiaaaC5
import Derived.Test.YtlfdipnhlmjiaaaC6
namespace Go.Proofs.Ytlfdipnhlmjiaaa.C
open Go.RowKit Go.Proofs.YtlfdipnhlmjiaaaW.PrintWords Go.Proofs.YtlfdipnhlmjiaaaW.PrintLast Go.Proofs.YtlfdipnhlmjiaaaW.PrintMore
attribute [local go_sem] max2_int min2_int max_two min_two max_three min_three max_four min_four
set_option linter.unusedVariables false
set_option linter.unusedSimpArgs false

/-! ### spec_PresentationOf: function 50 -/
mutual
def spec_PresentationOf.l0 : Nat → List Int → List (S86) → Int → List Int → Option ((List (S86)) × Bool)
 | 0, _, _, _, _ => none
 | k + 1, x4, x6, x7, x394000 => if x7 < (x4.length : Int) then (if 0 ≤ x7 then ((spec_ClassesOf.f k x394000 (rd x4 x7)).bind fun t405 => (spec_PresentationOf.l1 k x4 x6 x7 t405 1 x394000)) else (none)) else (some (x6, true))
def spec_PresentationOf.l1 : Nat → List Int → List (S86) → Int → List (List (List Int)) → Int → List Int → Option ((List (S86)) × Bool)
 | 0, _, _, _, _, _, _ => none
 | k + 1, x4, x6, x7, x8, x9, x394000 => if x9 < (x8.length : Int) then (if 0 < (x8.length : Int) then (if 0 < ((rd_L4 x8 0).length : Int) then ((slices_Clone_int_int.f (rd_L2 (rd_L4 x8 0) 0)).bind fun t410 => (if 0 ≤ x9 then (if 0 < ((rd_L4 x8 x9).length : Int) then ((slices_Clone_int_int.f (rd_L2 (rd_L4 x8 x9) 0)).bind fun t415 => (if x6.length < 2932031007402 then (spec_PresentationOf.l1 k x4 (x6 ++ [(⟨t410, t415⟩ : S86)]) x7 x8 (wrap64 (x9 + 1)) x394000) else (none))) else (none)) else (none))) else (none)) else (none)) else (spec_PresentationOf.l0 k x4 x6 (wrap64 (x7 + 1)) x394000)
end
def spec_PresentationOf.f (k : Nat) (l0_0 : List Int) : Option ((List (S86)) × Bool) := (spec_BettiElements.f k l0_0).bind fun bt394 => (if bt394.2 = true then (spec_PresentationOf.l0 k bt394.1 (([] : List (S86))) 0 l0_0) else (some ((([] : List (S86))), false)))
def spec_PresentationOf.T12 : Bool × List (List Nat × List Nat) := (true, [([], []), ([], []), ([], []), ([2], [2]), ([3], [3]), ([4], [4]), ([5], [5]), ([1, 6], [1, 6]), ([], []), ([], []), ([], []), ([9, 10], [9, 10]), ([11], [11]), ([12], [12]), ([13], [13]), ([8, 14, 7], [8, 14]), ([7, 15], [7, 15]), ([16], [16]), ([0, 17, 15], [0, 17]), ([18, 18, 0, 1, 2, 3, 4, 5, 6, 7, 8, 9, 10, 11, 12, 13, 14, 15, 16, 17, 18], [0, 18])])
def spec_PresentationOf.B12 : List Nat := [0, 0, 0, 4, 12, 28, 60, 126, 0, 0, 0, 1536, 3584, 7680, 15872, 32766, 65534, 131070, 262143, 524287]
theorem spec_PresentationOf.tab12 : rtab .any (opsOf Try.f50 12) = spec_PresentationOf.T12 := by kernel_rfl
theorem spec_PresentationOf.bits12 : waitsOk spec_PresentationOf.T12.2 spec_PresentationOf.B12 = true := by kernel_rfl
theorem clone_fact {l r : List Int} (h : slices_Clone_int_int.f l = some r) : l.length < 17592186044416 ∧ l = r := by
 unfold slices_Clone_int_int.f at h
 split at h
 ·exact ⟨by assumption, Option.some.inj h⟩
 ·cases h
theorem prL {W w1 : World} {b e : Nat} {v u : Value} {xs ys : List Int} {ok ok' : Nat → Prop} (h : Kd.R (Kd.int .i64) e W b ok v xs) (hu : Kd.R (Kd.int .i64) e w1 b ok' u ys) (hg : W.grownBy w1 none) (hat : ∃ g, u.ownBlock = some g ∧ W.heap.size ≤ g) :
  Kd.R (Kd.int .i64) e w1 b (fun k => some k ≠ u.ownBlock) v xs ∧ Kd.R (Kd.int .i64) e w1 b (fun k => some k ≠ v.ownBlock) u ys := by
 obtain ⟨g, hg1, hg2⟩ := hat
 refine ⟨Kd.R_mono (Kd.R_step (Kd.R_bound h) (fun k ho hlt => hg.block k hlt (fun e_ => by cases e_))) (fun k hk e_ => ?_), Kd.R_mono (Kd.R_tight rfl hu) (fun k hk e_ => ?_)⟩
 ·rw [hg1] at e_
  injection e_ with e_
  have := hk.2.2.1
  omega
 ·have h1 := Kd.R_lt h k e_.symm
  rw [hg1] at hk
  injection hk with hk
  omega
theorem prA {W w1 : World} {b e : Nat} {v u v1 : Value} {ys zs : List Int} (hu : Kd.R (Kd.int .i64) e W b (fun k => some k ≠ v.ownBlock) u ys) (hv : Kd.R (Kd.int .i64) e w1 b (fun k => some k ≠ u.ownBlock) v1 zs) (hg : W.grownBy w1 v.ownBlock) (hat : v1.ownBlock = v.ownBlock ∨ ∃ g, v1.ownBlock = some g ∧ W.heap.size ≤ g) :
  Kd.R (Kd.int .i64) e w1 b (fun k => some k ≠ u.ownBlock) v1 zs ∧ Kd.R (Kd.int .i64) e w1 b (fun k => some k ≠ v1.ownBlock) u ys := by
 refine ⟨hv, Kd.R_mono (Kd.R_step (Kd.R_bound hu) (fun k ho hlt => hg.block k hlt ho.1)) (fun k hk e_ => ?_)⟩
 rcases hat with h | ⟨g, h1, h2⟩
 ·exact hk.1 (e_.trans h)
 ·rw [h1] at e_
  injection e_ with e_
  have := hk.2.2.1
  omega
set_option maxHeartbeats 8000000 in
set_option maxRecDepth 100000 in
theorem spec_PresentationOf.calls (k : Nat) (A0_0 : Option Addr) (c0_0 : Nat) (l0_0 : List Int) (r1 : List (S86)) (r2 : Bool) (w : World) (hr0_0 : Kd.C (Kd.int .i64) w A0_0 l0_0.length l0_0) (hc0_0 : l0_0.length ≤ c0_0) (h : spec_PresentationOf.f k l0_0 = some (r1, r2)) :
  Calls Try.prog 50 #[.agg #[.slice A0_0 l0_0.length c0_0]] w fun e w' => ∃ v0_ : Value, e = .returned (.tuple #[v0_, .bool r2]) ∧ Kd.N k86 86 w' w.heap.size (fun k_ => (w.heap.size ≤ k_)) v0_ r1 ∧ Below w.heap.size w w' := by
 have hu27 := Try.underlying27
 have hu86 := Try.underlying86
 have HR0_0 := am hr0_0
 have HC0_0 := am hc0_0
 clear hr0_0 hc0_0
 have HB := am (Below.refl w.heap.size w)
 have H : ((spec_BettiElements.f k l0_0).bind fun bt394 => (if bt394.2 = true then (spec_PresentationOf.l0 k bt394.1 (([] : List (S86))) 0 l0_0) else (some ((([] : List (S86))), false)))) = some (r1, r2) := h
 clear h
 replace H := ga H; obtain ⟨⟨t394, t397⟩, A2, H⟩ := H
 replace H : (if t397 = true then (spec_PresentationOf.l0 k t394 (([] : List (S86))) 0 l0_0) else (some ((([] : List (S86))), false))) = some (r1, r2) := H
 replace H := gb H; obtain ⟨rfl, H⟩ | ⟨rfl, H⟩ := H
 ·obtain ⟨y401, hy401⟩ : ∃ y_ : List (S86), y_ = (([] : List (S86))) := ⟨_, rfl⟩
  replace H : (spec_PresentationOf.l0 k t394 y401 0 l0_0) = some (r1, r2) := by first | (rw [hy401]; with_reducible first | exact H | exact bs H) | (with_reducible first | exact bs H | exact H) | (rw [hy401]; exact H) | exact H
  have Ny401 := am hy401
  clear hy401
  have H' := am H
  clear H
  go_enter Try.func50, Try.ntmps50
  go_wp2_with (first | ((with_reducible refine gate_dst (N := 1) rfl ?_); refine bx 1 #[.slice A0_0 l0_0.length c0_0] 27 ?_; intro gb393 hg w4 hbox hb; have BK393 := am (hbox); have GW393 := am (gs hg : w.heap.size ≤ gb393); have GE393 := GW393; replace HB := am (below_step bw hb); clear hb hbox hg; have hcz5_0 := bc BK393 0 (.slice A0_0 l0_0.length c0_0); have hfz5_0 := blk_frozen BK393.out 0) | ((with_reducible refine gate_callee (f := 35) rfl ?_); refine gl (some 12) Try.func35 #[.agg #[.slice A0_0 l0_0.length c0_0]] ?_; (with_reducible refine (spec_BettiElements.calls k _ _ l0_0 t394 true _ ?side1 ?side2 A2.out).mono ?_); (case side1 => exact co (Kd.C_below HR0_0.out HB.out)); (case side2 => exact HC0_0.out); rintro e w6 ⟨v395, rfl, ho0, hb⟩; refine ⟨_, rfl, ?_⟩; have HO396 := am (Kd.R_lower (Kd.R_newM (M := fun k_ => (w.heap.size ≤ k_)) ho0 (below_size bw) (fun k_ h_ => h_)) (below_size bw)); replace BK393 := kb BK393 hb; replace HB := am (below_step bw hb); clear hb ho0) | ((with_reducible refine gate_dst (N := 18) rfl ?_); refine Kd.N_lit k86 _ 86 ?hg (N' := 18) ?hd (xs := ([] : List (S86))) (inner := []) (ok := (fun k_ => (w.heap.size ≤ k_) ∧ some k_ ≠ (v395 : Value).ownBlock ∧ k_ ≠ gb393)) (okp := (fun k_ => (w.heap.size ≤ k_) ∧ some k_ ≠ (v395 : Value).ownBlock ∧ k_ ≠ gb393)) ?hr ?hp (fun _ hk => hk) ((show ∀ k_, w6.heap.size ≤ k_ → (fun k_ => (w.heap.size ≤ k_) ∧ some k_ ≠ (v395 : Value).ownBlock ∧ k_ ≠ gb393) k_ from fun k_ hk => ⟨(Nat.le_trans (below_size bw) hk), Kd.fresh' (Kd.R_lt (ro HO396.out)) k_ hk, Kd.freshB (g := gb393) (o := .cells #[.slice A0_0 l0_0.length c0_0] 27 (0, 0)) (bo BK393.out) k_ hk⟩) _ (Nat.le_refl _)) (Below.refl _ _) (Nat.le_refl _) (by simp) ?_; (case hd => rfl); (case hg => rfl); (case hr => first | (go_simp; done) | (go_simp; rfl)); (case hp => exact (Reps.none _ _)); intro v402 w7 ho8 hb hg_ hnew_; clear hg_ hnew_; (first | rw [← Ny401.out] at ho8 | (simp only [Int.reduceToNat] at ho8; rw [← Ny401.out] at ho8)); replace HO396 := rK HO396 hb; have HO403 := am (Kd.N_lower ho8 (below_size bw)); replace BK393 := kb BK393 hb; replace HB := am (below_step bw hb); clear hb ho8))
  go_loopg [6, 7] k (fun kq v6 v7 w' => ∃ (x6_1 : List (S86)) (x7_1 : Int), v7 = .int .i64 x7_1 ∧ Aside0 (spec_PresentationOf.l0 kq t394 x6_1 x7_1 l0_0 = some (r1, r2)) ∧ Aside0 (kq ≤ k) ∧ Aside0 (Kd.R (Kd.int .i64) 3 w' w.heap.size (fun k_ => (w.heap.size ≤ k_)) v395 t394) ∧ Aside0 (Kd.N k86 86 w' w.heap.size (fun k_ => (w.heap.size ≤ k_) ∧ some k_ ≠ (v395 : Value).ownBlock ∧ k_ ≠ gb393) v6 x6_1) ∧ Aside0 (w'.heap[gb393]? = some (.cells #[(.slice A0_0 l0_0.length c0_0)] 27 (0, 0))) ∧ Aside0 (Below w.heap.size w w'))
  case atStart => exact ⟨(y401), (0), rr, H', ⟨Nat.le_refl _⟩, ⟨by (with_reducible repeat (first | apply Kd.R_alloc | apply Kd.R_drewN | apply Kd.R_drew)); exact Kd.R_mono HO396.out (fun _ hk => hk.1)⟩, ⟨no HO403.out⟩, ⟨bo BK393.out⟩, ⟨bw⟩⟩
  case round =>
   clear H'
   try clear hcz5_0; try clear hfz5_0
   obtain ⟨x6_1, x7_1, rfl, HA, HK1, HO_4, HO_6, BK393, HB⟩ := hrel
   cases gk with
   | zero => exact absurd HA.out (by simp [spec_PresentationOf.l0])
   | succ k1 =>
    have H := HA.out
    clear HA
    simp only [spec_PresentationOf.l0] at H
    replace H := gi H; obtain ⟨c9b0, H⟩ | ⟨c9b0, H⟩ := H
    ·replace H := gd H; obtain ⟨c10b0, H⟩ := H
     replace H := ga H; obtain ⟨t405, A11, H⟩ := H
     have H' := am H
     clear H
     obtain ⟨Ao12, co12, eo12⟩ := Kd.R_slice HO_4.out
     subst eo12
     try go_wp2
     replace HO_4 := am (Kd.R_drew HO_4.out)
     replace HO_6 := am (Kd.N_drew HO_6.out)
     replace BK393 := bd BK393
     replace HB := am (below_drew1 HB.out)
     obtain ⟨⟨ad404, e404, hx404_0⟩, p404, q404⟩ := pq (Kd.at_int (Kd.R_reads' HO_4.out).2.2 x7_1)
     cases e404
     refine start_ (n := 7) (S := fun w' => w'.cell? ⟨gb393, 0, none⟩ = some (.slice A0_0 l0_0.length c0_0) ∧ w'.cell? (ad404.add (x7_1).toNat) = some (.int .i64 (rd t394 x7_1))) (ds := []) (yz 7 0) (by kernel_rfl) rfl rfl ⟨bc BK393 0 _, hx404_0⟩ (fun hHeld => ?_)
     generalize wr.drew = w13 at HO_4 HO_6 BK393 HB hx404_0 hHeld ⊢
     refine pure_ (i := 1) (N := some 26) (v := ?_) (a' := ?_) (yz 7 2) rfl rfl (by kernel_rfl) (fun _ _ _ h => h) (Or.inl ⟨by rfl, ?_⟩) ?_ ?_
     rotate_left
     ·intro w'
      go_simp
      with_reducible rfl
     rotate_left
     ·simp only [Act.put, qa, qb, qc, i64_w, i32_w]
      rfl
     refine pure_ (i := 2) (N := some 27) (v := ?_) (a' := ?_) (yz 7 6) rfl rfl (by kernel_rfl) (fun _ _ _ h => h) (Or.inl ⟨by rfl, ?_⟩) ?_ ?_
     rotate_left
     ·intro w'
      go_simp
      with_reducible rfl
     rotate_left
     ·simp only [Act.put, qa, qb, qc, i64_w, i32_w]
      rfl
     refine pure_ (i := 3) (N := some 28) (v := ?_) (a' := ?_) (yz 7 14) rfl rfl (by kernel_rfl) (fun _ _ _ h => h) (Or.inl ⟨by rfl, ?_⟩) ?_ ?_
     rotate_left
     ·intro w'
      go_simp
      with_reducible rfl
     rotate_left
     ·simp only [Act.put, qa, qb, qc, i64_w, i32_w]
      rfl
     refine tq 0 (some 25) (yz 7 15) hHeld ?_
     refine tq 4 (some 29) (yz 7 31) hHeld ?_
     refine one_ (i := 5) (N := some 30) (yz 7 63) rfl rfl (by kernel_rfl) (by decide) (fun K hK => ?_)
     refine gm Try.func30 #[.agg #[.slice A0_0 l0_0.length c0_0], .int .i64 (rd t394 x7_1)] ?_
     with_reducible refine (spec_ClassesOf.calls k1 _ _ l0_0 (rd t394 x7_1) t405 _ ?side1 ?side2 A11.out).mono ?_
     (case side1 => exact co (Kd.C_below HR0_0.out HB.out))
     (case side2 => exact HC0_0.out)
     rintro e w14 ⟨v406, rfl, ho0, hb⟩
     have HS1_ := (hb.cell (World.block_lt_of_cell? _ _ (hHeld.2))).trans (hHeld.2)
     refine ⟨_, rfl, ?_⟩
     have HO407 := am (Kd.N_lower (Kd.N_mono (ok' := fun k_ => (w.heap.size ≤ k_) ∧ some k_ ≠ (.slice (some ad404) t394.length co12 : Value).ownBlock ∧ some k_ ≠ (u6 : Value).ownBlock ∧ k_ ≠ gb393) ho0 (fun k_ hk_ => ⟨(Nat.le_trans (below_size bw) hk_), (Kd.fresh' (Kd.R_lt (ro HO_4.out)) k_ hk_), (Kd.fresh' (Kd.N_lt (no HO_6.out)) k_ hk_), (Kd.freshB (g := gb393) (o := .cells #[.slice A0_0 l0_0.length c0_0] 27 (0, 0)) (bo BK393.out) k_ hk_)⟩)) (below_size bw))
     replace HO_4 := rK HO_4 hb
     replace HO_6 := am (Kd.N_elder' (no HO_6.out) (Kd.N_base ho0) hb)
     replace BK393 := kb BK393 hb
     replace HB := am (below_step bw hb)
     clear hb ho0
     refine hK.out _ _ ⟨bc BK393 0 _, HS1_⟩ (fun hHeld => ?_)
     clear hK K
     refine nm (some 30) ?_
     refine pure_ (i := 6) (N := some 8) (v := ?_) (a' := ?_) (yz 7 127) rfl rfl (by kernel_rfl) (fun _ _ _ h => h) (Or.inl ⟨by rfl, ?_⟩) ?_ ?_
     rotate_left
     ·intro w'
      go_simp
      with_reducible rfl
     rotate_left
     ·simp only [Act.put, qa, qb, qc, i64_w, i32_w]
      rfl
     refine done_ (by kernel_rfl) ?_
     try go_wp2
     go_loopg [6, 9] k1 (fun kq v6 v9 w' => ∃ (x6_2 : List (S86)) (x9_2 : Int), v9 = .int .i64 x9_2 ∧ Aside0 (spec_PresentationOf.l1 kq t394 x6_2 x7_1 t405 x9_2 l0_0 = some (r1, r2)) ∧ Aside0 (kq ≤ k1) ∧ Aside0 (Kd.R (Kd.int .i64) 3 w' w.heap.size (fun k_ => (w.heap.size ≤ k_)) (.slice (some ad404) t394.length co12) t394) ∧ Aside0 (Kd.N k86 86 w' w.heap.size (fun k_ => (w.heap.size ≤ k_) ∧ some k_ ≠ ((.slice (some ad404) t394.length co12) : Value).ownBlock ∧ some k_ ≠ (v406 : Value).ownBlock ∧ k_ ≠ gb393) v6 x6_2) ∧ Aside0 (Kd.N (Kd.slice 22 (Kd.slice 3 (Kd.int .i64))) 49 w' w.heap.size (fun k_ => (w.heap.size ≤ k_) ∧ some k_ ≠ ((.slice (some ad404) t394.length co12) : Value).ownBlock ∧ some k_ ≠ (v6 : Value).ownBlock ∧ k_ ≠ gb393) v406 t405) ∧ Aside0 (w'.heap[gb393]? = some (.cells #[(.slice A0_0 l0_0.length c0_0)] 27 (0, 0))) ∧ Aside0 (Below w.heap.size w w'))
     case atStart => exact ⟨(x6_1), (1), rr, H', ⟨Nat.le_refl _⟩, ⟨ro HO_4.out⟩, ⟨by (with_reducible repeat (first | apply Kd.N_alloc | apply Kd.N_drewN | apply Kd.N_drew)); exact Kd.N_mono HO_6.out (fun _ hk => ⟨hk.1.1, ⟨hk.1.2.1, ⟨hk.2, hk.1.2.2⟩⟩⟩)⟩, ⟨no HO407.out⟩, ⟨bo BK393.out⟩, ⟨bw⟩⟩
     case round =>
      clear H'
      try clear c9b0; try clear c10b0; try clear hcz5_0; try clear hfz5_0; try clear hx404_0; try clear p404; try clear q404
      obtain ⟨x6_2, x9_2, rfl, HA, HK2, HO_4, HO_6, HO_8, BK393, HB⟩ := hrel
      cases gk with
      | zero => exact absurd HA.out (by simp [spec_PresentationOf.l1])
      | succ k2 =>
       have H := HA.out
       clear HA
       simp only [spec_PresentationOf.l1] at H
       replace H := gi H; obtain ⟨c15b0, H⟩ | ⟨c15b0, H⟩ := H
       ·replace H := gp H; obtain ⟨c16, H⟩ := H
        have c16b0 : decide (0 < (t405.length : Int)) = true := decide_eq_true c16
        have c16b1 : decide (0 < t405.length) = true := decide_eq_true (by omega)
        clear c16
        replace H := gp H; obtain ⟨c17, H⟩ := H
        have c17b0 : decide (0 < ((rd_L4 t405 0).length : Int)) = true := decide_eq_true c17
        have c17b1 : decide (0 < (rd_L4 t405 0).length) = true := decide_eq_true (by omega)
        clear c17
        replace H := ga H; obtain ⟨t410, A18, H⟩ := H
        replace H := gd H; obtain ⟨c19b0, H⟩ := H
        replace H := gp H; obtain ⟨c20, H⟩ := H
        have c20b0 : decide (0 < ((rd_L4 t405 x9_2).length : Int)) = true := decide_eq_true c20
        have c20b1 : decide (0 < (rd_L4 t405 x9_2).length) = true := decide_eq_true (by omega)
        clear c20
        replace H := ga H; obtain ⟨t415, A21, H⟩ := H
        by_cases c22 : x6_2.length < 2932031007402
        rotate_left
        ·rw [if_neg c22] at H
         exact absurd H (by simp)
        rw [if_pos c22] at H
        have LMc22 := am c22
        clear c22
        obtain ⟨y418, hy418⟩ : ∃ y_ : List (S86), y_ = (x6_2 ++ [(⟨t410, t415⟩ : S86)]) := ⟨_, rfl⟩
        replace H : (spec_PresentationOf.l1 k2 t394 y418 x7_1 t405 (wrap64 (x9_2 + 1)) l0_0) = some (r1, r2) := by first | (rw [hy418]; with_reducible first | exact H | exact bs H) | (with_reducible first | exact bs H | exact H) | (rw [hy418]; exact H) | exact H
        have Ny418 := am hy418
        clear hy418
        have H' := am H
        clear H
        obtain ⟨Ao23, co23, eo23⟩ := Kd.N_slice HO_8.out
        subst eo23
        try go_wp2
        replace HO_4 := am (Kd.R_drew HO_4.out)
        replace HO_6 := am (Kd.N_drew HO_6.out)
        replace HO_8 := am (Kd.N_drew HO_8.out)
        replace BK393 := bd BK393
        replace HB := am (below_drew1 HB.out)
        have p408 : 0 ≤ (0 : Int) := (by omega)
        have q408 : 0 < (t405.length : Int) := of_decide_eq_true (by first | (with_reducible assumption) | assumption)
        obtain ⟨ad408, A408_0, c408_0, e408, hx408_0, hl408_0, hi408_0⟩ := at_L4 (Kd.N_reads' HO_8.out).2.2 0 p408 q408
        cases e408
        obtain ⟨ce408, hce408, hMe408, hcc408⟩ := Kd.N_get HO_8.out [] 0 p408 (by first | exact q408 | exact of_decide_eq_true (by first | (with_reducible assumption) | assumption) | (have e_ := (Kd.N_reads' HO_8.out).1; omega))
        obtain ⟨ua408_0, uc408_0, rfl, ul408_0, ge408_0⟩ := Kd.FK_slice_open hMe408
        have hv408_0 := hcc408 0 _ rfl
        rw [Nat.add_zero, show ((Kd.slice 22 (Kd.slice 3 (Kd.int .i64)))).sz = 1 from rfl, Nat.mul_one] at hv408_0
        replace hv408_0 := Option.some.inj (hv408_0.symm.trans hx408_0)
        injection hv408_0 with hva_ hvn_ hvc_
        rw [hva_] at ge408_0
        rw [hvc_] at ul408_0
        have HL408_0 := am (show Kd.V (Kd.slice 3 (Kd.int .i64)) 22 _ w.heap.size _ _ (rd_L4 t405 0) from Kd.V_mk ul408_0 ge408_0)
        clear hva_ hvn_ hvc_ ge408_0 ul408_0
        clear hcc408 hce408
        have qi408 : (0 < t405.length) = True := eq_true (by omega)
        (try rw [show ((0 : Int)).toNat = 0 from rfl] at hx408_0)
        (try rw [Addr.add_zero'] at hx408_0)
        have HR408_0 := am hi408_0
        have HC408_0 := am hl408_0
        clear hi408_0 hl408_0
        replace p408 := eq_true p408
        replace q408 := eq_true q408
        have p409 : 0 ≤ (0 : Int) := (by omega)
        have q409 : 0 < ((rd_L4 t405 0).length : Int) := of_decide_eq_true (by first | (with_reducible assumption) | assumption)
        obtain ⟨ad409, A409_0, c409_0, e409, hx409_0, hl409_0, hi409_0⟩ := at_L2 (co HR408_0.out) 0 p409 q409
        cases e409
        obtain ⟨ce409, hce409, hMe409, hcc409⟩ := Kd.V_get HL408_0.out [] 0 p409 (by first | exact q409 | exact of_decide_eq_true (by first | (with_reducible assumption) | assumption) | (have e_ := (Kd.V_reads' HL408_0.out).1; omega))
        obtain ⟨ua409_0, uc409_0, rfl, ul409_0, ge409_0⟩ := Kd.FK_slice_open hMe409
        have hv409_0 := hcc409 0 _ rfl
        rw [Nat.add_zero, show ((Kd.slice 3 (Kd.int .i64))).sz = 1 from rfl, Nat.mul_one] at hv409_0
        replace hv409_0 := Option.some.inj (hv409_0.symm.trans hx409_0)
        injection hv409_0 with hva_ hvn_ hvc_
        rw [hva_] at ge409_0
        rw [hvc_] at ul409_0
        have HL409_0 := am (show Kd.V (Kd.int .i64) 3 _ w.heap.size _ _ (rd_L2 (rd_L4 t405 0) 0) from Kd.V_mk ul409_0 ge409_0)
        clear hva_ hvn_ hvc_ ge409_0 ul409_0
        clear hcc409 hce409
        have qi409 : (0 < (rd_L4 t405 0).length) = True := eq_true (by omega)
        (try rw [show ((0 : Int)).toNat = 0 from rfl] at hx409_0)
        (try rw [Addr.add_zero'] at hx409_0)
        have HR409_0 := am hi409_0
        have HC409_0 := am hl409_0
        clear hi409_0 hl409_0
        replace p409 := eq_true p409
        replace q409 := eq_true q409
        have p413 : 0 ≤ (x9_2 : Int) := of_decide_eq_true (by first | (with_reducible assumption) | assumption)
        have q413 : x9_2 < (t405.length : Int) := of_decide_eq_true (by first | (with_reducible assumption) | assumption)
        obtain ⟨ad413, A413_0, c413_0, e413, hx413_0, hl413_0, hi413_0⟩ := at_L4 (Kd.N_reads' HO_8.out).2.2 x9_2 p413 q413
        obtain rfl : ad408 = ad413 := (by injection e413)
        obtain ⟨ce413, hce413, hMe413, hcc413⟩ := Kd.N_get HO_8.out [] x9_2 p413 (by first | exact q413 | exact of_decide_eq_true (by first | (with_reducible assumption) | assumption) | (have e_ := (Kd.N_reads' HO_8.out).1; omega))
        obtain ⟨ua413_0, uc413_0, rfl, ul413_0, ge413_0⟩ := Kd.FK_slice_open hMe413
        have hv413_0 := hcc413 0 _ rfl
        rw [Nat.add_zero, show ((Kd.slice 22 (Kd.slice 3 (Kd.int .i64)))).sz = 1 from rfl, Nat.mul_one] at hv413_0
        replace hv413_0 := Option.some.inj (hv413_0.symm.trans hx413_0)
        injection hv413_0 with hva_ hvn_ hvc_
        rw [hva_] at ge413_0
        rw [hvc_] at ul413_0
        have HL413_0 := am (show Kd.V (Kd.slice 3 (Kd.int .i64)) 22 _ w.heap.size _ _ (rd_L4 t405 x9_2) from Kd.V_mk ul413_0 ge413_0)
        clear hva_ hvn_ hvc_ ge413_0 ul413_0
        clear hcc413 hce413
        have HR413_0 := am hi413_0
        have HC413_0 := am hl413_0
        clear hi413_0 hl413_0
        replace p413 := eq_true p413
        replace q413 := eq_true q413
        have p414 : 0 ≤ (0 : Int) := (by omega)
        have q414 : 0 < ((rd_L4 t405 x9_2).length : Int) := of_decide_eq_true (by first | (with_reducible assumption) | assumption)
        obtain ⟨ad414, A414_0, c414_0, e414, hx414_0, hl414_0, hi414_0⟩ := at_L2 (co HR413_0.out) 0 p414 q414
        cases e414
        obtain ⟨ce414, hce414, hMe414, hcc414⟩ := Kd.V_get HL413_0.out [] 0 p414 (by first | exact q414 | exact of_decide_eq_true (by first | (with_reducible assumption) | assumption) | (have e_ := (Kd.V_reads' HL413_0.out).1; omega))
        obtain ⟨ua414_0, uc414_0, rfl, ul414_0, ge414_0⟩ := Kd.FK_slice_open hMe414
        have hv414_0 := hcc414 0 _ rfl
        rw [Nat.add_zero, show ((Kd.slice 3 (Kd.int .i64))).sz = 1 from rfl, Nat.mul_one] at hv414_0
        replace hv414_0 := Option.some.inj (hv414_0.symm.trans hx414_0)
        injection hv414_0 with hva_ hvn_ hvc_
        rw [hva_] at ge414_0
        rw [hvc_] at ul414_0
        have HL414_0 := am (show Kd.V (Kd.int .i64) 3 _ w.heap.size _ _ (rd_L2 (rd_L4 t405 x9_2) 0) from Kd.V_mk ul414_0 ge414_0)
        clear hva_ hvn_ hvc_ ge414_0 ul414_0
        clear hcc414 hce414
        have qi414 : (0 < (rd_L4 t405 x9_2).length) = True := eq_true (by omega)
        (try rw [show ((0 : Int)).toNat = 0 from rfl] at hx414_0)
        (try rw [Addr.add_zero'] at hx414_0)
        have HR414_0 := am hi414_0
        have HC414_0 := am hl414_0
        clear hi414_0 hl414_0
        replace p414 := eq_true p414
        replace q414 := eq_true q414
        refine start_ (n := 20) (S := fun w' => w'.cell? ad408 = some (.slice (some ad409) (rd_L4 t405 0).length c408_0) ∧ w'.cell? ad409 = some (.slice A409_0 (rd_L2 (rd_L4 t405 0) 0).length c409_0) ∧ w'.cell? (ad408.add (x9_2).toNat) = some (.slice (some ad414) (rd_L4 t405 x9_2).length c413_0) ∧ w'.cell? ad414 = some (.slice A414_0 (rd_L2 (rd_L4 t405 x9_2) 0).length c414_0)) (ds := [17, 18]) (yz 20 0) (by kernel_rfl) rfl rfl ⟨hx408_0, hx409_0, hx413_0, hx414_0⟩ (fun hHeld => ?_); refine with_tabW spec_PresentationOf.tab12 spec_PresentationOf.bits12 (fun HT_ HW_ => ?_)
        generalize wr.drew = w24 at HO_4 HO_6 HO_8 BK393 HB HL408_0 HL409_0 HL413_0 HL414_0 HR408_0 HR409_0 HR413_0 HR414_0 hx408_0 hx409_0 hx413_0 hx414_0 hHeld ⊢
        refine pa 0 (some 37) (yz 20 1) HT_ ?_
        refine pa 2 (some 39) (yz 20 5) HT_ ?_
        refine pa 3 (some 40) (yz 20 13) HT_ ?_
        refine pa 9 (some 46) (yz 20 525) HT_ ?_
        refine pa 10 (some 47) (yz 20 1549) HT_ ?_
        refine pa 11 (some 48) (yz 20 3597) HT_ ?_
        refine tk 4 (some 41) (yz 20 3613) HT_ HW_ hHeld ?_
        refine pa 5 (some 42) (yz 20 3645) HT_ ?_
        refine tk 6 (some 43) (yz 20 3709) HT_ HW_ hHeld ?_
        refine tk 12 (some 49) (yz 20 7805) HT_ HW_ hHeld ?_
        refine pa 13 (some 50) (yz 20 15997) HT_ ?_
        refine tk 14 (some 51) (yz 20 32381) HT_ HW_ hHeld ?_
        have cf_t410 := clone_fact A18.out
        have cf_t415 := clone_fact A21.out
        have hb0_ : Below w24.heap.size w24 w24 := Below.refl _ _
        refine join_ (σ := Value × Value × Value) 5 (yz 20 32767) (fun s_ => [(38, s_.1), (45, s_.2.1), (44, s_.2.2)]) (fun s_ w' => Kd.R (Kd.int .i64) 3 w' w24.heap.size (fun k_ => some k_ ≠ s_.2.1.ownBlock) s_.2.2 t410 ∧ Kd.R (Kd.int .i64) 3 w' w24.heap.size (fun k_ => some k_ ≠ s_.2.2.ownBlock) s_.2.1 ([] : List Int) ∧ Below w24.heap.size w24 w') ?_ ?_
        rotate_left
        ·intro hCont
         refine two_ (i := 1) (j := 8) (Ni := some 38) (Nj := some 45) (yz 20 32383) (yz 20 32637) rfl rfl rfl rfl (two_of HT_.out (by kernel_rfl)) (by decide) (by decide) (fun K hK => ?_) (fun K hK => ?_)
         ·refine Kd.R_lit_step (Kd.int .i64) (w0 := w24) w24.heap.size 3 (by rfl) (N := 38) rfl (xs := ([] : List Int)) (inner := []) (ok := fun _ => True) (okp := fun _ => True) ?hr (Reps.none _ _) (fun _ hk => hk) trivial hb0_ (hb0_).size (by simp) ?_
          (case hr => first | (go_simp; done) | (go_simp; rfl))
          intro v1_ w1_ h1_ hb1_ hg1_ hat1_
          refine hK.out _ _ ⟨(hb1_.cell (World.block_lt_of_cell? _ _ (hHeld.1))).trans (hHeld.1), (hb1_.cell (World.block_lt_of_cell? _ _ (hHeld.2.1))).trans (hHeld.2.1), (hb1_.cell (World.block_lt_of_cell? _ _ (hHeld.2.2.1))).trans (hHeld.2.2.1), (hb1_.cell (World.block_lt_of_cell? _ _ (hHeld.2.2.2))).trans (hHeld.2.2.2)⟩ (fun _ => ?_)
          clear hK K
          refine nm (some 38) ?_
          refine two_ (i := 7) (j := 8) (Ni := some 44) (Nj := some 45) (yz 20 32511) (yz 20 32639) rfl rfl rfl rfl (two_of HT_.out (by kernel_rfl)) (by decide) (by decide) (fun K hK => ?_) (fun K hK => ?_)
          ·refine Kd.R_append_rows_step (Kd.int .i64) (w0 := w24) w24.heap.size (by rfl) (.tmp 38) (.tmp 43) 22 3 (.int .i64 0) 8 rfl Try.underlying22 info3 rfl (by decide) (by omega) v1_ ([] : List Int) (rd_L2 (rd_L4 t405 0) 0) _ _ _ (fun _ => True) (fun _ => False) rfl rfl ?aO ?aR (fun _ _ h => h) (fun _ h => h.elim) ?aF ?aB ?aS ?aL ?_
           (case aO => exact h1_)
           (case aR => exact Kd.C_below (co HR409_0.out) hb1_)
           (case aF => exact (fun _ _ => trivial))
           (case aB => exact hb1_)
           (case aS => exact (hb1_).size)
           (case aL => have h_ := cf_t410.1; simp only [List.length_nil]; omega)
           intro v2_ w2_ h2_ hb2_ hg2_ hat2_
           rw [List.nil_append, cf_t410.2] at h2_
           refine hK.out _ _ ⟨(hb2_.cell (World.block_lt_of_cell? _ _ (hHeld.1))).trans (hHeld.1), (hb2_.cell (World.block_lt_of_cell? _ _ (hHeld.2.1))).trans (hHeld.2.1), (hb2_.cell (World.block_lt_of_cell? _ _ (hHeld.2.2.1))).trans (hHeld.2.2.1), (hb2_.cell (World.block_lt_of_cell? _ _ (hHeld.2.2.2))).trans (hHeld.2.2.2)⟩ (fun _ => ?_)
           clear hK K
           refine nm (some 44) ?_
           refine oa 8 (some 45) (yz 20 32767) HT_ (fun K hK => ?_)
           refine Kd.R_lit_step (Kd.int .i64) (w0 := w24) w24.heap.size 3 (by rfl) (N := 45) rfl (xs := ([] : List Int)) (inner := []) (ok := fun _ => True) (okp := fun _ => True) ?hr (Reps.none _ _) (fun _ hk => hk) trivial hb2_ (hb2_).size (by simp) ?_
           (case hr => first | (go_simp; done) | (go_simp; rfl))
           intro v3_ w3_ h3_ hb3_ hg3_ hat3_
           obtain ⟨p1_, p2_⟩ := prL h2_ h3_ hg3_ hat3_
           refine hK.out _ _ ⟨(hb3_.cell (World.block_lt_of_cell? _ _ (hHeld.1))).trans (hHeld.1), (hb3_.cell (World.block_lt_of_cell? _ _ (hHeld.2.1))).trans (hHeld.2.1), (hb3_.cell (World.block_lt_of_cell? _ _ (hHeld.2.2.1))).trans (hHeld.2.2.1), (hb3_.cell (World.block_lt_of_cell? _ _ (hHeld.2.2.2))).trans (hHeld.2.2.2)⟩ (fun _ => ?_)
           clear hK K
           refine nm (some 45) ?_
           exact norm_ (by simp only [putAll, Act.put, List.setIfInBounds_toArray, List.set_cons_zero, List.set_cons_succ]) (hCont (v1_, v3_, v2_) _ ⟨p1_, p2_, hb3_⟩)
          ·refine Kd.R_lit_step (Kd.int .i64) (w0 := w24) w24.heap.size 3 (by rfl) (N := 45) rfl (xs := ([] : List Int)) (inner := []) (ok := fun _ => True) (okp := fun _ => True) ?hr (Reps.none _ _) (fun _ hk => hk) trivial hb1_ (hb1_).size (by simp) ?_
           (case hr => first | (go_simp; done) | (go_simp; rfl))
           intro v2_ w2_ h2_ hb2_ hg2_ hat2_
           obtain ⟨p1_, p2_⟩ := prL h1_ h2_ hg2_ hat2_
           refine hK.out _ _ ⟨(hb2_.cell (World.block_lt_of_cell? _ _ (hHeld.1))).trans (hHeld.1), (hb2_.cell (World.block_lt_of_cell? _ _ (hHeld.2.1))).trans (hHeld.2.1), (hb2_.cell (World.block_lt_of_cell? _ _ (hHeld.2.2.1))).trans (hHeld.2.2.1), (hb2_.cell (World.block_lt_of_cell? _ _ (hHeld.2.2.2))).trans (hHeld.2.2.2)⟩ (fun _ => ?_)
           clear hK K
           refine nm (some 45) ?_
           refine oa 7 (some 44) (yz 20 32767) HT_ (fun K hK => ?_)
           refine Kd.R_append_rows_step (Kd.int .i64) (w0 := w24) w24.heap.size (by rfl) (.tmp 38) (.tmp 43) 22 3 (.int .i64 0) 8 rfl Try.underlying22 info3 rfl (by decide) (by omega) v1_ ([] : List Int) (rd_L2 (rd_L4 t405 0) 0) _ _ _ (fun k_ => some k_ ≠ v2_.ownBlock) (fun _ => False) rfl rfl ?aO ?aR (fun _ _ h => h) (fun _ h => h.elim) ?aF ?aB ?aS ?aL ?_
           (case aO => exact p1_)
           (case aR => exact Kd.C_below (co HR409_0.out) hb2_)
           (case aF => exact (fun k_ hk => Kd.fresh' (Kd.R_lt p2_) k_ hk))
           (case aB => exact hb2_)
           (case aS => exact (hb2_).size)
           (case aL => have h_ := cf_t410.1; simp only [List.length_nil]; omega)
           intro v3_ w3_ h3_ hb3_ hg3_ hat3_
           rw [List.nil_append, cf_t410.2] at h3_
           obtain ⟨q1_, q2_⟩ := prA p2_ h3_ hg3_ hat3_
           refine hK.out _ _ ⟨(hb3_.cell (World.block_lt_of_cell? _ _ (hHeld.1))).trans (hHeld.1), (hb3_.cell (World.block_lt_of_cell? _ _ (hHeld.2.1))).trans (hHeld.2.1), (hb3_.cell (World.block_lt_of_cell? _ _ (hHeld.2.2.1))).trans (hHeld.2.2.1), (hb3_.cell (World.block_lt_of_cell? _ _ (hHeld.2.2.2))).trans (hHeld.2.2.2)⟩ (fun _ => ?_)
           clear hK K
           refine nm (some 44) ?_
           exact norm_ (by simp only [putAll, Act.put, List.setIfInBounds_toArray, List.set_cons_zero, List.set_cons_succ]) (hCont (v1_, v2_, v3_) _ ⟨q1_, q2_, hb3_⟩)
         ·refine Kd.R_lit_step (Kd.int .i64) (w0 := w24) w24.heap.size 3 (by rfl) (N := 45) rfl (xs := ([] : List Int)) (inner := []) (ok := fun _ => True) (okp := fun _ => True) ?hr (Reps.none _ _) (fun _ hk => hk) trivial hb0_ (hb0_).size (by simp) ?_
          (case hr => first | (go_simp; done) | (go_simp; rfl))
          intro v1_ w1_ h1_ hb1_ hg1_ hat1_
          refine hK.out _ _ ⟨(hb1_.cell (World.block_lt_of_cell? _ _ (hHeld.1))).trans (hHeld.1), (hb1_.cell (World.block_lt_of_cell? _ _ (hHeld.2.1))).trans (hHeld.2.1), (hb1_.cell (World.block_lt_of_cell? _ _ (hHeld.2.2.1))).trans (hHeld.2.2.1), (hb1_.cell (World.block_lt_of_cell? _ _ (hHeld.2.2.2))).trans (hHeld.2.2.2)⟩ (fun _ => ?_)
          clear hK K
          refine nm (some 45) ?_
          refine oa 1 (some 38) (yz 20 32639) HT_ (fun K hK => ?_)
          refine Kd.R_lit_step (Kd.int .i64) (w0 := w24) w24.heap.size 3 (by rfl) (N := 38) rfl (xs := ([] : List Int)) (inner := []) (ok := fun _ => True) (okp := fun _ => True) ?hr (Reps.none _ _) (fun _ hk => hk) trivial hb1_ (hb1_).size (by simp) ?_
          (case hr => first | (go_simp; done) | (go_simp; rfl))
          intro v2_ w2_ h2_ hb2_ hg2_ hat2_
          obtain ⟨p2_, p1_⟩ := prL h1_ h2_ hg2_ hat2_
          refine hK.out _ _ ⟨(hb2_.cell (World.block_lt_of_cell? _ _ (hHeld.1))).trans (hHeld.1), (hb2_.cell (World.block_lt_of_cell? _ _ (hHeld.2.1))).trans (hHeld.2.1), (hb2_.cell (World.block_lt_of_cell? _ _ (hHeld.2.2.1))).trans (hHeld.2.2.1), (hb2_.cell (World.block_lt_of_cell? _ _ (hHeld.2.2.2))).trans (hHeld.2.2.2)⟩ (fun _ => ?_)
          clear hK K
          refine nm (some 38) ?_
          refine oa 7 (some 44) (yz 20 32767) HT_ (fun K hK => ?_)
          refine Kd.R_append_rows_step (Kd.int .i64) (w0 := w24) w24.heap.size (by rfl) (.tmp 38) (.tmp 43) 22 3 (.int .i64 0) 8 rfl Try.underlying22 info3 rfl (by decide) (by omega) v2_ ([] : List Int) (rd_L2 (rd_L4 t405 0) 0) _ _ _ (fun k_ => some k_ ≠ v1_.ownBlock) (fun _ => False) rfl rfl ?aO ?aR (fun _ _ h => h) (fun _ h => h.elim) ?aF ?aB ?aS ?aL ?_
          (case aO => exact p1_)
          (case aR => exact Kd.C_below (co HR409_0.out) hb2_)
          (case aF => exact (fun k_ hk => Kd.fresh' (Kd.R_lt p2_) k_ hk))
          (case aB => exact hb2_)
          (case aS => exact (hb2_).size)
          (case aL => have h_ := cf_t410.1; simp only [List.length_nil]; omega)
          intro v3_ w3_ h3_ hb3_ hg3_ hat3_
          rw [List.nil_append, cf_t410.2] at h3_
          obtain ⟨q1_, q2_⟩ := prA p2_ h3_ hg3_ hat3_
          refine hK.out _ _ ⟨(hb3_.cell (World.block_lt_of_cell? _ _ (hHeld.1))).trans (hHeld.1), (hb3_.cell (World.block_lt_of_cell? _ _ (hHeld.2.1))).trans (hHeld.2.1), (hb3_.cell (World.block_lt_of_cell? _ _ (hHeld.2.2.1))).trans (hHeld.2.2.1), (hb3_.cell (World.block_lt_of_cell? _ _ (hHeld.2.2.2))).trans (hHeld.2.2.2)⟩ (fun _ => ?_)
          clear hK K
          refine nm (some 44) ?_
          exact norm_ (by simp only [putAll, Act.put, List.setIfInBounds_toArray, List.set_cons_zero, List.set_cons_succ]) (hCont (v2_, v1_, v3_) _ ⟨q1_, q2_, hb3_⟩)
        rintro ⟨v38_, v45_, v411⟩ w27_ ⟨q1_, q2_, hb1_⟩
        dsimp only at q1_ q2_
        refine norm_ (a' := ?_) ?_ ?_
        rotate_left
        ·simp only [putAll, Act.put, List.setIfInBounds_toArray, List.set_cons_zero, List.set_cons_succ]
         rfl
        refine oa 15 (some 52) (yz 20 65535) HT_ (fun K hK => ?_)
        refine Kd.R_append_rows_step (Kd.int .i64) (w0 := w24) w24.heap.size (by rfl) (.tmp 45) (.tmp 51) 22 3 (.int .i64 0) 8 rfl Try.underlying22 info3 rfl (by decide) (by omega) v45_ ([] : List Int) (rd_L2 (rd_L4 t405 x9_2) 0) _ _ _ (fun k_ => some k_ ≠ v411.ownBlock) (fun _ => False) rfl rfl ?aO ?aR (fun _ _ h => h) (fun _ h => h.elim) ?aF ?aB ?aS ?aL ?_
        (case aO => exact q2_)
        (case aR => exact Kd.C_below (co HR414_0.out) hb1_)
        (case aF => exact (fun k_ hk => Kd.fresh' (Kd.R_lt q1_) k_ hk))
        (case aB => exact hb1_)
        (case aS => exact (hb1_).size)
        (case aL => have h_ := cf_t415.1; simp only [List.length_nil]; omega)
        intro v2_ w2_ h2_ hb2_ hg2_ hat2_
        rw [List.nil_append, cf_t415.2] at h2_
        obtain ⟨p2_, p1_⟩ := prA q1_ h2_ hg2_ hat2_
        have hb := hb2_
        have HS0_ := (hb.cell (World.block_lt_of_cell? _ _ (hHeld.1))).trans (hHeld.1)
        have HS1_ := (hb.cell (World.block_lt_of_cell? _ _ (hHeld.2.1))).trans (hHeld.2.1)
        have HS2_ := (hb.cell (World.block_lt_of_cell? _ _ (hHeld.2.2.1))).trans (hHeld.2.2.1)
        have HS3_ := (hb.cell (World.block_lt_of_cell? _ _ (hHeld.2.2.2))).trans (hHeld.2.2.2)
        have HO412 := am (Kd.R_lower (Kd.R_mono (Kd.R_new' (Kd.R_newM (M := fun k_ => (w.heap.size ≤ k_)) p1_ (below_size bw) (fun k_ h_ => h_)) (Kd.R_lt (ro HO_4.out))) (fun k_ h_ => (⟨⟨⟨h_.1.1, trivial⟩, h_.2⟩, h_.1.2⟩ : ((w.heap.size ≤ k_ ∧ True) ∧ _) ∧ _))) (below_size bw))
        have HO417 := am (Kd.R_lower (Kd.R_mono (Kd.R_new' (Kd.R_newM (M := fun k_ => (w.heap.size ≤ k_)) p2_ (below_size bw) (fun k_ h_ => h_)) (Kd.R_lt (ro HO_4.out))) (fun k_ h_ => (⟨⟨⟨h_.1.1, trivial⟩, h_.2⟩, h_.1.2⟩ : ((w.heap.size ≤ k_ ∧ True) ∧ _) ∧ _))) (below_size bw))
        replace HO_6 := am (Kd.N_elder' (no HO_6.out) (Kd.R_base p1_) (Below.refl _ _))
        replace HO_8 := am (Kd.N_elder' (no HO_8.out) (Kd.R_base p1_) (Below.refl _ _))
        replace HL408_0 := am (Kd.V_elder' (vo HL408_0.out) (Kd.R_base p1_) (Below.refl _ _))
        replace HL409_0 := am (Kd.V_elder' (vo HL409_0.out) (Kd.R_base p1_) (Below.refl _ _))
        replace HL413_0 := am (Kd.V_elder' (vo HL413_0.out) (Kd.R_base p1_) (Below.refl _ _))
        replace HL414_0 := am (Kd.V_elder' (vo HL414_0.out) (Kd.R_base p1_) (Below.refl _ _))
        replace HO_4 := am (Kd.R_elder' (ro HO_4.out) (Kd.R_base p1_) (Below.refl _ _))
        replace HO_6 := am (Kd.N_elder' (no HO_6.out) (Kd.R_base p2_) hb)
        replace HO_8 := am (Kd.N_elder' (no HO_8.out) (Kd.R_base p2_) hb)
        replace HL408_0 := am (Kd.V_elder' (vo HL408_0.out) (Kd.R_base p2_) hb)
        replace HL409_0 := am (Kd.V_elder' (vo HL409_0.out) (Kd.R_base p2_) hb)
        replace HL413_0 := am (Kd.V_elder' (vo HL413_0.out) (Kd.R_base p2_) hb)
        replace HL414_0 := am (Kd.V_elder' (vo HL414_0.out) (Kd.R_base p2_) hb)
        replace HO_4 := am (Kd.R_elder' (ro HO_4.out) (Kd.R_base p2_) hb)
        replace BK393 := kb BK393 hb
        replace HR408_0 := am (Kd.C_below (co HR408_0.out) hb)
        replace HR409_0 := am (Kd.C_below (co HR409_0.out) hb)
        replace HR413_0 := am (Kd.C_below (co HR413_0.out) hb)
        replace HR414_0 := am (Kd.C_below (co HR414_0.out) hb)
        replace HB := am (below_step bw hb)
        clear hb hb2_ p1_ p2_ q1_ q2_ h2_ hg2_ hat2_ hb1_ hb0_
        obtain ⟨Ao27, co27, eo27⟩ := Kd.R_slice HO417.out
        (first | subst eo27 | (injection eo27 with f1_ f2_ f3_; have f4_ := f1_.symm; have f5_ := f3_.symm; clear f1_ f2_ f3_; subst f4_; subst f5_))
        obtain ⟨Ao28, co28, eo28⟩ := Kd.R_slice HO412.out
        (first | subst eo28 | (injection eo28 with f1_ f2_ f3_; have f4_ := f1_.symm; have f5_ := f3_.symm; clear f1_ f2_ f3_; subst f4_; subst f5_))
        refine hK.out _ _ ⟨HS0_, HS1_, HS2_, HS3_⟩ (fun hHeld => ?_)
        clear hK K
        refine nm (some 52) ?_
        refine pa 16 (some 53) (yz 20 131071) HT_ ?_
        refine last_ (i := 17) (N := some 54) (yz 20 262143) rfl rfl (one_of HT_.out (by kernel_rfl)) (by decide) (fun K hK => ?_)
        refine value_ (w1 := ?_) (v := ?_) (by rfl) rfl ?_ ?_
        rotate_left 2
        ·go_simp
         constructor
         ·rfl
         rfl
        refine hK.out _ _ ?_
        clear hK K
        refine nm (some 54) ?_
        refine last_ (i := 18) (N := some 55) (yz 20 524287) rfl rfl (one_of HT_.out (by kernel_rfl)) (by decide) (fun K hK => ?_)
        refine Kd.N_append_step k86 (w0 := w) w.heap.size (by rfl) (.tmp 37) (.tmp 54) 56 86 (.agg #[(.slice none 0 0), (.slice none 0 0)]) 48 rfl Try.underlying56 info86 rfl (by decide) (by omega) u6 x6_2 (⟨t410, t415⟩ : S86) [.slice Ao28 t410.length co28, .slice Ao27 t415.length co27] (fun k_ => (w.heap.size ≤ k_) ∧ some k_ ≠ (.slice (some ad404) t394.length co12 : Value).ownBlock ∧ some k_ ≠ (.slice (some ad408) t405.length co23 : Value).ownBlock ∧ k_ ≠ gb393) (fun k_ => ((fun k_ => (w.heap.size ≤ k_) ∧ some k_ ≠ (.slice (some ad404) t394.length co12 : Value).ownBlock ∧ some k_ ≠ (.slice (some ad408) t405.length co23 : Value).ownBlock ∧ k_ ≠ gb393)) k_ ∧ some k_ ≠ (u6 : Value).ownBlock) rfl rfl ?aP (fun _ hk => hk) ?aF ?aO ?aB ?aS ?aL ?_
        (case aP => exact (k86_mkF _ _ (⟨t410, t415⟩ : S86) (Kd.R_reads' (Kd.R_mono (ok' := (fun k_ => ((fun k_ => (w.heap.size ≤ k_) ∧ some k_ ≠ (.slice (some ad404) t394.length co12 : Value).ownBlock ∧ some k_ ≠ (.slice (some ad408) t405.length co23 : Value).ownBlock ∧ k_ ≠ gb393)) k_ ∧ some k_ ≠ (u6 : Value).ownBlock)) (Kd.R_types (Kd.R_apart' (Kd.R_apart' (HO412.out) (Kd.N_typed HO_8.out) (by decide)) (Kd.N_typed HO_6.out) (by decide)) BK393.out (by decide)) (fun k_ hk => ⟨⟨hk.1.1.1.1.1.1, ⟨hk.1.1.1.1.2, ⟨hk.1.1.2, hk.2⟩⟩⟩, hk.1.2⟩))).2.1 (Kd.R_F (Kd.R_mono (ok' := (fun k_ => ((fun k_ => (w.heap.size ≤ k_) ∧ some k_ ≠ (.slice (some ad404) t394.length co12 : Value).ownBlock ∧ some k_ ≠ (.slice (some ad408) t405.length co23 : Value).ownBlock ∧ k_ ≠ gb393)) k_ ∧ some k_ ≠ (u6 : Value).ownBlock)) (Kd.R_types (Kd.R_apart' (Kd.R_apart' (HO412.out) (Kd.N_typed HO_8.out) (by decide)) (Kd.N_typed HO_6.out) (by decide)) BK393.out (by decide)) (fun k_ hk => ⟨⟨hk.1.1.1.1.1.1, ⟨hk.1.1.1.1.2, ⟨hk.1.1.2, hk.2⟩⟩⟩, hk.1.2⟩))) (Kd.R_reads' (Kd.R_mono (ok' := (fun k_ => ((fun k_ => (w.heap.size ≤ k_) ∧ some k_ ≠ (.slice (some ad404) t394.length co12 : Value).ownBlock ∧ some k_ ≠ (.slice (some ad408) t405.length co23 : Value).ownBlock ∧ k_ ≠ gb393)) k_ ∧ some k_ ≠ (u6 : Value).ownBlock)) (Kd.R_types (Kd.R_apart' (Kd.R_apart' (HO417.out) (Kd.N_typed HO_8.out) (by decide)) (Kd.N_typed HO_6.out) (by decide)) BK393.out (by decide)) (fun k_ hk => ⟨⟨hk.1.1.1.1.1.1, ⟨hk.1.1.1.1.2, ⟨hk.1.1.2, hk.2⟩⟩⟩, hk.1.2⟩))).2.1 (Kd.R_F (Kd.R_mono (ok' := (fun k_ => ((fun k_ => (w.heap.size ≤ k_) ∧ some k_ ≠ (.slice (some ad404) t394.length co12 : Value).ownBlock ∧ some k_ ≠ (.slice (some ad408) t405.length co23 : Value).ownBlock ∧ k_ ≠ gb393)) k_ ∧ some k_ ≠ (u6 : Value).ownBlock)) (Kd.R_types (Kd.R_apart' (Kd.R_apart' (HO417.out) (Kd.N_typed HO_8.out) (by decide)) (Kd.N_typed HO_6.out) (by decide)) BK393.out (by decide)) (fun k_ hk => ⟨⟨hk.1.1.1.1.1.1, ⟨hk.1.1.1.1.2, ⟨hk.1.1.2, hk.2⟩⟩⟩, hk.1.2⟩)))))
        (case aB => exact bw)
        (case aF => exact (fun k_ hk => ⟨(Nat.le_trans (below_size bw) hk), Kd.fresh' (Kd.R_lt (ro HO_4.out)) k_ hk, Kd.fresh' (Kd.N_lt (no HO_8.out)) k_ hk, Kd.freshB (g := gb393) (o := .cells #[.slice A0_0 l0_0.length c0_0] 27 (0, 0)) (bo BK393.out) k_ hk⟩))
        (case aO => exact (by (with_reducible repeat (first | apply Kd.N_alloc | apply Kd.N_drewN | apply Kd.N_drew)); exact Kd.N_mono HO_6.out (fun _ hk => ⟨hk.1.1.1, ⟨hk.1.1.2.1, ⟨hk.1.1.2.2.1, hk.1.1.2.2.2⟩⟩⟩)))
        (case aS => exact (below_size bw))
        (case aL => have := LMc22.out; omega)
        intro v419 w29 ho hb hg hat
        rw [← Ny418.out] at ho
        replace HO_4 := am (Kd.R_over' (ro HO_4.out) (Kd.N_typed (no HO_6.out)) (by decide) hg)
        replace HO_8 := am (Kd.N_afterv (ok := (fun k_ => (w.heap.size ≤ k_) ∧ some k_ ≠ (.slice (some ad404) t394.length co12 : Value).ownBlock ∧ nb k_ Ao28 t410 co28 ∧ nb k_ Ao27 t415 co27 ∧ k_ ≠ gb393)) (by (with_reducible repeat (first | apply Kd.N_alloc | apply Kd.N_drewN | apply Kd.N_drew)); exact Kd.N_mono HO_8.out (fun _ hk => ⟨⟨hk.1.1.1, ⟨hk.1.1.2.1, ⟨hk.1.2, ⟨hk.2, hk.1.1.2.2.2⟩⟩⟩⟩, hk.1.1.2.2.1⟩)) hg hat)
        replace BK393 := am (blk_grown (g := gb393) (o := .cells #[.slice A0_0 l0_0.length c0_0] 27 (0, 0)) (bo BK393.out) hg (Kd.N_ne HO_6.out BK393.out (by decide)))
        replace HL408_0 := am (Kd.V_afterv (ok := (fun k_ => (w.heap.size ≤ k_) ∧ some k_ ≠ (.slice (some ad404) t394.length co12 : Value).ownBlock ∧ some k_ ≠ (.slice (some ad408) t405.length co23 : Value).ownBlock ∧ nb k_ Ao28 t410 co28 ∧ nb k_ Ao27 t415 co27 ∧ k_ ≠ gb393)) (by (with_reducible repeat (first | apply Kd.V_alloc | apply Kd.V_drewN | apply Kd.V_drew)); exact Kd.V_mono HL408_0.out (fun _ hk => ⟨⟨hk.1.1.1.1, ⟨hk.1.1.1.2.1, ⟨hk.1.1.2, ⟨hk.1.2, ⟨hk.2, hk.1.1.1.2.2.2⟩⟩⟩⟩⟩, hk.1.1.1.2.2.1⟩)) hg hat)
        replace HL409_0 := am (Kd.V_afterv (ok := (fun k_ => (w.heap.size ≤ k_) ∧ some k_ ≠ (.slice (some ad404) t394.length co12 : Value).ownBlock ∧ some k_ ≠ (.slice (some ad408) t405.length co23 : Value).ownBlock ∧ nb k_ Ao28 t410 co28 ∧ nb k_ Ao27 t415 co27 ∧ k_ ≠ gb393)) (by (with_reducible repeat (first | apply Kd.V_alloc | apply Kd.V_drewN | apply Kd.V_drew)); exact Kd.V_mono HL409_0.out (fun _ hk => ⟨⟨hk.1.1.1.1, ⟨hk.1.1.1.2.1, ⟨hk.1.1.2, ⟨hk.1.2, ⟨hk.2, hk.1.1.1.2.2.2⟩⟩⟩⟩⟩, hk.1.1.1.2.2.1⟩)) hg hat)
        replace HL413_0 := am (Kd.V_afterv (ok := (fun k_ => (w.heap.size ≤ k_) ∧ some k_ ≠ (.slice (some ad404) t394.length co12 : Value).ownBlock ∧ some k_ ≠ (.slice (some ad408) t405.length co23 : Value).ownBlock ∧ nb k_ Ao28 t410 co28 ∧ nb k_ Ao27 t415 co27 ∧ k_ ≠ gb393)) (by (with_reducible repeat (first | apply Kd.V_alloc | apply Kd.V_drewN | apply Kd.V_drew)); exact Kd.V_mono HL413_0.out (fun _ hk => ⟨⟨hk.1.1.1.1, ⟨hk.1.1.1.2.1, ⟨hk.1.1.2, ⟨hk.1.2, ⟨hk.2, hk.1.1.1.2.2.2⟩⟩⟩⟩⟩, hk.1.1.1.2.2.1⟩)) hg hat)
        replace HL414_0 := am (Kd.V_afterv (ok := (fun k_ => (w.heap.size ≤ k_) ∧ some k_ ≠ (.slice (some ad404) t394.length co12 : Value).ownBlock ∧ some k_ ≠ (.slice (some ad408) t405.length co23 : Value).ownBlock ∧ nb k_ Ao28 t410 co28 ∧ nb k_ Ao27 t415 co27 ∧ k_ ≠ gb393)) (by (with_reducible repeat (first | apply Kd.V_alloc | apply Kd.V_drewN | apply Kd.V_drew)); exact Kd.V_mono HL414_0.out (fun _ hk => ⟨⟨hk.1.1.1.1, ⟨hk.1.1.1.2.1, ⟨hk.1.1.2, ⟨hk.1.2, ⟨hk.2, hk.1.1.1.2.2.2⟩⟩⟩⟩⟩, hk.1.1.1.2.2.1⟩)) hg hat)
        replace HB := am (hb)
        have HO420 := am (ho)
        clear HO_6 HO412 HO417 ho hb hg hat
        refine hK.out _ _ ?_
        clear hK K
        refine nm (some 55) ?_
        refine pa 19 (some 6) (yz 20 1048575) HT_ ?_
        refine done_ (done_of HT_.out (by kernel_rfl)) ?_
        try go_wp2
        go_roundg k2
        case measure => have := HK1.out; have := HK2.out; omega
        case rel => exact ⟨(y418), (wrap64 (x9_2 + 1)), rr, H', ⟨by have := HK1.out; have := HK2.out; omega⟩, ⟨by (with_reducible repeat (first | apply Kd.R_alloc | apply Kd.R_drewN | apply Kd.R_drew)); exact Kd.R_mono HO_4.out (fun _ hk => by first | exact hk.1.1 | simp_all)⟩, ⟨no HO420.out⟩, ⟨by (with_reducible repeat (first | apply Kd.N_alloc | apply Kd.N_drewN | apply Kd.N_drew)); exact Kd.N_mono HO_8.out (fun _ hk => ⟨hk.1.1, ⟨hk.1.2.1, ⟨hk.2, hk.1.2.2.2.2⟩⟩⟩)⟩, ⟨bo BK393.out⟩, ⟨bw⟩⟩
       have H' := am H
       clear H
       obtain ⟨Ao30, co30, eo30⟩ := Kd.N_slice HO_8.out
       subst eo30
       go_wp2
       go_roundg k2
       case measure => have := HK1.out; have := HK2.out; omega
       case rel => exact ⟨(x6_2), (wrap64 (x7_1 + 1)), rr, H', ⟨by have := HK1.out; have := HK2.out; omega⟩, ⟨ro HO_4.out⟩, ⟨by (with_reducible repeat (first | apply Kd.N_alloc | apply Kd.N_drewN | apply Kd.N_drew)); exact Kd.N_mono HO_6.out (fun _ hk => ⟨hk.1, ⟨hk.2.1, hk.2.2.2⟩⟩)⟩, ⟨bo BK393.out⟩, ⟨bw⟩⟩
    simp only [Option.some.injEq, Prod.mk.injEq] at H
    obtain ⟨rfl, rfl⟩ := H
    obtain ⟨Ao31, co31, eo31⟩ := Kd.R_slice HO_4.out
    subst eo31
    go_wp2
    go_ret2
    exact ⟨_, re, by (with_reducible repeat (first | apply Kd.N_alloc | apply Kd.N_drewN | apply Kd.N_drew)); exact Kd.N_mono HO_6.out (fun _ hk => hk.1), bw⟩
 obtain ⟨y398, hy398⟩ : ∃ y_ : List (S86), y_ = (([] : List (S86))) := ⟨_, rfl⟩
 replace H : (some (y398, false)) = some (r1, r2) := by first | (rw [hy398]; with_reducible first | exact H | exact bs H) | (with_reducible first | exact bs H | exact H) | (rw [hy398]; exact H) | exact H
 have Ny398 := am hy398
 clear hy398
 simp only [Option.some.injEq, Prod.mk.injEq] at H
 obtain ⟨rfl, rfl⟩ := H
 go_enter Try.func50, Try.ntmps50
 go_wp2_with (first | ((with_reducible refine gate_dst (N := 1) rfl ?_); refine bx 1 #[.slice A0_0 l0_0.length c0_0] 27 ?_; intro gb393 hg w32 hbox hb; have BK393 := am (hbox); have GW393 := am (gs hg : w.heap.size ≤ gb393); have GE393 := GW393; replace HB := am (below_step bw hb); clear hb hbox hg; have hcz33_0 := bc BK393 0 (.slice A0_0 l0_0.length c0_0); have hfz33_0 := blk_frozen BK393.out 0) | ((with_reducible refine gate_callee (f := 35) rfl ?_); refine gl (some 12) Try.func35 #[.agg #[.slice A0_0 l0_0.length c0_0]] ?_; (with_reducible refine (spec_BettiElements.calls k _ _ l0_0 t394 false _ ?side1 ?side2 A2.out).mono ?_); (case side1 => exact co (Kd.C_below HR0_0.out HB.out)); (case side2 => exact HC0_0.out); rintro e w34 ⟨v395, rfl, ho0, hb⟩; refine ⟨_, rfl, ?_⟩; have HO396 := am (Kd.R_lower (Kd.R_newM (M := fun k_ => (w.heap.size ≤ k_)) ho0 (below_size bw) (fun k_ h_ => h_)) (below_size bw)); replace BK393 := kb BK393 hb; replace HB := am (below_step bw hb); clear hb ho0) | ((with_reducible refine gate_dst (N := 17) rfl ?_); refine Kd.N_lit k86 _ 86 ?hg (N' := 17) ?hd (xs := ([] : List (S86))) (inner := []) (ok := (fun k_ => (w.heap.size ≤ k_) ∧ some k_ ≠ (v395 : Value).ownBlock ∧ k_ ≠ gb393)) (okp := (fun k_ => (w.heap.size ≤ k_) ∧ some k_ ≠ (v395 : Value).ownBlock ∧ k_ ≠ gb393)) ?hr ?hp (fun _ hk => hk) ((show ∀ k_, w34.heap.size ≤ k_ → (fun k_ => (w.heap.size ≤ k_) ∧ some k_ ≠ (v395 : Value).ownBlock ∧ k_ ≠ gb393) k_ from fun k_ hk => ⟨(Nat.le_trans (below_size bw) hk), Kd.fresh' (Kd.R_lt (ro HO396.out)) k_ hk, Kd.freshB (g := gb393) (o := .cells #[.slice A0_0 l0_0.length c0_0] 27 (0, 0)) (bo BK393.out) k_ hk⟩) _ (Nat.le_refl _)) (Below.refl _ _) (Nat.le_refl _) (by simp) ?_; (case hd => rfl); (case hg => rfl); (case hr => first | (go_simp; done) | (go_simp; rfl)); (case hp => exact (Reps.none _ _)); intro v399 w35 ho36 hb hg_ hnew_; clear hg_ hnew_; (first | rw [← Ny398.out] at ho36 | (simp only [Int.reduceToNat] at ho36; rw [← Ny398.out] at ho36)); replace HO396 := rK HO396 hb; have HO400 := am (Kd.N_lower ho36 (below_size bw)); replace BK393 := kb BK393 hb; replace HB := am (below_step bw hb); clear hb ho36))
 go_ret2
 exact ⟨_, re, by (with_reducible repeat (first | apply Kd.N_alloc | apply Kd.N_drewN | apply Kd.N_drew)); exact Kd.N_mono HO400.out (fun _ hk => hk.1), bw⟩


/-! ### impl_within: function 63 -/
def impl_within.f (a0 : Int) (a1 : Int) (a2 : Int) : Option (Bool) := if a0 ≥ a1 then (some (decide (a0 ≤ a2))) else (some false)
set_option maxHeartbeats 8000000 in
set_option maxRecDepth 100000 in
theorem impl_within.calls (a0 : Int) (a1 : Int) (a2 : Int) (r : Bool) (w : World) (h : impl_within.f a0 a1 a2 = some r) :
  Calls Try.prog 63 #[.int .i64 a0, .int .i64 a1, .int .i64 a2] w fun e w' => e = .returned (.bool r) ∧ Drawn0 w w' := by
 have H : (if a0 ≥ a1 then (some (decide (a0 ≤ a2))) else (some false)) = some r := h
 clear h
 replace H := gj H; obtain ⟨c4, H⟩ | ⟨c4, H⟩ := H
 ·have c4b0 : decide (a1 ≤ a0) = true := decide_eq_true c4
  clear c4
  obtain rfl := Option.some.inj H
  go_enter Try.func63, Try.ntmps63
  go_wp2
  go_ret
  exact ⟨rr, dw⟩
 have c4b0 : decide (a1 ≤ a0) = false := decide_eq_false c4
 clear c4
 obtain rfl := Option.some.inj H
 go_enter Try.func63, Try.ntmps63
 go_wp2
 go_ret
 exact ⟨rr, dw⟩


/-! ### impl_allWithin: function 112 -/
def impl_allWithin.l0 : Nat → Int → Int → List Int → Int → Int → Option (Bool)
 | 0, _, _, _, _, _ => none
 | k + 1, x1, x2, x9, x10, x11 => if x11 < x10 then (if 0 ≤ x11 then (if x11 < (x9.length : Int) then ((impl_within.f (rd x9 x11) x1 x2).bind fun t422 => (if t422 = true then (impl_allWithin.l0 k x1 x2 x9 x10 (wrap64 (x11 + 1))) else (some false))) else (none)) else (none)) else (some true)
def impl_allWithin.f (k : Nat) (l0 : List Int) (a1 : Int) (a2 : Int) : Option (Bool) := impl_allWithin.l0 k a1 a2 l0 (l0.length : Int) 0
set_option maxHeartbeats 8000000 in
set_option maxRecDepth 100000 in
theorem impl_allWithin.calls (k : Nat) (A0 : Option Addr) (c0 : Nat) (l0 : List Int) (a1 : Int) (a2 : Int) (r : Bool) (w : World) (hr0 : Kd.C (Kd.int .i64) w A0 l0.length l0) (hc0 : l0.length ≤ c0) (h : impl_allWithin.f k l0 a1 a2 = some r) :
  Calls Try.prog 112 #[.slice A0 l0.length c0, .int .i64 a1, .int .i64 a2] w fun e w' => e = .returned (.bool r) ∧ Drawn0 w w' := by
 have HR0 := am hr0
 have HC0 := am hc0
 clear hr0 hc0
 have H : (impl_allWithin.l0 k a1 a2 l0 (l0.length : Int) 0) = some r := h
 clear h
 have H' := am H
 clear H
 go_enter Try.func112, Try.ntmps112
 go_wp2
 go_loopg [11] k (fun kq v11 w' => ∃ (x11_1 : Int), v11 = .int .i64 x11_1 ∧ Aside0 (impl_allWithin.l0 kq a1 a2 l0 (l0.length : Int) x11_1 = some r) ∧ Aside0 (kq ≤ k) ∧ Drawn0 w w')
 case atStart => exact ⟨(0), rr, H', ⟨Nat.le_refl _⟩, dw⟩
 case round =>
  clear H'
  obtain ⟨x11_1, rfl, HA, HK1, ⟨m1, rfl⟩⟩ := hrel
  cases gk with
  | zero => exact absurd HA.out (by simp [impl_allWithin.l0])
  | succ k1 =>
   have H := HA.out
   clear HA
   simp only [impl_allWithin.l0] at H
   replace H := gi H; obtain ⟨c4b0, H⟩ | ⟨c4b0, H⟩ := H
   ·replace H := gd H; obtain ⟨c5b0, H⟩ := H
    replace H := gd H; obtain ⟨c6b0, H⟩ := H
    replace H := ga H; obtain ⟨t422, A7, H⟩ := H
    replace H := gb H; obtain ⟨rfl, H⟩ | ⟨rfl, H⟩ := H
    ·have H' := am H
     clear H
     obtain ⟨⟨ad421, e421, hx421_0⟩, p421, q421⟩ := pq (Kd.at_int HR0.out x11_1)
     cases e421
     go_wp2_with (first | ((with_reducible refine gate_callee (f := 63) rfl ?_); refine gl (some 18) Try.func63 #[.int .i64 (rd l0 x11_1), .int .i64 a1, .int .i64 a2] ?_; (with_reducible refine (impl_within.calls (rd l0 x11_1) a1 a2 true _ A7.out).mono ?_); rintro e w' ⟨rfl, ⟨nd, rfl⟩⟩; refine ⟨_, rfl, ?_⟩))
     go_roundg k1
     case measure => have := HK1.out; omega
     case rel => exact ⟨(wrap64 (x11_1 + 1)), rr, H', ⟨by have := HK1.out; omega⟩, dw⟩
    obtain rfl := Option.some.inj H
    obtain ⟨⟨ad421, e421, hx421_0⟩, p421, q421⟩ := pq (Kd.at_int HR0.out x11_1)
    cases e421
    go_wp2_with (first | ((with_reducible refine gate_callee (f := 63) rfl ?_); refine gl (some 18) Try.func63 #[.int .i64 (rd l0 x11_1), .int .i64 a1, .int .i64 a2] ?_; (with_reducible refine (impl_within.calls (rd l0 x11_1) a1 a2 false _ A7.out).mono ?_); rintro e w' ⟨rfl, ⟨nd, rfl⟩⟩; refine ⟨_, rfl, ?_⟩))
    go_ret
    exact ⟨rr, dw⟩
   obtain rfl := Option.some.inj H
   go_wp2
   go_ret
   exact ⟨rr, dw⟩


/-! ### impl_IsAscending: function 113 -/
def impl_IsAscending.l0 : Nat → List Int → Int → Option (Bool)
 | 0, _, _ => none
 | k + 1, x0, x3 => if x3 < (x0.length : Int) then (if 0 ≤ x3 then (if 0 ≤ (wrap64 (x3 - 1)) then (if (wrap64 (x3 - 1)) < (x0.length : Int) then (if (rd x0 x3) ≤ (rd x0 (wrap64 (x3 - 1))) then (some false) else (impl_IsAscending.l0 k x0 (wrap64 (x3 + 1)))) else (none)) else (none)) else (none)) else (some true)
def impl_IsAscending.f (k : Nat) (l0 : List Int) : Option (Bool) := impl_IsAscending.l0 k l0 1
set_option maxHeartbeats 8000000 in
set_option maxRecDepth 100000 in
theorem impl_IsAscending.calls (k : Nat) (A0 : Option Addr) (c0 : Nat) (l0 : List Int) (r : Bool) (w : World) (hr0 : Kd.C (Kd.int .i64) w A0 l0.length l0) (hc0 : l0.length ≤ c0) (h : impl_IsAscending.f k l0 = some r) :
  Calls Try.prog 113 #[.slice A0 l0.length c0] w fun e w' => e = .returned (.bool r) ∧ Drawn0 w w' := by
 have HR0 := am hr0
 have HC0 := am hc0
 clear hr0 hc0
 have H : (impl_IsAscending.l0 k l0 1) = some r := h
 clear h
 have H' := am H
 clear H
 go_enter Try.func113, Try.ntmps113
 go_wp2
 repeat (go_quiet (fail); try go_wp2)
 go_loopg [3] k (fun kq v3 w' => ∃ (x3_1 : Int), v3 = .int .i64 x3_1 ∧ Aside0 (impl_IsAscending.l0 kq l0 x3_1 = some r) ∧ Aside0 (kq ≤ k) ∧ Drawn0 w w')
 case atStart => exact ⟨(1), rr, H', ⟨Nat.le_refl _⟩, dw⟩
 case round =>
  clear H'
  obtain ⟨x3_1, rfl, HA, HK1, ⟨m1, rfl⟩⟩ := hrel
  cases gk with
  | zero => exact absurd HA.out (by simp [impl_IsAscending.l0])
  | succ k1 =>
   have H := HA.out
   clear HA
   simp only [impl_IsAscending.l0] at H
   replace H := gi H; obtain ⟨c2b0, H⟩ | ⟨c2b0, H⟩ := H
   ·replace H := gd H; obtain ⟨c3b0, H⟩ := H
    obtain ⟨ji4, hji4⟩ : ∃ j_ : Int, (wrap64 (x3_1 - 1)) = j_ := ⟨_, rfl⟩
    replace H : (if 0 ≤ (ji4) then (if (ji4) < (l0.length : Int) then (if (rd l0 x3_1) ≤ (rd l0 (ji4)) then (some false) else (impl_IsAscending.l0 k1 l0 (wrap64 (x3_1 + 1)))) else (none)) else (none)) = some r := by first | (rw [hji4] at H; exact H) | (simp only [hji4] at H ⊢; exact H)
    have hji4w : (IntKind.i64.wrap (x3_1 - 1)) = ji4 := (i64_w _).trans hji4
    replace H := gd H; obtain ⟨c5b0, H⟩ := H
    replace H := gd H; obtain ⟨c6b0, H⟩ := H
    replace H := gi H; obtain ⟨c7b0, H⟩ | ⟨c7b0, H⟩ := H
    ·obtain rfl := Option.some.inj H
     obtain ⟨⟨ad423, e423, hx423_0⟩, p423, q423⟩ := pq (Kd.at_int HR0.out x3_1)
     cases e423
     obtain ⟨⟨ad424, e424, hx424_0⟩, p424, q424⟩ := pq (Kd.at_int HR0.out (ji4))
     obtain rfl : ad423 = ad424 := (by injection e424)
     go_wp2
     repeat (go_quiet (fail); try go_wp2)
     go_ret
     exact ⟨by first | rfl | (simp; done) | (simp only [← hji4] <;> (first | rfl | simp)) | (simp [*]; done), dw⟩
    have H' := am H
    clear H
    obtain ⟨⟨ad423, e423, hx423_0⟩, p423, q423⟩ := pq (Kd.at_int HR0.out x3_1)
    cases e423
    obtain ⟨⟨ad424, e424, hx424_0⟩, p424, q424⟩ := pq (Kd.at_int HR0.out (ji4))
    obtain rfl : ad423 = ad424 := (by injection e424)
    go_wp2
    repeat (go_quiet (fail); try go_wp2)
    go_roundg k1
    case measure => have := HK1.out; omega
    case rel => exact ⟨(wrap64 (x3_1 + 1)), rr, H', ⟨by have := HK1.out; omega⟩, dw⟩
   obtain rfl := Option.some.inj H
   go_wp2
   repeat (go_quiet (fail); try go_wp2)
   go_ret
   exact ⟨rr, dw⟩


/-! ### impl_GcdOf: function 144 -/
def impl_GcdOf.l0 : Nat → Int → Int → Option (Int)
 | 0, _, _ => none
 | k + 1, x0, x1 => if x0 = 0 then (some x1) else (impl_GcdOf.l0 k (Int.tmod x1 x0) x0)
def impl_GcdOf.f (k : Nat) (a0 : Int) (a1 : Int) : Option (Int) := (impl_allWithin.f k (([a0, a1] : List Int)) (-1000000) 1000000).bind fun t428 => (if t428 = true then (impl_GcdOf.l0 k (mx a0 (wrap64 (-a0))) (mx a1 (wrap64 (-a1)))) else (some 0))
set_option maxHeartbeats 8000000 in
set_option maxRecDepth 100000 in
theorem impl_GcdOf.calls (k : Nat) (a0 : Int) (a1 : Int) (r : Int) (w : World) (h : impl_GcdOf.f k a0 a1 = some r) :
  Calls Try.prog 144 #[.int .i64 a0, .int .i64 a1] w fun e w' => e = .returned (.int .i64 r) ∧ Below w.heap.size w w' := by
 have HB := am (Below.refl w.heap.size w)
 have H : ((impl_allWithin.f k (([a0, a1] : List Int)) (-1000000) 1000000).bind fun t428 => (if t428 = true then (impl_GcdOf.l0 k (mx a0 (wrap64 (-a0))) (mx a1 (wrap64 (-a1)))) else (some 0))) = some r := h
 clear h
 obtain ⟨y425, hy425⟩ : ∃ y_ : List Int, y_ = (([a0, a1] : List Int)) := ⟨_, rfl⟩
 replace H : ((impl_allWithin.f k y425 (-1000000) 1000000).bind fun t428 => (if t428 = true then (impl_GcdOf.l0 k (mx a0 (wrap64 (-a0))) (mx a1 (wrap64 (-a1)))) else (some 0))) = some r := by first | (rw [hy425]; with_reducible first | exact H | exact bs H) | (with_reducible first | exact bs H | exact H) | (rw [hy425]; exact H) | exact H
 have Ny425 := am hy425
 clear hy425
 replace H := ga H; obtain ⟨t428, A3, H⟩ := H
 replace H := gb H; obtain ⟨rfl, H⟩ | ⟨rfl, H⟩ := H
 ·obtain ⟨ji5, hji5⟩ : ∃ j_ : Int, (mx a0 (wrap64 (-a0))) = j_ := ⟨_, rfl⟩
  replace H : (impl_GcdOf.l0 k ji5 (mx a1 (wrap64 (-a1)))) = some r := by first | (rw [hji5] at H; exact H) | (simp only [hji5] at H ⊢; exact H)
  (try rw [hji5] at A3)
  have hji5_ : (if a0 < (wrap64 (-a0)) then (wrap64 (-a0)) else a0) = ji5 := hji5
  obtain ⟨ji6, hji6⟩ : ∃ j_ : Int, (mx a1 (wrap64 (-a1))) = j_ := ⟨_, rfl⟩
  replace H : (impl_GcdOf.l0 k ji5 ji6) = some r := by first | (rw [hji6] at H; exact H) | (simp only [hji6] at H ⊢; exact H)
  (try rw [hji6] at A3)
  have hji6_ : (if a1 < (wrap64 (-a1)) then (wrap64 (-a1)) else a1) = ji6 := hji6
  have H' := am H
  clear H
  go_enter Try.func144, Try.ntmps144
  go_wp2_with (first | ((with_reducible refine gate_dst (N := 7) rfl ?_); refine Kd.R_lit (Kd.int .i64) _ 3 ?hg (N := 7) ?hd (xs := ([a0, a1] : List Int)) (inner := [.int .i64 a0, .int .i64 a1]) (ok := fun _ => True) (okp := fun _ => True) ?hr ?hp (fun _ hk => hk) trivial (Below.refl _ _) (Nat.le_refl _) (by simp) ?_; (case hd => rfl); (case hg => rfl); (case hr => first | (go_simp; done) | (go_simp; rfl)); (case hp => exact (Reps.one (show Kd.M (Kd.int .i64) _ _ _ a0 [.int .i64 a0] from rfl) (Reps.one (show Kd.M (Kd.int .i64) _ _ _ a1 [.int .i64 a1] from rfl) (Reps.none _ _)))); intro v426 w7 ho8 hb hg_ hnew_; clear hg_ hnew_; (first | rw [← Ny425.out] at ho8 | (simp only [Int.reduceToNat] at ho8; rw [← Ny425.out] at ho8)); have HO427 := am (Kd.R_lower ho8 (below_size bw)); replace HB := am (below_step bw hb); clear hb ho8; obtain ⟨Ao9, co9, eo9⟩ := Kd.R_slice HO427.out; subst eo9) | ((with_reducible refine gate_callee (f := 112) rfl ?_); refine gl (some 8) Try.func112 #[.slice Ao9 y425.length co9, .int .i64 (-1000000), .int .i64 1000000] ?_; (with_reducible refine (impl_allWithin.calls k _ _ y425 (-1000000) 1000000 true _ ?side1 ?side2 A3.out).mono ?_); (case side1 => exact co (Kd.R_reads' HO427.out).2.2); (case side2 => exact (Kd.R_reads' HO427.out).2.1); rintro e w' ⟨rfl, ⟨nd, rfl⟩⟩; refine ⟨_, rfl, ?_⟩))
  go_loopg [0, 1] k (fun kq v0 v1 w' => ∃ (x0_1 : Int) (x1_1 : Int), v0 = .int .i64 x0_1 ∧ v1 = .int .i64 x1_1 ∧ Aside0 (impl_GcdOf.l0 kq x0_1 x1_1 = some r) ∧ Aside0 (kq ≤ k) ∧ Aside0 (Below w.heap.size w w'))
  case atStart => exact ⟨(ji5), (ji6), (by first | rfl | (simp; done) | (simp only [← hji5] <;> (first | rfl | simp)) | (simp [*]; done)), (by first | rfl | (simp; done) | (simp only [← hji6] <;> (first | rfl | simp)) | (simp [*]; done)), H', ⟨Nat.le_refl _⟩, ⟨bw⟩⟩
  case round =>
   clear H'
   obtain ⟨x0_1, x1_1, rfl, rfl, HA, HK1, HB⟩ := hrel
   cases gk with
   | zero => exact absurd HA.out (by simp [impl_GcdOf.l0])
   | succ k1 =>
    have H := HA.out
    clear HA
    simp only [impl_GcdOf.l0] at H
    by_cases c10 : x0_1 = 0
    ·rw [if_pos c10] at H
     have c10b0 : (x0_1 == 0) = true := beq_iff_eq.mpr c10
     have c10b1 : (x0_1 != 0) = false := bne_eq_false_iff_eq.mpr c10
     clear c10
     obtain rfl := Option.some.inj H
     go_wp2
     go_ret
     exact ⟨by first | rfl | (simp [errW_none, errW_some] <;> rfl) | (simp only [← hji5, ← hji6]; first | rfl | (simp [errW_none, errW_some] <;> rfl)) | (simp [*, errW_none, errW_some] <;> rfl), bw⟩
    rw [if_neg c10] at H
    have c10b0 : (x0_1 == 0) = false := beq_eq_false_iff_ne.mpr c10
    have c10b1 : (x0_1 != 0) = true := bne_iff_ne.mpr c10
    have H' := am H
    clear H
    go_wp2
    go_roundg k1
    case measure => have := HK1.out; omega
    case rel => exact ⟨(Int.tmod x1_1 x0_1), (x0_1), rr, rr, H', ⟨by have := HK1.out; omega⟩, ⟨bw⟩⟩
 obtain rfl := Option.some.inj H
 go_enter Try.func144, Try.ntmps144
 go_wp2_with (first | ((with_reducible refine gate_dst (N := 7) rfl ?_); refine Kd.R_lit (Kd.int .i64) _ 3 ?hg (N := 7) ?hd (xs := ([a0, a1] : List Int)) (inner := [.int .i64 a0, .int .i64 a1]) (ok := fun _ => True) (okp := fun _ => True) ?hr ?hp (fun _ hk => hk) trivial (Below.refl _ _) (Nat.le_refl _) (by simp) ?_; (case hd => rfl); (case hg => rfl); (case hr => first | (go_simp; done) | (go_simp; rfl)); (case hp => exact (Reps.one (show Kd.M (Kd.int .i64) _ _ _ a0 [.int .i64 a0] from rfl) (Reps.one (show Kd.M (Kd.int .i64) _ _ _ a1 [.int .i64 a1] from rfl) (Reps.none _ _)))); intro v426 w11 ho12 hb hg_ hnew_; clear hg_ hnew_; (first | rw [← Ny425.out] at ho12 | (simp only [Int.reduceToNat] at ho12; rw [← Ny425.out] at ho12)); have HO427 := am (Kd.R_lower ho12 (below_size bw)); replace HB := am (below_step bw hb); clear hb ho12; obtain ⟨Ao13, co13, eo13⟩ := Kd.R_slice HO427.out; subst eo13) | ((with_reducible refine gate_callee (f := 112) rfl ?_); refine gl (some 8) Try.func112 #[.slice Ao13 y425.length co13, .int .i64 (-1000000), .int .i64 1000000] ?_; (with_reducible refine (impl_allWithin.calls k _ _ y425 (-1000000) 1000000 false _ ?side1 ?side2 A3.out).mono ?_); (case side1 => exact co (Kd.R_reads' HO427.out).2.2); (case side2 => exact (Kd.R_reads' HO427.out).2.1); rintro e w' ⟨rfl, ⟨nd, rfl⟩⟩; refine ⟨_, rfl, ?_⟩))
 go_ret
 exact ⟨re, bw⟩


/-! ### impl_GcdOfList: function 114 -/
def impl_GcdOfList.l0 : Nat → Int → List Int → Int → Int → Option (Int)
 | 0, _, _, _, _ => none
 | k + 1, x3, x6, x7, x8 => if x8 < x7 then (if 0 ≤ x8 then (if x8 < (x6.length : Int) then ((impl_GcdOf.f k x3 (rd x6 x8)).bind fun t430 => (impl_GcdOfList.l0 k t430 x6 x7 (wrap64 (x8 + 1)))) else (none)) else (none)) else (some x3)
def impl_GcdOfList.f (k : Nat) (l0 : List Int) : Option (Int) := impl_GcdOfList.l0 k 0 l0 (l0.length : Int) 0
set_option maxHeartbeats 8000000 in
set_option maxRecDepth 100000 in
theorem impl_GcdOfList.calls (k : Nat) (A0 : Option Addr) (c0 : Nat) (l0 : List Int) (r : Int) (w : World) (hr0 : Kd.C (Kd.int .i64) w A0 l0.length l0) (hc0 : l0.length ≤ c0) (h : impl_GcdOfList.f k l0 = some r) :
  Calls Try.prog 114 #[.slice A0 l0.length c0] w fun e w' => e = .returned (.int .i64 r) ∧ Below w.heap.size w w' := by
 have HR0 := am hr0
 have HC0 := am hc0
 clear hr0 hc0
 have HB := am (Below.refl w.heap.size w)
 have H : (impl_GcdOfList.l0 k 0 l0 (l0.length : Int) 0) = some r := h
 clear h
 have H' := am H
 clear H
 go_enter Try.func114, Try.ntmps114
 go_wp2
 go_loopg [3, 8] k (fun kq v3 v8 w' => ∃ (x3_1 : Int) (x8_1 : Int), v3 = .int .i64 x3_1 ∧ v8 = .int .i64 x8_1 ∧ Aside0 (impl_GcdOfList.l0 kq x3_1 l0 (l0.length : Int) x8_1 = some r) ∧ Aside0 (kq ≤ k) ∧ Aside0 (Below w.heap.size w w'))
 case atStart => exact ⟨(0), (0), rr, rr, H', ⟨Nat.le_refl _⟩, ⟨bw⟩⟩
 case round =>
  clear H'
  obtain ⟨x3_1, x8_1, rfl, rfl, HA, HK1, HB⟩ := hrel
  cases gk with
  | zero => exact absurd HA.out (by simp [impl_GcdOfList.l0])
  | succ k1 =>
   have H := HA.out
   clear HA
   simp only [impl_GcdOfList.l0] at H
   replace H := gi H; obtain ⟨c2b0, H⟩ | ⟨c2b0, H⟩ := H
   ·replace H := gd H; obtain ⟨c3b0, H⟩ := H
    replace H := gd H; obtain ⟨c4b0, H⟩ := H
    replace H := ga H; obtain ⟨t430, A5, H⟩ := H
    have H' := am H
    clear H
    obtain ⟨⟨ad429, e429, hx429_0⟩, p429, q429⟩ := pq (Kd.at_int HR0.out x8_1)
    cases e429
    replace hx429_0 := hw HB hx429_0
    go_wp2_with (first | ((with_reducible refine gate_callee (f := 144) rfl ?_); refine gl (some 14) Try.func144 #[.int .i64 x3_1, .int .i64 (rd l0 x8_1)] ?_; (with_reducible refine (impl_GcdOf.calls k1 x3_1 (rd l0 x8_1) t430 _ A5.out).mono ?_); rintro e w6 ⟨rfl, hb⟩; refine ⟨_, rfl, ?_⟩; replace HB := am (below_step bw hb); clear hb))
    go_roundg k1
    case measure => have := HK1.out; omega
    case rel => exact ⟨(t430), (wrap64 (x8_1 + 1)), rr, rr, H', ⟨by have := HK1.out; omega⟩, ⟨bw⟩⟩
   obtain rfl := Option.some.inj H
   go_wp2
   go_ret
   exact ⟨re, bw⟩

end Go.Proofs.Ytlfdipnhlmjiaaa.C
