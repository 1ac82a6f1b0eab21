/- Contracts of functions of the program: spec_ChainOf, impl_within, impl_allWithin, impl_IsAscending. -/
import Derived.Test.YtlfdipnhlmjiaaaC0
import Derived.Test.YtlfdipnhlmjiaaaC4
import Derived.Test.YtlfdipnhlmjiaaaC5
namespace Go.Proofs.Ytlfdipnhlmjiaaa.C
open Go.RowKit Go.Proofs.YtlfdipnhlmjiaaaW.PrintWords Go.Proofs.YtlfdipnhlmjiaaaW.PrintLast Go.Proofs.YtlfdipnhlmjiaaaW.PrintMore
attribute [local go_sem] max2_int min2_int max_two min_two max_three min_three max_four min_four
set_option linter.unusedVariables false
set_option linter.unusedSimpArgs false

/-! ### spec_ChainOf: function 42 -/
mutual
def spec_ChainOf.j0 : Nat → List (List Int) → Int → Int → Bool → Option ((List (List Int)) × Bool)
 | 0, _, _, _, _ => none
 | k + 1, x10, x11, x12, x31 => if x31 = true then (some ((([] : List (List Int))), false)) else ((spec_l13Degree.f k x10).bind fun t347 => ((spec_l13Far.f k x10 x12 t347).bind fun t348 => ((some (([] : List Int) : List Int)).bind fun y351 => (if 0 ≤ x11 then (if x11 < (x10.length : Int) then (if y351.length + (rd_L2 x10 x11).length < 17592186044416 then (spec_ChainOf.l0 k x10 x11 x12 t347 t348 (([(y351 ++ (rd_L2 x10 x11))] : List (List Int)))) else (none)) else (none)) else (none)))))
def spec_ChainOf.l0 : Nat → List (List Int) → Int → Int → Int → List Int → List (List Int) → Option ((List (List Int)) × Bool)
 | 0, _, _, _, _, _, _ => none
 | k + 1, x10, x11, x12, x13, x14, x15 => if x11 = x12 then (some (x15, true)) else (spec_ChainOf.l1 k x10 x11 x12 x13 x14 x15 0)
def spec_ChainOf.l1 : Nat → List (List Int) → Int → Int → Int → List Int → List (List Int) → Int → Option ((List (List Int)) × Bool)
 | 0, _, _, _, _, _, _, _ => none
 | k + 1, x10, x11, x12, x13, x14, x15, x16 => if 0 ≤ x16 then (if x16 < (x14.length : Int) then (if 0 ≤ x11 then (if x11 < (x14.length : Int) then (if (rd x14 x16) = (wrap64 ((rd x14 x11) - 1)) then (if x11 < (x10.length : Int) then (if x16 < (x10.length : Int) then ((spec_DistanceOf.f k (rd_L2 x10 x11) (rd_L2 x10 x16)).bind fun t365 => (if t365 > x13 then (spec_ChainOf.l1 k x10 x11 x12 x13 x14 x15 (wrap64 (x16 + 1))) else ((some (([] : List Int) : List Int)).bind fun y366 => (if y366.length + (rd_L2 x10 x16).length < 17592186044416 then (if x15.length < 5864062014805 then (spec_ChainOf.l0 k x10 x16 x12 x13 x14 (x15 ++ [(y366 ++ (rd_L2 x10 x16))])) else (none)) else (none))))) else (none)) else (none)) else (spec_ChainOf.l1 k x10 x11 x12 x13 x14 x15 (wrap64 (x16 + 1)))) else (none)) else (none)) else (none)) else (none)
end
def spec_ChainOf.f (k : Nat) (l0_0 : List Int) (a1 : Int) (l2 : List Int) (l3 : List Int) : Option ((List (List Int)) × Bool) := (spec_Factorizations.f k l0_0 a1).bind fun t339 => ((spec_l13At.f k t339 l2).bind fun t342 => ((spec_l13At.f k t339 l3).bind fun t343 => (if t342 < 0 then (spec_ChainOf.j0 k t339 t342 t343 true) else (spec_ChainOf.j0 k t339 t342 t343 (decide (t343 < 0))))))
set_option maxHeartbeats 8000000 in
set_option maxRecDepth 100000 in
theorem spec_ChainOf.calls (k : Nat) (A0_0 : Option Addr) (c0_0 : Nat) (l0_0 : List Int) (a1 : Int) (A2 : Option Addr) (c2 : Nat) (l2 : List Int) (A3 : Option Addr) (c3 : Nat) (l3 : List Int) (r1 : List (List Int)) (r2 : Bool) (w : World) (hr0_0 : Kd.C (Kd.int .i64) w A0_0 l0_0.length l0_0) (hc0_0 : l0_0.length ≤ c0_0) (hr2 : Kd.C (Kd.int .i64) w A2 l2.length l2) (hc2 : l2.length ≤ c2) (hr3 : Kd.C (Kd.int .i64) w A3 l3.length l3) (hc3 : l3.length ≤ c3) (h : spec_ChainOf.f k l0_0 a1 l2 l3 = some (r1, r2)) :
  Calls Try.prog 42 #[.agg #[.slice A0_0 l0_0.length c0_0], .int .i64 a1, .slice A2 l2.length c2, .slice A3 l3.length c3] w fun e w' => ∃ v0_ : Value, e = .returned (.tuple #[v0_, .bool r2]) ∧ Kd.N (Kd.slice 3 (Kd.int .i64)) 22 w' w.heap.size (fun k_ => (w.heap.size ≤ k_)) v0_ r1 ∧ Below w.heap.size w w' := by
 have hu27 := Try.underlying27
 have HR0_0 := am hr0_0
 have HC0_0 := am hc0_0
 clear hr0_0 hc0_0
 have HR2 := am hr2
 have HC2 := am hc2
 clear hr2 hc2
 have HR3 := am hr3
 have HC3 := am hc3
 clear hr3 hc3
 have HB := am (Below.refl w.heap.size w)
 have H : ((spec_Factorizations.f k l0_0 a1).bind fun t339 => ((spec_l13At.f k t339 l2).bind fun t342 => ((spec_l13At.f k t339 l3).bind fun t343 => (if t342 < 0 then (spec_ChainOf.j0 k t339 t342 t343 true) else (spec_ChainOf.j0 k t339 t342 t343 (decide (t343 < 0))))))) = some (r1, r2) := h
 clear h
 replace H := ga H; obtain ⟨t339, A5, H⟩ := H
 replace H := ga H; obtain ⟨t342, A6, H⟩ := H
 replace H := ga H; obtain ⟨t343, A7, H⟩ := H
 have HC8 := am H
 clear H
 go_enter Try.func42, Try.ntmps42
 go_upto_region 4 with (first | ((with_reducible refine gate_dst (N := 4) rfl ?_); refine bx 4 #[.slice A0_0 l0_0.length c0_0] 27 ?_; intro gb338 hg w9 hbox hb; have BK338 := am (hbox); have GW338 := am (gs hg : w.heap.size ≤ gb338); have GE338 := GW338; replace HB := am (below_step bw hb); clear hb hbox hg; have hcz10_0 := bc BK338 0 (.slice A0_0 l0_0.length c0_0); have hfz10_0 := blk_frozen BK338.out 0) | (go_at_call 80; (with_reducible refine (spec_Factorizations.calls k _ _ l0_0 a1 t339 _ ?side1 ?side2 A5.out).mono ?_); (case side1 => exact co (Kd.C_below HR0_0.out HB.out)); (case side2 => exact HC0_0.out); rintro e w11 ⟨v340, rfl, ho0, hb⟩; have HO341 := am (Kd.N_lower (Kd.N_mono (ok' := fun k_ => (w.heap.size ≤ k_) ∧ k_ ≠ gb338) ho0 (fun k_ hk_ => ⟨(Nat.le_trans (below_size bw) hk_), (Kd.freshB (g := gb338) (o := .cells #[.slice A0_0 l0_0.length c0_0] 27 (0, 0)) (bo BK338.out) k_ hk_)⟩)) (below_size bw)); replace BK338 := kb BK338 hb; replace HB := am (below_step bw hb); clear hb ho0; obtain ⟨Ao12, co12, eo12⟩ := Kd.N_slice HO341.out; subst eo12) | (go_at_call 88; (with_reducible refine (spec_l13At.calls k _ _ t339 _ _ l2 t342 _ ?side1 ?side2 ?side3 ?side4 A6.out).mono ?_); (case side1 => exact co (Kd.N_reads' HO341.out).2.2); (case side2 => exact (Kd.N_reads' HO341.out).2.1); (case side3 => exact co (Kd.C_below HR2.out HB.out)); (case side4 => exact HC2.out); rintro e w' ⟨rfl, ⟨nd, rfl⟩⟩; (try first | exact ⟨rfl, _, World.drewN_drewN _ _ _⟩ | exact ⟨rfl, _, Eq.trans (World.drewN_drewN _ _ _) (congrArg (World.drewN _) (Nat.add_assoc _ _ _))⟩)) | (go_at_call 88; (with_reducible refine (spec_l13At.calls k _ _ t339 _ _ l3 t343 _ ?side1 ?side2 ?side3 ?side4 A7.out).mono ?_); (case side1 => exact co (Kd.N_reads' HO341.out).2.2); (case side2 => exact (Kd.N_reads' HO341.out).2.1); (case side3 => exact co (Kd.C_below HR3.out bw)); (case side4 => exact HC3.out); rintro e w' ⟨rfl, ⟨nd, rfl⟩⟩; (try first | exact ⟨rfl, _, World.drewN_drewN _ _ _⟩ | exact ⟨rfl, _, Eq.trans (World.drewN_drewN _ _ _) (congrArg (World.drewN _) (Nat.add_assoc _ _ _))⟩)))
 repeat (go_quiet (first | (go_at_call 80; (with_reducible refine (spec_Factorizations.calls k _ _ l0_0 a1 t339 _ ?side1 ?side2 A5.out).mono ?_); (case side1 => exact co (Kd.C_below HR0_0.out HB.out)); (case side2 => exact HC0_0.out); rintro e w11 ⟨v340, rfl, ho0, hb⟩; have n0_ := am (Kd.N_lower (Kd.N_mono (ok' := fun k_ => (w.heap.size ≤ k_) ∧ k_ ≠ gb338) ho0 (fun k_ hk_ => ⟨(Nat.le_trans (below_size bw) hk_), (Kd.freshB (g := gb338) (o := .cells #[.slice A0_0 l0_0.length c0_0] 27 (0, 0)) (bo BK338.out) k_ hk_)⟩)) (below_size bw)); have n1_ := am (blk_below (g := gb338) (o := .cells #[.slice A0_0 l0_0.length c0_0] 27 (0, 0)) (bo BK338.out) hb); have n2_ := am (below_step bw hb); clear BK338; clear HB; have HO341 := n0_; have BK338 := n1_; have HB := n2_; clear n0_ n1_ n2_; (try clear hb); (try clear hb2); (try clear hk); (try clear hi); (try clear ho0); obtain ⟨Ao12, co12, eo12⟩ := Kd.N_slice HO341.out; subst eo12) | (go_at_call 88; (with_reducible refine (spec_l13At.calls k _ _ t339 _ _ l2 t342 _ ?side1 ?side2 ?side3 ?side4 A6.out).mono ?_); (case side1 => exact co (Kd.N_reads' HO341.out).2.2); (case side2 => exact (Kd.N_reads' HO341.out).2.1); (case side3 => exact co (Kd.C_below HR2.out HB.out)); (case side4 => exact HC2.out); rintro e w' ⟨rfl, ⟨nd, rfl⟩⟩; (try first | exact ⟨rfl, _, World.drewN_drewN _ _ _⟩ | exact ⟨rfl, _, Eq.trans (World.drewN_drewN _ _ _) (congrArg (World.drewN _) (Nat.add_assoc _ _ _))⟩)) | (go_at_call 88; (with_reducible refine (spec_l13At.calls k _ _ t339 _ _ l3 t343 _ ?side1 ?side2 ?side3 ?side4 A7.out).mono ?_); (case side1 => exact co (Kd.N_reads' HO341.out).2.2); (case side2 => exact (Kd.N_reads' HO341.out).2.1); (case side3 => exact co (Kd.C_below HR3.out bw)); (case side4 => exact HC3.out); rintro e w' ⟨rfl, ⟨nd, rfl⟩⟩; (try first | exact ⟨rfl, _, World.drewN_drewN _ _ _⟩ | exact ⟨rfl, _, Eq.trans (World.drewN_drewN _ _ _) (congrArg (World.drewN _) (Nat.add_assoc _ _ _))⟩))); go_upto_region 4 with (first | ((with_reducible refine gate_dst (N := 4) rfl ?_); refine bx 4 #[.slice A0_0 l0_0.length c0_0] 27 ?_; intro gb338 hg w9 hbox hb; have BK338 := am (hbox); have GW338 := am (gs hg : w.heap.size ≤ gb338); have GE338 := GW338; replace HB := am (below_step bw hb); clear hb hbox hg; have hcz10_0 := bc BK338 0 (.slice A0_0 l0_0.length c0_0); have hfz10_0 := blk_frozen BK338.out 0) | (go_at_call 80; (with_reducible refine (spec_Factorizations.calls k _ _ l0_0 a1 t339 _ ?side1 ?side2 A5.out).mono ?_); (case side1 => exact co (Kd.C_below HR0_0.out HB.out)); (case side2 => exact HC0_0.out); rintro e w11 ⟨v340, rfl, ho0, hb⟩; have HO341 := am (Kd.N_lower (Kd.N_mono (ok' := fun k_ => (w.heap.size ≤ k_) ∧ k_ ≠ gb338) ho0 (fun k_ hk_ => ⟨(Nat.le_trans (below_size bw) hk_), (Kd.freshB (g := gb338) (o := .cells #[.slice A0_0 l0_0.length c0_0] 27 (0, 0)) (bo BK338.out) k_ hk_)⟩)) (below_size bw)); replace BK338 := kb BK338 hb; replace HB := am (below_step bw hb); clear hb ho0; obtain ⟨Ao12, co12, eo12⟩ := Kd.N_slice HO341.out; subst eo12) | (go_at_call 88; (with_reducible refine (spec_l13At.calls k _ _ t339 _ _ l2 t342 _ ?side1 ?side2 ?side3 ?side4 A6.out).mono ?_); (case side1 => exact co (Kd.N_reads' HO341.out).2.2); (case side2 => exact (Kd.N_reads' HO341.out).2.1); (case side3 => exact co (Kd.C_below HR2.out HB.out)); (case side4 => exact HC2.out); rintro e w' ⟨rfl, ⟨nd, rfl⟩⟩; (try first | exact ⟨rfl, _, World.drewN_drewN _ _ _⟩ | exact ⟨rfl, _, Eq.trans (World.drewN_drewN _ _ _) (congrArg (World.drewN _) (Nat.add_assoc _ _ _))⟩)) | (go_at_call 88; (with_reducible refine (spec_l13At.calls k _ _ t339 _ _ l3 t343 _ ?side1 ?side2 ?side3 ?side4 A7.out).mono ?_); (case side1 => exact co (Kd.N_reads' HO341.out).2.2); (case side2 => exact (Kd.N_reads' HO341.out).2.1); (case side3 => exact co (Kd.C_below HR3.out bw)); (case side4 => exact HC3.out); rintro e w' ⟨rfl, ⟨nd, rfl⟩⟩; (try first | exact ⟨rfl, _, World.drewN_drewN _ _ _⟩ | exact ⟨rfl, _, Eq.trans (World.drewN_drewN _ _ _) (congrArg (World.drewN _) (Nat.add_assoc _ _ _))⟩))))
 (try simp only [Act.put, List.setIfInBounds_toArray, List.set_cons_zero, List.set_cons_succ])
 go_cut [31] (fun v31 wc => ∃ (kq : Nat) (x31_7 : Bool), v31 = .bool x31_7 ∧ Aside0 (spec_ChainOf.j0 kq t339 t342 t343 x31_7 = some (r1, r2)) ∧ Aside0 (kq ≤ k) ∧ Aside0 (Kd.N (Kd.slice 3 (Kd.int .i64)) 22 wc w.heap.size (fun k_ => (w.heap.size ≤ k_) ∧ k_ ≠ gb338) (.slice Ao12 t339.length co12) t339) ∧ Aside0 (wc.heap[gb338]? = some (.cells #[(.slice A0_0 l0_0.length c0_0)] 27 (0, 0))) ∧ Aside0 (Below w.heap.size w wc))
 case first =>
  have H := HC8.out
  clear HC8
  replace H := gi H; obtain ⟨c13b0, H⟩ | ⟨c13b0, H⟩ := H
  ·(first | rw [c13b0] | (simp only [i64_w, i32_w]; rw [c13b0]) | skip)
   have H' := am H
   clear H
   go_wp2
   repeat (go_quiet (fail); try go_wp2)
   go_meet
   case rel => exact ⟨_, (true), rr, H', ⟨om⟩, ⟨no HO341.out⟩, ⟨bo BK338.out⟩, ⟨bw⟩⟩
  ·(first | rw [c13b0] | (simp only [i64_w, i32_w]; rw [c13b0]) | skip)
   have H' := am H
   clear H
   go_wp2
   repeat (go_quiet (fail); try go_wp2)
   go_meet
   case rel => exact ⟨_, (decide (t343 < 0)), rr, H', ⟨om⟩, ⟨no HO341.out⟩, ⟨bo BK338.out⟩, ⟨bw⟩⟩
 case rest =>
  clear HC8
  try clear c2; try clear c3; try clear c13b0; try clear hcz10_0; try clear hfz10_0
  obtain ⟨kq, x31_7, rfl, HA, HJ7, HO_10, BK338, HB⟩ := hcut
  cases kq with
  | zero => exact absurd HA.out (by simp [spec_ChainOf.j0])
  | succ kj7 =>
   have H := HA.out
   clear HA
   simp only [spec_ChainOf.j0] at H
   replace H := gb H; obtain ⟨rfl, H⟩ | ⟨rfl, H⟩ := H
   ·obtain ⟨y344, hy344⟩ : ∃ y_ : List (List Int), y_ = (([] : List (List Int))) := ⟨_, rfl⟩
    replace H : (some (y344, false)) = some (r1, r2) := by first | (rw [hy344]; with_reducible first | exact H | exact bs H) | (with_reducible first | exact bs H | exact H) | (rw [hy344]; exact H) | exact H
    have Ny344 := am hy344
    clear hy344
    simp only [Option.some.injEq, Prod.mk.injEq] at H
    obtain ⟨rfl, rfl⟩ := H
    go_wp2_with (first | ((with_reducible refine gate_dst (N := 32) rfl ?_); refine Kd.N_lit (Kd.slice 3 (Kd.int .i64)) _ 22 ?hg (N' := 32) ?hd (xs := ([] : List (List Int))) (inner := []) (ok := (fun k_ => (w.heap.size ≤ k_) ∧ nb k_ Ao12 t339 co12 ∧ k_ ≠ gb338)) (okp := (fun k_ => (w.heap.size ≤ k_) ∧ nb k_ Ao12 t339 co12 ∧ k_ ≠ gb338)) ?hr ?hp (fun _ hk => hk) ((show ∀ k_, wc.heap.size ≤ k_ → (fun k_ => (w.heap.size ≤ k_) ∧ nb k_ Ao12 t339 co12 ∧ k_ ≠ gb338) k_ from fun k_ hk => ⟨(Nat.le_trans (below_size bw) hk), Kd.fresh' (Kd.N_lt (no HO_10.out)) k_ hk, Kd.freshB (g := gb338) (o := .cells #[.slice A0_0 l0_0.length c0_0] 27 (0, 0)) (bo BK338.out) k_ hk⟩) _ (Nat.le_refl _)) (Below.refl _ _) (Nat.le_refl _) (by simp) ?_; (case hd => rfl); (case hg => rfl); (case hr => first | (go_simp; done) | (go_simp; rfl)); (case hp => exact (Reps.none _ _)); intro v345 w15 ho16 hb hg_ hnew_; clear hg_ hnew_; (first | rw [← Ny344.out] at ho16 | (simp only [Int.reduceToNat] at ho16; rw [← Ny344.out] at ho16)); replace HO_10 := am (Kd.N_elder' (no HO_10.out) (Kd.N_base ho16) hb); have HO346 := am (Kd.N_lower ho16 (below_size bw)); replace BK338 := kb BK338 hb; replace HB := am (below_step bw hb); clear hb ho16))
    repeat (go_quiet (fail); try go_wp2_with (first | ((with_reducible refine gate_dst (N := 32) rfl ?_); refine Kd.N_lit (Kd.slice 3 (Kd.int .i64)) _ 22 ?hg (N' := 32) ?hd (xs := ([] : List (List Int))) (inner := []) (ok := (fun k_ => (w.heap.size ≤ k_) ∧ nb k_ Ao12 t339 co12 ∧ k_ ≠ gb338)) (okp := (fun k_ => (w.heap.size ≤ k_) ∧ nb k_ Ao12 t339 co12 ∧ k_ ≠ gb338)) ?hr ?hp (fun _ hk => hk) ((show ∀ k_, wc.heap.size ≤ k_ → (fun k_ => (w.heap.size ≤ k_) ∧ nb k_ Ao12 t339 co12 ∧ k_ ≠ gb338) k_ from fun k_ hk => ⟨(Nat.le_trans (below_size bw) hk), Kd.fresh' (Kd.N_lt (no HO_10.out)) k_ hk, Kd.freshB (g := gb338) (o := .cells #[.slice A0_0 l0_0.length c0_0] 27 (0, 0)) (bo BK338.out) k_ hk⟩) _ (Nat.le_refl _)) (Below.refl _ _) (Nat.le_refl _) (by simp) ?_; (case hd => rfl); (case hg => rfl); (case hr => first | (go_simp; done) | (go_simp; rfl)); (case hp => exact (Reps.none _ _)); intro v345 w15 ho16 hb hg_ hnew_; clear hg_ hnew_; (first | rw [← Ny344.out] at ho16 | (simp only [Int.reduceToNat] at ho16; rw [← Ny344.out] at ho16)); have n0_ := am (Kd.N_elder' (no HO_10.out) (Kd.N_base ho16) hb); have n1_ := am (Kd.N_lower ho16 (below_size bw)); have n2_ := am (blk_below (g := gb338) (o := .cells #[.slice A0_0 l0_0.length c0_0] 27 (0, 0)) (bo BK338.out) hb); have n3_ := am (below_step bw hb); clear HO_10 BK338 HB; have HO_10 := n0_; have HO346 := n1_; have BK338 := n2_; have HB := n3_; clear n0_ n1_ n2_ n3_; clear hb ho16)))
    go_ret2
    exact ⟨_, re, by (with_reducible repeat (first | apply Kd.N_alloc | apply Kd.N_drewN | apply Kd.N_drew)); exact Kd.N_mono HO346.out (fun _ hk => hk.1), bw⟩
   replace H := ga H; obtain ⟨t347, A17, H⟩ := H
   replace H := ga H; obtain ⟨t348, A18, H⟩ := H
   obtain ⟨y351, hy351⟩ : ∃ y_ : List Int, y_ = (([] : List Int)) := ⟨_, rfl⟩
   replace H : (if 0 ≤ t342 then (if t342 < (t339.length : Int) then (if y351.length + (rd_L2 t339 t342).length < 17592186044416 then (spec_ChainOf.l0 kj7 t339 t342 t343 t347 t348 (([(y351 ++ (rd_L2 t339 t342))] : List (List Int)))) else (none)) else (none)) else (none)) = some (r1, r2) := by first | (rw [hy351]; with_reducible first | exact H | exact bs H) | (with_reducible first | exact bs H | exact H) | (rw [hy351]; exact H) | exact H
   have Ny351 := am hy351
   clear hy351
   replace H := gd H; obtain ⟨c19b0, H⟩ := H
   replace H := gd H; obtain ⟨c20b0, H⟩ := H
   by_cases c21 : y351.length + (rd_L2 t339 t342).length < 17592186044416
   rotate_left
   ·rw [if_neg c21] at H
    exact absurd H (by simp)
   rw [if_pos c21] at H
   have LMc21 := am c21
   clear c21
   obtain ⟨y355, hy355⟩ : ∃ y_ : List Int, y_ = (y351 ++ (rd_L2 t339 t342)) := ⟨_, rfl⟩
   replace H : (spec_ChainOf.l0 kj7 t339 t342 t343 t347 t348 (([y355] : List (List Int)))) = some (r1, r2) := by first | (rw [hy355]; with_reducible first | exact H | exact bs H) | (with_reducible first | exact bs H | exact H) | (rw [hy355]; exact H) | exact H
   have Ny355 := am hy355
   clear hy355
   obtain ⟨y358, hy358⟩ : ∃ y_ : List (List Int), y_ = (([y355] : List (List Int))) := ⟨_, rfl⟩
   replace H : (spec_ChainOf.l0 kj7 t339 t342 t343 t347 t348 y358) = some (r1, r2) := by first | (rw [hy358]; with_reducible first | exact H | exact bs H) | (with_reducible first | exact bs H | exact H) | (rw [hy358]; exact H) | exact H
   have Ny358 := am hy358
   clear hy358
   have H' := am H
   clear H
   go_wp2_with (first | (go_at_call 89; (with_reducible refine (spec_l13Degree.calls kj7 _ _ t339 t347 _ ?side1 ?side2 A17.out).mono ?_); (case side1 => exact co (Kd.N_reads' HO_10.out).2.2); (case side2 => exact (Kd.N_reads' HO_10.out).2.1); rintro e w22 ⟨rfl, hb⟩; replace HO_10 := nK HO_10 hb; replace BK338 := kb BK338 hb; replace HB := am (below_step bw hb); clear hb) | (go_at_call 90; (with_reducible refine (spec_l13Far.calls kj7 _ _ t339 t343 t347 t348 _ ?side1 ?side2 A18.out).mono ?_); (case side1 => exact co (Kd.N_reads' HO_10.out).2.2); (case side2 => exact (Kd.N_reads' HO_10.out).2.1); rintro e w23 ⟨v349, rfl, ho0, hb⟩; replace HO_10 := am (Kd.N_elder' (no HO_10.out) (Kd.R_base ho0) hb); have HO350 := am (Kd.R_lower (Kd.R_newM (M := fun k_ => (w.heap.size ≤ k_)) ho0 (below_size bw) (fun k_ h_ => h_)) (below_size bw)); replace BK338 := kb BK338 hb; replace HB := am (below_step bw hb); clear hb ho0) | ((with_reducible refine gate_dst (N := 39) rfl ?_); refine Kd.R_lit (Kd.int .i64) _ 3 ?hg (N := 39) ?hd (xs := ([] : List Int)) (inner := []) (ok := fun _ => True) (okp := fun _ => True) ?hr ?hp (fun _ hk => hk) trivial (Below.refl _ _) (Nat.le_refl _) (by simp) ?_; (case hd => rfl); (case hg => rfl); (case hr => first | (go_simp; done) | (go_simp; rfl)); (case hp => exact (Reps.none _ _)); intro v352 w24 ho25 hb hg_ hnew_; clear hg_ hnew_; (first | rw [← Ny351.out] at ho25 | (simp only [Int.reduceToNat] at ho25; rw [← Ny351.out] at ho25)); replace HO_10 := am (Kd.N_elder' (no HO_10.out) (Kd.R_base ho25) hb); have HO353 := am (Kd.R_lower (Kd.R_new' (Kd.R_newM (M := fun k_ => (w.heap.size ≤ k_)) ho25 (below_size bw) (fun k_ h_ => h_)) (Kd.R_lt (ro HO350.out))) (below_size bw)); replace HO350 := am (Kd.R_elder' (ro HO350.out) (Kd.R_base ho25) hb); replace BK338 := kb BK338 hb; replace HB := am (below_step bw hb); clear hb ho25; have p354 : 0 ≤ (t342 : Int) := of_decide_eq_true (by first | (with_reducible assumption) | assumption); have q354 : t342 < (t339.length : Int) := of_decide_eq_true (by first | (with_reducible assumption) | assumption); obtain ⟨ad354, A354_0, c354_0, e354, hx354_0, hl354_0, hi354_0⟩ := at_L2 (Kd.N_reads' HO_10.out).2.2 t342 p354 q354; cases e354; obtain ⟨ce354, hce354, hMe354, hcc354⟩ := Kd.N_get HO_10.out [] t342 p354 (by first | exact q354 | exact of_decide_eq_true (by first | (with_reducible assumption) | assumption) | (have e_ := (Kd.N_reads' HO_10.out).1; omega)); obtain ⟨ua354_0, uc354_0, rfl, ul354_0, ge354_0⟩ := Kd.FK_slice_open hMe354; have hv354_0 := hcc354 0 _ rfl; rw [Nat.add_zero, show ((Kd.slice 3 (Kd.int .i64))).sz = 1 from rfl, Nat.mul_one] at hv354_0; replace hv354_0 := Option.some.inj (hv354_0.symm.trans hx354_0); injection hv354_0 with hva_ hvn_ hvc_; rw [hva_] at ge354_0; rw [hvc_] at ul354_0; have HL354_0 := am (show Kd.V (Kd.int .i64) 3 _ w.heap.size _ _ (rd_L2 t339 t342) from Kd.V_mk ul354_0 ge354_0); clear hva_ hvn_ hvc_ ge354_0 ul354_0 hcc354 hce354; have HR354_0 := am hi354_0; have HC354_0 := am hl354_0; clear hi354_0 hl354_0; replace p354 := eq_true p354; replace q354 := eq_true q354) | ((with_reducible refine gate_builtin (b := .append) (xs := #[.tmp 39, .tmp 43]) rfl ?_); at_builtin; refine Kd.R_append_rows (Kd.int .i64) (w0 := w) w.heap.size rfl (.tmp 39) (.tmp 43) 22 3 (.int .i64 0) 8 rfl Try.underlying22 info3 rfl (by decide) (by omega) v352 y351 (rd_L2 t339 t342) _ _ _ (fun k_ => (w.heap.size ≤ k_) ∧ some k_ ≠ (v349 : Value).ownBlock) (fun _ => False) rfl rfl ?aO ?aR (fun _ _ h => h) (fun _ h => h.elim) ?aF ?aB ?aS ?aL ?_; (case aR => exact co HR354_0.out); (case aB => exact bw); (case aF => exact (fun k_ hk => ⟨(Nat.le_trans (below_size bw) hk), Kd.fresh' (Kd.R_lt (ro HO350.out)) k_ hk⟩)); (case aO => exact (by (with_reducible repeat (first | apply Kd.R_alloc | apply Kd.R_drewN | apply Kd.R_drew)); exact Kd.R_mono HO353.out (fun _ hk => by first | exact ⟨hk.1.1, hk.2⟩ | simp_all))); (case aS => exact (below_size bw)); (case aL => have := LMc21.out; omega); intro v356 w26 ho hb hg hat; rw [← Ny355.out] at ho; replace HO_10 := am (Kd.N_afterv (ok := (fun k_ => (w.heap.size ≤ k_) ∧ some k_ ≠ (v349 : Value).ownBlock ∧ k_ ≠ gb338)) (by (with_reducible repeat (first | apply Kd.N_alloc | apply Kd.N_drewN | apply Kd.N_drew)); exact Kd.N_mono HO_10.out (fun _ hk => ⟨⟨hk.1.1.1, ⟨hk.1.2, hk.1.1.2⟩⟩, hk.2⟩)) hg hat); replace BK338 := am (blk_grown (g := gb338) (o := .cells #[.slice A0_0 l0_0.length c0_0] 27 (0, 0)) (bo BK338.out) hg (Kd.R_ne HO353.out BK338.out (by decide))); replace HO350 := am (Kd.R_after (ok := (fun k_ => (w.heap.size ≤ k_))) (by (with_reducible repeat (first | apply Kd.R_alloc | apply Kd.R_drewN | apply Kd.R_drew)); exact Kd.R_mono HO350.out (fun _ hk => by first | exact ⟨hk.1.1, hk.2⟩ | simp_all)) hg hat); replace HL354_0 := am (Kd.V_afterv (ok := (fun k_ => (w.heap.size ≤ k_) ∧ some k_ ≠ (.slice (some ad354) t339.length co12 : Value).ownBlock ∧ some k_ ≠ (v349 : Value).ownBlock ∧ k_ ≠ gb338)) (by (with_reducible repeat (first | apply Kd.V_alloc | apply Kd.V_drewN | apply Kd.V_drew)); exact Kd.V_mono HL354_0.out (fun _ hk => ⟨⟨hk.1.1.1.1, ⟨hk.2, ⟨hk.1.1.2, hk.1.1.1.2⟩⟩⟩, hk.1.2⟩)) hg hat); replace HB := am (hb); have HO357 := am (ho); clear HO353 ho hb hg hat; obtain ⟨Ao27, co27, eo27⟩ := Kd.R_slice HO357.out; subst eo27) | ((with_reducible refine gate_dst (N := 45) rfl ?_); refine Kd.N_lit (Kd.slice 3 (Kd.int .i64)) _ 22 ?hg (N' := 45) ?hd (xs := ([y355] : List (List Int))) (inner := [.slice Ao27 y355.length co27]) (ok := (fun k_ => (w.heap.size ≤ k_) ∧ some k_ ≠ (.slice (some ad354) t339.length co12 : Value).ownBlock ∧ some k_ ≠ (v349 : Value).ownBlock ∧ k_ ≠ gb338)) (okp := (fun k_ => (w.heap.size ≤ k_) ∧ some k_ ≠ (.slice (some ad354) t339.length co12 : Value).ownBlock ∧ some k_ ≠ (v349 : Value).ownBlock ∧ k_ ≠ gb338)) ?hr ?hp (fun _ hk => hk) ((show ∀ k_, w26.heap.size ≤ k_ → (fun k_ => (w.heap.size ≤ k_) ∧ some k_ ≠ (.slice (some ad354) t339.length co12 : Value).ownBlock ∧ some k_ ≠ (v349 : Value).ownBlock ∧ k_ ≠ gb338) k_ from fun k_ hk => ⟨(Nat.le_trans (below_size bw) hk), Kd.fresh' (Kd.N_lt (no HO_10.out)) k_ hk, Kd.fresh' (Kd.R_lt (ro HO350.out)) k_ hk, Kd.freshB (g := gb338) (o := .cells #[.slice A0_0 l0_0.length c0_0] 27 (0, 0)) (bo BK338.out) k_ hk⟩) _ (Nat.le_refl _)) (Below.refl _ _) (Nat.le_refl _) (by simp) ?_; (case hd => rfl); (case hg => rfl); (case hr => first | (go_simp; done) | (go_simp; rfl)); (case hp => exact (Reps.one (show Kd.FK (Kd.slice 3 (Kd.int .i64)) _ _ y355 [.slice Ao27 y355.length co27] from (Kd.FK_slice_mk (Kd.R_reads' (Kd.R_mono (ok' := (fun k_ => (w.heap.size ≤ k_) ∧ some k_ ≠ (.slice (some ad354) t339.length co12 : Value).ownBlock ∧ some k_ ≠ (v349 : Value).ownBlock ∧ k_ ≠ gb338)) (Kd.R_types (Kd.R_apart' (HO357.out) (Kd.N_typed HO_10.out) (by decide)) BK338.out (by decide)) (fun k_ hk => ⟨hk.1.1.1, ⟨hk.1.2, ⟨hk.1.1.2, hk.2⟩⟩⟩))).2.1 (Kd.R_F (Kd.R_mono (ok' := (fun k_ => (w.heap.size ≤ k_) ∧ some k_ ≠ (.slice (some ad354) t339.length co12 : Value).ownBlock ∧ some k_ ≠ (v349 : Value).ownBlock ∧ k_ ≠ gb338)) (Kd.R_types (Kd.R_apart' (HO357.out) (Kd.N_typed HO_10.out) (by decide)) BK338.out (by decide)) (fun k_ hk => ⟨hk.1.1.1, ⟨hk.1.2, ⟨hk.1.1.2, hk.2⟩⟩⟩))))) (Reps.none _ _))); intro v359 w28 ho29 hb hg_ hnew_; clear hg_ hnew_; (first | rw [← Ny358.out] at ho29 | (simp only [Int.reduceToNat] at ho29; rw [← Ny358.out] at ho29)); replace HO_10 := am (Kd.N_elder' (no HO_10.out) (Kd.N_base ho29) hb); replace HO350 := rK HO350 hb; replace HL354_0 := am (Kd.V_elder' (vo HL354_0.out) (Kd.N_base ho29) hb); have HO360 := am (Kd.N_lower ho29 (below_size bw)); replace BK338 := kb BK338 hb; replace HB := am (below_step bw hb); clear HO357 hb ho29))
   repeat (go_quiet (first | (go_at_call 89; (with_reducible refine (spec_l13Degree.calls kj7 _ _ t339 t347 _ ?side1 ?side2 A17.out).mono ?_); (case side1 => exact co (Kd.N_reads' HO_10.out).2.2); (case side2 => exact (Kd.N_reads' HO_10.out).2.1); rintro e w22 ⟨rfl, hb⟩; have n0_ := am (Kd.N_below (no HO_10.out) hb); have n1_ := am (blk_below (g := gb338) (o := .cells #[.slice A0_0 l0_0.length c0_0] 27 (0, 0)) (bo BK338.out) hb); have n2_ := am (below_step bw hb); clear HO_10 BK338 HB; have HO_10 := n0_; have BK338 := n1_; have HB := n2_; clear n0_ n1_ n2_; (try clear hb); (try clear hb2); (try clear hk); (try clear hi)) | (go_at_call 90; (with_reducible refine (spec_l13Far.calls kj7 _ _ t339 t343 t347 t348 _ ?side1 ?side2 A18.out).mono ?_); (case side1 => exact co (Kd.N_reads' HO_10.out).2.2); (case side2 => exact (Kd.N_reads' HO_10.out).2.1); rintro e w23 ⟨v349, rfl, ho0, hb⟩; have n0_ := am (Kd.N_elder' (no HO_10.out) (Kd.R_base ho0) hb); have n1_ := am (Kd.R_lower (Kd.R_newM (M := fun k_ => (w.heap.size ≤ k_)) ho0 (below_size bw) (fun k_ h_ => h_)) (below_size bw)); have n2_ := am (blk_below (g := gb338) (o := .cells #[.slice A0_0 l0_0.length c0_0] 27 (0, 0)) (bo BK338.out) hb); have n3_ := am (below_step bw hb); clear HO_10 BK338 HB; have HO_10 := n0_; have HO350 := n1_; have BK338 := n2_; have HB := n3_; clear n0_ n1_ n2_ n3_; (try clear hb); (try clear hb2); (try clear hk); (try clear hi); (try clear ho0))); try go_wp2_with (first | (go_at_call 89; (with_reducible refine (spec_l13Degree.calls kj7 _ _ t339 t347 _ ?side1 ?side2 A17.out).mono ?_); (case side1 => exact co (Kd.N_reads' HO_10.out).2.2); (case side2 => exact (Kd.N_reads' HO_10.out).2.1); rintro e w22 ⟨rfl, hb⟩; have n0_ := am (Kd.N_below (no HO_10.out) hb); have n1_ := am (blk_below (g := gb338) (o := .cells #[.slice A0_0 l0_0.length c0_0] 27 (0, 0)) (bo BK338.out) hb); have n2_ := am (below_step bw hb); clear HO_10 BK338 HB; have HO_10 := n0_; have BK338 := n1_; have HB := n2_; clear n0_ n1_ n2_; (try clear hb); (try clear hb2); (try clear hk); (try clear hi)) | (go_at_call 90; (with_reducible refine (spec_l13Far.calls kj7 _ _ t339 t343 t347 t348 _ ?side1 ?side2 A18.out).mono ?_); (case side1 => exact co (Kd.N_reads' HO_10.out).2.2); (case side2 => exact (Kd.N_reads' HO_10.out).2.1); rintro e w23 ⟨v349, rfl, ho0, hb⟩; have n0_ := am (Kd.N_elder' (no HO_10.out) (Kd.R_base ho0) hb); have n1_ := am (Kd.R_lower (Kd.R_newM (M := fun k_ => (w.heap.size ≤ k_)) ho0 (below_size bw) (fun k_ h_ => h_)) (below_size bw)); have n2_ := am (blk_below (g := gb338) (o := .cells #[.slice A0_0 l0_0.length c0_0] 27 (0, 0)) (bo BK338.out) hb); have n3_ := am (below_step bw hb); clear HO_10 BK338 HB; have HO_10 := n0_; have HO350 := n1_; have BK338 := n2_; have HB := n3_; clear n0_ n1_ n2_ n3_; (try clear hb); (try clear hb2); (try clear hk); (try clear hi); (try clear ho0)) | ((with_reducible refine gate_dst (N := 39) rfl ?_); refine Kd.R_lit (Kd.int .i64) _ 3 ?hg (N := 39) ?hd (xs := ([] : List Int)) (inner := []) (ok := fun _ => True) (okp := fun _ => True) ?hr ?hp (fun _ hk => hk) trivial (Below.refl _ _) (Nat.le_refl _) (by simp) ?_; (case hd => rfl); (case hg => rfl); (case hr => first | (go_simp; done) | (go_simp; rfl)); (case hp => exact (Reps.none _ _)); intro v352 w24 ho25 hb hg_ hnew_; clear hg_ hnew_; (first | rw [← Ny351.out] at ho25 | (simp only [Int.reduceToNat] at ho25; rw [← Ny351.out] at ho25)); have n0_ := am (Kd.N_elder' (no HO_10.out) (Kd.R_base ho25) hb); have n1_ := am (Kd.R_elder' (ro HO350.out) (Kd.R_base ho25) hb); have n2_ := am (Kd.R_lower (Kd.R_new' (Kd.R_newM (M := fun k_ => (w.heap.size ≤ k_)) ho25 (below_size bw) (fun k_ h_ => h_)) (Kd.R_lt (ro HO350.out))) (below_size bw)); have n3_ := am (blk_below (g := gb338) (o := .cells #[.slice A0_0 l0_0.length c0_0] 27 (0, 0)) (bo BK338.out) hb); have n4_ := am (below_step bw hb); clear HO_10 HO350 BK338 HB; have HO_10 := n0_; have HO350 := n1_; have HO353 := n2_; have BK338 := n3_; have HB := n4_; clear n0_ n1_ n2_ n3_ n4_; clear hb ho25; have p354 : 0 ≤ (t342 : Int) := of_decide_eq_true (by first | (with_reducible assumption) | assumption); have q354 : t342 < (t339.length : Int) := of_decide_eq_true (by first | (with_reducible assumption) | assumption); obtain ⟨ad354, A354_0, c354_0, e354, hx354_0, hl354_0, hi354_0⟩ := at_L2 (Kd.N_reads' HO_10.out).2.2 t342 p354 q354; cases e354; obtain ⟨ce354, hce354, hMe354, hcc354⟩ := Kd.N_get HO_10.out [] t342 p354 (by first | exact q354 | exact of_decide_eq_true (by first | (with_reducible assumption) | assumption) | (have e_ := (Kd.N_reads' HO_10.out).1; omega)); obtain ⟨ua354_0, uc354_0, rfl, ul354_0, ge354_0⟩ := Kd.FK_slice_open hMe354; have hv354_0 := hcc354 0 _ rfl; rw [Nat.add_zero, show ((Kd.slice 3 (Kd.int .i64))).sz = 1 from rfl, Nat.mul_one] at hv354_0; replace hv354_0 := Option.some.inj (hv354_0.symm.trans hx354_0); injection hv354_0 with hva_ hvn_ hvc_; rw [hva_] at ge354_0; rw [hvc_] at ul354_0; have HL354_0 := am (show Kd.V (Kd.int .i64) 3 _ w.heap.size _ _ (rd_L2 t339 t342) from Kd.V_mk ul354_0 ge354_0); clear hva_ hvn_ hvc_ ge354_0 ul354_0; clear hcc354 hce354; have HR354_0 := am hi354_0; have HC354_0 := am hl354_0; clear hi354_0 hl354_0; replace p354 := eq_true p354; replace q354 := eq_true q354) | ((with_reducible refine gate_builtin (b := .append) (xs := #[.tmp 39, .tmp 43]) rfl ?_); at_builtin; refine Kd.R_append_rows (Kd.int .i64) (w0 := w) w.heap.size rfl (.tmp 39) (.tmp 43) 22 3 (.int .i64 0) 8 rfl Try.underlying22 info3 rfl (by decide) (by omega) v352 y351 (rd_L2 t339 t342) _ _ _ (fun k_ => (w.heap.size ≤ k_) ∧ some k_ ≠ (v349 : Value).ownBlock) (fun _ => False) rfl rfl ?aO ?aR (fun _ _ h => h) (fun _ h => h.elim) ?aF ?aB ?aS ?aL ?_; (case aR => exact co HR354_0.out); (case aB => exact bw); (case aF => exact (fun k_ hk => ⟨(Nat.le_trans (below_size bw) hk), Kd.fresh' (Kd.R_lt (ro HO350.out)) k_ hk⟩)); (case aO => exact (by (with_reducible repeat (first | apply Kd.R_alloc | apply Kd.R_drewN | apply Kd.R_drew)); exact Kd.R_mono HO353.out (fun _ hk => by first | exact ⟨hk.1.1, hk.2⟩ | simp_all))); (case aS => exact (below_size bw)); (case aL => have := LMc21.out; omega); intro v356 w26 ho hb hg hat; rw [← Ny355.out] at ho; have n0_ := am (Kd.N_afterv (ok := (fun k_ => (w.heap.size ≤ k_) ∧ some k_ ≠ (v349 : Value).ownBlock ∧ k_ ≠ gb338)) (by (with_reducible repeat (first | apply Kd.N_alloc | apply Kd.N_drewN | apply Kd.N_drew)); exact Kd.N_mono HO_10.out (fun _ hk => ⟨⟨hk.1.1.1, ⟨hk.1.2, hk.1.1.2⟩⟩, hk.2⟩)) hg hat); have n1_ := am (blk_grown (g := gb338) (o := .cells #[.slice A0_0 l0_0.length c0_0] 27 (0, 0)) (bo BK338.out) hg (Kd.R_ne HO353.out BK338.out (by decide))); have n2_ := am (Kd.R_after (ok := (fun k_ => (w.heap.size ≤ k_))) (by (with_reducible repeat (first | apply Kd.R_alloc | apply Kd.R_drewN | apply Kd.R_drew)); exact Kd.R_mono HO350.out (fun _ hk => by first | exact ⟨hk.1.1, hk.2⟩ | simp_all)) hg hat); have n3_ := am (Kd.V_afterv (ok := (fun k_ => (w.heap.size ≤ k_) ∧ some k_ ≠ (.slice (some ad354) t339.length co12 : Value).ownBlock ∧ some k_ ≠ (v349 : Value).ownBlock ∧ k_ ≠ gb338)) (by (with_reducible repeat (first | apply Kd.V_alloc | apply Kd.V_drewN | apply Kd.V_drew)); exact Kd.V_mono HL354_0.out (fun _ hk => ⟨⟨hk.1.1.1.1, ⟨hk.2, ⟨hk.1.1.2, hk.1.1.1.2⟩⟩⟩, hk.1.2⟩)) hg hat); have n4_ := am (hb); have n5_ := am (ho); clear HO_10 BK338 HO350 HL354_0 HB HO353; have HO_10 := n0_; have BK338 := n1_; have HO350 := n2_; have HL354_0 := n3_; have HB := n4_; have HO357 := n5_; clear n0_ n1_ n2_ n3_ n4_ n5_; clear ho hb hg hat; obtain ⟨Ao27, co27, eo27⟩ := Kd.R_slice HO357.out; subst eo27) | ((with_reducible refine gate_dst (N := 45) rfl ?_); refine Kd.N_lit (Kd.slice 3 (Kd.int .i64)) _ 22 ?hg (N' := 45) ?hd (xs := ([y355] : List (List Int))) (inner := [.slice Ao27 y355.length co27]) (ok := (fun k_ => (w.heap.size ≤ k_) ∧ some k_ ≠ (.slice (some ad354) t339.length co12 : Value).ownBlock ∧ some k_ ≠ (v349 : Value).ownBlock ∧ k_ ≠ gb338)) (okp := (fun k_ => (w.heap.size ≤ k_) ∧ some k_ ≠ (.slice (some ad354) t339.length co12 : Value).ownBlock ∧ some k_ ≠ (v349 : Value).ownBlock ∧ k_ ≠ gb338)) ?hr ?hp (fun _ hk => hk) ((show ∀ k_, w26.heap.size ≤ k_ → (fun k_ => (w.heap.size ≤ k_) ∧ some k_ ≠ (.slice (some ad354) t339.length co12 : Value).ownBlock ∧ some k_ ≠ (v349 : Value).ownBlock ∧ k_ ≠ gb338) k_ from fun k_ hk => ⟨(Nat.le_trans (below_size bw) hk), Kd.fresh' (Kd.N_lt (no HO_10.out)) k_ hk, Kd.fresh' (Kd.R_lt (ro HO350.out)) k_ hk, Kd.freshB (g := gb338) (o := .cells #[.slice A0_0 l0_0.length c0_0] 27 (0, 0)) (bo BK338.out) k_ hk⟩) _ (Nat.le_refl _)) (Below.refl _ _) (Nat.le_refl _) (by simp) ?_; (case hd => rfl); (case hg => rfl); (case hr => first | (go_simp; done) | (go_simp; rfl)); (case hp => exact (Reps.one (show Kd.FK (Kd.slice 3 (Kd.int .i64)) _ _ y355 [.slice Ao27 y355.length co27] from (Kd.FK_slice_mk (Kd.R_reads' (Kd.R_mono (ok' := (fun k_ => (w.heap.size ≤ k_) ∧ some k_ ≠ (.slice (some ad354) t339.length co12 : Value).ownBlock ∧ some k_ ≠ (v349 : Value).ownBlock ∧ k_ ≠ gb338)) (Kd.R_types (Kd.R_apart' (HO357.out) (Kd.N_typed HO_10.out) (by decide)) BK338.out (by decide)) (fun k_ hk => ⟨hk.1.1.1, ⟨hk.1.2, ⟨hk.1.1.2, hk.2⟩⟩⟩))).2.1 (Kd.R_F (Kd.R_mono (ok' := (fun k_ => (w.heap.size ≤ k_) ∧ some k_ ≠ (.slice (some ad354) t339.length co12 : Value).ownBlock ∧ some k_ ≠ (v349 : Value).ownBlock ∧ k_ ≠ gb338)) (Kd.R_types (Kd.R_apart' (HO357.out) (Kd.N_typed HO_10.out) (by decide)) BK338.out (by decide)) (fun k_ hk => ⟨hk.1.1.1, ⟨hk.1.2, ⟨hk.1.1.2, hk.2⟩⟩⟩))))) (Reps.none _ _))); intro v359 w28 ho29 hb hg_ hnew_; clear hg_ hnew_; (first | rw [← Ny358.out] at ho29 | (simp only [Int.reduceToNat] at ho29; rw [← Ny358.out] at ho29)); have n0_ := am (Kd.N_elder' (no HO_10.out) (Kd.N_base ho29) hb); have n1_ := am (Kd.R_below (ro HO350.out) hb); have n2_ := am (Kd.V_elder' (vo HL354_0.out) (Kd.N_base ho29) hb); have n3_ := am (Kd.N_lower ho29 (below_size bw)); have n4_ := am (blk_below (g := gb338) (o := .cells #[.slice A0_0 l0_0.length c0_0] 27 (0, 0)) (bo BK338.out) hb); have n5_ := am (below_step bw hb); clear HO_10 HO350 HL354_0 BK338 HB HO357; have HO_10 := n0_; have HO350 := n1_; have HL354_0 := n2_; have HO360 := n3_; have BK338 := n4_; have HB := n5_; clear n0_ n1_ n2_ n3_ n4_ n5_; clear hb ho29)))
   go_loopg [11, 15] kj7 (fun kq v11 v15 w' => ∃ (x11_2 : Int) (x15_2 : List (List Int)), v11 = .int .i64 x11_2 ∧ Aside0 (spec_ChainOf.l0 kq t339 x11_2 t343 t347 t348 x15_2 = some (r1, r2)) ∧ Aside0 (kq ≤ kj7) ∧ Aside0 (Kd.N (Kd.slice 3 (Kd.int .i64)) 22 w' w.heap.size (fun k_ => (w.heap.size ≤ k_) ∧ some k_ ≠ (v349 : Value).ownBlock ∧ some k_ ≠ (v15 : Value).ownBlock ∧ k_ ≠ gb338) (.slice (some ad354) t339.length co12) t339) ∧ Aside0 (Kd.R (Kd.int .i64) 3 w' w.heap.size (fun k_ => (w.heap.size ≤ k_)) v349 t348) ∧ Aside0 (Kd.N (Kd.slice 3 (Kd.int .i64)) 22 w' w.heap.size (fun k_ => (w.heap.size ≤ k_) ∧ some k_ ≠ ((.slice (some ad354) t339.length co12) : Value).ownBlock ∧ some k_ ≠ (v349 : Value).ownBlock ∧ k_ ≠ gb338) v15 x15_2) ∧ Aside0 (w'.heap[gb338]? = some (.cells #[(.slice A0_0 l0_0.length c0_0)] 27 (0, 0))) ∧ Aside0 (Below w.heap.size w w'))
   case atStart => exact ⟨(t342), (y358), rr, H', ⟨Nat.le_refl _⟩, ⟨by (with_reducible repeat (first | apply Kd.N_alloc | apply Kd.N_drewN | apply Kd.N_drew)); exact Kd.N_mono HO_10.out (fun _ hk => ⟨hk.1.1.1, ⟨hk.1.1.2.1, ⟨hk.2, hk.1.1.2.2⟩⟩⟩)⟩, ⟨by (with_reducible repeat (first | apply Kd.R_alloc | apply Kd.R_drewN | apply Kd.R_drew)); exact Kd.R_mono HO350.out (fun _ hk => hk.1)⟩, ⟨no HO360.out⟩, ⟨bo BK338.out⟩, ⟨bw⟩⟩
   case round =>
    clear H'
    try clear c2; try clear c3; try clear c13b0; try clear c19b0; try clear c20b0; try clear c21; try clear hcz10_0; try clear hfz10_0; try clear hx354_0; try clear p354; try clear q354
    obtain ⟨x11_2, x15_2, rfl, HA, HK2, HO_10, HO_14, HO_15, BK338, HB⟩ := hrel
    cases gk with
    | zero => exact absurd HA.out (by simp [spec_ChainOf.l0])
    | succ k2 =>
     have H := HA.out
     clear HA
     simp only [spec_ChainOf.l0] at H
     by_cases c30 : x11_2 = t343
     ·rw [if_pos c30] at H
      have c30b0 : (x11_2 == t343) = true := beq_iff_eq.mpr c30
      have c30b1 : (x11_2 != t343) = false := bne_eq_false_iff_eq.mpr c30
      clear c30
      simp only [Option.some.injEq, Prod.mk.injEq] at H
      obtain ⟨rfl, rfl⟩ := H
      go_wp2
      repeat (go_quiet (fail); try go_wp2)
      go_ret2
      exact ⟨_, re, by (with_reducible repeat (first | apply Kd.N_alloc | apply Kd.N_drewN | apply Kd.N_drew)); exact Kd.N_mono HO_15.out (fun _ hk => hk.1), bw⟩
     rw [if_neg c30] at H
     have c30b0 : (x11_2 == t343) = false := beq_eq_false_iff_ne.mpr c30
     have c30b1 : (x11_2 != t343) = true := bne_iff_ne.mpr c30
     have H' := am H
     clear H
     go_wp2
     repeat (go_quiet (fail); try go_wp2)
     go_loopg [16] k2 (fun kq v16 w' => ∃ (x16_3 : Int), v16 = .int .i64 x16_3 ∧ Aside0 (spec_ChainOf.l1 kq t339 x11_2 t343 t347 t348 x15_2 x16_3 = some (r1, r2)) ∧ Aside0 (kq ≤ k2) ∧ Aside0 (Kd.N (Kd.slice 3 (Kd.int .i64)) 22 w' w.heap.size (fun k_ => (w.heap.size ≤ k_) ∧ some k_ ≠ (v349 : Value).ownBlock ∧ some k_ ≠ (u15 : Value).ownBlock ∧ k_ ≠ gb338) (.slice (some ad354) t339.length co12) t339) ∧ Aside0 (Kd.R (Kd.int .i64) 3 w' w.heap.size (fun k_ => (w.heap.size ≤ k_)) v349 t348) ∧ Aside0 (Kd.N (Kd.slice 3 (Kd.int .i64)) 22 w' w.heap.size (fun k_ => (w.heap.size ≤ k_) ∧ some k_ ≠ ((.slice (some ad354) t339.length co12) : Value).ownBlock ∧ some k_ ≠ (v349 : Value).ownBlock ∧ k_ ≠ gb338) u15 x15_2) ∧ Aside0 (w'.heap[gb338]? = some (.cells #[(.slice A0_0 l0_0.length c0_0)] 27 (0, 0))) ∧ Aside0 (Below w.heap.size w w'))
     case atStart => exact ⟨(0), rr, H', ⟨Nat.le_refl _⟩, ⟨no HO_10.out⟩, ⟨ro HO_14.out⟩, ⟨no HO_15.out⟩, ⟨bo BK338.out⟩, ⟨bw⟩⟩
     case round =>
      clear H'
      try clear c2; try clear c3; try clear c13b0; try clear c19b0; try clear c20b0; try clear c21; try clear c30; try clear c30b0; try clear c30b1; try clear hcz10_0; try clear hfz10_0; try clear hx354_0; try clear p354; try clear q354
      obtain ⟨x16_3, rfl, HA, HK3, HO_10, HO_14, HO_15, BK338, HB⟩ := hrel
      cases gk with
      | zero => exact absurd HA.out (by simp [spec_ChainOf.l1])
      | succ k3 =>
       have H := HA.out
       clear HA
       simp only [spec_ChainOf.l1] at H
       replace H := gd H; obtain ⟨c31b0, H⟩ := H
       replace H := gd H; obtain ⟨c32b0, H⟩ := H
       replace H := gd H; obtain ⟨c33b0, H⟩ := H
       replace H := gd H; obtain ⟨c34b0, H⟩ := H
       by_cases c35 : (rd t348 x16_3) = (wrap64 ((rd t348 x11_2) - 1))
       ·rw [if_pos c35] at H
        have c35b0 : ((rd t348 x16_3) == (wrap64 ((rd t348 x11_2) - 1))) = true := beq_iff_eq.mpr c35
        have c35b1 : ((rd t348 x16_3) != (wrap64 ((rd t348 x11_2) - 1))) = false := bne_eq_false_iff_eq.mpr c35
        clear c35
        replace H := gd H; obtain ⟨c36b0, H⟩ := H
        replace H := gd H; obtain ⟨c37b0, H⟩ := H
        replace H := ga H; obtain ⟨t365, A38, H⟩ := H
        replace H := gj H; obtain ⟨c39, H⟩ | ⟨c39, H⟩ := H
        ·have c39b0 : decide (t347 < t365) = true := decide_eq_true c39
         clear c39
         have H' := am H
         clear H
         obtain ⟨Ao40, co40, eo40⟩ := Kd.R_slice HO_14.out
         subst eo40
         obtain ⟨⟨ad361, e361, hx361_0⟩, p361, q361⟩ := pq (Kd.at_int (Kd.R_reads' HO_14.out).2.2 x16_3)
         cases e361
         obtain ⟨⟨ad362, e362, hx362_0⟩, p362, q362⟩ := pq (Kd.at_int (Kd.R_reads' HO_14.out).2.2 x11_2)
         obtain rfl : ad361 = ad362 := (by injection e362)
         have p363 : 0 ≤ (x11_2 : Int) := of_decide_eq_true (by first | (with_reducible assumption) | assumption)
         have q363 : x11_2 < (t339.length : Int) := of_decide_eq_true (by first | (with_reducible assumption) | assumption)
         obtain ⟨ad363, A363_0, c363_0, e363, hx363_0, hl363_0, hi363_0⟩ := at_L2 (Kd.N_reads' HO_10.out).2.2 x11_2 p363 q363
         obtain rfl : ad354 = ad363 := (by injection e363)
         obtain ⟨ce363, hce363, hMe363, hcc363⟩ := Kd.N_get HO_10.out [] x11_2 p363 (by first | exact q363 | exact of_decide_eq_true (by first | (with_reducible assumption) | assumption) | (have e_ := (Kd.N_reads' HO_10.out).1; omega))
         obtain ⟨ua363_0, uc363_0, rfl, ul363_0, ge363_0⟩ := Kd.FK_slice_open hMe363
         have hv363_0 := hcc363 0 _ rfl
         rw [Nat.add_zero, show ((Kd.slice 3 (Kd.int .i64))).sz = 1 from rfl, Nat.mul_one] at hv363_0
         replace hv363_0 := Option.some.inj (hv363_0.symm.trans hx363_0)
         injection hv363_0 with hva_ hvn_ hvc_
         rw [hva_] at ge363_0
         rw [hvc_] at ul363_0
         have HL363_0 := am (show Kd.V (Kd.int .i64) 3 _ w.heap.size _ _ (rd_L2 t339 x11_2) from Kd.V_mk ul363_0 ge363_0)
         clear hva_ hvn_ hvc_ ge363_0 ul363_0
         clear hcc363 hce363
         have HR363_0 := am hi363_0
         have HC363_0 := am hl363_0
         clear hi363_0 hl363_0
         replace p363 := eq_true p363
         replace q363 := eq_true q363
         have p364 : 0 ≤ (x16_3 : Int) := of_decide_eq_true (by first | (with_reducible assumption) | assumption)
         have q364 : x16_3 < (t339.length : Int) := of_decide_eq_true (by first | (with_reducible assumption) | assumption)
         obtain ⟨ad364, A364_0, c364_0, e364, hx364_0, hl364_0, hi364_0⟩ := at_L2 (Kd.N_reads' HO_10.out).2.2 x16_3 p364 q364
         obtain rfl : ad354 = ad364 := (by injection e364)
         obtain ⟨ce364, hce364, hMe364, hcc364⟩ := Kd.N_get HO_10.out [] x16_3 p364 (by first | exact q364 | exact of_decide_eq_true (by first | (with_reducible assumption) | assumption) | (have e_ := (Kd.N_reads' HO_10.out).1; omega))
         obtain ⟨ua364_0, uc364_0, rfl, ul364_0, ge364_0⟩ := Kd.FK_slice_open hMe364
         have hv364_0 := hcc364 0 _ rfl
         rw [Nat.add_zero, show ((Kd.slice 3 (Kd.int .i64))).sz = 1 from rfl, Nat.mul_one] at hv364_0
         replace hv364_0 := Option.some.inj (hv364_0.symm.trans hx364_0)
         injection hv364_0 with hva_ hvn_ hvc_
         rw [hva_] at ge364_0
         rw [hvc_] at ul364_0
         have HL364_0 := am (show Kd.V (Kd.int .i64) 3 _ w.heap.size _ _ (rd_L2 t339 x16_3) from Kd.V_mk ul364_0 ge364_0)
         clear hva_ hvn_ hvc_ ge364_0 ul364_0
         clear hcc364 hce364
         have HR364_0 := am hi364_0
         have HC364_0 := am hl364_0
         clear hi364_0 hl364_0
         replace p364 := eq_true p364
         replace q364 := eq_true q364
         go_wp2_with (first | (go_at_call 91; (with_reducible refine (spec_DistanceOf.calls k3 _ _ (rd_L2 t339 x11_2) _ _ (rd_L2 t339 x16_3) t365 _ ?side1 ?side2 ?side3 ?side4 A38.out).mono ?_); (case side1 => exact co HR363_0.out); (case side2 => exact HC363_0.out); (case side3 => exact co HR364_0.out); (case side4 => exact HC364_0.out); rintro e w' ⟨rfl, ⟨nd, rfl⟩⟩; (try first | exact ⟨rfl, _, World.drewN_drewN _ _ _⟩ | exact ⟨rfl, _, Eq.trans (World.drewN_drewN _ _ _) (congrArg (World.drewN _) (Nat.add_assoc _ _ _))⟩)))
         repeat (go_quiet (first | (go_at_call 91; (with_reducible refine (spec_DistanceOf.calls k3 _ _ (rd_L2 t339 x11_2) _ _ (rd_L2 t339 x16_3) t365 _ ?side1 ?side2 ?side3 ?side4 A38.out).mono ?_); (case side1 => exact co HR363_0.out); (case side2 => exact HC363_0.out); (case side3 => exact co HR364_0.out); (case side4 => exact HC364_0.out); rintro e w' ⟨rfl, ⟨nd, rfl⟩⟩; (try first | exact ⟨rfl, _, World.drewN_drewN _ _ _⟩ | exact ⟨rfl, _, Eq.trans (World.drewN_drewN _ _ _) (congrArg (World.drewN _) (Nat.add_assoc _ _ _))⟩))); try go_wp2_with (first | (go_at_call 91; (with_reducible refine (spec_DistanceOf.calls k3 _ _ (rd_L2 t339 x11_2) _ _ (rd_L2 t339 x16_3) t365 _ ?side1 ?side2 ?side3 ?side4 A38.out).mono ?_); (case side1 => exact co HR363_0.out); (case side2 => exact HC363_0.out); (case side3 => exact co HR364_0.out); (case side4 => exact HC364_0.out); rintro e w' ⟨rfl, ⟨nd, rfl⟩⟩; (try first | exact ⟨rfl, _, World.drewN_drewN _ _ _⟩ | exact ⟨rfl, _, Eq.trans (World.drewN_drewN _ _ _) (congrArg (World.drewN _) (Nat.add_assoc _ _ _))⟩))))
         go_roundg k3
         case measure => have := HJ7.out; have := HK2.out; have := HK3.out; omega
         case rel => exact ⟨(wrap64 (x16_3 + 1)), rr, H', ⟨by have := HJ7.out; have := HK2.out; have := HK3.out; omega⟩, ⟨no HO_10.out⟩, ⟨ro HO_14.out⟩, ⟨no HO_15.out⟩, ⟨bo BK338.out⟩, ⟨bw⟩⟩
        have c39b0 : decide (t347 < t365) = false := decide_eq_false c39
        clear c39
        obtain ⟨y366, hy366⟩ : ∃ y_ : List Int, y_ = (([] : List Int)) := ⟨_, rfl⟩
        replace H : (if y366.length + (rd_L2 t339 x16_3).length < 17592186044416 then (if x15_2.length < 5864062014805 then (spec_ChainOf.l0 k3 t339 x16_3 t343 t347 t348 (x15_2 ++ [(y366 ++ (rd_L2 t339 x16_3))])) else (none)) else (none)) = some (r1, r2) := by first | (rw [hy366]; with_reducible first | exact H | exact bs H) | (with_reducible first | exact bs H | exact H) | (rw [hy366]; exact H) | exact H
        have Ny366 := am hy366
        clear hy366
        by_cases c41 : y366.length + (rd_L2 t339 x16_3).length < 17592186044416
        rotate_left
        ·rw [if_neg c41] at H
         exact absurd H (by simp)
        rw [if_pos c41] at H
        have LMc41 := am c41
        clear c41
        obtain ⟨y370, hy370⟩ : ∃ y_ : List Int, y_ = (y366 ++ (rd_L2 t339 x16_3)) := ⟨_, rfl⟩
        replace H : (if x15_2.length < 5864062014805 then (spec_ChainOf.l0 k3 t339 x16_3 t343 t347 t348 (x15_2 ++ [y370])) else (none)) = some (r1, r2) := by first | (rw [hy370]; with_reducible first | exact H | exact bs H) | (with_reducible first | exact bs H | exact H) | (rw [hy370]; exact H) | exact H
        have Ny370 := am hy370
        clear hy370
        by_cases c42 : x15_2.length < 5864062014805
        rotate_left
        ·rw [if_neg c42] at H
         exact absurd H (by simp)
        rw [if_pos c42] at H
        have LMc42 := am c42
        clear c42
        obtain ⟨y373, hy373⟩ : ∃ y_ : List (List Int), y_ = (x15_2 ++ [y370]) := ⟨_, rfl⟩
        replace H : (spec_ChainOf.l0 k3 t339 x16_3 t343 t347 t348 y373) = some (r1, r2) := by first | (rw [hy373]; with_reducible first | exact H | exact bs H) | (with_reducible first | exact bs H | exact H) | (rw [hy373]; exact H) | exact H
        have Ny373 := am hy373
        clear hy373
        have H' := am H
        clear H
        obtain ⟨Ao43, co43, eo43⟩ := Kd.R_slice HO_14.out
        subst eo43
        obtain ⟨⟨ad361, e361, hx361_0⟩, p361, q361⟩ := pq (Kd.at_int (Kd.R_reads' HO_14.out).2.2 x16_3)
        cases e361
        obtain ⟨⟨ad362, e362, hx362_0⟩, p362, q362⟩ := pq (Kd.at_int (Kd.R_reads' HO_14.out).2.2 x11_2)
        obtain rfl : ad361 = ad362 := (by injection e362)
        have p363 : 0 ≤ (x11_2 : Int) := of_decide_eq_true (by first | (with_reducible assumption) | assumption)
        have q363 : x11_2 < (t339.length : Int) := of_decide_eq_true (by first | (with_reducible assumption) | assumption)
        obtain ⟨ad363, A363_0, c363_0, e363, hx363_0, hl363_0, hi363_0⟩ := at_L2 (Kd.N_reads' HO_10.out).2.2 x11_2 p363 q363
        obtain rfl : ad354 = ad363 := (by injection e363)
        obtain ⟨ce363, hce363, hMe363, hcc363⟩ := Kd.N_get HO_10.out [] x11_2 p363 (by first | exact q363 | exact of_decide_eq_true (by first | (with_reducible assumption) | assumption) | (have e_ := (Kd.N_reads' HO_10.out).1; omega))
        obtain ⟨ua363_0, uc363_0, rfl, ul363_0, ge363_0⟩ := Kd.FK_slice_open hMe363
        have hv363_0 := hcc363 0 _ rfl
        rw [Nat.add_zero, show ((Kd.slice 3 (Kd.int .i64))).sz = 1 from rfl, Nat.mul_one] at hv363_0
        replace hv363_0 := Option.some.inj (hv363_0.symm.trans hx363_0)
        injection hv363_0 with hva_ hvn_ hvc_
        rw [hva_] at ge363_0
        rw [hvc_] at ul363_0
        have HL363_0 := am (show Kd.V (Kd.int .i64) 3 _ w.heap.size _ _ (rd_L2 t339 x11_2) from Kd.V_mk ul363_0 ge363_0)
        clear hva_ hvn_ hvc_ ge363_0 ul363_0
        clear hcc363 hce363
        have HR363_0 := am hi363_0
        have HC363_0 := am hl363_0
        clear hi363_0 hl363_0
        replace p363 := eq_true p363
        replace q363 := eq_true q363
        have p364 : 0 ≤ (x16_3 : Int) := of_decide_eq_true (by first | (with_reducible assumption) | assumption)
        have q364 : x16_3 < (t339.length : Int) := of_decide_eq_true (by first | (with_reducible assumption) | assumption)
        obtain ⟨ad364, A364_0, c364_0, e364, hx364_0, hl364_0, hi364_0⟩ := at_L2 (Kd.N_reads' HO_10.out).2.2 x16_3 p364 q364
        obtain rfl : ad354 = ad364 := (by injection e364)
        obtain ⟨ce364, hce364, hMe364, hcc364⟩ := Kd.N_get HO_10.out [] x16_3 p364 (by first | exact q364 | exact of_decide_eq_true (by first | (with_reducible assumption) | assumption) | (have e_ := (Kd.N_reads' HO_10.out).1; omega))
        obtain ⟨ua364_0, uc364_0, rfl, ul364_0, ge364_0⟩ := Kd.FK_slice_open hMe364
        have hv364_0 := hcc364 0 _ rfl
        rw [Nat.add_zero, show ((Kd.slice 3 (Kd.int .i64))).sz = 1 from rfl, Nat.mul_one] at hv364_0
        replace hv364_0 := Option.some.inj (hv364_0.symm.trans hx364_0)
        injection hv364_0 with hva_ hvn_ hvc_
        rw [hva_] at ge364_0
        rw [hvc_] at ul364_0
        have HL364_0 := am (show Kd.V (Kd.int .i64) 3 _ w.heap.size _ _ (rd_L2 t339 x16_3) from Kd.V_mk ul364_0 ge364_0)
        clear hva_ hvn_ hvc_ ge364_0 ul364_0
        clear hcc364 hce364
        have HR364_0 := am hi364_0
        have HC364_0 := am hl364_0
        clear hi364_0 hl364_0
        replace p364 := eq_true p364
        replace q364 := eq_true q364
        go_wp2_with (first | (go_at_call 91; (with_reducible refine (spec_DistanceOf.calls k3 _ _ (rd_L2 t339 x11_2) _ _ (rd_L2 t339 x16_3) t365 _ ?side1 ?side2 ?side3 ?side4 A38.out).mono ?_); (case side1 => exact co HR363_0.out); (case side2 => exact HC363_0.out); (case side3 => exact co HR364_0.out); (case side4 => exact HC364_0.out); rintro e w' ⟨rfl, ⟨nd, rfl⟩⟩; (try first | exact ⟨rfl, _, World.drewN_drewN _ _ _⟩ | exact ⟨rfl, _, Eq.trans (World.drewN_drewN _ _ _) (congrArg (World.drewN _) (Nat.add_assoc _ _ _))⟩)) | ((with_reducible refine gate_dst (N := 76) rfl ?_); refine Kd.R_lit (Kd.int .i64) _ 3 ?hg (N := 76) ?hd (xs := ([] : List Int)) (inner := []) (ok := fun _ => True) (okp := fun _ => True) ?hr ?hp (fun _ hk => hk) trivial (Below.refl _ _) (Nat.le_refl _) (by simp) ?_; (case hd => rfl); (case hg => rfl); (case hr => first | (go_simp; done) | (go_simp; rfl)); (case hp => exact (Reps.none _ _)); intro v367 w44 ho45 hb hg_ hnew_; clear hg_ hnew_; (first | rw [← Ny366.out] at ho45 | (simp only [Int.reduceToNat] at ho45; rw [← Ny366.out] at ho45)); replace HO_10 := am (Kd.N_elder' (no HO_10.out) (Kd.R_base ho45) hb); replace HO_15 := am (Kd.N_elder' (no HO_15.out) (Kd.R_base ho45) hb); replace HL363_0 := am (Kd.V_elder' (vo HL363_0.out) (Kd.R_base ho45) hb); replace HL364_0 := am (Kd.V_elder' (vo HL364_0.out) (Kd.R_base ho45) hb); have HO368 := am (Kd.R_lower (Kd.R_new' (Kd.R_newM (M := fun k_ => (w.heap.size ≤ k_)) ho45 (below_size bw) (fun k_ h_ => h_)) (Kd.R_lt (ro HO_14.out))) (below_size bw)); replace HO_14 := am (Kd.R_elder' (ro HO_14.out) (Kd.R_base ho45) hb); replace BK338 := kb BK338 hb; replace HR363_0 := am (Kd.C_below (co HR363_0.out) hb); replace HR364_0 := am (Kd.C_below (co HR364_0.out) hb); replace HB := am (below_step bw hb); clear hb ho45; have p369 : 0 ≤ (x16_3 : Int) := of_decide_eq_true (by first | (with_reducible assumption) | assumption); have q369 : x16_3 < (t339.length : Int) := of_decide_eq_true (by first | (with_reducible assumption) | assumption); obtain ⟨ad369, A369_0, c369_0, e369, hx369_0, hl369_0, hi369_0⟩ := at_L2 (Kd.N_reads' HO_10.out).2.2 x16_3 p369 q369; obtain rfl : ad354 = ad369 := (by injection e369); obtain ⟨ce369, hce369, hMe369, hcc369⟩ := Kd.N_get HO_10.out [] x16_3 p369 (by first | exact q369 | exact of_decide_eq_true (by first | (with_reducible assumption) | assumption) | (have e_ := (Kd.N_reads' HO_10.out).1; omega)); obtain ⟨ua369_0, uc369_0, rfl, ul369_0, ge369_0⟩ := Kd.FK_slice_open hMe369; have hv369_0 := hcc369 0 _ rfl; rw [Nat.add_zero, show ((Kd.slice 3 (Kd.int .i64))).sz = 1 from rfl, Nat.mul_one] at hv369_0; replace hv369_0 := Option.some.inj (hv369_0.symm.trans hx369_0); injection hv369_0 with hva_ hvn_ hvc_; rw [hva_] at ge369_0; rw [hvc_] at ul369_0; have HL369_0 := am (show Kd.V (Kd.int .i64) 3 _ w.heap.size _ _ (rd_L2 t339 x16_3) from Kd.V_mk ul369_0 ge369_0); clear hva_ hvn_ hvc_ ge369_0 ul369_0 hcc369 hce369; have HR369_0 := am hi369_0; have HC369_0 := am hl369_0; clear hi369_0 hl369_0; replace p369 := eq_true p369; replace q369 := eq_true q369) | ((with_reducible refine gate_builtin (b := .append) (xs := #[.tmp 76, .tmp 80]) rfl ?_); at_builtin; refine Kd.R_append_rows (Kd.int .i64) (w0 := w) w.heap.size rfl (.tmp 76) (.tmp 80) 22 3 (.int .i64 0) 8 rfl Try.underlying22 info3 rfl (by decide) (by omega) v367 y366 (rd_L2 t339 x16_3) _ _ _ (fun k_ => (w.heap.size ≤ k_) ∧ some k_ ≠ (.slice (some ad361) t348.length co43 : Value).ownBlock) (fun _ => False) rfl rfl ?aO ?aR (fun _ _ h => h) (fun _ h => h.elim) ?aF ?aB ?aS ?aL ?_; (case aR => exact co HR369_0.out); (case aB => exact bw); (case aF => exact (fun k_ hk => ⟨(Nat.le_trans (below_size bw) hk), Kd.fresh' (Kd.R_lt (ro HO_14.out)) k_ hk⟩)); (case aO => exact (by (with_reducible repeat (first | apply Kd.R_alloc | apply Kd.R_drewN | apply Kd.R_drew)); exact Kd.R_mono HO368.out (fun _ hk => by first | exact ⟨hk.1.1, hk.2⟩ | simp_all))); (case aS => exact (below_size bw)); (case aL => have := LMc41.out; omega); intro v371 w46 ho hb hg hat; rw [← Ny370.out] at ho; replace HO_10 := am (Kd.N_afterv (ok := (fun k_ => (w.heap.size ≤ k_) ∧ some k_ ≠ (.slice (some ad361) t348.length co43 : Value).ownBlock ∧ some k_ ≠ (u15 : Value).ownBlock ∧ k_ ≠ gb338)) (no HO_10.out) hg hat); replace HO_14 := am (Kd.R_after (ok := (fun k_ => (w.heap.size ≤ k_))) (ro HO_14.out) hg hat); replace HO_15 := am (Kd.N_afterv (ok := (fun k_ => (w.heap.size ≤ k_) ∧ some k_ ≠ (.slice (some ad354) t339.length co12 : Value).ownBlock ∧ some k_ ≠ (.slice (some ad361) t348.length co43 : Value).ownBlock ∧ k_ ≠ gb338)) (no HO_15.out) hg hat); replace BK338 := am (blk_grown (g := gb338) (o := .cells #[.slice A0_0 l0_0.length c0_0] 27 (0, 0)) (bo BK338.out) hg (Kd.R_ne HO368.out BK338.out (by decide))); replace HL363_0 := am (Kd.V_afterv (ok := (fun k_ => (w.heap.size ≤ k_) ∧ some k_ ≠ (.slice (some ad354) t339.length co12 : Value).ownBlock ∧ some k_ ≠ (.slice (some ad361) t348.length co43 : Value).ownBlock ∧ some k_ ≠ (u15 : Value).ownBlock ∧ k_ ≠ gb338)) (by (with_reducible repeat (first | apply Kd.V_alloc | apply Kd.V_drewN | apply Kd.V_drew)); exact Kd.V_mono HL363_0.out (fun _ hk => ⟨⟨hk.1.1.1, ⟨hk.1.2, ⟨hk.1.1.2.1, ⟨hk.1.1.2.2.1, hk.1.1.2.2.2⟩⟩⟩⟩, hk.2⟩)) hg hat); replace HL364_0 := am (Kd.V_afterv (ok := (fun k_ => (w.heap.size ≤ k_) ∧ some k_ ≠ (.slice (some ad354) t339.length co12 : Value).ownBlock ∧ some k_ ≠ (.slice (some ad361) t348.length co43 : Value).ownBlock ∧ some k_ ≠ (u15 : Value).ownBlock ∧ k_ ≠ gb338)) (by (with_reducible repeat (first | apply Kd.V_alloc | apply Kd.V_drewN | apply Kd.V_drew)); exact Kd.V_mono HL364_0.out (fun _ hk => ⟨⟨hk.1.1.1, ⟨hk.1.2, ⟨hk.1.1.2.1, ⟨hk.1.1.2.2.1, hk.1.1.2.2.2⟩⟩⟩⟩, hk.2⟩)) hg hat); replace HL369_0 := am (Kd.V_afterv (ok := (fun k_ => (w.heap.size ≤ k_) ∧ some k_ ≠ (.slice (some ad354) t339.length co12 : Value).ownBlock ∧ some k_ ≠ (.slice (some ad361) t348.length co43 : Value).ownBlock ∧ some k_ ≠ (u15 : Value).ownBlock ∧ k_ ≠ gb338)) (by (with_reducible repeat (first | apply Kd.V_alloc | apply Kd.V_drewN | apply Kd.V_drew)); exact Kd.V_mono HL369_0.out (fun _ hk => ⟨⟨hk.1.1.1, ⟨hk.2, ⟨hk.1.1.2.1, ⟨hk.1.1.2.2.1, hk.1.1.2.2.2⟩⟩⟩⟩, hk.1.2⟩)) hg hat); replace HB := am (hb); have HO372 := am (ho); clear HO368 ho hb hg hat; obtain ⟨Ao48, co48, eo48⟩ := Kd.R_slice HO372.out; subst eo48) | ((with_reducible refine gate_builtin (b := .append) (xs := #[.tmp 75, .tmp 82]) rfl ?_); at_builtin; refine Kd.N_append (Kd.slice 3 (Kd.int .i64)) (w0 := w) w.heap.size rfl (.tmp 75) (.tmp 82) 49 22 (.slice none 0 0) 24 rfl Try.underlying49 info22 rfl (by decide) (by omega) u15 x15_2 y370 [.slice Ao48 y370.length co48] (fun k_ => (w.heap.size ≤ k_) ∧ some k_ ≠ (.slice (some ad354) t339.length co12 : Value).ownBlock ∧ some k_ ≠ (.slice (some ad361) t348.length co43 : Value).ownBlock ∧ k_ ≠ gb338) (fun k_ => ((fun k_ => (w.heap.size ≤ k_) ∧ some k_ ≠ (.slice (some ad354) t339.length co12 : Value).ownBlock ∧ some k_ ≠ (.slice (some ad361) t348.length co43 : Value).ownBlock ∧ k_ ≠ gb338)) k_ ∧ some k_ ≠ (u15 : Value).ownBlock) rfl rfl ?aP (fun _ hk => hk) ?aF ?aO ?aB ?aS ?aL ?_; (case aP => exact (Kd.FK_slice_mk (Kd.R_reads' (Kd.R_mono (ok' := (fun k_ => ((fun k_ => (w.heap.size ≤ k_) ∧ some k_ ≠ (.slice (some ad354) t339.length co12 : Value).ownBlock ∧ some k_ ≠ (.slice (some ad361) t348.length co43 : Value).ownBlock ∧ k_ ≠ gb338)) k_ ∧ some k_ ≠ (u15 : Value).ownBlock)) (Kd.R_types (Kd.R_apart' (Kd.R_apart' (HO372.out) (Kd.N_typed HO_10.out) (by decide)) (Kd.N_typed HO_15.out) (by decide)) BK338.out (by decide)) (fun k_ hk => ⟨⟨hk.1.1.1.1, ⟨hk.1.1.2, ⟨hk.1.1.1.2, hk.2⟩⟩⟩, hk.1.2⟩))).2.1 (Kd.R_F (Kd.R_mono (ok' := (fun k_ => ((fun k_ => (w.heap.size ≤ k_) ∧ some k_ ≠ (.slice (some ad354) t339.length co12 : Value).ownBlock ∧ some k_ ≠ (.slice (some ad361) t348.length co43 : Value).ownBlock ∧ k_ ≠ gb338)) k_ ∧ some k_ ≠ (u15 : Value).ownBlock)) (Kd.R_types (Kd.R_apart' (Kd.R_apart' (HO372.out) (Kd.N_typed HO_10.out) (by decide)) (Kd.N_typed HO_15.out) (by decide)) BK338.out (by decide)) (fun k_ hk => ⟨⟨hk.1.1.1.1, ⟨hk.1.1.2, ⟨hk.1.1.1.2, hk.2⟩⟩⟩, hk.1.2⟩))))); (case aB => exact bw); (case aF => exact (fun k_ hk => ⟨(Nat.le_trans (below_size bw) hk), Kd.fresh' (Kd.N_lt (no HO_10.out)) k_ hk, Kd.fresh' (Kd.R_lt (ro HO_14.out)) k_ hk, Kd.freshB (g := gb338) (o := .cells #[.slice A0_0 l0_0.length c0_0] 27 (0, 0)) (bo BK338.out) k_ hk⟩)); (case aO => exact (by (with_reducible repeat (first | apply Kd.N_alloc | apply Kd.N_drewN | apply Kd.N_drew)); exact Kd.N_mono HO_15.out (fun _ hk => ⟨hk.1.1, ⟨hk.1.2.1, ⟨hk.1.2.2.1, hk.1.2.2.2⟩⟩⟩))); (case aS => exact (below_size bw)); (case aL => have := LMc42.out; omega); intro v374 w47 ho hb hg hat; rw [← Ny373.out] at ho; replace HO_10 := am (Kd.N_afterv (ok := (fun k_ => (w.heap.size ≤ k_) ∧ some k_ ≠ (.slice (some ad361) t348.length co43 : Value).ownBlock ∧ nb k_ Ao48 y370 co48 ∧ k_ ≠ gb338)) (by (with_reducible repeat (first | apply Kd.N_alloc | apply Kd.N_drewN | apply Kd.N_drew)); exact Kd.N_mono HO_10.out (fun _ hk => ⟨⟨hk.1.1, ⟨hk.1.2.1, ⟨hk.2, hk.1.2.2.2⟩⟩⟩, hk.1.2.2.1⟩)) hg hat); replace HO_14 := am (Kd.R_over' (ro HO_14.out) (Kd.N_typed (no HO_15.out)) (by decide) hg); replace BK338 := am (blk_grown (g := gb338) (o := .cells #[.slice A0_0 l0_0.length c0_0] 27 (0, 0)) (bo BK338.out) hg (Kd.N_ne HO_15.out BK338.out (by decide))); replace HL363_0 := am (Kd.V_afterv (ok := (fun k_ => (w.heap.size ≤ k_) ∧ some k_ ≠ (.slice (some ad354) t339.length co12 : Value).ownBlock ∧ some k_ ≠ (.slice (some ad361) t348.length co43 : Value).ownBlock ∧ nb k_ Ao48 y370 co48 ∧ k_ ≠ gb338)) (by (with_reducible repeat (first | apply Kd.V_alloc | apply Kd.V_drewN | apply Kd.V_drew)); exact Kd.V_mono HL363_0.out (fun _ hk => ⟨⟨hk.1.1, ⟨hk.1.2.1, ⟨hk.1.2.2.1, ⟨hk.2, hk.1.2.2.2.2⟩⟩⟩⟩, hk.1.2.2.2.1⟩)) hg hat); replace HL364_0 := am (Kd.V_afterv (ok := (fun k_ => (w.heap.size ≤ k_) ∧ some k_ ≠ (.slice (some ad354) t339.length co12 : Value).ownBlock ∧ some k_ ≠ (.slice (some ad361) t348.length co43 : Value).ownBlock ∧ nb k_ Ao48 y370 co48 ∧ k_ ≠ gb338)) (by (with_reducible repeat (first | apply Kd.V_alloc | apply Kd.V_drewN | apply Kd.V_drew)); exact Kd.V_mono HL364_0.out (fun _ hk => ⟨⟨hk.1.1, ⟨hk.1.2.1, ⟨hk.1.2.2.1, ⟨hk.2, hk.1.2.2.2.2⟩⟩⟩⟩, hk.1.2.2.2.1⟩)) hg hat); replace HL369_0 := am (Kd.V_afterv (ok := (fun k_ => (w.heap.size ≤ k_) ∧ some k_ ≠ (.slice (some ad354) t339.length co12 : Value).ownBlock ∧ some k_ ≠ (.slice (some ad361) t348.length co43 : Value).ownBlock ∧ nb k_ Ao48 y370 co48 ∧ k_ ≠ gb338)) (by (with_reducible repeat (first | apply Kd.V_alloc | apply Kd.V_drewN | apply Kd.V_drew)); exact Kd.V_mono HL369_0.out (fun _ hk => ⟨⟨hk.1.1, ⟨hk.1.2.1, ⟨hk.1.2.2.1, ⟨hk.2, hk.1.2.2.2.2⟩⟩⟩⟩, hk.1.2.2.2.1⟩)) hg hat); replace HB := am (hb); have HO375 := am (ho); clear HO_15 HO372 ho hb hg hat))
        repeat (go_quiet (first | (go_at_call 91; (with_reducible refine (spec_DistanceOf.calls k3 _ _ (rd_L2 t339 x11_2) _ _ (rd_L2 t339 x16_3) t365 _ ?side1 ?side2 ?side3 ?side4 A38.out).mono ?_); (case side1 => exact co HR363_0.out); (case side2 => exact HC363_0.out); (case side3 => exact co HR364_0.out); (case side4 => exact HC364_0.out); rintro e w' ⟨rfl, ⟨nd, rfl⟩⟩; (try first | exact ⟨rfl, _, World.drewN_drewN _ _ _⟩ | exact ⟨rfl, _, Eq.trans (World.drewN_drewN _ _ _) (congrArg (World.drewN _) (Nat.add_assoc _ _ _))⟩))); try go_wp2_with (first | (go_at_call 91; (with_reducible refine (spec_DistanceOf.calls k3 _ _ (rd_L2 t339 x11_2) _ _ (rd_L2 t339 x16_3) t365 _ ?side1 ?side2 ?side3 ?side4 A38.out).mono ?_); (case side1 => exact co HR363_0.out); (case side2 => exact HC363_0.out); (case side3 => exact co HR364_0.out); (case side4 => exact HC364_0.out); rintro e w' ⟨rfl, ⟨nd, rfl⟩⟩; (try first | exact ⟨rfl, _, World.drewN_drewN _ _ _⟩ | exact ⟨rfl, _, Eq.trans (World.drewN_drewN _ _ _) (congrArg (World.drewN _) (Nat.add_assoc _ _ _))⟩)) | ((with_reducible refine gate_dst (N := 76) rfl ?_); refine Kd.R_lit (Kd.int .i64) _ 3 ?hg (N := 76) ?hd (xs := ([] : List Int)) (inner := []) (ok := fun _ => True) (okp := fun _ => True) ?hr ?hp (fun _ hk => hk) trivial (Below.refl _ _) (Nat.le_refl _) (by simp) ?_; (case hd => rfl); (case hg => rfl); (case hr => first | (go_simp; done) | (go_simp; rfl)); (case hp => exact (Reps.none _ _)); intro v367 w44 ho45 hb hg_ hnew_; clear hg_ hnew_; (first | rw [← Ny366.out] at ho45 | (simp only [Int.reduceToNat] at ho45; rw [← Ny366.out] at ho45)); have n0_ := am (Kd.N_elder' (no HO_10.out) (Kd.R_base ho45) hb); have n1_ := am (Kd.R_elder' (ro HO_14.out) (Kd.R_base ho45) hb); have n2_ := am (Kd.N_elder' (no HO_15.out) (Kd.R_base ho45) hb); have n3_ := am (Kd.V_elder' (vo HL363_0.out) (Kd.R_base ho45) hb); have n4_ := am (Kd.V_elder' (vo HL364_0.out) (Kd.R_base ho45) hb); have n5_ := am (Kd.R_lower (Kd.R_new' (Kd.R_newM (M := fun k_ => (w.heap.size ≤ k_)) ho45 (below_size bw) (fun k_ h_ => h_)) (Kd.R_lt (ro HO_14.out))) (below_size bw)); have n6_ := am (blk_below (g := gb338) (o := .cells #[.slice A0_0 l0_0.length c0_0] 27 (0, 0)) (bo BK338.out) hb); have n7_ := am (Kd.C_below (co HR363_0.out) hb); have n8_ := am (Kd.C_below (co HR364_0.out) hb); have n9_ := am (below_step bw hb); clear HO_10 HO_14 HO_15 HL363_0 HL364_0 BK338 HR363_0 HR364_0 HB; have HO_10 := n0_; have HO_14 := n1_; have HO_15 := n2_; have HL363_0 := n3_; have HL364_0 := n4_; have HO368 := n5_; have BK338 := n6_; have HR363_0 := n7_; have HR364_0 := n8_; have HB := n9_; clear n0_ n1_ n2_ n3_ n4_ n5_ n6_ n7_ n8_ n9_; clear hb ho45; have p369 : 0 ≤ (x16_3 : Int) := of_decide_eq_true (by first | (with_reducible assumption) | assumption); have q369 : x16_3 < (t339.length : Int) := of_decide_eq_true (by first | (with_reducible assumption) | assumption); obtain ⟨ad369, A369_0, c369_0, e369, hx369_0, hl369_0, hi369_0⟩ := at_L2 (Kd.N_reads' HO_10.out).2.2 x16_3 p369 q369; obtain rfl : ad354 = ad369 := (by injection e369); obtain ⟨ce369, hce369, hMe369, hcc369⟩ := Kd.N_get HO_10.out [] x16_3 p369 (by first | exact q369 | exact of_decide_eq_true (by first | (with_reducible assumption) | assumption) | (have e_ := (Kd.N_reads' HO_10.out).1; omega)); obtain ⟨ua369_0, uc369_0, rfl, ul369_0, ge369_0⟩ := Kd.FK_slice_open hMe369; have hv369_0 := hcc369 0 _ rfl; rw [Nat.add_zero, show ((Kd.slice 3 (Kd.int .i64))).sz = 1 from rfl, Nat.mul_one] at hv369_0; replace hv369_0 := Option.some.inj (hv369_0.symm.trans hx369_0); injection hv369_0 with hva_ hvn_ hvc_; rw [hva_] at ge369_0; rw [hvc_] at ul369_0; have HL369_0 := am (show Kd.V (Kd.int .i64) 3 _ w.heap.size _ _ (rd_L2 t339 x16_3) from Kd.V_mk ul369_0 ge369_0); clear hva_ hvn_ hvc_ ge369_0 ul369_0; clear hcc369 hce369; have HR369_0 := am hi369_0; have HC369_0 := am hl369_0; clear hi369_0 hl369_0; replace p369 := eq_true p369; replace q369 := eq_true q369) | ((with_reducible refine gate_builtin (b := .append) (xs := #[.tmp 76, .tmp 80]) rfl ?_); at_builtin; refine Kd.R_append_rows (Kd.int .i64) (w0 := w) w.heap.size rfl (.tmp 76) (.tmp 80) 22 3 (.int .i64 0) 8 rfl Try.underlying22 info3 rfl (by decide) (by omega) v367 y366 (rd_L2 t339 x16_3) _ _ _ (fun k_ => (w.heap.size ≤ k_) ∧ some k_ ≠ (.slice (some ad361) t348.length co43 : Value).ownBlock) (fun _ => False) rfl rfl ?aO ?aR (fun _ _ h => h) (fun _ h => h.elim) ?aF ?aB ?aS ?aL ?_; (case aR => exact co HR369_0.out); (case aB => exact bw); (case aF => exact (fun k_ hk => ⟨(Nat.le_trans (below_size bw) hk), Kd.fresh' (Kd.R_lt (ro HO_14.out)) k_ hk⟩)); (case aO => exact (by (with_reducible repeat (first | apply Kd.R_alloc | apply Kd.R_drewN | apply Kd.R_drew)); exact Kd.R_mono HO368.out (fun _ hk => by first | exact ⟨hk.1.1, hk.2⟩ | simp_all))); (case aS => exact (below_size bw)); (case aL => have := LMc41.out; omega); intro v371 w46 ho hb hg hat; rw [← Ny370.out] at ho; have n0_ := am (Kd.N_afterv (ok := (fun k_ => (w.heap.size ≤ k_) ∧ some k_ ≠ (.slice (some ad361) t348.length co43 : Value).ownBlock ∧ some k_ ≠ (u15 : Value).ownBlock ∧ k_ ≠ gb338)) (no HO_10.out) hg hat); have n1_ := am (Kd.R_after (ok := (fun k_ => (w.heap.size ≤ k_))) (ro HO_14.out) hg hat); have n2_ := am (Kd.N_afterv (ok := (fun k_ => (w.heap.size ≤ k_) ∧ some k_ ≠ (.slice (some ad354) t339.length co12 : Value).ownBlock ∧ some k_ ≠ (.slice (some ad361) t348.length co43 : Value).ownBlock ∧ k_ ≠ gb338)) (no HO_15.out) hg hat); have n3_ := am (blk_grown (g := gb338) (o := .cells #[.slice A0_0 l0_0.length c0_0] 27 (0, 0)) (bo BK338.out) hg (Kd.R_ne HO368.out BK338.out (by decide))); have n4_ := am (Kd.V_afterv (ok := (fun k_ => (w.heap.size ≤ k_) ∧ some k_ ≠ (.slice (some ad354) t339.length co12 : Value).ownBlock ∧ some k_ ≠ (.slice (some ad361) t348.length co43 : Value).ownBlock ∧ some k_ ≠ (u15 : Value).ownBlock ∧ k_ ≠ gb338)) (by (with_reducible repeat (first | apply Kd.V_alloc | apply Kd.V_drewN | apply Kd.V_drew)); exact Kd.V_mono HL363_0.out (fun _ hk => ⟨⟨hk.1.1.1, ⟨hk.1.2, ⟨hk.1.1.2.1, ⟨hk.1.1.2.2.1, hk.1.1.2.2.2⟩⟩⟩⟩, hk.2⟩)) hg hat); have n5_ := am (Kd.V_afterv (ok := (fun k_ => (w.heap.size ≤ k_) ∧ some k_ ≠ (.slice (some ad354) t339.length co12 : Value).ownBlock ∧ some k_ ≠ (.slice (some ad361) t348.length co43 : Value).ownBlock ∧ some k_ ≠ (u15 : Value).ownBlock ∧ k_ ≠ gb338)) (by (with_reducible repeat (first | apply Kd.V_alloc | apply Kd.V_drewN | apply Kd.V_drew)); exact Kd.V_mono HL364_0.out (fun _ hk => ⟨⟨hk.1.1.1, ⟨hk.1.2, ⟨hk.1.1.2.1, ⟨hk.1.1.2.2.1, hk.1.1.2.2.2⟩⟩⟩⟩, hk.2⟩)) hg hat); have n6_ := am (Kd.V_afterv (ok := (fun k_ => (w.heap.size ≤ k_) ∧ some k_ ≠ (.slice (some ad354) t339.length co12 : Value).ownBlock ∧ some k_ ≠ (.slice (some ad361) t348.length co43 : Value).ownBlock ∧ some k_ ≠ (u15 : Value).ownBlock ∧ k_ ≠ gb338)) (by (with_reducible repeat (first | apply Kd.V_alloc | apply Kd.V_drewN | apply Kd.V_drew)); exact Kd.V_mono HL369_0.out (fun _ hk => ⟨⟨hk.1.1.1, ⟨hk.2, ⟨hk.1.1.2.1, ⟨hk.1.1.2.2.1, hk.1.1.2.2.2⟩⟩⟩⟩, hk.1.2⟩)) hg hat); have n7_ := am (hb); have n8_ := am (ho); clear HO_10 HO_14 HO_15 BK338 HL363_0 HL364_0 HL369_0 HB HO368; have HO_10 := n0_; have HO_14 := n1_; have HO_15 := n2_; have BK338 := n3_; have HL363_0 := n4_; have HL364_0 := n5_; have HL369_0 := n6_; have HB := n7_; have HO372 := n8_; clear n0_ n1_ n2_ n3_ n4_ n5_ n6_ n7_ n8_; clear ho hb hg hat; obtain ⟨Ao48, co48, eo48⟩ := Kd.R_slice HO372.out; subst eo48) | ((with_reducible refine gate_builtin (b := .append) (xs := #[.tmp 75, .tmp 82]) rfl ?_); at_builtin; refine Kd.N_append (Kd.slice 3 (Kd.int .i64)) (w0 := w) w.heap.size rfl (.tmp 75) (.tmp 82) 49 22 (.slice none 0 0) 24 rfl Try.underlying49 info22 rfl (by decide) (by omega) u15 x15_2 y370 [.slice Ao48 y370.length co48] (fun k_ => (w.heap.size ≤ k_) ∧ some k_ ≠ (.slice (some ad354) t339.length co12 : Value).ownBlock ∧ some k_ ≠ (.slice (some ad361) t348.length co43 : Value).ownBlock ∧ k_ ≠ gb338) (fun k_ => ((fun k_ => (w.heap.size ≤ k_) ∧ some k_ ≠ (.slice (some ad354) t339.length co12 : Value).ownBlock ∧ some k_ ≠ (.slice (some ad361) t348.length co43 : Value).ownBlock ∧ k_ ≠ gb338)) k_ ∧ some k_ ≠ (u15 : Value).ownBlock) rfl rfl ?aP (fun _ hk => hk) ?aF ?aO ?aB ?aS ?aL ?_; (case aP => exact (Kd.FK_slice_mk (Kd.R_reads' (Kd.R_mono (ok' := (fun k_ => ((fun k_ => (w.heap.size ≤ k_) ∧ some k_ ≠ (.slice (some ad354) t339.length co12 : Value).ownBlock ∧ some k_ ≠ (.slice (some ad361) t348.length co43 : Value).ownBlock ∧ k_ ≠ gb338)) k_ ∧ some k_ ≠ (u15 : Value).ownBlock)) (Kd.R_types (Kd.R_apart' (Kd.R_apart' (HO372.out) (Kd.N_typed HO_10.out) (by decide)) (Kd.N_typed HO_15.out) (by decide)) BK338.out (by decide)) (fun k_ hk => ⟨⟨hk.1.1.1.1, ⟨hk.1.1.2, ⟨hk.1.1.1.2, hk.2⟩⟩⟩, hk.1.2⟩))).2.1 (Kd.R_F (Kd.R_mono (ok' := (fun k_ => ((fun k_ => (w.heap.size ≤ k_) ∧ some k_ ≠ (.slice (some ad354) t339.length co12 : Value).ownBlock ∧ some k_ ≠ (.slice (some ad361) t348.length co43 : Value).ownBlock ∧ k_ ≠ gb338)) k_ ∧ some k_ ≠ (u15 : Value).ownBlock)) (Kd.R_types (Kd.R_apart' (Kd.R_apart' (HO372.out) (Kd.N_typed HO_10.out) (by decide)) (Kd.N_typed HO_15.out) (by decide)) BK338.out (by decide)) (fun k_ hk => ⟨⟨hk.1.1.1.1, ⟨hk.1.1.2, ⟨hk.1.1.1.2, hk.2⟩⟩⟩, hk.1.2⟩))))); (case aB => exact bw); (case aF => exact (fun k_ hk => ⟨(Nat.le_trans (below_size bw) hk), Kd.fresh' (Kd.N_lt (no HO_10.out)) k_ hk, Kd.fresh' (Kd.R_lt (ro HO_14.out)) k_ hk, Kd.freshB (g := gb338) (o := .cells #[.slice A0_0 l0_0.length c0_0] 27 (0, 0)) (bo BK338.out) k_ hk⟩)); (case aO => exact (by (with_reducible repeat (first | apply Kd.N_alloc | apply Kd.N_drewN | apply Kd.N_drew)); exact Kd.N_mono HO_15.out (fun _ hk => ⟨hk.1.1, ⟨hk.1.2.1, ⟨hk.1.2.2.1, hk.1.2.2.2⟩⟩⟩))); (case aS => exact (below_size bw)); (case aL => have := LMc42.out; omega); intro v374 w47 ho hb hg hat; rw [← Ny373.out] at ho; have n0_ := am (Kd.N_afterv (ok := (fun k_ => (w.heap.size ≤ k_) ∧ some k_ ≠ (.slice (some ad361) t348.length co43 : Value).ownBlock ∧ nb k_ Ao48 y370 co48 ∧ k_ ≠ gb338)) (by (with_reducible repeat (first | apply Kd.N_alloc | apply Kd.N_drewN | apply Kd.N_drew)); exact Kd.N_mono HO_10.out (fun _ hk => ⟨⟨hk.1.1, ⟨hk.1.2.1, ⟨hk.2, hk.1.2.2.2⟩⟩⟩, hk.1.2.2.1⟩)) hg hat); have n1_ := am (Kd.R_over' (ro HO_14.out) (Kd.N_typed (no HO_15.out)) (by decide) hg); have n2_ := am (blk_grown (g := gb338) (o := .cells #[.slice A0_0 l0_0.length c0_0] 27 (0, 0)) (bo BK338.out) hg (Kd.N_ne HO_15.out BK338.out (by decide))); have n3_ := am (Kd.V_afterv (ok := (fun k_ => (w.heap.size ≤ k_) ∧ some k_ ≠ (.slice (some ad354) t339.length co12 : Value).ownBlock ∧ some k_ ≠ (.slice (some ad361) t348.length co43 : Value).ownBlock ∧ nb k_ Ao48 y370 co48 ∧ k_ ≠ gb338)) (by (with_reducible repeat (first | apply Kd.V_alloc | apply Kd.V_drewN | apply Kd.V_drew)); exact Kd.V_mono HL363_0.out (fun _ hk => ⟨⟨hk.1.1, ⟨hk.1.2.1, ⟨hk.1.2.2.1, ⟨hk.2, hk.1.2.2.2.2⟩⟩⟩⟩, hk.1.2.2.2.1⟩)) hg hat); have n4_ := am (Kd.V_afterv (ok := (fun k_ => (w.heap.size ≤ k_) ∧ some k_ ≠ (.slice (some ad354) t339.length co12 : Value).ownBlock ∧ some k_ ≠ (.slice (some ad361) t348.length co43 : Value).ownBlock ∧ nb k_ Ao48 y370 co48 ∧ k_ ≠ gb338)) (by (with_reducible repeat (first | apply Kd.V_alloc | apply Kd.V_drewN | apply Kd.V_drew)); exact Kd.V_mono HL364_0.out (fun _ hk => ⟨⟨hk.1.1, ⟨hk.1.2.1, ⟨hk.1.2.2.1, ⟨hk.2, hk.1.2.2.2.2⟩⟩⟩⟩, hk.1.2.2.2.1⟩)) hg hat); have n5_ := am (Kd.V_afterv (ok := (fun k_ => (w.heap.size ≤ k_) ∧ some k_ ≠ (.slice (some ad354) t339.length co12 : Value).ownBlock ∧ some k_ ≠ (.slice (some ad361) t348.length co43 : Value).ownBlock ∧ nb k_ Ao48 y370 co48 ∧ k_ ≠ gb338)) (by (with_reducible repeat (first | apply Kd.V_alloc | apply Kd.V_drewN | apply Kd.V_drew)); exact Kd.V_mono HL369_0.out (fun _ hk => ⟨⟨hk.1.1, ⟨hk.1.2.1, ⟨hk.1.2.2.1, ⟨hk.2, hk.1.2.2.2.2⟩⟩⟩⟩, hk.1.2.2.2.1⟩)) hg hat); have n6_ := am (hb); have n7_ := am (ho); clear HO_10 HO_14 BK338 HL363_0 HL364_0 HL369_0 HB HO_15 HO372; have HO_10 := n0_; have HO_14 := n1_; have BK338 := n2_; have HL363_0 := n3_; have HL364_0 := n4_; have HL369_0 := n5_; have HB := n6_; have HO375 := n7_; clear n0_ n1_ n2_ n3_ n4_ n5_ n6_ n7_; clear ho hb hg hat)))
        go_roundg k3
        case measure => have := HJ7.out; have := HK2.out; have := HK3.out; omega
        case rel => exact ⟨(x16_3), (y373), rr, H', ⟨by have := HJ7.out; have := HK2.out; have := HK3.out; omega⟩, ⟨by (with_reducible repeat (first | apply Kd.N_alloc | apply Kd.N_drewN | apply Kd.N_drew)); exact Kd.N_mono HO_10.out (fun _ hk => ⟨hk.1.1, ⟨hk.1.2.1, ⟨hk.2, hk.1.2.2.2⟩⟩⟩)⟩, ⟨by (with_reducible repeat (first | apply Kd.R_alloc | apply Kd.R_drewN | apply Kd.R_drew)); exact Kd.R_mono HO_14.out (fun _ hk => hk.1)⟩, ⟨no HO375.out⟩, ⟨bo BK338.out⟩, ⟨bw⟩⟩
       rw [if_neg c35] at H
       have c35b0 : ((rd t348 x16_3) == (wrap64 ((rd t348 x11_2) - 1))) = false := beq_eq_false_iff_ne.mpr c35
       have c35b1 : ((rd t348 x16_3) != (wrap64 ((rd t348 x11_2) - 1))) = true := bne_iff_ne.mpr c35
       have H' := am H
       clear H
       obtain ⟨Ao49, co49, eo49⟩ := Kd.R_slice HO_14.out
       subst eo49
       obtain ⟨⟨ad361, e361, hx361_0⟩, p361, q361⟩ := pq (Kd.at_int (Kd.R_reads' HO_14.out).2.2 x16_3)
       cases e361
       obtain ⟨⟨ad362, e362, hx362_0⟩, p362, q362⟩ := pq (Kd.at_int (Kd.R_reads' HO_14.out).2.2 x11_2)
       obtain rfl : ad361 = ad362 := (by injection e362)
       go_wp2
       repeat (go_quiet (fail); try go_wp2)
       go_roundg k3
       case measure => have := HJ7.out; have := HK2.out; have := HK3.out; omega
       case rel => exact ⟨(wrap64 (x16_3 + 1)), rr, H', ⟨by have := HJ7.out; have := HK2.out; have := HK3.out; omega⟩, ⟨no HO_10.out⟩, ⟨ro HO_14.out⟩, ⟨no HO_15.out⟩, ⟨bo BK338.out⟩, ⟨bw⟩⟩


/-! ### impl_within: function 63 -/
def impl_within.f (a0 : Int) (a1 : Int) (a2 : Int) : Option (Bool) := if a0 ≥ a1 then (some (decide (a0 ≤ a2))) else (some false)
set_option maxHeartbeats 8000000 in
set_option maxRecDepth 100000 in
theorem impl_within.calls (a0 : Int) (a1 : Int) (a2 : Int) (r : Bool) (w : World) (h : impl_within.f a0 a1 a2 = some r) :
  Calls Try.prog 63 #[.int .i64 a0, .int .i64 a1, .int .i64 a2] w fun e w' => e = .returned (.bool r) ∧ Drawn0 w w' := by
 have H : (if a0 ≥ a1 then (some (decide (a0 ≤ a2))) else (some false)) = some r := h
 clear h
 replace H := gj H; obtain ⟨c4, H⟩ | ⟨c4, H⟩ := H
 ·have c4b0 : decide (a1 ≤ a0) = true := decide_eq_true c4
  clear c4
  obtain rfl := Option.some.inj H
  go_enter Try.func63, Try.ntmps63
  go_wp2
  go_ret
  exact ⟨rr, dw⟩
 have c4b0 : decide (a1 ≤ a0) = false := decide_eq_false c4
 clear c4
 obtain rfl := Option.some.inj H
 go_enter Try.func63, Try.ntmps63
 go_wp2
 go_ret
 exact ⟨rr, dw⟩


/-! ### impl_allWithin: function 112 -/
def impl_allWithin.l0 : Nat → Int → Int → List Int → Int → Int → Option (Bool)
 | 0, _, _, _, _, _ => none
 | k + 1, x1, x2, x9, x10, x11 => if x11 < x10 then (if 0 ≤ x11 then (if x11 < (x9.length : Int) then ((impl_within.f (rd x9 x11) x1 x2).bind fun t377 => (if t377 = true then (impl_allWithin.l0 k x1 x2 x9 x10 (wrap64 (x11 + 1))) else (some false))) else (none)) else (none)) else (some true)
def impl_allWithin.f (k : Nat) (l0 : List Int) (a1 : Int) (a2 : Int) : Option (Bool) := impl_allWithin.l0 k a1 a2 l0 (l0.length : Int) 0
set_option maxHeartbeats 8000000 in
set_option maxRecDepth 100000 in
theorem impl_allWithin.calls (k : Nat) (A0 : Option Addr) (c0 : Nat) (l0 : List Int) (a1 : Int) (a2 : Int) (r : Bool) (w : World) (hr0 : Kd.C (Kd.int .i64) w A0 l0.length l0) (hc0 : l0.length ≤ c0) (h : impl_allWithin.f k l0 a1 a2 = some r) :
  Calls Try.prog 112 #[.slice A0 l0.length c0, .int .i64 a1, .int .i64 a2] w fun e w' => e = .returned (.bool r) ∧ Drawn0 w w' := by
 have HR0 := am hr0
 have HC0 := am hc0
 clear hr0 hc0
 have H : (impl_allWithin.l0 k a1 a2 l0 (l0.length : Int) 0) = some r := h
 clear h
 have H' := am H
 clear H
 go_enter Try.func112, Try.ntmps112
 go_wp2
 go_loopg [11] k (fun kq v11 w' => ∃ (x11_1 : Int), v11 = .int .i64 x11_1 ∧ Aside0 (impl_allWithin.l0 kq a1 a2 l0 (l0.length : Int) x11_1 = some r) ∧ Aside0 (kq ≤ k) ∧ Drawn0 w w')
 case atStart => exact ⟨(0), rr, H', ⟨Nat.le_refl _⟩, dw⟩
 case round =>
  clear H'
  obtain ⟨x11_1, rfl, HA, HK1, ⟨m1, rfl⟩⟩ := hrel
  cases gk with
  | zero => exact absurd HA.out (by simp [impl_allWithin.l0])
  | succ k1 =>
   have H := HA.out
   clear HA
   simp only [impl_allWithin.l0] at H
   replace H := gi H; obtain ⟨c4b0, H⟩ | ⟨c4b0, H⟩ := H
   ·replace H := gd H; obtain ⟨c5b0, H⟩ := H
    replace H := gd H; obtain ⟨c6b0, H⟩ := H
    replace H := ga H; obtain ⟨t377, A7, H⟩ := H
    replace H := gb H; obtain ⟨rfl, H⟩ | ⟨rfl, H⟩ := H
    ·have H' := am H
     clear H
     obtain ⟨⟨ad376, e376, hx376_0⟩, p376, q376⟩ := pq (Kd.at_int HR0.out x11_1)
     cases e376
     go_wp2_with (first | ((with_reducible refine gate_callee (f := 63) rfl ?_); refine gl (some 18) Try.func63 #[.int .i64 (rd l0 x11_1), .int .i64 a1, .int .i64 a2] ?_; (with_reducible refine (impl_within.calls (rd l0 x11_1) a1 a2 true _ A7.out).mono ?_); rintro e w' ⟨rfl, ⟨nd, rfl⟩⟩; refine ⟨_, rfl, ?_⟩))
     go_roundg k1
     case measure => have := HK1.out; omega
     case rel => exact ⟨(wrap64 (x11_1 + 1)), rr, H', ⟨by have := HK1.out; omega⟩, dw⟩
    obtain rfl := Option.some.inj H
    obtain ⟨⟨ad376, e376, hx376_0⟩, p376, q376⟩ := pq (Kd.at_int HR0.out x11_1)
    cases e376
    go_wp2_with (first | ((with_reducible refine gate_callee (f := 63) rfl ?_); refine gl (some 18) Try.func63 #[.int .i64 (rd l0 x11_1), .int .i64 a1, .int .i64 a2] ?_; (with_reducible refine (impl_within.calls (rd l0 x11_1) a1 a2 false _ A7.out).mono ?_); rintro e w' ⟨rfl, ⟨nd, rfl⟩⟩; refine ⟨_, rfl, ?_⟩))
    go_ret
    exact ⟨rr, dw⟩
   obtain rfl := Option.some.inj H
   go_wp2
   go_ret
   exact ⟨rr, dw⟩


/-! ### impl_IsAscending: function 113 -/
def impl_IsAscending.l0 : Nat → List Int → Int → Option (Bool)
 | 0, _, _ => none
 | k + 1, x0, x3 => if x3 < (x0.length : Int) then (if 0 ≤ x3 then (if 0 ≤ (wrap64 (x3 - 1)) then (if (wrap64 (x3 - 1)) < (x0.length : Int) then (if (rd x0 x3) ≤ (rd x0 (wrap64 (x3 - 1))) then (some false) else (impl_IsAscending.l0 k x0 (wrap64 (x3 + 1)))) else (none)) else (none)) else (none)) else (some true)
def impl_IsAscending.f (k : Nat) (l0 : List Int) : Option (Bool) := impl_IsAscending.l0 k l0 1
set_option maxHeartbeats 8000000 in
set_option maxRecDepth 100000 in
theorem impl_IsAscending.calls (k : Nat) (A0 : Option Addr) (c0 : Nat) (l0 : List Int) (r : Bool) (w : World) (hr0 : Kd.C (Kd.int .i64) w A0 l0.length l0) (hc0 : l0.length ≤ c0) (h : impl_IsAscending.f k l0 = some r) :
  Calls Try.prog 113 #[.slice A0 l0.length c0] w fun e w' => e = .returned (.bool r) ∧ Drawn0 w w' := by
 have HR0 := am hr0
 have HC0 := am hc0
 clear hr0 hc0
 have H : (impl_IsAscending.l0 k l0 1) = some r := h
 clear h
 have H' := am H
 clear H
 go_enter Try.func113, Try.ntmps113
 go_wp2
 repeat (go_quiet (fail); try go_wp2)
 go_loopg [3] k (fun kq v3 w' => ∃ (x3_1 : Int), v3 = .int .i64 x3_1 ∧ Aside0 (impl_IsAscending.l0 kq l0 x3_1 = some r) ∧ Aside0 (kq ≤ k) ∧ Drawn0 w w')
 case atStart => exact ⟨(1), rr, H', ⟨Nat.le_refl _⟩, dw⟩
 case round =>
  clear H'
  obtain ⟨x3_1, rfl, HA, HK1, ⟨m1, rfl⟩⟩ := hrel
  cases gk with
  | zero => exact absurd HA.out (by simp [impl_IsAscending.l0])
  | succ k1 =>
   have H := HA.out
   clear HA
   simp only [impl_IsAscending.l0] at H
   replace H := gi H; obtain ⟨c2b0, H⟩ | ⟨c2b0, H⟩ := H
   ·replace H := gd H; obtain ⟨c3b0, H⟩ := H
    obtain ⟨ji4, hji4⟩ : ∃ j_ : Int, (wrap64 (x3_1 - 1)) = j_ := ⟨_, rfl⟩
    replace H : (if 0 ≤ (ji4) then (if (ji4) < (l0.length : Int) then (if (rd l0 x3_1) ≤ (rd l0 (ji4)) then (some false) else (impl_IsAscending.l0 k1 l0 (wrap64 (x3_1 + 1)))) else (none)) else (none)) = some r := by first | (rw [hji4] at H; exact H) | (simp only [hji4] at H ⊢; exact H)
    have hji4w : (IntKind.i64.wrap (x3_1 - 1)) = ji4 := (i64_w _).trans hji4
    replace H := gd H; obtain ⟨c5b0, H⟩ := H
    replace H := gd H; obtain ⟨c6b0, H⟩ := H
    replace H := gi H; obtain ⟨c7b0, H⟩ | ⟨c7b0, H⟩ := H
    ·obtain rfl := Option.some.inj H
     obtain ⟨⟨ad378, e378, hx378_0⟩, p378, q378⟩ := pq (Kd.at_int HR0.out x3_1)
     cases e378
     obtain ⟨⟨ad379, e379, hx379_0⟩, p379, q379⟩ := pq (Kd.at_int HR0.out (ji4))
     obtain rfl : ad378 = ad379 := (by injection e379)
     go_wp2
     repeat (go_quiet (fail); try go_wp2)
     go_ret
     exact ⟨by first | rfl | (simp; done) | (simp only [← hji4] <;> (first | rfl | simp)) | (simp [*]; done), dw⟩
    have H' := am H
    clear H
    obtain ⟨⟨ad378, e378, hx378_0⟩, p378, q378⟩ := pq (Kd.at_int HR0.out x3_1)
    cases e378
    obtain ⟨⟨ad379, e379, hx379_0⟩, p379, q379⟩ := pq (Kd.at_int HR0.out (ji4))
    obtain rfl : ad378 = ad379 := (by injection e379)
    go_wp2
    repeat (go_quiet (fail); try go_wp2)
    go_roundg k1
    case measure => have := HK1.out; omega
    case rel => exact ⟨(wrap64 (x3_1 + 1)), rr, H', ⟨by have := HK1.out; omega⟩, dw⟩
   obtain rfl := Option.some.inj H
   go_wp2
   repeat (go_quiet (fail); try go_wp2)
   go_ret
   exact ⟨rr, dw⟩

end Go.Proofs.Ytlfdipnhlmjiaaa.C
