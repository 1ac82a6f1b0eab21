/- Contracts of functions of the program: impl_ChainOf. -/
import Derived.Test.YtlfdipnhlmjiaaaC0
import Derived.Test.YtlfdipnhlmjiaaaC8
import Derived.Test.YtlfdipnhlmjiaaaC9
namespace Go.Proofs.Ytlfdipnhlmjiaaa.C
open Go.RowKit Go.Proofs.YtlfdipnhlmjiaaaW.PrintWords Go.Proofs.YtlfdipnhlmjiaaaW.PrintLast Go.Proofs.YtlfdipnhlmjiaaaW.PrintMore
attribute [local go_sem] max2_int min2_int max_two min_two max_three min_three max_four min_four
set_option linter.unusedVariables false
set_option linter.unusedSimpArgs false

/-! ### impl_ChainOf: function 44 -/
mutual
def impl_ChainOf.j0 : Nat → Int → Int → Bool → List (List Int) → Option ((List (List Int)) × Bool)
 | 0, _, _, _, _ => none
 | k + 1, x12, x13, x37, x482000 => if x37 = true then (some (([] : List (List Int)), false)) else ((impl_chained.f k x482000).bind fun t484 => (if 0 ≤ (x482000.length : Int) then (if ((x482000.length : Int) : Int).toNat ≤ 35184372088832 then ((some (List.replicate ((x482000.length : Int) : Int).toNat 0 : List Int)).bind fun y485 => (impl_ChainOf.l0 k x12 x13 t484 y485 (y485.length : Int) 0 x482000)) else (none)) else (none)))
def impl_ChainOf.l0 : Nat → Int → Int → Int → List Int → Int → Int → List (List Int) → Option ((List (List Int)) × Bool)
 | 0, _, _, _, _, _, _, _ => none
 | k + 1, x12, x13, x14, x15, x44, x45, x482000 => if x45 < x44 then (if 0 ≤ x45 then (if x45 < (x15.length : Int) then (impl_ChainOf.l0 k x12 x13 x14 (x15.set (x45 : Int).toNat (-1)) x44 (wrap64 (x45 + 1)) x482000) else (none)) else (none)) else (if 0 ≤ x13 then (if x13 < (x15.length : Int) then (impl_ChainOf.l1 k x12 x13 x14 (x15.set (x13 : Int).toNat 0) (([x13] : List Int)) x482000) else (none)) else (none))
def impl_ChainOf.l1 : Nat → Int → Int → Int → List Int → List Int → List (List Int) → Option ((List (List Int)) × Bool)
 | 0, _, _, _, _, _, _ => none
 | k + 1, x12, x13, x14, x15, x17, x482000 => if (x17.length : Int) > 0 then (if 0 < (x17.length : Int) then (if 1 ≤ (x17.length : Int) then (impl_ChainOf.l2 k x12 x13 x14 x15 (x17.drop (1 : Int).toNat) (rd x17 0) (x482000.length : Int) 0 x482000) else (none)) else (none)) else (if 0 ≤ x12 then (if x12 < (x482000.length : Int) then ((slices_Clone_int_int.f (rd_L2 x482000 x12)).bind fun t507 => (impl_ChainOf.l3 k x12 x13 x14 x15 (([t507] : List (List Int))) x482000)) else (none)) else (none))
def impl_ChainOf.l2 : Nat → Int → Int → Int → List Int → List Int → Int → Int → Int → List (List Int) → Option ((List (List Int)) × Bool)
 | 0, _, _, _, _, _, _, _, _, _ => none
 | k + 1, x12, x13, x14, x15, x17, x18, x66, x67, x482000 => if x67 < x66 then (if 0 ≤ x67 then (if x67 < (x15.length : Int) then (if (rd x15 x67) < 0 then (if 0 ≤ x18 then (if x18 < (x482000.length : Int) then (if x67 < (x482000.length : Int) then ((impl_apart.f k (rd_L2 x482000 x18) (rd_L2 x482000 x67)).bind fun t500 => (if t500 ≤ x14 then (if x18 < (x15.length : Int) then (if x17.length < 17592186044416 then (impl_ChainOf.l2 k x12 x13 x14 (x15.set (x67 : Int).toNat (wrap64 ((rd x15 x18) + 1))) (x17 ++ [x67]) x18 x66 (wrap64 (x67 + 1)) x482000) else (none)) else (none)) else (impl_ChainOf.l2 k x12 x13 x14 x15 x17 x18 x66 (wrap64 (x67 + 1)) x482000))) else (none)) else (none)) else (none)) else (impl_ChainOf.l2 k x12 x13 x14 x15 x17 x18 x66 (wrap64 (x67 + 1)) x482000)) else (none)) else (none)) else (impl_ChainOf.l1 k x12 x13 x14 x15 x17 x482000)
def impl_ChainOf.l3 : Nat → Int → Int → Int → List Int → List (List Int) → List (List Int) → Option ((List (List Int)) × Bool)
 | 0, _, _, _, _, _, _ => none
 | k + 1, x12, x13, x14, x15, x20, x482000 => if x12 = x13 then (some (x20, true)) else (impl_ChainOf.l4 k x12 x13 x14 x15 x20 (x482000.length : Int) 0 x482000)
def impl_ChainOf.l4 : Nat → Int → Int → Int → List Int → List (List Int) → Int → Int → List (List Int) → Option ((List (List Int)) × Bool)
 | 0, _, _, _, _, _, _, _, _ => none
 | k + 1, x12, x13, x14, x15, x20, x111, x112, x482000 => if x112 < x111 then (if 0 ≤ x112 then (if x112 < (x15.length : Int) then (if 0 ≤ x12 then (if x12 < (x15.length : Int) then (if (rd x15 x112) = (wrap64 ((rd x15 x12) - 1)) then (if x12 < (x482000.length : Int) then (if x112 < (x482000.length : Int) then ((impl_apart.f k (rd_L2 x482000 x12) (rd_L2 x482000 x112)).bind fun t517 => (if t517 ≤ x14 then ((slices_Clone_int_int.f (rd_L2 x482000 x112)).bind fun t519 => (if x20.length < 5864062014805 then (impl_ChainOf.l3 k x112 x13 x14 x15 (x20 ++ [t519]) x482000) else (none))) else (impl_ChainOf.l4 k x12 x13 x14 x15 x20 x111 (wrap64 (x112 + 1)) x482000))) else (none)) else (none)) else (impl_ChainOf.l4 k x12 x13 x14 x15 x20 x111 (wrap64 (x112 + 1)) x482000)) else (none)) else (none)) else (none)) else (none)) else (if 0 ≤ x12 then (if x12 < (x482000.length : Int) then ((slices_Clone_int_int.f (rd_L2 x482000 x12)).bind fun t526 => (if x20.length < 5864062014805 then (impl_ChainOf.l3 k x12 x13 x14 x15 (x20 ++ [t526]) x482000) else (none))) else (none)) else (none))
end
def impl_ChainOf.f (k : Nat) (l0_0 : List Int) (a1 : Int) (l2 : List Int) (l3 : List Int) : Option ((List (List Int)) × Bool) := (impl_Factorizations.f k l0_0 a1).bind fun t478 => ((impl_ChainOf_1.f k t478 l2).bind fun t482 => ((impl_ChainOf_1.f k t478 l3).bind fun t483 => (if t482 < 0 then (impl_ChainOf.j0 k t482 t483 true t478) else (impl_ChainOf.j0 k t482 t483 (decide (t483 < 0)) t478))))
def impl_ChainOf.T21 : Bool × List (List Nat × List Nat) := (true, [([], []), ([], []), ([0, 1], [0, 1]), ([2], [2]), ([3], [3]), ([4], [4]), ([5], [5]), ([5], [5]), ([6, 7, 5], [5, 6, 7]), ([8, 5], [5, 8]), ([5], [5]), ([5], [5]), ([10, 11, 5], [5, 10, 11]), ([12, 5], [5, 12]), ([9, 13, 5, 5], [5, 9, 13]), ([5], [5]), ([14, 15, 5], [5, 14, 15]), ([5, 16], [5, 16])])
def impl_ChainOf.B21 : List Nat := [0, 0, 3, 7, 15, 31, 63, 63, 255, 511, 63, 63, 3135, 7231, 16383, 63, 65535, 131071]
theorem impl_ChainOf.tab21 : rtab .any (opsOf Try.f44 21) = impl_ChainOf.T21 := by kernel_rfl
theorem impl_ChainOf.bits21 : waitsOk impl_ChainOf.T21.2 impl_ChainOf.B21 = true := by kernel_rfl
def impl_ChainOf.T30 : Bool × List (List Nat × List Nat) := (true, [([], []), ([], []), ([0, 1], [0, 1]), ([2], [2]), ([], []), ([], []), ([4, 5], [4, 5]), ([6], [6]), ([7], [7]), ([3, 8], [3, 8]), ([9], [9]), ([10], [10]), ([10], [10]), ([11, 12, 10], [10, 11, 12]), ([13, 10], [10, 13]), ([10], [10]), ([10], [10]), ([15, 16, 10], [10, 15, 16]), ([17, 10], [10, 17]), ([14, 18, 10, 10], [10, 14, 18]), ([10], [10]), ([19, 20, 10], [10, 19, 20]), ([10, 21], [10, 21])])
def impl_ChainOf.B30 : List Nat := [0, 0, 3, 7, 0, 0, 48, 112, 240, 511, 1023, 2047, 2047, 8191, 16383, 2047, 2047, 100351, 231423, 524287, 2047, 2097151, 4194303]
theorem impl_ChainOf.tab30 : rtab .any (opsOf Try.f44 30) = impl_ChainOf.T30 := by kernel_rfl
theorem impl_ChainOf.bits30 : waitsOk impl_ChainOf.T30.2 impl_ChainOf.B30 = true := by kernel_rfl
set_option maxHeartbeats 8000000 in
set_option maxRecDepth 100000 in
theorem impl_ChainOf.calls (k : Nat) (A0_0 : Option Addr) (c0_0 : Nat) (l0_0 : List Int) (a1 : Int) (A2 : Option Addr) (c2 : Nat) (l2 : List Int) (A3 : Option Addr) (c3 : Nat) (l3 : List Int) (r1 : List (List Int)) (r2 : Bool) (w : World) (hr0_0 : Kd.C (Kd.int .i64) w A0_0 l0_0.length l0_0) (hc0_0 : l0_0.length ≤ c0_0) (hr2 : Kd.C (Kd.int .i64) w A2 l2.length l2) (hc2 : l2.length ≤ c2) (hr3 : Kd.C (Kd.int .i64) w A3 l3.length l3) (hc3 : l3.length ≤ c3) (h : impl_ChainOf.f k l0_0 a1 l2 l3 = some (r1, r2)) :
  Calls Try.prog 44 #[.agg #[.slice A0_0 l0_0.length c0_0], .int .i64 a1, .slice A2 l2.length c2, .slice A3 l3.length c3] w fun e w' => ∃ v0_ : Value, e = .returned (.tuple #[v0_, .bool r2]) ∧ Kd.S (Kd.slice 3 (Kd.int .i64)) 22 w' w.heap.size (fun _ => True) v0_ r1 ∧ Below w.heap.size w w' := by
 have hu27 := Try.underlying27
 have HR0_0 := am hr0_0
 have HC0_0 := am hc0_0
 clear hr0_0 hc0_0
 have HR2 := am hr2
 have HC2 := am hc2
 clear hr2 hc2
 have HR3 := am hr3
 have HC3 := am hc3
 clear hr3 hc3
 have HB := am (Below.refl w.heap.size w)
 have H : ((impl_Factorizations.f k l0_0 a1).bind fun t478 => ((impl_ChainOf_1.f k t478 l2).bind fun t482 => ((impl_ChainOf_1.f k t478 l3).bind fun t483 => (if t482 < 0 then (impl_ChainOf.j0 k t482 t483 true t478) else (impl_ChainOf.j0 k t482 t483 (decide (t483 < 0)) t478))))) = some (r1, r2) := h
 clear h
 replace H := ga H; obtain ⟨t478, A5, H⟩ := H
 replace H := ga H; obtain ⟨t482, A6, H⟩ := H
 replace H := ga H; obtain ⟨t483, A7, H⟩ := H
 have HC8 := am H
 clear H
 go_enter Try.func44, Try.ntmps44
 go_upto_region 4 with (first | ((with_reducible refine gate_dst (N := 4) rfl ?_); refine bx 4 #[.slice A0_0 l0_0.length c0_0] 27 ?_; intro gb477 hg w9 hbox hb; have BK477 := am (hbox); have GW477 := am (gs hg : w.heap.size ≤ gb477); have GE477 := GW477; replace HB := am (below_step bw hb); clear hb hbox hg; have hcz10_0 := bc BK477 0 (.slice A0_0 l0_0.length c0_0); have hfz10_0 := blk_frozen BK477.out 0) | ((with_reducible refine gate_callee (f := 82) rfl ?_); refine gl (some 24) Try.func82 #[.agg #[.slice A0_0 l0_0.length c0_0], .int .i64 a1] ?_; (with_reducible refine (impl_Factorizations.calls k _ _ l0_0 a1 t478 _ ?side1 ?side2 A5.out).mono ?_); (case side1 => exact co (Kd.C_below HR0_0.out HB.out)); (case side2 => exact HC0_0.out); rintro e w11 ⟨v479, rfl, ho0, hb⟩; refine ⟨_, rfl, ?_⟩; have HO480 := am (Kd.N_lower (Kd.N_mono (ok' := fun k_ => (w.heap.size ≤ k_) ∧ k_ ≠ gb477) (Kd.S_N (Kd.S_bound ho0)) (fun k_ hk_ => ⟨(Nat.le_trans (below_size bw) hk_.2.1), (Kd.freshB (g := gb477) (o := .cells #[.slice A0_0 l0_0.length c0_0] 27 (0, 0)) (bo BK477.out) k_ hk_.2.1)⟩)) (below_size bw)); replace BK477 := kb BK477 hb; replace HB := am (below_step bw hb); clear hb ho0) | ((with_reducible refine gate_dst (N := 10) rfl ?_); refine bx 10 #[.slice none 0 0] 49 ?_; intro gb481 hg w12 hbox hb; replace HO480 := am (Kd.N_below (Kd.N_elderB (no HO480.out) gb481 (Nat.le_of_eq hg.symm)) hb); have BK481 := am (hbox); have GW481 := am (gs hg : w.heap.size ≤ gb481); have GE481 := GW481; replace HB := am (below_step bw hb); have NB477_481 := nl hg BK477; have NB481_477 := ns NB477_481; replace BK477 := kb BK477 hb; clear hb hbox hg; obtain ⟨Ao13, co13, eo13⟩ := Kd.N_slice HO480.out; subst eo13; have hnb14 := NB481_477.out; have hnc14 := NB477_481.out; have hcz15_0 := bc BK481 0 (.slice none 0 0); have hfz15_0 := blk_frozen BK481.out 0) | (go_at_call 92; (with_reducible refine (impl_ChainOf_1.calls k gb481 Ao13 co13 t478 _ _ l2 t482 _ ?side0 ?side1 ?side2 ?side3 ?side4 A6.out).mono ?_); (case side0 => first | exact bo BK481.out | ((with_reducible repeat (first | refine blk_drewN ?_ _ | refine blk_drew ?_ | refine blk_alloc ?_ _)); refine blk_put (cs := #[.slice none 0 0]) ?_ 0 _ rfl; (with_reducible repeat (first | refine blk_drewN ?_ _ | refine blk_drew ?_ | refine blk_alloc ?_ _)); exact BK481.out)); (case side1 => refine (Kd.N_reads' (e := 22) (base := w.heap.size) (ok := fun k_ => (((w.heap.size ≤ k_) ∧ k_ ≠ gb477) ∧ k_ ≠ gb481)) (n := t478.length) (c := co13) ?_).2.2; exact (by (with_reducible repeat (first | apply Kd.N_alloc | apply Kd.N_drewN | apply Kd.N_drew)); exact (Kd.N_mono (Kd.N_far (p := ⟨gb481, 0, none⟩) (Kd.N_mono HO480.out (fun k_ hk => (⟨hk, hk.2⟩ : _ ∧ k_ ≠ gb481))) (fun _ hk => hk.2) (.slice Ao13 t478.length co13)) (fun _ h_ => h_.1)))); (case side2 => exact (Kd.N_reads' HO480.out).2.1); (case side3 => exact Kd.C_below HR2.out bw); (case side4 => exact HC2.out); rintro e w16 ⟨rfl, hb⟩; replace HO480 := am (Kd.N_below (by (with_reducible repeat (first | apply Kd.N_alloc | apply Kd.N_drewN | apply Kd.N_drew)); exact (Kd.N_mono (Kd.N_far (p := ⟨gb481, 0, none⟩) (Kd.N_mono HO480.out (fun k_ hk => (⟨hk, hk.2⟩ : _ ∧ k_ ≠ gb481))) (fun _ hk => hk.2) (.slice Ao13 t478.length co13)) (fun _ h_ => h_.1))) hb); replace BK477 := kb BK477 hb; replace BK481 := am (blk_below (g := gb481) (o := .cells #[.slice Ao13 t478.length co13] 49 (0, 0)) (bp BK481.out) hb); replace HB := am (below_step bw hb); clear hb; have hcz17_0 := bc BK481 0 (.slice Ao13 t478.length co13); have hfz17_0 := blk_frozen BK481.out 0) | (go_at_call 92; (with_reducible refine (impl_ChainOf_1.calls k gb481 Ao13 co13 t478 _ _ l3 t483 _ ?side0 ?side1 ?side2 ?side3 ?side4 A7.out).mono ?_); (case side0 => first | exact bo BK481.out | ((with_reducible repeat (first | refine blk_drewN ?_ _ | refine blk_drew ?_ | refine blk_alloc ?_ _)); refine blk_put (cs := #[.slice none 0 0]) ?_ 0 _ rfl; (with_reducible repeat (first | refine blk_drewN ?_ _ | refine blk_drew ?_ | refine blk_alloc ?_ _)); exact BK481.out)); (case side1 => exact co (Kd.N_reads' HO480.out).2.2); (case side2 => exact (Kd.N_reads' HO480.out).2.1); (case side3 => exact co (Kd.C_below HR3.out HB.out)); (case side4 => exact HC3.out); rintro e w18 ⟨rfl, hb⟩; replace HO480 := nK HO480 hb; replace BK477 := kb BK477 hb; replace BK481 := kb BK481 hb; replace HB := am (below_step bw hb); clear hb))
 (try simp only [Act.put, List.setIfInBounds_toArray, List.set_cons_zero, List.set_cons_succ])
 go_cut [37] (fun v37 wc => ∃ (kq : Nat) (x37_7 : Bool), v37 = .bool x37_7 ∧ Aside0 (impl_ChainOf.j0 kq t482 t483 x37_7 t478 = some (r1, r2)) ∧ Aside0 (kq ≤ k) ∧ Aside0 (Kd.N (Kd.slice 3 (Kd.int .i64)) 22 wc w.heap.size (fun k_ => (w.heap.size ≤ k_) ∧ k_ ≠ gb477 ∧ k_ ≠ gb481) (.slice Ao13 t478.length co13) t478) ∧ Aside0 (wc.heap[gb477]? = some (.cells #[(.slice A0_0 l0_0.length c0_0)] 27 (0, 0))) ∧ Aside0 (wc.heap[gb481]? = some (.cells #[(.slice Ao13 t478.length co13)] 49 (0, 0))) ∧ Aside0 (Below w.heap.size w wc))
 case first =>
  have H := HC8.out
  clear HC8
  replace H := gi H; obtain ⟨c19b0, H⟩ | ⟨c19b0, H⟩ := H
  ·(first | rw [c19b0] | (simp only [i64_w, i32_w]; rw [c19b0]) | skip)
   have H' := am H
   clear H
   go_wp2
   go_meet
   case rel => exact ⟨_, (true), rr, H', ⟨om⟩, ⟨by (with_reducible repeat (first | apply Kd.N_alloc | apply Kd.N_drewN | apply Kd.N_drew)); exact Kd.N_mono HO480.out (fun _ hk => ⟨hk.1.1, ⟨hk.1.2, hk.2⟩⟩)⟩, ⟨bo BK477.out⟩, ⟨bo BK481.out⟩, ⟨bw⟩⟩
  ·(first | rw [c19b0] | (simp only [i64_w, i32_w]; rw [c19b0]) | skip)
   have H' := am H
   clear H
   go_wp2
   go_meet
   case rel => exact ⟨_, (decide (t483 < 0)), rr, H', ⟨om⟩, ⟨by (with_reducible repeat (first | apply Kd.N_alloc | apply Kd.N_drewN | apply Kd.N_drew)); exact Kd.N_mono HO480.out (fun _ hk => ⟨hk.1.1, ⟨hk.1.2, hk.2⟩⟩)⟩, ⟨bo BK477.out⟩, ⟨bo BK481.out⟩, ⟨bw⟩⟩
 case rest =>
  clear HC8
  try clear c2; try clear c3; try clear c19b0; try clear hcz10_0; try clear hcz15_0; try clear hcz17_0; try clear hfz10_0; try clear hfz15_0; try clear hfz17_0
  obtain ⟨kq, x37_7, rfl, HA, HJ7, HO_482000, BK477, BK481, HB⟩ := hcut
  cases kq with
  | zero => exact absurd HA.out (by simp [impl_ChainOf.j0])
  | succ kj7 =>
   have H := HA.out
   clear HA
   simp only [impl_ChainOf.j0] at H
   replace H := gb H; obtain ⟨rfl, H⟩ | ⟨rfl, H⟩ := H
   ·simp only [Option.some.injEq, Prod.mk.injEq] at H
    obtain ⟨rfl, rfl⟩ := H
    go_wp2
    go_ret2
    exact ⟨_, re, by first | exact Kd.S_nil _ _ _ _ _ | exact Kd.N_nil _ _ _ _ _ | exact Kd.V_nil _ _ _ _ _ | exact Kd.Q_nil _ _ _ _ _ | exact Kd.R_nil _ _ _ _ _, bw⟩
   replace H := ga H; obtain ⟨t484, A21, H⟩ := H
   replace H := gp H; obtain ⟨c22, H⟩ := H
   have c22b0 := eq_true c22
   have c22b1 : decide (0 ≤ (t478.length : Int)) = true := decide_eq_true c22
   clear c22
   replace H := gp H; obtain ⟨c23, H⟩ := H
   have c23b0 := eq_true c23
   have c23b1 : decide (((t478.length : Int) : Int).toNat ≤ 35184372088832) = true := decide_eq_true c23
   clear c23
   obtain ⟨y485, hy485⟩ : ∃ y_ : List Int, y_ = (List.replicate ((t478.length : Int) : Int).toNat 0) := ⟨_, rfl⟩
   replace H : (impl_ChainOf.l0 kj7 t482 t483 t484 y485 (y485.length : Int) 0 t478) = some (r1, r2) := by first | (rw [hy485]; with_reducible first | exact H | exact bs H) | (with_reducible first | exact bs H | exact H) | (rw [hy485]; exact H) | exact H
   have Ny485 := am hy485
   clear hy485
   have H' := am H
   clear H
   have hnb24 := NB481_477.out
   have hnc24 := NB477_481.out
   have hcz25_0 := bc BK481 0 (.slice Ao13 t478.length co13)
   have hfz25_0 := blk_frozen BK481.out 0
   go_wp2_with (first | ((with_reducible refine gate_callee (f := 96) rfl ?_); refine gl (some 39) Try.func96 #[.slice Ao13 t478.length co13] ?_; (with_reducible refine (impl_chained.calls kj7 _ _ t478 t484 _ ?side1 ?side2 A21.out).mono ?_); (case side1 => exact co (Kd.N_reads' HO_482000.out).2.2); (case side2 => exact (Kd.N_reads' HO_482000.out).2.1); rintro e w26 ⟨rfl, hb⟩; refine ⟨_, rfl, ?_⟩; replace HO_482000 := nK HO_482000 hb; replace BK477 := kb BK477 hb; replace BK481 := kb BK481 hb; replace HB := am (below_step bw hb); clear hb; have hcz27_0 := bc BK481 0 (.slice Ao13 t478.length co13); have hfz27_0 := blk_frozen BK481.out 0) | ((with_reducible refine gate_dst (N := 42) rfl ?_); refine Kd.R_make (Kd.int .i64) _ 3 rfl (N := 42) rfl 22 _ _ rfl (t478.length : Int) rfl rfl Try.underlying22 (.int .i64 0) 8 info3 rfl (by decide) (by omega) 0 (ok := fun _ => True) (okp := fun _ => True) rfl (fun _ hk => hk) trivial (of_decide_eq_true (by first | (with_reducible assumption) | assumption)) (Nat.le_trans (Nat.mul_le_mul_right _ (of_decide_eq_true (by first | (with_reducible assumption) | assumption) : (t478.length : Int).toNat ≤ 35184372088832)) (by omega)) (Below.refl _ _) (Nat.le_refl _) ?_; intro v486 w28 ho29 hb hg_ hnew_; clear hg_ hnew_; (first | rw [← Ny485.out] at ho29 | (simp only [Int.reduceToNat] at ho29; rw [← Ny485.out] at ho29)); replace HO_482000 := am (Kd.N_elder' (no HO_482000.out) (Kd.R_base ho29) hb); have HO487 := am (Kd.R_lower (Kd.R_newM (M := fun k_ => (w.heap.size ≤ k_)) ho29 (below_size bw) (fun k_ h_ => h_)) (below_size bw)); replace BK477 := kb BK477 hb; replace BK481 := kb BK481 hb; replace HB := am (below_step bw hb); clear hb ho29; obtain ⟨Ao30, co30, eo30⟩ := Kd.R_slice HO487.out; subst eo30))
   go_loopg [45] kj7 (fun kq v45 w' => ∃ (x15_2 : List Int) (x45_2 : Int), v45 = .int .i64 x45_2 ∧ Aside0 (impl_ChainOf.l0 kq t482 t483 t484 x15_2 (y485.length : Int) x45_2 t478 = some (r1, r2)) ∧ Aside0 (kq ≤ kj7) ∧ Aside0 (Kd.R (Kd.int .i64) 3 w' w.heap.size (fun k_ => (w.heap.size ≤ k_)) (.slice Ao30 y485.length co30) x15_2) ∧ Aside0 (Kd.N (Kd.slice 3 (Kd.int .i64)) 22 w' w.heap.size (fun k_ => (w.heap.size ≤ k_) ∧ nb k_ Ao30 y485 co30 ∧ k_ ≠ gb477 ∧ k_ ≠ gb481) (.slice Ao13 t478.length co13) t478) ∧ Aside0 (w'.heap[gb477]? = some (.cells #[(.slice A0_0 l0_0.length c0_0)] 27 (0, 0))) ∧ Aside0 (w'.heap[gb481]? = some (.cells #[(.slice Ao13 t478.length co13)] 49 (0, 0))) ∧ Aside0 (Below w.heap.size w w'))
   case atStart => exact ⟨(y485), (0), rr, H', ⟨Nat.le_refl _⟩, ⟨by (with_reducible repeat (first | apply Kd.R_alloc | apply Kd.R_drewN | apply Kd.R_drew)); exact Kd.R_mono HO487.out (fun _ hk => hk.1)⟩, ⟨by (with_reducible repeat (first | apply Kd.N_alloc | apply Kd.N_drewN | apply Kd.N_drew)); exact Kd.N_mono HO_482000.out (fun _ hk => ⟨hk.1.1, ⟨hk.2, ⟨hk.1.2.1, hk.1.2.2⟩⟩⟩)⟩, ⟨bo BK477.out⟩, ⟨bo BK481.out⟩, ⟨bw⟩⟩
   case round =>
    clear H'
    try clear c2; try clear c3; try clear c19b0; try clear c22; try clear c22b0; try clear c22b1; try clear c23; try clear c23b0; try clear c23b1; try clear hcz10_0; try clear hcz15_0; try clear hcz17_0; try clear hcz25_0; try clear hcz27_0; try clear hfz10_0; try clear hfz15_0; try clear hfz17_0; try clear hfz25_0; try clear hfz27_0
    obtain ⟨x15_2, x45_2, rfl, HA, HK2, HO_15, HO_482000, BK477, BK481, HB⟩ := hrel
    have hl15_2 := (Kd.R_reads' HO_15.out).1
    rw [hl15_2] at HO_15
    (try simp only [nb, hl15_2])
    (try simp only [nb, hl15_2] at BK477)
    (try simp only [nb, hl15_2] at BK481)
    (try simp only [nb, hl15_2] at HO_482000)
    cases gk with
    | zero => exact absurd HA.out (by simp [impl_ChainOf.l0])
    | succ k2 =>
     have H := HA.out
     clear HA
     simp only [impl_ChainOf.l0] at H
     by_cases c31 : x45_2 < (y485.length : Int)
     ·rw [if_pos c31] at H
      have c31b0 : decide (x45_2 < (y485.length : Int)) = true := decide_eq_true c31
      (try simp only [nb, hl15_2] at c31b0)
      clear c31
      replace H := gd H; obtain ⟨c32b0, H⟩ := H
      by_cases c33 : x45_2 < (x15_2.length : Int)
      rotate_left
      ·rw [if_neg c33] at H
       exact absurd H (by simp)
      rw [if_pos c33] at H
      have c33b0 : decide (x45_2 < (x15_2.length : Int)) = true := decide_eq_true c33
      (try simp only [nb, hl15_2] at c33b0)
      clear c33
      obtain ⟨y488, hy488⟩ : ∃ y_ : List Int, y_ = (x15_2.set (x45_2 : Int).toNat (-1)) := ⟨_, rfl⟩
      replace H : (impl_ChainOf.l0 k2 t482 t483 t484 y488 (y485.length : Int) (wrap64 (x45_2 + 1)) t478) = some (r1, r2) := by first | (rw [hy488]; with_reducible first | exact H | exact bs H) | (with_reducible first | exact bs H | exact H) | (rw [hy488]; exact H) | exact H
      have Ny488 := am hy488
      clear hy488
      have H' := am H
      clear H
      have p34 : 0 ≤ (x45_2 : Int) := of_decide_eq_true (by first | (with_reducible assumption) | assumption)
      have q34 : (x45_2 : Int) < ((x15_2.length : Int) : Int) := of_decide_eq_true (by first | (with_reducible assumption) | assumption)
      obtain ⟨go34, co34, eo34, gb34, gl34, cl34, HG34⟩ := Kd.R_form HO_15.out (by omega)
      (first | cases eo34 | (injection eo34 with ea_ en_ ec_; (first | subst ea_ | (injection ea_ with ea_; subst ea_)); subst ec_; clear en_))
      have GB34 := am gb34
      have GG34 := am HG34
      clear gb34 gl34 HG34
      obtain ⟨hx34_0, hf34_0⟩ := Kd.R_celln 0 HO_15.out (x45_2 : Int) p34 q34
      replace p34 := eq_true p34
      replace q34 := eq_true q34
      have HP35 := Kd.R_putg HO_15.out (x45_2 : Int) (-1)
      go_wp2_with (first | ((with_reducible refine gate_store (t := 3) (p := 50) rfl ?_); refine store_event (t := 3) (p := 50) (v := ?vo_w36) (w1 := (wr.setCell ⟨go34, (x45_2 : Int).toNat, none⟩ (.int .i64 (-1)))) ?hg ?ho ?hn ?hr ?_; (case ho => rfl); (case hg => rfl); (case hn => rfl); (case hr => first | (go_simp; done) | (go_simp; rfl)); intro w36 hw; have hg : wr.grownBy w36 (some go34) := (by rw [hw]; exact HP35.2); have hp_ : Kd.R (Kd.int .i64) 3 w36 w.heap.size (fun k_ => (w.heap.size ≤ k_)) (.slice (some ⟨go34, 0, none⟩) x15_2.length co30) y488 := (by rw [hw, Ny488.out]; exact HP35.1); clear HP35; replace HO_482000 := am (Kd.N_afterv (v := (.slice (some ⟨go34, 0, none⟩) x15_2.length co30)) (v1 := (.slice (some ⟨go34, 0, none⟩) x15_2.length co30)) (ok := (fun k_ => (w.heap.size ≤ k_) ∧ k_ ≠ gb477 ∧ k_ ≠ gb481)) (by (with_reducible repeat (first | apply Kd.N_alloc | apply Kd.N_drewN | apply Kd.N_drew)); exact Kd.N_mono HO_482000.out (fun _ hk => ⟨⟨hk.1, ⟨hk.2.2.1, hk.2.2.2⟩⟩, hk.2.1⟩)) hg (.inl rfl)); replace BK477 := am (blk_grown (g := gb477) (o := .cells #[.slice A0_0 l0_0.length c0_0] 27 (0, 0)) (bo BK477.out) hg (Kd.R_ne HO_15.out BK477.out (by decide))); replace BK481 := am (blk_grown (g := gb481) (o := .cells #[.slice Ao13 t478.length co13] 49 (0, 0)) (bo BK481.out) hg (Kd.R_ne HO_15.out BK481.out (by decide))); replace HO_15 := am (hp_); replace HB := am ((by rw [hw]; exact below_set (HB.out) GB34.out : Below w.heap.size w w36)); clear hg hw hp_))
      (try simp only [nb, ← hl15_2])
      go_roundg k2
      case measure => have := HJ7.out; have := HK2.out; omega
      case rel => exact ⟨(y488), (wrap64 (x45_2 + 1)), rr, H', ⟨by have := HJ7.out; have := HK2.out; omega⟩, ⟨by (try simp only [nb, hl15_2]); (with_reducible repeat (first | apply Kd.R_alloc | apply Kd.R_drewN | apply Kd.R_drew)); exact HO_15.out⟩, ⟨by (try simp only [nb, hl15_2]); (with_reducible repeat (first | apply Kd.N_alloc | apply Kd.N_drewN | apply Kd.N_drew)); exact Kd.N_mono HO_482000.out (fun _ hk => ⟨hk.1.1, ⟨hk.2, ⟨hk.1.2.1, hk.1.2.2⟩⟩⟩)⟩, ⟨by (try simp only [nb, hl15_2]); (with_reducible repeat (first | refine blk_drewN ?_ _ | refine blk_drew ?_ | refine blk_alloc ?_ _)); exact BK477.out⟩, ⟨by (try simp only [nb, hl15_2]); (with_reducible repeat (first | refine blk_drewN ?_ _ | refine blk_drew ?_ | refine blk_alloc ?_ _)); exact BK481.out⟩, ⟨bw⟩⟩
     rw [if_neg c31] at H
     have c31b0 : decide (x45_2 < (y485.length : Int)) = false := decide_eq_false c31
     (try simp only [nb, hl15_2] at c31b0)
     clear c31
     replace H := gd H; obtain ⟨c37b0, H⟩ := H
     by_cases c38 : t483 < (x15_2.length : Int)
     rotate_left
     ·rw [if_neg c38] at H
      exact absurd H (by simp)
     rw [if_pos c38] at H
     have c38b0 : decide (t483 < (x15_2.length : Int)) = true := decide_eq_true c38
     (try simp only [nb, hl15_2] at c38b0)
     clear c38
     obtain ⟨y489, hy489⟩ : ∃ y_ : List Int, y_ = (x15_2.set (t483 : Int).toNat 0) := ⟨_, rfl⟩
     replace H : (impl_ChainOf.l1 k2 t482 t483 t484 y489 (([t483] : List Int)) t478) = some (r1, r2) := by first | (rw [hy489]; with_reducible first | exact H | exact bs H) | (with_reducible first | exact bs H | exact H) | (rw [hy489]; exact H) | exact H
     have Ny489 := am hy489
     clear hy489
     obtain ⟨y490, hy490⟩ : ∃ y_ : List Int, y_ = (([t483] : List Int)) := ⟨_, rfl⟩
     replace H : (impl_ChainOf.l1 k2 t482 t483 t484 y489 y490 t478) = some (r1, r2) := by first | (rw [hy490]; with_reducible first | exact H | exact bs H) | (with_reducible first | exact bs H | exact H) | (rw [hy490]; exact H) | exact H
     have Ny490 := am hy490
     clear hy490
     have H' := am H
     clear H
     have p39 : 0 ≤ (t483 : Int) := of_decide_eq_true (by first | (with_reducible assumption) | assumption)
     have q39 : (t483 : Int) < ((x15_2.length : Int) : Int) := of_decide_eq_true (by first | (with_reducible assumption) | assumption)
     obtain ⟨go39, co39, eo39, gb39, gl39, cl39, HG39⟩ := Kd.R_form HO_15.out (by omega)
     (first | cases eo39 | (injection eo39 with ea_ en_ ec_; (first | subst ea_ | (injection ea_ with ea_; subst ea_)); subst ec_; clear en_))
     have GB39 := am gb39
     have GG39 := am HG39
     clear gb39 gl39 HG39
     obtain ⟨hx39_0, hf39_0⟩ := Kd.R_celln 0 HO_15.out (t483 : Int) p39 q39
     replace p39 := eq_true p39
     replace q39 := eq_true q39
     have HP40 := Kd.R_putg HO_15.out (t483 : Int) 0
     go_wp2_with (first | ((with_reducible refine gate_store (t := 3) (p := 54) rfl ?_); refine store_event (t := 3) (p := 54) (v := ?vo_w41) (w1 := (wr.setCell ⟨go39, (t483 : Int).toNat, none⟩ (.int .i64 0))) ?hg ?ho ?hn ?hr ?_; (case ho => rfl); (case hg => rfl); (case hn => rfl); (case hr => first | (go_simp; done) | (go_simp; rfl)); intro w41 hw; have hg : wr.grownBy w41 (some go39) := (by rw [hw]; exact HP40.2); have hp_ : Kd.R (Kd.int .i64) 3 w41 w.heap.size (fun k_ => (w.heap.size ≤ k_)) (.slice (some ⟨go39, 0, none⟩) x15_2.length co30) y489 := (by rw [hw, Ny489.out]; exact HP40.1); clear HP40; replace HO_482000 := am (Kd.N_afterv (v := (.slice (some ⟨go39, 0, none⟩) x15_2.length co30)) (v1 := (.slice (some ⟨go39, 0, none⟩) x15_2.length co30)) (ok := (fun k_ => (w.heap.size ≤ k_) ∧ k_ ≠ gb477 ∧ k_ ≠ gb481)) (by (with_reducible repeat (first | apply Kd.N_alloc | apply Kd.N_drewN | apply Kd.N_drew)); exact Kd.N_mono HO_482000.out (fun _ hk => ⟨⟨hk.1, ⟨hk.2.2.1, hk.2.2.2⟩⟩, hk.2.1⟩)) hg (.inl rfl)); replace BK477 := am (blk_grown (g := gb477) (o := .cells #[.slice A0_0 l0_0.length c0_0] 27 (0, 0)) (bo BK477.out) hg (Kd.R_ne HO_15.out BK477.out (by decide))); replace BK481 := am (blk_grown (g := gb481) (o := .cells #[.slice Ao13 t478.length co13] 49 (0, 0)) (bo BK481.out) hg (Kd.R_ne HO_15.out BK481.out (by decide))); replace HO_15 := am (hp_); replace HB := am ((by rw [hw]; exact below_set (HB.out) GB39.out : Below w.heap.size w w41)); clear hg hw hp_) | ((with_reducible refine gate_dst (N := 56) rfl ?_); refine Kd.R_lit (Kd.int .i64) _ 3 ?hg (N := 56) ?hd (xs := ([t483] : List Int)) (inner := [.int .i64 t483]) (ok := fun _ => True) (okp := fun _ => True) ?hr ?hp (fun _ hk => hk) trivial (Below.refl _ _) (Nat.le_refl _) (by simp) ?_; (case hd => rfl); (case hg => rfl); (case hr => first | (go_simp; done) | (go_simp; rfl)); (case hp => exact (Reps.one (show Kd.M (Kd.int .i64) _ _ _ t483 [.int .i64 t483] from rfl) (Reps.none _ _))); intro v491 w42 ho43 hb hg_ hnew_; clear hg_ hnew_; (first | rw [← Ny490.out] at ho43 | (simp only [Int.reduceToNat] at ho43; rw [← Ny490.out] at ho43)); replace HO_482000 := am (Kd.N_elder' (no HO_482000.out) (Kd.R_base ho43) hb); have HO492 := am (Kd.R_lower (Kd.R_new' (Kd.R_newM (M := fun k_ => (w.heap.size ≤ k_)) ho43 (below_size bw) (fun k_ h_ => h_)) (Kd.R_lt (ro HO_15.out))) (below_size bw)); replace HO_15 := am (Kd.R_elder' (ro HO_15.out) (Kd.R_base ho43) hb); replace BK477 := kb BK477 hb; replace BK481 := kb BK481 hb; replace HB := am (below_step bw hb); clear hb ho43))
     go_loopg [17] k2 (fun kq v17 w' => ∃ (x15_3 : List Int) (x17_3 : List Int), Aside0 (impl_ChainOf.l1 kq t482 t483 t484 x15_3 x17_3 t478 = some (r1, r2)) ∧ Aside0 (kq ≤ k2) ∧ Aside0 (Kd.R (Kd.int .i64) 3 w' w.heap.size (fun k_ => (w.heap.size ≤ k_) ∧ some k_ ≠ (v17 : Value).ownBlock) (.slice (some ⟨go39, 0, none⟩) x15_2.length co30) x15_3) ∧ Aside0 (Kd.Q (Kd.int .i64) 3 w' w.heap.size (fun k_ => (w.heap.size ≤ k_) ∧ some k_ ≠ ((.slice (some ⟨go39, 0, none⟩) x15_2.length co30) : Value).ownBlock) v17 x17_3) ∧ Aside0 (Kd.N (Kd.slice 3 (Kd.int .i64)) 22 w' w.heap.size (fun k_ => (w.heap.size ≤ k_) ∧ some k_ ≠ ((.slice (some ⟨go39, 0, none⟩) x15_2.length co30) : Value).ownBlock ∧ some k_ ≠ (v17 : Value).ownBlock ∧ k_ ≠ gb477 ∧ k_ ≠ gb481) (.slice Ao13 t478.length co13) t478) ∧ Aside0 (w'.heap[gb477]? = some (.cells #[(.slice A0_0 l0_0.length c0_0)] 27 (0, 0))) ∧ Aside0 (w'.heap[gb481]? = some (.cells #[(.slice Ao13 t478.length co13)] 49 (0, 0))) ∧ Aside0 (Below w.heap.size w w'))
     case atStart => exact ⟨(y489), (y490), H', ⟨Nat.le_refl _⟩, ⟨by (try simp only [nb, hl15_2]); (with_reducible repeat (first | apply Kd.R_alloc | apply Kd.R_drewN | apply Kd.R_drew)); exact HO_15.out⟩, ⟨Kd.Q_of_R (by (try simp only [nb, hl15_2]); (with_reducible repeat (first | apply Kd.R_alloc | apply Kd.R_drewN | apply Kd.R_drew)); exact Kd.R_mono HO492.out (fun _ hk => by first | exact ⟨hk.1.1, hk.2⟩ | simp_all))⟩, ⟨by (try simp only [nb, hl15_2]); (with_reducible repeat (first | apply Kd.N_alloc | apply Kd.N_drewN | apply Kd.N_drew)); exact Kd.N_mono HO_482000.out (fun _ hk => ⟨hk.1.1.1, ⟨hk.1.2, ⟨hk.2, ⟨hk.1.1.2.1, hk.1.1.2.2⟩⟩⟩⟩)⟩, ⟨by (try simp only [nb, hl15_2]); (with_reducible repeat (first | refine blk_drewN ?_ _ | refine blk_drew ?_ | refine blk_alloc ?_ _)); exact BK477.out⟩, ⟨by (try simp only [nb, hl15_2]); (with_reducible repeat (first | refine blk_drewN ?_ _ | refine blk_drew ?_ | refine blk_alloc ?_ _)); exact BK481.out⟩, ⟨bw⟩⟩
     case round =>
      clear H'
      try clear c2; try clear c3; try clear c19b0; try clear c22; try clear c22b0; try clear c22b1; try clear c23; try clear c23b0; try clear c23b1; try clear c31; try clear c31b0; try clear c32b0; try clear c33; try clear c33b0; try clear p34; try clear q34; try clear c37b0; try clear c38; try clear c38b0; try clear p39; try clear q39; try clear hcz10_0; try clear hcz15_0; try clear hcz17_0; try clear hcz25_0; try clear hcz27_0; try clear hfz10_0; try clear hfz15_0; try clear hfz17_0; try clear hfz25_0; try clear hfz27_0; try clear hx34_0; try clear hx39_0
      obtain ⟨x15_3, x17_3, HA, HK3, HO_15, HO_17, HO_482000, BK477, BK481, HB⟩ := hrel
      have hl15_3 := (Kd.R_reads' HO_15.out).1
      rw [hl15_3] at HO_15
      (try simp only [nb, hl15_3])
      (try simp only [nb, hl15_3] at BK477)
      (try simp only [nb, hl15_3] at BK481)
      (try simp only [nb, hl15_3] at HO_17)
      (try simp only [nb, hl15_3] at HO_482000)
      cases gk with
      | zero => exact absurd HA.out (by simp [impl_ChainOf.l1])
      | succ k3 =>
       have H := HA.out
       clear HA
       simp only [impl_ChainOf.l1] at H
       by_cases c44 : (x17_3.length : Int) > 0
       ·rw [if_pos c44] at H
        have c44b0 : decide (0 < (x17_3.length : Int)) = true := decide_eq_true c44
        (try simp only [hl15_2, hl15_3] at c44b0)
        have c44b1 : decide (0 < x17_3.length) = true := decide_eq_true (by omega)
        (try simp only [hl15_2, hl15_3] at c44b1)
        clear c44
        by_cases c45 : 0 < (x17_3.length : Int)
        rotate_left
        ·rw [if_neg c45] at H
         exact absurd H (by simp)
        rw [if_pos c45] at H
        have c45b0 : decide (0 < (x17_3.length : Int)) = true := decide_eq_true c45
        (try simp only [hl15_2, hl15_3] at c45b0)
        have c45b1 : decide (0 < x17_3.length) = true := decide_eq_true (by omega)
        (try simp only [hl15_2, hl15_3] at c45b1)
        clear c45
        by_cases c46 : 1 ≤ (x17_3.length : Int)
        rotate_left
        ·rw [if_neg c46] at H
         exact absurd H (by simp)
        rw [if_pos c46] at H
        have c46b0 := eq_true c46
        have c46b1 : decide (1 ≤ (x17_3.length : Int)) = true := decide_eq_true c46
        (try simp only [hl15_2, hl15_3] at c46b1)
        clear c46
        obtain ⟨y494, hy494⟩ : ∃ y_ : List Int, y_ = (x17_3.drop (1 : Int).toNat) := ⟨_, rfl⟩
        replace H : (impl_ChainOf.l2 k3 t482 t483 t484 x15_3 y494 (rd x17_3 0) (t478.length : Int) 0 t478) = some (r1, r2) := by first | (rw [hy494]; with_reducible first | exact H | exact bs H) | (with_reducible first | exact bs H | exact H) | (rw [hy494]; exact H) | exact H
        have Ny494 := am hy494
        clear hy494
        have H' := am H
        clear H
        obtain ⟨Ao47, co47, eo47, _⟩ := Kd.Q_slice HO_17.out
        subst eo47
        have p493 : 0 ≤ (0 : Int) := (by omega)
        have q493 : 0 < (x17_3.length : Int) := of_decide_eq_true (by first | (with_reducible assumption) | assumption)
        obtain ⟨ad493, e493, hx493_0⟩ := Kd.at_int (Kd.Q_reads' HO_17.out).2.2 0 p493 q493
        cases e493
        have qi493 : (0 < x17_3.length) = True := eq_true (by omega)
        (try rw [show ((0 : Int)).toNat = 0 from rfl] at hx493_0)
        (try rw [Addr.add_zero'] at hx493_0)
        replace p493 := eq_true p493
        replace q493 := eq_true q493
        have q48 : (1 : Int) ≤ ((x17_3.length : Int) : Int) := of_decide_eq_true (by first | (with_reducible assumption) | assumption)
        obtain ⟨i048, hi048, _, hsz48, _⟩ := info_parts info3
        have hcut48 := cut_from (P := Try.prog) 22 3 .i64 Try.underlying22 hi048 1 hsz48 (some ad493) x17_3.length co47 1 (by omega) q48
        have hr48 := Kd.Q_drop (k := (1 : Int).toNat) HO_17.out (by omega)
        obtain ⟨A48, hA48⟩ : ∃ A1, A1 = (if co47 = (1 : Int).toNat then (some ad493) else ((some ad493) : Option Addr).map (·.add ((1 : Int).toNat * 1))) := ⟨_, rfl⟩
        obtain ⟨c48, hc48⟩ : ∃ c1, c1 = co47 - (1 : Int).toNat := ⟨_, rfl⟩
        have hy48 : y494.length = x17_3.length - (1 : Int).toNat := (by rw [Ny494.out, List.length_drop])
        rw [← Ny494.out] at hr48
        rw [← hy48, ← hA48, ← hc48] at hcut48
        replace hr48 : Kd.Q (Kd.int .i64) 3 wr w.heap.size (fun k_ => (w.heap.size ≤ k_) ∧ some k_ ≠ (.slice (some ⟨go39, 0, none⟩) x15_3.length co30 : Value).ownBlock) (.slice A48 y494.length c48) y494 := (by rw [hA48, hc48, hy48]; exact hr48)
        have HE48 : Aside0 ((Value.slice A48 y494.length c48).ownBlock = (.slice (some ad493) x17_3.length co47 : Value).ownBlock) := ⟨by rw [hA48]; split <;> (cases ((some ad493) : Option Addr) <;> rfl)⟩
        clear hy48 hi048 hsz48 HO_17 hA48 hc48
        have HO496 := am hr48
        clear hr48
        replace q48 := eq_true q48
        have n_ := am (Kd.R_mono (ok' := fun k_ => (((w.heap.size ≤ k_)) ∧ some k_ ≠ (.slice A48 y494.length c48 : Value).ownBlock)) HO_15.out (fun k_ hk => ⟨hk.1, (by rw [HE48.out]; exact hk.2)⟩))
        clear HO_15
        have HO_15 := n_
        clear n_
        have n_ := am (Kd.N_mono (ok' := fun k_ => (((w.heap.size ≤ k_)) ∧ (some k_ ≠ (.slice (some ⟨go39, 0, none⟩) x15_3.length co30 : Value).ownBlock ∧ (some k_ ≠ (.slice A48 y494.length c48 : Value).ownBlock ∧ (k_ ≠ gb477 ∧ k_ ≠ gb481))))) HO_482000.out (fun k_ hk => ⟨hk.1, ⟨hk.2.1, ⟨(by rw [HE48.out]; exact hk.2.2.1), ⟨hk.2.2.2.1, hk.2.2.2.2⟩⟩⟩⟩))
        clear HO_482000
        have HO_482000 := n_
        clear n_
        have hnb49 := NB481_477.out
        have hnc49 := NB477_481.out
        have hcz50_0 := bc BK481 0 (.slice Ao13 t478.length co13)
        have hfz50_0 := blk_frozen BK481.out 0
        go_wp2
        go_loopg [17, 67] k3 (fun kq v17 v67 w' => ∃ (x15_4 : List Int) (x17_4 : List Int) (x67_4 : Int), v67 = .int .i64 x67_4 ∧ Aside0 (impl_ChainOf.l2 kq t482 t483 t484 x15_4 x17_4 (rd x17_3 0) (t478.length : Int) x67_4 t478 = some (r1, r2)) ∧ Aside0 (kq ≤ k3) ∧ Aside0 (Kd.R (Kd.int .i64) 3 w' w.heap.size (fun k_ => (w.heap.size ≤ k_) ∧ some k_ ≠ (v17 : Value).ownBlock) (.slice (some ⟨go39, 0, none⟩) x15_3.length co30) x15_4) ∧ Aside0 (Kd.Q (Kd.int .i64) 3 w' w.heap.size (fun k_ => (w.heap.size ≤ k_) ∧ some k_ ≠ ((.slice (some ⟨go39, 0, none⟩) x15_3.length co30) : Value).ownBlock) v17 x17_4) ∧ Aside0 (Kd.N (Kd.slice 3 (Kd.int .i64)) 22 w' w.heap.size (fun k_ => (w.heap.size ≤ k_) ∧ some k_ ≠ ((.slice (some ⟨go39, 0, none⟩) x15_3.length co30) : Value).ownBlock ∧ some k_ ≠ (v17 : Value).ownBlock ∧ k_ ≠ gb477 ∧ k_ ≠ gb481) (.slice Ao13 t478.length co13) t478) ∧ Aside0 (w'.heap[gb477]? = some (.cells #[(.slice A0_0 l0_0.length c0_0)] 27 (0, 0))) ∧ Aside0 (w'.heap[gb481]? = some (.cells #[(.slice Ao13 t478.length co13)] 49 (0, 0))) ∧ Aside0 (Below w.heap.size w w'))
        case atStart => exact ⟨(x15_3), (y494), (0), rr, H', ⟨Nat.le_refl _⟩, ⟨by (try simp only [nb, hl15_2]); (try simp only [nb, hl15_3]); (with_reducible repeat (first | apply Kd.R_alloc | apply Kd.R_drewN | apply Kd.R_drew)); exact HO_15.out⟩, ⟨by (try simp only [nb, hl15_2]); (try simp only [nb, hl15_3]); (with_reducible repeat (first | apply Kd.Q_alloc | apply Kd.Q_drewN | apply Kd.Q_drew)); exact HO496.out⟩, ⟨by (try simp only [nb, hl15_2]); (try simp only [nb, hl15_3]); (with_reducible repeat (first | apply Kd.N_alloc | apply Kd.N_drewN | apply Kd.N_drew)); exact HO_482000.out⟩, ⟨by (try simp only [nb, hl15_2]); (try simp only [nb, hl15_3]); (with_reducible repeat (first | refine blk_drewN ?_ _ | refine blk_drew ?_ | refine blk_alloc ?_ _)); exact BK477.out⟩, ⟨by (try simp only [nb, hl15_2]); (try simp only [nb, hl15_3]); (with_reducible repeat (first | refine blk_drewN ?_ _ | refine blk_drew ?_ | refine blk_alloc ?_ _)); exact BK481.out⟩, ⟨bw⟩⟩
        case round =>
         clear H'
         try clear c1; try clear c2; try clear c3; try clear c19b0; try clear c22; try clear c22b0; try clear c22b1; try clear c23; try clear c23b0; try clear c23b1; try clear c31; try clear c31b0; try clear c32b0; try clear c33; try clear c33b0; try clear p34; try clear q34; try clear c37b0; try clear c38; try clear c38b0; try clear p39; try clear q39; try clear c44; try clear c44b0; try clear c44b1; try clear c45; try clear c45b0; try clear c45b1; try clear c46; try clear c46b0; try clear c46b1; try clear c48; try clear q48; try clear hcz10_0; try clear hcz15_0; try clear hcz17_0; try clear hcz25_0; try clear hcz27_0; try clear hcz50_0; try clear hfz10_0; try clear hfz15_0; try clear hfz17_0; try clear hfz25_0; try clear hfz27_0; try clear hfz50_0; try clear hx34_0; try clear hx39_0; try clear hx493_0; try clear p493; try clear q493
         obtain ⟨x15_4, x17_4, x67_4, rfl, HA, HK4, HO_15, HO_17, HO_482000, BK477, BK481, HB⟩ := hrel
         have hl15_4 := (Kd.R_reads' HO_15.out).1
         rw [hl15_4] at HO_15
         (try simp only [nb, hl15_4])
         (try simp only [nb, hl15_4] at BK477)
         (try simp only [nb, hl15_4] at BK481)
         (try simp only [nb, hl15_4] at HO_17)
         (try simp only [nb, hl15_4] at HO_482000)
         cases gk with
         | zero => exact absurd HA.out (by simp [impl_ChainOf.l2])
         | succ k4 =>
          have H := HA.out
          clear HA
          simp only [impl_ChainOf.l2] at H
          replace H := gi H; obtain ⟨c51b0, H⟩ | ⟨c51b0, H⟩ := H
          ·replace H := gd H; obtain ⟨c52b0, H⟩ := H
           by_cases c53 : x67_4 < (x15_4.length : Int)
           rotate_left
           ·rw [if_neg c53] at H
            exact absurd H (by simp)
           rw [if_pos c53] at H
           have c53b0 : decide (x67_4 < (x15_4.length : Int)) = true := decide_eq_true c53
           (try simp only [hl15_2, hl15_3, hl15_4] at c53b0)
           clear c53
           replace H := gi H; obtain ⟨c54b0, H⟩ | ⟨c54b0, H⟩ := H
           ·replace H := gd H; obtain ⟨c55b0, H⟩ := H
            replace H := gd H; obtain ⟨c56b0, H⟩ := H
            replace H := gd H; obtain ⟨c57b0, H⟩ := H
            replace H := ga H; obtain ⟨t500, A58, H⟩ := H
            replace H := gi H; obtain ⟨c59b0, H⟩ | ⟨c59b0, H⟩ := H
            ·by_cases c60 : (rd x17_3 0) < (x15_4.length : Int)
             rotate_left
             ·rw [if_neg c60] at H
              exact absurd H (by simp)
             rw [if_pos c60] at H
             have c60b0 : decide ((rd x17_3 0) < (x15_4.length : Int)) = true := decide_eq_true c60
             (try simp only [hl15_2, hl15_3, hl15_4] at c60b0)
             clear c60
             obtain ⟨y502, hy502⟩ : ∃ y_ : List Int, y_ = (x15_4.set (x67_4 : Int).toNat (wrap64 ((rd x15_4 (rd x17_3 0)) + 1))) := ⟨_, rfl⟩
             replace H : (if x17_4.length < 17592186044416 then (impl_ChainOf.l2 k4 t482 t483 t484 y502 (x17_4 ++ [x67_4]) (rd x17_3 0) (t478.length : Int) (wrap64 (x67_4 + 1)) t478) else (none)) = some (r1, r2) := by first | (rw [hy502]; with_reducible first | exact H | exact bs H) | (with_reducible first | exact bs H | exact H) | (rw [hy502]; exact H) | exact H
             have Ny502 := am hy502
             clear hy502
             by_cases c62 : x17_4.length < 17592186044416
             rotate_left
             ·rw [if_neg c62] at H
              exact absurd H (by simp)
             rw [if_pos c62] at H
             have LMc62 := am c62
             clear c62
             obtain ⟨y503, hy503⟩ : ∃ y_ : List Int, y_ = (x17_4 ++ [x67_4]) := ⟨_, rfl⟩
             replace H : (impl_ChainOf.l2 k4 t482 t483 t484 y502 y503 (rd x17_3 0) (t478.length : Int) (wrap64 (x67_4 + 1)) t478) = some (r1, r2) := by first | (rw [hy503]; with_reducible first | exact H | exact bs H) | (with_reducible first | exact bs H | exact H) | (rw [hy503]; exact H) | exact H
             have Ny503 := am hy503
             clear hy503
             have H' := am H
             clear H
             try go_wp2
             replace HO_15 := am (Kd.R_drew HO_15.out)
             replace HO_17 := am (Kd.Q_drew HO_17.out)
             replace HO_482000 := am (Kd.N_drew HO_482000.out)
             replace BK477 := bd BK477
             replace BK481 := bd BK481
             replace HB := am (below_drew1 HB.out)
             obtain ⟨⟨ad497, e497, hx497_0⟩, p497, q497⟩ := pq (Kd.at_int (Kd.R_reads' HO_15.out).2.2 x67_4)
             obtain rfl : (⟨go39, 0, none⟩ : Addr) = ad497 := (by injection e497)
             (first | simp only [add_plain] at hx497_0 | simp only [add_at] at hx497_0 | simp only [Addr.add, Nat.zero_add] at hx497_0 | skip)
             have p498 : 0 ≤ ((rd x17_3 0) : Int) := of_decide_eq_true (by first | (with_reducible assumption) | assumption)
             have q498 : (rd x17_3 0) < (t478.length : Int) := of_decide_eq_true (by first | (with_reducible assumption) | assumption)
             obtain ⟨ad498, A498_0, c498_0, e498, hx498_0, hl498_0, hi498_0⟩ := at_L2 (Kd.N_reads' HO_482000.out).2.2 (rd x17_3 0) p498 q498
             cases e498
             obtain ⟨ce498, hce498, hMe498, hcc498⟩ := Kd.N_get HO_482000.out [] (rd x17_3 0) p498 (by first | exact q498 | exact of_decide_eq_true (by first | (with_reducible assumption) | assumption) | (have e_ := (Kd.N_reads' HO_482000.out).1; omega))
             obtain ⟨ua498_0, uc498_0, rfl, ul498_0, ge498_0⟩ := Kd.FK_slice_open hMe498
             have hv498_0 := hcc498 0 _ rfl
             rw [Nat.add_zero, show ((Kd.slice 3 (Kd.int .i64))).sz = 1 from rfl, Nat.mul_one] at hv498_0
             replace hv498_0 := Option.some.inj (hv498_0.symm.trans hx498_0)
             injection hv498_0 with hva_ hvn_ hvc_
             rw [hva_] at ge498_0
             rw [hvc_] at ul498_0
             have HL498_0 := am (show Kd.V (Kd.int .i64) 3 _ w.heap.size _ _ (rd_L2 t478 (rd x17_3 0)) from Kd.V_mk ul498_0 ge498_0)
             clear hva_ hvn_ hvc_ ge498_0 ul498_0
             clear hcc498 hce498
             have HR498_0 := am hi498_0
             have HC498_0 := am hl498_0
             clear hi498_0 hl498_0
             replace p498 := eq_true p498
             replace q498 := eq_true q498
             have p499 : 0 ≤ (x67_4 : Int) := of_decide_eq_true (by first | (with_reducible assumption) | assumption)
             have q499 : x67_4 < (t478.length : Int) := of_decide_eq_true (by first | (with_reducible assumption) | assumption)
             obtain ⟨ad499, A499_0, c499_0, e499, hx499_0, hl499_0, hi499_0⟩ := at_L2 (Kd.N_reads' HO_482000.out).2.2 x67_4 p499 q499
             obtain rfl : ad498 = ad499 := (by injection e499)
             obtain ⟨ce499, hce499, hMe499, hcc499⟩ := Kd.N_get HO_482000.out [] x67_4 p499 (by first | exact q499 | exact of_decide_eq_true (by first | (with_reducible assumption) | assumption) | (have e_ := (Kd.N_reads' HO_482000.out).1; omega))
             obtain ⟨ua499_0, uc499_0, rfl, ul499_0, ge499_0⟩ := Kd.FK_slice_open hMe499
             have hv499_0 := hcc499 0 _ rfl
             rw [Nat.add_zero, show ((Kd.slice 3 (Kd.int .i64))).sz = 1 from rfl, Nat.mul_one] at hv499_0
             replace hv499_0 := Option.some.inj (hv499_0.symm.trans hx499_0)
             injection hv499_0 with hva_ hvn_ hvc_
             rw [hva_] at ge499_0
             rw [hvc_] at ul499_0
             have HL499_0 := am (show Kd.V (Kd.int .i64) 3 _ w.heap.size _ _ (rd_L2 t478 x67_4) from Kd.V_mk ul499_0 ge499_0)
             clear hva_ hvn_ hvc_ ge499_0 ul499_0
             clear hcc499 hce499
             have HR499_0 := am hi499_0
             have HC499_0 := am hl499_0
             clear hi499_0 hl499_0
             replace p499 := eq_true p499
             replace q499 := eq_true q499
             refine start_ (n := 18) (S := fun w' => w'.cell? ⟨gb481, 0, none⟩ = some (.slice (some ad498) t478.length co13) ∧ w'.cell? ⟨go39, (x67_4).toNat, none⟩ = some (.int .i64 (rd x15_4 x67_4)) ∧ w'.cell? (ad498.add ((rd x17_3 0)).toNat) = some (.slice A498_0 (rd_L2 t478 (rd x17_3 0)).length c498_0) ∧ w'.cell? (ad498.add (x67_4).toNat) = some (.slice A499_0 (rd_L2 t478 x67_4).length c499_0)) (ds := []) (yz 18 0) (by kernel_rfl) rfl rfl ⟨bc BK481 0 _, hx497_0, hx498_0, hx499_0⟩ (fun hHeld => ?_); refine with_tabW impl_ChainOf.tab21 impl_ChainOf.bits21 (fun HT_ HW_ => ?_)
             generalize wr.drew = w63 at HO_15 HO_17 HO_482000 BK477 BK481 HB HL498_0 HL499_0 HR498_0 HR499_0 hx497_0 hx498_0 hx499_0 hHeld ⊢
             refine pa 0 (some 70) (yz 18 1) HT_ ?_
             refine pa 1 (some 71) (yz 18 3) HT_ ?_
             refine pa 2 (some 72) (yz 18 7) HT_ ?_
             refine tk 3 (some 73) (yz 18 15) HT_ HW_ hHeld ?_
             refine pa 4 (some 74) (yz 18 31) HT_ ?_
             refine pa 5 (some 75) (yz 18 63) HT_ ?_
             refine pa 7 (some 77) (yz 18 191) HT_ ?_
             refine pa 11 (some 81) (yz 18 2239) HT_ ?_
             refine pa 15 (some 85) (yz 18 35007) HT_ ?_
             refine tk 6 (some 76) (yz 18 35071) HT_ HW_ hHeld ?_
             refine pa 8 (some 78) (yz 18 35327) HT_ ?_
             refine tk 9 (some 79) (yz 18 35839) HT_ HW_ hHeld ?_
             refine tk 10 (some 80) (yz 18 36863) HT_ HW_ hHeld ?_
             refine pa 12 (some 82) (yz 18 40959) HT_ ?_
             refine tk 13 (some 83) (yz 18 49151) HT_ HW_ hHeld ?_
             refine oa 14 (some 84) (yz 18 65535) HT_ (fun K hK => ?_)
             refine gm Try.func97 #[.slice A498_0 (rd_L2 t478 (rd x17_3 0)).length c498_0, .slice A499_0 (rd_L2 t478 x67_4).length c499_0] ?_
             with_reducible refine (impl_apart.calls k4 _ _ (rd_L2 t478 (rd x17_3 0)) _ _ (rd_L2 t478 x67_4) t500 _ ?side1 ?side2 ?side3 ?side4 A58.out).mono ?_
             (case side1 => exact co HR498_0.out)
             (case side2 => exact HC498_0.out)
             (case side3 => exact co HR499_0.out)
             (case side4 => exact HC499_0.out)
             rintro e w64 ⟨rfl, hb⟩
             have HS1_ := (hb.cell (World.block_lt_of_cell? _ _ (hHeld.2.1))).trans (hHeld.2.1)
             have HS2_ := (hb.cell (World.block_lt_of_cell? _ _ (hHeld.2.2.1))).trans (hHeld.2.2.1)
             have HS3_ := (hb.cell (World.block_lt_of_cell? _ _ (hHeld.2.2.2))).trans (hHeld.2.2.2)
             refine ⟨_, rfl, ?_⟩
             replace HO_15 := rK HO_15 hb
             replace HO_17 := qK HO_17 hb
             replace HO_482000 := nK HO_482000 hb
             replace HL498_0 := am (Kd.V_below (vo HL498_0.out) hb)
             replace HL499_0 := am (Kd.V_below (vo HL499_0.out) hb)
             replace BK477 := kb BK477 hb
             replace BK481 := kb BK481 hb
             replace HR498_0 := am (Kd.C_below (co HR498_0.out) hb)
             replace HR499_0 := am (Kd.C_below (co HR499_0.out) hb)
             replace HB := am (below_step bw hb)
             clear hb
             refine hK.out _ _ ⟨bc BK481 0 _, HS1_, HS2_, HS3_⟩ (fun hHeld => ?_)
             clear hK K
             refine nm (some 84) ?_
             refine pa 16 (some 86) (yz 18 131071) HT_ ?_
             refine pa 17 (some 87) (yz 18 262143) HT_ ?_
             refine done_ (done_of HT_.out (by kernel_rfl)) ?_
             obtain ⟨⟨ad501, e501, hx501_0⟩, p501, q501⟩ := pq (Kd.at_int (Kd.R_reads' HO_15.out).2.2 (rd x17_3 0))
             obtain rfl : (⟨go39, 0, none⟩ : Addr) = ad501 := (by injection e501)
             (first | simp only [add_plain] at hx501_0 | simp only [add_at] at hx501_0 | simp only [Addr.add, Nat.zero_add] at hx501_0 | skip)
             have p61 : 0 ≤ (x67_4 : Int) := of_decide_eq_true (by first | (with_reducible assumption) | assumption)
             have q61 : (x67_4 : Int) < ((x15_4.length : Int) : Int) := of_decide_eq_true (by first | (with_reducible assumption) | assumption)
             obtain ⟨hx61_0, hf61_0⟩ := Kd.R_celln 0 HO_15.out (x67_4 : Int) p61 q61
             replace p61 := eq_true p61
             replace q61 := eq_true q61
             obtain ⟨hy65_, hz65_⟩ := Kd.R_celln 0 HO_15.out (x67_4 : Int) (of_decide_eq_true (by first | (with_reducible assumption) | assumption)) (of_decide_eq_true (by first | (with_reducible assumption) | assumption))
             have HP65 := Kd.R_putg HO_15.out (x67_4 : Int) (wrap64 ((rd x15_4 (rd x17_3 0)) + 1))
             try go_wp2_with (first | ((with_reducible refine gate_store (t := 3) (p := 95) rfl ?_); refine store_event (t := 3) (p := 95) (v := ?vo_w66) (w1 := (w64.setCell ⟨go39, (x67_4 : Int).toNat, none⟩ (.int .i64 (wrap64 ((rd x15_4 (rd x17_3 0)) + 1))))) ?hg ?ho ?hn ?hr ?_; (case ho => rfl); (case hg => rfl); (case hn => rfl); (case hr => first | (go_simp; done) | (go_simp; rfl)); intro w66 hw; have hg : w64.grownBy w66 (some go39) := (by rw [hw]; exact HP65.2); have hp_ : Kd.R (Kd.int .i64) 3 w66 w.heap.size (fun k_ => (w.heap.size ≤ k_) ∧ some k_ ≠ (u17 : Value).ownBlock) (.slice (some ⟨go39, 0, none⟩) x15_4.length co30) y502 := (by rw [hw, Ny502.out]; exact HP65.1); clear HP65; replace HO_17 := am (Kd.Q_after (v := (.slice (some ⟨go39, 0, none⟩) x15_4.length co30)) (v1 := (.slice (some ⟨go39, 0, none⟩) x15_4.length co30)) (ok := (fun k_ => (w.heap.size ≤ k_))) (qo HO_17.out) hg (.inl rfl)); replace HO_482000 := am (Kd.N_afterv (v := (.slice (some ⟨go39, 0, none⟩) x15_4.length co30)) (v1 := (.slice (some ⟨go39, 0, none⟩) x15_4.length co30)) (ok := (fun k_ => (w.heap.size ≤ k_) ∧ some k_ ≠ (u17 : Value).ownBlock ∧ k_ ≠ gb477 ∧ k_ ≠ gb481)) (by (with_reducible repeat (first | apply Kd.N_alloc | apply Kd.N_drewN | apply Kd.N_drew)); exact Kd.N_mono HO_482000.out (fun _ hk => ⟨⟨hk.1, ⟨hk.2.2.1, ⟨hk.2.2.2.1, hk.2.2.2.2⟩⟩⟩, hk.2.1⟩)) hg (.inl rfl)); replace BK477 := am (blk_grown (g := gb477) (o := .cells #[.slice A0_0 l0_0.length c0_0] 27 (0, 0)) (bo BK477.out) hg (Kd.R_ne HO_15.out BK477.out (by decide))); replace BK481 := am (blk_grown (g := gb481) (o := .cells #[.slice (some ad498) t478.length co13] 49 (0, 0)) (bo BK481.out) hg (Kd.R_ne HO_15.out BK481.out (by decide))); replace HO_15 := am (hp_); replace HL498_0 := am (Kd.V_afterv (v := (.slice (some ⟨go39, 0, none⟩) x15_4.length co30)) (v1 := (.slice (some ⟨go39, 0, none⟩) x15_4.length co30)) (ok := (fun k_ => (w.heap.size ≤ k_) ∧ some k_ ≠ (u17 : Value).ownBlock ∧ some k_ ≠ (.slice (some ad498) t478.length co13 : Value).ownBlock ∧ k_ ≠ gb477 ∧ k_ ≠ gb481)) (by (with_reducible repeat (first | apply Kd.V_alloc | apply Kd.V_drewN | apply Kd.V_drew)); exact Kd.V_mono HL498_0.out (fun _ hk => ⟨⟨hk.1.1, ⟨hk.1.2.2.1, ⟨hk.2, ⟨hk.1.2.2.2.1, hk.1.2.2.2.2⟩⟩⟩⟩, hk.1.2.1⟩)) hg (.inl rfl)); replace HL499_0 := am (Kd.V_afterv (v := (.slice (some ⟨go39, 0, none⟩) x15_4.length co30)) (v1 := (.slice (some ⟨go39, 0, none⟩) x15_4.length co30)) (ok := (fun k_ => (w.heap.size ≤ k_) ∧ some k_ ≠ (u17 : Value).ownBlock ∧ some k_ ≠ (.slice (some ad498) t478.length co13 : Value).ownBlock ∧ k_ ≠ gb477 ∧ k_ ≠ gb481)) (by (with_reducible repeat (first | apply Kd.V_alloc | apply Kd.V_drewN | apply Kd.V_drew)); exact Kd.V_mono HL499_0.out (fun _ hk => ⟨⟨hk.1.1, ⟨hk.1.2.2.1, ⟨hk.2, ⟨hk.1.2.2.2.1, hk.1.2.2.2.2⟩⟩⟩⟩, hk.1.2.1⟩)) hg (.inl rfl)); replace HB := am ((by rw [hw]; exact below_set (HB.out) GB39.out : Below w.heap.size w w66)); clear hg hw hp_) | ((with_reducible refine gate_builtin (b := .append) (xs := #[.tmp 96, .tmp 98]) rfl ?_); at_builtin; refine Kd.Q_append (Kd.int .i64) (w0 := w) w.heap.size rfl (.tmp 96) (.tmp 98) 22 3 (.int .i64 0) 8 rfl Try.underlying22 info3 rfl (by decide) (by omega) u17 x17_4 x67_4 [.int .i64 x67_4] (fun k_ => (w.heap.size ≤ k_) ∧ some k_ ≠ (.slice (some ⟨go39, 0, none⟩) x15_4.length co30 : Value).ownBlock) (fun _ => False) rfl rfl ?aP (fun _ hk => hk.elim) ?aF ?aO ?aB ?aS ?aL ?_; (case aP => exact rfl); (case aB => exact bw); (case aF => exact (fun k_ hk => ⟨(Nat.le_trans (below_size bw) hk), Kd.fresh' (Kd.R_lt (ro HO_15.out)) k_ hk⟩)); (case aO => exact (qo HO_17.out)); (case aS => exact (below_size bw)); (case aL => have := LMc62.out; omega); intro v504 w67 ho hb hg hat; rw [← Ny503.out] at ho; replace HO_15 := am (Kd.R_after (ok := (fun k_ => (w.heap.size ≤ k_))) (ro HO_15.out) hg hat); replace HO_482000 := am (Kd.N_afterv (ok := (fun k_ => (w.heap.size ≤ k_) ∧ some k_ ≠ (.slice (some ⟨go39, 0, none⟩) x15_4.length co30 : Value).ownBlock ∧ k_ ≠ gb477 ∧ k_ ≠ gb481)) (by (with_reducible repeat (first | apply Kd.N_alloc | apply Kd.N_drewN | apply Kd.N_drew)); exact Kd.N_mono HO_482000.out (fun _ hk => ⟨⟨hk.1.1, ⟨hk.2, ⟨hk.1.2.2.1, hk.1.2.2.2⟩⟩⟩, hk.1.2.1⟩)) hg hat); replace BK477 := am (blk_grown (g := gb477) (o := .cells #[.slice A0_0 l0_0.length c0_0] 27 (0, 0)) (bo BK477.out) hg (Kd.Q_ne HO_17.out BK477.out (by decide))); replace BK481 := am (blk_grown (g := gb481) (o := .cells #[.slice (some ad498) t478.length co13] 49 (0, 0)) (bo BK481.out) hg (Kd.Q_ne HO_17.out BK481.out (by decide))); replace HL498_0 := am (Kd.V_afterv (ok := (fun k_ => (w.heap.size ≤ k_) ∧ some k_ ≠ (.slice (some ⟨go39, 0, none⟩) x15_4.length co30 : Value).ownBlock ∧ some k_ ≠ (.slice (some ad498) t478.length co13 : Value).ownBlock ∧ k_ ≠ gb477 ∧ k_ ≠ gb481)) (by (with_reducible repeat (first | apply Kd.V_alloc | apply Kd.V_drewN | apply Kd.V_drew)); exact Kd.V_mono HL498_0.out (fun _ hk => ⟨⟨hk.1.1, ⟨hk.2, ⟨hk.1.2.2.1, ⟨hk.1.2.2.2.1, hk.1.2.2.2.2⟩⟩⟩⟩, hk.1.2.1⟩)) hg hat); replace HL499_0 := am (Kd.V_afterv (ok := (fun k_ => (w.heap.size ≤ k_) ∧ some k_ ≠ (.slice (some ⟨go39, 0, none⟩) x15_4.length co30 : Value).ownBlock ∧ some k_ ≠ (.slice (some ad498) t478.length co13 : Value).ownBlock ∧ k_ ≠ gb477 ∧ k_ ≠ gb481)) (by (with_reducible repeat (first | apply Kd.V_alloc | apply Kd.V_drewN | apply Kd.V_drew)); exact Kd.V_mono HL499_0.out (fun _ hk => ⟨⟨hk.1.1, ⟨hk.2, ⟨hk.1.2.2.1, ⟨hk.1.2.2.2.1, hk.1.2.2.2.2⟩⟩⟩⟩, hk.1.2.1⟩)) hg hat); replace HB := am (hb); have HO505 := am (ho); clear HO_17 ho hb hg hat))
             (try simp only [nb, ← hl15_4])
             go_roundg k4
             case measure => have := HJ7.out; have := HK2.out; have := HK3.out; have := HK4.out; omega
             case rel => exact ⟨(y502), (y503), (wrap64 (x67_4 + 1)), rr, H', ⟨by have := HJ7.out; have := HK2.out; have := HK3.out; have := HK4.out; omega⟩, ⟨by (try simp only [nb, hl15_2]); (try simp only [nb, hl15_3]); (try simp only [nb, hl15_4]); (with_reducible repeat (first | apply Kd.R_alloc | apply Kd.R_drewN | apply Kd.R_drew)); exact HO_15.out⟩, ⟨by (try simp only [nb, hl15_2]); (try simp only [nb, hl15_3]); (try simp only [nb, hl15_4]); (with_reducible repeat (first | apply Kd.Q_alloc | apply Kd.Q_drewN | apply Kd.Q_drew)); exact HO505.out⟩, ⟨by (try simp only [nb, hl15_2]); (try simp only [nb, hl15_3]); (try simp only [nb, hl15_4]); (with_reducible repeat (first | apply Kd.N_alloc | apply Kd.N_drewN | apply Kd.N_drew)); exact Kd.N_mono HO_482000.out (fun _ hk => ⟨hk.1.1, ⟨hk.1.2.1, ⟨hk.2, ⟨hk.1.2.2.1, hk.1.2.2.2⟩⟩⟩⟩)⟩, ⟨by (try simp only [nb, hl15_2]); (try simp only [nb, hl15_3]); (try simp only [nb, hl15_4]); (with_reducible repeat (first | refine blk_drewN ?_ _ | refine blk_drew ?_ | refine blk_alloc ?_ _)); exact BK477.out⟩, ⟨by (try simp only [nb, hl15_2]); (try simp only [nb, hl15_3]); (try simp only [nb, hl15_4]); (with_reducible repeat (first | refine blk_drewN ?_ _ | refine blk_drew ?_ | refine blk_alloc ?_ _)); exact BK481.out⟩, ⟨bw⟩⟩
            have H' := am H
            clear H
            try go_wp2
            replace HO_15 := am (Kd.R_drew HO_15.out)
            replace HO_17 := am (Kd.Q_drew HO_17.out)
            replace HO_482000 := am (Kd.N_drew HO_482000.out)
            replace BK477 := bd BK477
            replace BK481 := bd BK481
            replace HB := am (below_drew1 HB.out)
            obtain ⟨⟨ad497, e497, hx497_0⟩, p497, q497⟩ := pq (Kd.at_int (Kd.R_reads' HO_15.out).2.2 x67_4)
            obtain rfl : (⟨go39, 0, none⟩ : Addr) = ad497 := (by injection e497)
            (first | simp only [add_plain] at hx497_0 | simp only [add_at] at hx497_0 | simp only [Addr.add, Nat.zero_add] at hx497_0 | skip)
            have p498 : 0 ≤ ((rd x17_3 0) : Int) := of_decide_eq_true (by first | (with_reducible assumption) | assumption)
            have q498 : (rd x17_3 0) < (t478.length : Int) := of_decide_eq_true (by first | (with_reducible assumption) | assumption)
            obtain ⟨ad498, A498_0, c498_0, e498, hx498_0, hl498_0, hi498_0⟩ := at_L2 (Kd.N_reads' HO_482000.out).2.2 (rd x17_3 0) p498 q498
            cases e498
            obtain ⟨ce498, hce498, hMe498, hcc498⟩ := Kd.N_get HO_482000.out [] (rd x17_3 0) p498 (by first | exact q498 | exact of_decide_eq_true (by first | (with_reducible assumption) | assumption) | (have e_ := (Kd.N_reads' HO_482000.out).1; omega))
            obtain ⟨ua498_0, uc498_0, rfl, ul498_0, ge498_0⟩ := Kd.FK_slice_open hMe498
            have hv498_0 := hcc498 0 _ rfl
            rw [Nat.add_zero, show ((Kd.slice 3 (Kd.int .i64))).sz = 1 from rfl, Nat.mul_one] at hv498_0
            replace hv498_0 := Option.some.inj (hv498_0.symm.trans hx498_0)
            injection hv498_0 with hva_ hvn_ hvc_
            rw [hva_] at ge498_0
            rw [hvc_] at ul498_0
            have HL498_0 := am (show Kd.V (Kd.int .i64) 3 _ w.heap.size _ _ (rd_L2 t478 (rd x17_3 0)) from Kd.V_mk ul498_0 ge498_0)
            clear hva_ hvn_ hvc_ ge498_0 ul498_0
            clear hcc498 hce498
            have HR498_0 := am hi498_0
            have HC498_0 := am hl498_0
            clear hi498_0 hl498_0
            replace p498 := eq_true p498
            replace q498 := eq_true q498
            have p499 : 0 ≤ (x67_4 : Int) := of_decide_eq_true (by first | (with_reducible assumption) | assumption)
            have q499 : x67_4 < (t478.length : Int) := of_decide_eq_true (by first | (with_reducible assumption) | assumption)
            obtain ⟨ad499, A499_0, c499_0, e499, hx499_0, hl499_0, hi499_0⟩ := at_L2 (Kd.N_reads' HO_482000.out).2.2 x67_4 p499 q499
            obtain rfl : ad498 = ad499 := (by injection e499)
            obtain ⟨ce499, hce499, hMe499, hcc499⟩ := Kd.N_get HO_482000.out [] x67_4 p499 (by first | exact q499 | exact of_decide_eq_true (by first | (with_reducible assumption) | assumption) | (have e_ := (Kd.N_reads' HO_482000.out).1; omega))
            obtain ⟨ua499_0, uc499_0, rfl, ul499_0, ge499_0⟩ := Kd.FK_slice_open hMe499
            have hv499_0 := hcc499 0 _ rfl
            rw [Nat.add_zero, show ((Kd.slice 3 (Kd.int .i64))).sz = 1 from rfl, Nat.mul_one] at hv499_0
            replace hv499_0 := Option.some.inj (hv499_0.symm.trans hx499_0)
            injection hv499_0 with hva_ hvn_ hvc_
            rw [hva_] at ge499_0
            rw [hvc_] at ul499_0
            have HL499_0 := am (show Kd.V (Kd.int .i64) 3 _ w.heap.size _ _ (rd_L2 t478 x67_4) from Kd.V_mk ul499_0 ge499_0)
            clear hva_ hvn_ hvc_ ge499_0 ul499_0
            clear hcc499 hce499
            have HR499_0 := am hi499_0
            have HC499_0 := am hl499_0
            clear hi499_0 hl499_0
            replace p499 := eq_true p499
            replace q499 := eq_true q499
            refine start_ (n := 18) (S := fun w' => w'.cell? ⟨gb481, 0, none⟩ = some (.slice (some ad498) t478.length co13) ∧ w'.cell? ⟨go39, (x67_4).toNat, none⟩ = some (.int .i64 (rd x15_4 x67_4)) ∧ w'.cell? (ad498.add ((rd x17_3 0)).toNat) = some (.slice A498_0 (rd_L2 t478 (rd x17_3 0)).length c498_0) ∧ w'.cell? (ad498.add (x67_4).toNat) = some (.slice A499_0 (rd_L2 t478 x67_4).length c499_0)) (ds := []) (yz 18 0) (by kernel_rfl) rfl rfl ⟨bc BK481 0 _, hx497_0, hx498_0, hx499_0⟩ (fun hHeld => ?_); refine with_tabW impl_ChainOf.tab21 impl_ChainOf.bits21 (fun HT_ HW_ => ?_)
            generalize wr.drew = w68 at HO_15 HO_17 HO_482000 BK477 BK481 HB HL498_0 HL499_0 HR498_0 HR499_0 hx497_0 hx498_0 hx499_0 hHeld ⊢
            refine pa 0 (some 70) (yz 18 1) HT_ ?_
            refine pa 1 (some 71) (yz 18 3) HT_ ?_
            refine pa 2 (some 72) (yz 18 7) HT_ ?_
            refine tk 3 (some 73) (yz 18 15) HT_ HW_ hHeld ?_
            refine pa 4 (some 74) (yz 18 31) HT_ ?_
            refine pa 5 (some 75) (yz 18 63) HT_ ?_
            refine pa 7 (some 77) (yz 18 191) HT_ ?_
            refine pa 11 (some 81) (yz 18 2239) HT_ ?_
            refine pa 15 (some 85) (yz 18 35007) HT_ ?_
            refine tk 6 (some 76) (yz 18 35071) HT_ HW_ hHeld ?_
            refine pa 8 (some 78) (yz 18 35327) HT_ ?_
            refine tk 9 (some 79) (yz 18 35839) HT_ HW_ hHeld ?_
            refine tk 10 (some 80) (yz 18 36863) HT_ HW_ hHeld ?_
            refine pa 12 (some 82) (yz 18 40959) HT_ ?_
            refine tk 13 (some 83) (yz 18 49151) HT_ HW_ hHeld ?_
            refine oa 14 (some 84) (yz 18 65535) HT_ (fun K hK => ?_)
            refine gm Try.func97 #[.slice A498_0 (rd_L2 t478 (rd x17_3 0)).length c498_0, .slice A499_0 (rd_L2 t478 x67_4).length c499_0] ?_
            with_reducible refine (impl_apart.calls k4 _ _ (rd_L2 t478 (rd x17_3 0)) _ _ (rd_L2 t478 x67_4) t500 _ ?side1 ?side2 ?side3 ?side4 A58.out).mono ?_
            (case side1 => exact co HR498_0.out)
            (case side2 => exact HC498_0.out)
            (case side3 => exact co HR499_0.out)
            (case side4 => exact HC499_0.out)
            rintro e w69 ⟨rfl, hb⟩
            have HS1_ := (hb.cell (World.block_lt_of_cell? _ _ (hHeld.2.1))).trans (hHeld.2.1)
            have HS2_ := (hb.cell (World.block_lt_of_cell? _ _ (hHeld.2.2.1))).trans (hHeld.2.2.1)
            have HS3_ := (hb.cell (World.block_lt_of_cell? _ _ (hHeld.2.2.2))).trans (hHeld.2.2.2)
            refine ⟨_, rfl, ?_⟩
            replace HO_15 := rK HO_15 hb
            replace HO_17 := qK HO_17 hb
            replace HO_482000 := nK HO_482000 hb
            replace HL498_0 := am (Kd.V_below (vo HL498_0.out) hb)
            replace HL499_0 := am (Kd.V_below (vo HL499_0.out) hb)
            replace BK477 := kb BK477 hb
            replace BK481 := kb BK481 hb
            replace HR498_0 := am (Kd.C_below (co HR498_0.out) hb)
            replace HR499_0 := am (Kd.C_below (co HR499_0.out) hb)
            replace HB := am (below_step bw hb)
            clear hb
            refine hK.out _ _ ⟨bc BK481 0 _, HS1_, HS2_, HS3_⟩ (fun hHeld => ?_)
            clear hK K
            refine nm (some 84) ?_
            refine pa 16 (some 86) (yz 18 131071) HT_ ?_
            refine pa 17 (some 87) (yz 18 262143) HT_ ?_
            refine done_ (done_of HT_.out (by kernel_rfl)) ?_
            try go_wp2
            (try simp only [nb, ← hl15_4])
            go_roundg k4
            case measure => have := HJ7.out; have := HK2.out; have := HK3.out; have := HK4.out; omega
            case rel => exact ⟨(x15_4), (x17_4), (wrap64 (x67_4 + 1)), rr, H', ⟨by have := HJ7.out; have := HK2.out; have := HK3.out; have := HK4.out; omega⟩, ⟨by (try simp only [nb, hl15_2]); (try simp only [nb, hl15_3]); (try simp only [nb, hl15_4]); (with_reducible repeat (first | apply Kd.R_alloc | apply Kd.R_drewN | apply Kd.R_drew)); exact HO_15.out⟩, ⟨by (try simp only [nb, hl15_2]); (try simp only [nb, hl15_3]); (try simp only [nb, hl15_4]); (with_reducible repeat (first | apply Kd.Q_alloc | apply Kd.Q_drewN | apply Kd.Q_drew)); exact HO_17.out⟩, ⟨by (try simp only [nb, hl15_2]); (try simp only [nb, hl15_3]); (try simp only [nb, hl15_4]); (with_reducible repeat (first | apply Kd.N_alloc | apply Kd.N_drewN | apply Kd.N_drew)); exact HO_482000.out⟩, ⟨by (try simp only [nb, hl15_2]); (try simp only [nb, hl15_3]); (try simp only [nb, hl15_4]); (with_reducible repeat (first | refine blk_drewN ?_ _ | refine blk_drew ?_ | refine blk_alloc ?_ _)); exact BK477.out⟩, ⟨by (try simp only [nb, hl15_2]); (try simp only [nb, hl15_3]); (try simp only [nb, hl15_4]); (with_reducible repeat (first | refine blk_drewN ?_ _ | refine blk_drew ?_ | refine blk_alloc ?_ _)); exact BK481.out⟩, ⟨bw⟩⟩
           have H' := am H
           clear H
           try go_wp2
           replace HO_15 := am (Kd.R_drew HO_15.out)
           replace HO_17 := am (Kd.Q_drew HO_17.out)
           replace HO_482000 := am (Kd.N_drew HO_482000.out)
           replace BK477 := bd BK477
           replace BK481 := bd BK481
           replace HB := am (below_drew1 HB.out)
           obtain ⟨⟨ad497, e497, hx497_0⟩, p497, q497⟩ := pq (Kd.at_int (Kd.R_reads' HO_15.out).2.2 x67_4)
           obtain rfl : (⟨go39, 0, none⟩ : Addr) = ad497 := (by injection e497)
           (first | simp only [add_plain] at hx497_0 | simp only [add_at] at hx497_0 | simp only [Addr.add, Nat.zero_add] at hx497_0 | skip)
           refine start_ (n := 18) (S := fun w' => w'.cell? ⟨go39, (x67_4).toNat, none⟩ = some (.int .i64 (rd x15_4 x67_4))) (ds := []) (yz 18 0) (by kernel_rfl) rfl rfl (hx497_0) (fun hHeld => ?_); refine with_tabW impl_ChainOf.tab21 impl_ChainOf.bits21 (fun HT_ HW_ => ?_)
           generalize wr.drew = w70 at HO_15 HO_17 HO_482000 BK477 BK481 HB hx497_0 hHeld ⊢
           refine pa 0 (some 70) (yz 18 1) HT_ ?_
           refine pa 1 (some 71) (yz 18 3) HT_ ?_
           refine pa 2 (some 72) (yz 18 7) HT_ ?_
           refine tK 3 (some 73) (yz 18 15) HT_ HW_ hHeld ?_
           refine pa 4 (some 74) (yz 18 31) HT_ ?_
           refine pa 5 (some 75) (yz 18 63) HT_ ?_
           refine pu 6 (some 76) (yz 18 127) HT_ ?_
           refine pu 7 (some 77) (yz 18 255) HT_ ?_
           refine pu 8 (some 78) (yz 18 511) HT_ ?_
           refine pu 9 (some 79) (yz 18 1023) HT_ ?_
           refine pu 10 (some 80) (yz 18 2047) HT_ ?_
           refine pu 11 (some 81) (yz 18 4095) HT_ ?_
           refine pu 12 (some 82) (yz 18 8191) HT_ ?_
           refine pu 13 (some 83) (yz 18 16383) HT_ ?_
           refine pu 14 (some 84) (yz 18 32767) HT_ ?_
           refine pu 15 (some 85) (yz 18 65535) HT_ ?_
           refine pu 16 (some 86) (yz 18 131071) HT_ ?_
           refine pa 17 (some 87) (yz 18 262143) HT_ ?_
           refine done_ (done_of HT_.out (by kernel_rfl)) ?_
           try go_wp2
           (try simp only [nb, ← hl15_4])
           go_roundg k4
           case measure => have := HJ7.out; have := HK2.out; have := HK3.out; have := HK4.out; omega
           case rel => exact ⟨(x15_4), (x17_4), (wrap64 (x67_4 + 1)), rr, H', ⟨by have := HJ7.out; have := HK2.out; have := HK3.out; have := HK4.out; omega⟩, ⟨by (try simp only [nb, hl15_2]); (try simp only [nb, hl15_3]); (try simp only [nb, hl15_4]); (with_reducible repeat (first | apply Kd.R_alloc | apply Kd.R_drewN | apply Kd.R_drew)); exact HO_15.out⟩, ⟨by (try simp only [nb, hl15_2]); (try simp only [nb, hl15_3]); (try simp only [nb, hl15_4]); (with_reducible repeat (first | apply Kd.Q_alloc | apply Kd.Q_drewN | apply Kd.Q_drew)); exact HO_17.out⟩, ⟨by (try simp only [nb, hl15_2]); (try simp only [nb, hl15_3]); (try simp only [nb, hl15_4]); (with_reducible repeat (first | apply Kd.N_alloc | apply Kd.N_drewN | apply Kd.N_drew)); exact HO_482000.out⟩, ⟨by (try simp only [nb, hl15_2]); (try simp only [nb, hl15_3]); (try simp only [nb, hl15_4]); (with_reducible repeat (first | refine blk_drewN ?_ _ | refine blk_drew ?_ | refine blk_alloc ?_ _)); exact BK477.out⟩, ⟨by (try simp only [nb, hl15_2]); (try simp only [nb, hl15_3]); (try simp only [nb, hl15_4]); (with_reducible repeat (first | refine blk_drewN ?_ _ | refine blk_drew ?_ | refine blk_alloc ?_ _)); exact BK481.out⟩, ⟨bw⟩⟩
          have H' := am H
          clear H
          go_wp2
          (try simp only [← hl15_3, ← hl15_4])
          go_roundg k4
          case measure => have := HJ7.out; have := HK2.out; have := HK3.out; have := HK4.out; omega
          case rel => exact ⟨(x15_4), (x17_4), H', ⟨by have := HJ7.out; have := HK2.out; have := HK3.out; have := HK4.out; omega⟩, ⟨by (try simp only [nb, hl15_2]); (try simp only [nb, hl15_3]); (try simp only [nb, hl15_4]); (with_reducible repeat (first | apply Kd.R_alloc | apply Kd.R_drewN | apply Kd.R_drew)); exact HO_15.out⟩, ⟨by (try simp only [nb, hl15_2]); (try simp only [nb, hl15_3]); (try simp only [nb, hl15_4]); (with_reducible repeat (first | apply Kd.Q_alloc | apply Kd.Q_drewN | apply Kd.Q_drew)); exact HO_17.out⟩, ⟨by (try simp only [nb, hl15_2]); (try simp only [nb, hl15_3]); (try simp only [nb, hl15_4]); (with_reducible repeat (first | apply Kd.N_alloc | apply Kd.N_drewN | apply Kd.N_drew)); exact HO_482000.out⟩, ⟨by (try simp only [nb, hl15_2]); (try simp only [nb, hl15_3]); (try simp only [nb, hl15_4]); (with_reducible repeat (first | refine blk_drewN ?_ _ | refine blk_drew ?_ | refine blk_alloc ?_ _)); exact BK477.out⟩, ⟨by (try simp only [nb, hl15_2]); (try simp only [nb, hl15_3]); (try simp only [nb, hl15_4]); (with_reducible repeat (first | refine blk_drewN ?_ _ | refine blk_drew ?_ | refine blk_alloc ?_ _)); exact BK481.out⟩, ⟨bw⟩⟩
       rw [if_neg c44] at H
       have c44b0 : decide (0 < (x17_3.length : Int)) = false := decide_eq_false c44
       (try simp only [hl15_2, hl15_3] at c44b0)
       have c44b1 : decide (0 < x17_3.length) = false := decide_eq_false (by omega)
       (try simp only [hl15_2, hl15_3] at c44b1)
       clear c44
       replace H := gd H; obtain ⟨c71b0, H⟩ := H
       replace H := gd H; obtain ⟨c72b0, H⟩ := H
       replace H := ga H; obtain ⟨t507, A73, H⟩ := H
       obtain ⟨y510, hy510⟩ : ∃ y_ : List (List Int), y_ = (([t507] : List (List Int))) := ⟨_, rfl⟩
       replace H : (impl_ChainOf.l3 k3 t482 t483 t484 x15_3 y510 t478) = some (r1, r2) := by first | (rw [hy510]; with_reducible first | exact H | exact bs H) | (with_reducible first | exact bs H | exact H) | (rw [hy510]; exact H) | exact H
       have Ny510 := am hy510
       clear hy510
       have H' := am H
       clear H
       obtain ⟨Ao74, co74, eo74, _⟩ := Kd.Q_slice HO_17.out
       subst eo74
       have hnb75 := NB481_477.out
       have hnc75 := NB477_481.out
       have hcz76_0 := bc BK481 0 (.slice Ao13 t478.length co13)
       have hfz76_0 := blk_frozen BK481.out 0
       have p506 : 0 ≤ (t482 : Int) := of_decide_eq_true (by first | (with_reducible assumption) | assumption)
       have q506 : t482 < (t478.length : Int) := of_decide_eq_true (by first | (with_reducible assumption) | assumption)
       obtain ⟨ad506, A506_0, c506_0, e506, hx506_0, hl506_0, hi506_0⟩ := at_L2 (Kd.N_reads' HO_482000.out).2.2 t482 p506 q506
       cases e506
       obtain ⟨ce506, hce506, hMe506, hcc506⟩ := Kd.N_get HO_482000.out [] t482 p506 (by first | exact q506 | exact of_decide_eq_true (by first | (with_reducible assumption) | assumption) | (have e_ := (Kd.N_reads' HO_482000.out).1; omega))
       obtain ⟨ua506_0, uc506_0, rfl, ul506_0, ge506_0⟩ := Kd.FK_slice_open hMe506
       have hv506_0 := hcc506 0 _ rfl
       rw [Nat.add_zero, show ((Kd.slice 3 (Kd.int .i64))).sz = 1 from rfl, Nat.mul_one] at hv506_0
       replace hv506_0 := Option.some.inj (hv506_0.symm.trans hx506_0)
       injection hv506_0 with hva_ hvn_ hvc_
       rw [hva_] at ge506_0
       rw [hvc_] at ul506_0
       have HL506_0 := am (show Kd.V (Kd.int .i64) 3 _ w.heap.size _ _ (rd_L2 t478 t482) from Kd.V_mk ul506_0 ge506_0)
       clear hva_ hvn_ hvc_ ge506_0 ul506_0
       clear hcc506 hce506
       have HR506_0 := am hi506_0
       have HC506_0 := am hl506_0
       clear hi506_0 hl506_0
       replace p506 := eq_true p506
       replace q506 := eq_true q506
       (try clear hx498_0); (try clear hx499_0); (try clear HS1_ HS2_ HS3_ HS4_); (try clear hHeld)
       go_wp2_with (first | ((with_reducible refine gate_callee (f := 84) rfl ?_); refine gl (some 105) Try.func84 #[.slice A506_0 (rd_L2 t478 t482).length c506_0] ?_; (with_reducible refine (slices_Clone_int_int.calls _ _ (rd_L2 t478 t482) t507 _ ?side1 ?side2 A73.out).mono ?_); (case side1 => exact co HR506_0.out); (case side2 => exact HC506_0.out); rintro e w77 ⟨v508, rfl, ho0, hb⟩; refine ⟨_, rfl, ?_⟩; replace HO_482000 := am (Kd.N_elder' (no HO_482000.out) (Kd.R_base ho0) hb); replace HL506_0 := am (Kd.V_elder' (vo HL506_0.out) (Kd.R_base ho0) hb); have HO509 := am (Kd.R_lower (Kd.R_new' (Kd.R_new' (Kd.R_newM (M := fun k_ => (w.heap.size ≤ k_)) ho0 (below_size bw) (fun k_ h_ => h_)) (Kd.R_lt (ro HO_15.out))) (Kd.Q_lt (qo HO_17.out))) (below_size bw)); replace HO_15 := am (Kd.R_elder' (ro HO_15.out) (Kd.R_base ho0) hb); replace HO_17 := am (Kd.Q_elder' (qo HO_17.out) (Kd.R_base ho0) hb); replace BK477 := kb BK477 hb; replace BK481 := kb BK481 hb; replace HR506_0 := am (Kd.C_below (co HR506_0.out) hb); replace HB := am (below_step bw hb); clear hb ho0; obtain ⟨Ao78, co78, eo78⟩ := Kd.R_slice HO509.out; subst eo78) | ((with_reducible refine gate_dst (N := 106) rfl ?_); refine Kd.S_lits (Kd.slice 3 (Kd.int .i64)) (w0 := w) w.heap.size 22 ?hg (N := 106) ?hd (xs := ([t507] : List (List Int))) (inner := [.slice Ao78 t507.length co78]) (ok := (fun k_ => (w.heap.size ≤ k_) ∧ some k_ ≠ (.slice (some ⟨go39, 0, none⟩) x15_3.length co30 : Value).ownBlock ∧ nb k_ Ao74 x17_3 co74 ∧ some k_ ≠ (.slice (some ad506) t478.length co13 : Value).ownBlock ∧ k_ ≠ gb477 ∧ k_ ≠ gb481)) (fun j_ k_ => j_ = 0 ∧ (fun k_ => (w.heap.size ≤ k_) ∧ some k_ ≠ (.slice (some ⟨go39, 0, none⟩) x15_3.length co30 : Value).ownBlock ∧ nb k_ Ao74 x17_3 co74 ∧ some k_ ≠ (.slice (some ad506) t478.length co13 : Value).ownBlock ∧ k_ ≠ gb477 ∧ k_ ≠ gb481) k_) ?hr rfl ?hrep ?hap ?hok ?hfr bw (below_size bw) (by simp) ?_; (case hd => rfl); (case hg => rfl); (case hr => first | (go_simp; done) | (go_simp; rfl)); (case hrep => (intro j x hj; cases j with | zero => (obtain rfl : t507 = x := (by simpa using hj); exact ⟨_, rfl, Kd.R_mono (Kd.R_mono (ok' := (fun k_ => (w.heap.size ≤ k_) ∧ some k_ ≠ (.slice (some ⟨go39, 0, none⟩) x15_3.length co30 : Value).ownBlock ∧ nb k_ Ao74 x17_3 co74 ∧ some k_ ≠ (.slice (some ad506) t478.length co13 : Value).ownBlock ∧ k_ ≠ gb477 ∧ k_ ≠ gb481)) (Kd.R_types (Kd.R_types (Kd.R_apart' (HO509.out) (Kd.N_typed HO_482000.out) (by decide)) BK477.out (by decide)) BK481.out (by decide)) (fun k_ hk => ⟨hk.1.1.1.1.1.1, ⟨hk.1.1.1.1.2, ⟨hk.1.1.1.2, ⟨hk.1.1.2, ⟨hk.1.2, hk.2⟩⟩⟩⟩⟩)) (fun _ hk => ⟨rfl, hk⟩)⟩) | succ j => simp at hj)); (case hap => exact fun i j k_ h1 h2 => h1.1.trans h2.1.symm); (case hok => exact fun j k_ h1 => h1.2); (case hfr => exact ((show ∀ k_, w77.heap.size ≤ k_ → (fun k_ => (w.heap.size ≤ k_) ∧ some k_ ≠ (.slice (some ⟨go39, 0, none⟩) x15_3.length co30 : Value).ownBlock ∧ nb k_ Ao74 x17_3 co74 ∧ some k_ ≠ (.slice (some ad506) t478.length co13 : Value).ownBlock ∧ k_ ≠ gb477 ∧ k_ ≠ gb481) k_ from fun k_ hk => ⟨(Nat.le_trans (below_size bw) hk), Kd.fresh' (Kd.R_lt (ro HO_15.out)) k_ hk, Kd.fresh' (Kd.Q_lt (qo HO_17.out)) k_ hk, Kd.fresh' (Kd.N_lt (no HO_482000.out)) k_ hk, Kd.freshB (g := gb477) (o := .cells #[.slice A0_0 l0_0.length c0_0] 27 (0, 0)) (bo BK477.out) k_ hk, Kd.freshB (g := gb481) (o := .cells #[.slice (some ad506) t478.length co13] 49 (0, 0)) (bo BK481.out) k_ hk⟩) _ (Nat.le_refl _))); intro v511 w79 ho80 hb hg_ hnew_; have hb2_ := bg0 hg_; have hn2_ := nw0 hnew_; clear hg_ hnew_; (first | rw [← Ny510.out] at ho80 | (simp only [Int.reduceToNat] at ho80; rw [← Ny510.out] at ho80)); replace HO_15 := rK HO_15 hb2_; replace HO_17 := qK HO_17 hb2_; replace HO_482000 := am (Kd.N_elder' (no HO_482000.out) hn2_ hb2_); replace HL506_0 := am (Kd.V_elder' (vo HL506_0.out) hn2_ hb2_); have HO512 := am ho80; replace BK477 := kb BK477 hb2_; replace BK481 := kb BK481 hb2_; replace HR506_0 := am (Kd.C_below (co HR506_0.out) hb2_); replace HB := am hb; clear HO509 hb hb2_ hn2_ ho80))
       go_loopg [12, 20] k3 (fun kq v12 v20 w' => ∃ (x12_4 : Int) (x20_4 : List (List Int)), v12 = .int .i64 x12_4 ∧ Aside0 (impl_ChainOf.l3 kq x12_4 t483 t484 x15_3 x20_4 t478 = some (r1, r2)) ∧ Aside0 (kq ≤ k3) ∧ Aside0 (Kd.R (Kd.int .i64) 3 w' w.heap.size (fun k_ => (w.heap.size ≤ k_)) (.slice (some ⟨go39, 0, none⟩) x15_3.length co30) x15_3) ∧ Aside0 (Kd.S (Kd.slice 3 (Kd.int .i64)) 22 w' w.heap.size (fun k_ => (w.heap.size ≤ k_) ∧ some k_ ≠ ((.slice (some ⟨go39, 0, none⟩) x15_3.length co30) : Value).ownBlock ∧ some k_ ≠ ((.slice (some ad506) t478.length co13) : Value).ownBlock ∧ k_ ≠ gb477 ∧ k_ ≠ gb481) v20 x20_4) ∧ Aside0 (Kd.N (Kd.slice 3 (Kd.int .i64)) 22 w' w.heap.size (fun k_ => (w.heap.size ≤ k_) ∧ some k_ ≠ ((.slice (some ⟨go39, 0, none⟩) x15_3.length co30) : Value).ownBlock ∧ some k_ ≠ (v20 : Value).ownBlock ∧ k_ ≠ gb477 ∧ k_ ≠ gb481) (.slice (some ad506) t478.length co13) t478) ∧ Aside0 (w'.heap[gb477]? = some (.cells #[(.slice A0_0 l0_0.length c0_0)] 27 (0, 0))) ∧ Aside0 (w'.heap[gb481]? = some (.cells #[(.slice (some ad506) t478.length co13)] 49 (0, 0))) ∧ Aside0 (Below w.heap.size w w'))
       case atStart => exact ⟨(t482), (y510), rr, H', ⟨Nat.le_refl _⟩, ⟨by (try simp only [nb, hl15_2]); (try simp only [nb, hl15_3]); (with_reducible repeat (first | apply Kd.R_alloc | apply Kd.R_drewN | apply Kd.R_drew)); exact Kd.R_mono HO_15.out (fun _ hk => by first | exact hk.1.1 | simp_all)⟩, ⟨by (try simp only [nb, hl15_2]); (try simp only [nb, hl15_3]); (with_reducible repeat (first | apply Kd.S_alloc | apply Kd.S_drewN | apply Kd.S_drew)); exact Kd.S_mono HO512.out (fun _ hk => ⟨hk.1, ⟨hk.2.1, ⟨hk.2.2.2.1, ⟨hk.2.2.2.2.1, hk.2.2.2.2.2⟩⟩⟩⟩)⟩, ⟨by (try simp only [nb, hl15_2]); (try simp only [nb, hl15_3]); (with_reducible repeat (first | apply Kd.N_alloc | apply Kd.N_drewN | apply Kd.N_drew)); exact Kd.N_mono HO_482000.out (fun _ hk => ⟨hk.1.1.1, ⟨hk.1.1.2.1, ⟨hk.2, ⟨hk.1.1.2.2.2.1, hk.1.1.2.2.2.2⟩⟩⟩⟩)⟩, ⟨by (try simp only [nb, hl15_2]); (try simp only [nb, hl15_3]); (with_reducible repeat (first | refine blk_drewN ?_ _ | refine blk_drew ?_ | refine blk_alloc ?_ _)); exact BK477.out⟩, ⟨by (try simp only [nb, hl15_2]); (try simp only [nb, hl15_3]); (with_reducible repeat (first | refine blk_drewN ?_ _ | refine blk_drew ?_ | refine blk_alloc ?_ _)); exact BK481.out⟩, ⟨bw⟩⟩
       case round =>
        clear H'
        try clear c44; try clear c44b0; try clear c44b1; try clear c45; try clear c46; try clear c51b0; try clear c53; try clear c54b0; try clear c59b0; try clear c60; try clear p61; try clear q61; try clear c62; try clear c71b0; try clear c72b0; try clear hcz76_0; try clear hfz76_0; try clear hx497_0; try clear hx498_0; try clear hx499_0; try clear hx501_0; try clear hx506_0; try clear hx61_0; try clear p497; try clear p498; try clear p499; try clear p501; try clear p506; try clear q497; try clear q498; try clear q499; try clear q501; try clear q506
        obtain ⟨x12_4, x20_4, rfl, HA, HK4, HO_15, HO_20, HO_482000, BK477, BK481, HB⟩ := hrel
        cases gk with
        | zero => exact absurd HA.out (by simp [impl_ChainOf.l3])
        | succ k4 =>
         have H := HA.out
         clear HA
         simp only [impl_ChainOf.l3] at H
         by_cases c81 : x12_4 = t483
         ·rw [if_pos c81] at H
          have c81b0 : (x12_4 == t483) = true := beq_iff_eq.mpr c81
          have c81b1 : (x12_4 != t483) = false := bne_eq_false_iff_eq.mpr c81
          clear c81
          simp only [Option.some.injEq, Prod.mk.injEq] at H
          obtain ⟨rfl, rfl⟩ := H
          go_wp2
          go_ret2
          exact ⟨_, re, Kd.S_mono (so HO_20.out) (fun _ _ => trivial), bw⟩
         rw [if_neg c81] at H
         have c81b0 : (x12_4 == t483) = false := beq_eq_false_iff_ne.mpr c81
         have c81b1 : (x12_4 != t483) = true := bne_iff_ne.mpr c81
         have H' := am H
         clear H
         have hnb82 := NB481_477.out
         have hnc82 := NB477_481.out
         have hcz83_0 := bc BK481 0 (.slice (some ad506) t478.length co13)
         have hfz83_0 := blk_frozen BK481.out 0
         go_wp2
         go_loopg [12, 112] k4 (fun kq v12 v112 w' => ∃ (x12_5 : Int) (x112_5 : Int), v12 = .int .i64 x12_5 ∧ v112 = .int .i64 x112_5 ∧ Aside0 (impl_ChainOf.l4 kq x12_5 t483 t484 x15_3 x20_4 (t478.length : Int) x112_5 t478 = some (r1, r2)) ∧ Aside0 (kq ≤ k4) ∧ Aside0 (Kd.R (Kd.int .i64) 3 w' w.heap.size (fun k_ => (w.heap.size ≤ k_)) (.slice (some ⟨go39, 0, none⟩) x15_3.length co30) x15_3) ∧ Aside0 (Kd.S (Kd.slice 3 (Kd.int .i64)) 22 w' w.heap.size (fun k_ => (w.heap.size ≤ k_) ∧ some k_ ≠ ((.slice (some ⟨go39, 0, none⟩) x15_3.length co30) : Value).ownBlock ∧ some k_ ≠ ((.slice (some ad506) t478.length co13) : Value).ownBlock ∧ k_ ≠ gb477 ∧ k_ ≠ gb481) u20 x20_4) ∧ Aside0 (Kd.N (Kd.slice 3 (Kd.int .i64)) 22 w' w.heap.size (fun k_ => (w.heap.size ≤ k_) ∧ some k_ ≠ ((.slice (some ⟨go39, 0, none⟩) x15_3.length co30) : Value).ownBlock ∧ some k_ ≠ (u20 : Value).ownBlock ∧ k_ ≠ gb477 ∧ k_ ≠ gb481) (.slice (some ad506) t478.length co13) t478) ∧ Aside0 (w'.heap[gb477]? = some (.cells #[(.slice A0_0 l0_0.length c0_0)] 27 (0, 0))) ∧ Aside0 (w'.heap[gb481]? = some (.cells #[(.slice (some ad506) t478.length co13)] 49 (0, 0))) ∧ Aside0 (Below w.heap.size w w'))
         case atStart => exact ⟨(x12_4), (0), rr, rr, H', ⟨Nat.le_refl _⟩, ⟨by (try simp only [nb, hl15_2]); (try simp only [nb, hl15_3]); (with_reducible repeat (first | apply Kd.R_alloc | apply Kd.R_drewN | apply Kd.R_drew)); exact HO_15.out⟩, ⟨by (try simp only [nb, hl15_2]); (try simp only [nb, hl15_3]); (with_reducible repeat (first | apply Kd.S_alloc | apply Kd.S_drewN | apply Kd.S_drew)); exact HO_20.out⟩, ⟨by (try simp only [nb, hl15_2]); (try simp only [nb, hl15_3]); (with_reducible repeat (first | apply Kd.N_alloc | apply Kd.N_drewN | apply Kd.N_drew)); exact HO_482000.out⟩, ⟨by (try simp only [nb, hl15_2]); (try simp only [nb, hl15_3]); (with_reducible repeat (first | refine blk_drewN ?_ _ | refine blk_drew ?_ | refine blk_alloc ?_ _)); exact BK477.out⟩, ⟨by (try simp only [nb, hl15_2]); (try simp only [nb, hl15_3]); (with_reducible repeat (first | refine blk_drewN ?_ _ | refine blk_drew ?_ | refine blk_alloc ?_ _)); exact BK481.out⟩, ⟨bw⟩⟩
         case round =>
          clear H'
          try clear c44; try clear c44b0; try clear c44b1; try clear c45; try clear c46; try clear c51b0; try clear c53; try clear c54b0; try clear c59b0; try clear c60; try clear p61; try clear q61; try clear c62; try clear c71b0; try clear c72b0; try clear c81; try clear c81b0; try clear c81b1; try clear hcz76_0; try clear hcz83_0; try clear hfz76_0; try clear hfz83_0; try clear hx497_0; try clear hx498_0; try clear hx499_0; try clear hx501_0; try clear hx506_0; try clear hx61_0; try clear p497; try clear p498; try clear p499; try clear p501; try clear p506; try clear q497; try clear q498; try clear q499; try clear q501; try clear q506
          obtain ⟨x12_5, x112_5, rfl, rfl, HA, HK5, HO_15, HO_20, HO_482000, BK477, BK481, HB⟩ := hrel
          cases gk with
          | zero => exact absurd HA.out (by simp [impl_ChainOf.l4])
          | succ k5 =>
           have H := HA.out
           clear HA
           simp only [impl_ChainOf.l4] at H
           replace H := gi H; obtain ⟨c84b0, H⟩ | ⟨c84b0, H⟩ := H
           ·replace H := gd H; obtain ⟨c85b0, H⟩ := H
            by_cases c86 : x112_5 < (x15_3.length : Int)
            rotate_left
            ·rw [if_neg c86] at H
             exact absurd H (by simp)
            rw [if_pos c86] at H
            have c86b0 : decide (x112_5 < (x15_3.length : Int)) = true := decide_eq_true c86
            (try simp only [hl15_2, hl15_3] at c86b0)
            clear c86
            replace H := gd H; obtain ⟨c87b0, H⟩ := H
            by_cases c88 : x12_5 < (x15_3.length : Int)
            rotate_left
            ·rw [if_neg c88] at H
             exact absurd H (by simp)
            rw [if_pos c88] at H
            have c88b0 : decide (x12_5 < (x15_3.length : Int)) = true := decide_eq_true c88
            (try simp only [hl15_2, hl15_3] at c88b0)
            clear c88
            by_cases c89 : (rd x15_3 x112_5) = (wrap64 ((rd x15_3 x12_5) - 1))
            ·rw [if_pos c89] at H
             have c89b0 : ((rd x15_3 x112_5) == (wrap64 ((rd x15_3 x12_5) - 1))) = true := beq_iff_eq.mpr c89
             have c89b1 : ((rd x15_3 x112_5) != (wrap64 ((rd x15_3 x12_5) - 1))) = false := bne_eq_false_iff_eq.mpr c89
             clear c89
             replace H := gd H; obtain ⟨c90b0, H⟩ := H
             replace H := gd H; obtain ⟨c91b0, H⟩ := H
             replace H := ga H; obtain ⟨t517, A92, H⟩ := H
             replace H := gi H; obtain ⟨c93b0, H⟩ | ⟨c93b0, H⟩ := H
             ·replace H := ga H; obtain ⟨t519, A94, H⟩ := H
              by_cases c95 : x20_4.length < 5864062014805
              rotate_left
              ·rw [if_neg c95] at H
               exact absurd H (by simp)
              rw [if_pos c95] at H
              have LMc95 := am c95
              clear c95
              obtain ⟨y522, hy522⟩ : ∃ y_ : List (List Int), y_ = (x20_4 ++ [t519]) := ⟨_, rfl⟩
              replace H : (impl_ChainOf.l3 k5 x112_5 t483 t484 x15_3 y522 t478) = some (r1, r2) := by first | (rw [hy522]; with_reducible first | exact H | exact bs H) | (with_reducible first | exact bs H | exact H) | (rw [hy522]; exact H) | exact H
              have Ny522 := am hy522
              clear hy522
              have H' := am H
              clear H
              try go_wp2
              replace HO_15 := am (Kd.R_drew HO_15.out)
              replace HO_20 := am (Kd.S_drew HO_20.out)
              replace HO_482000 := am (Kd.N_drew HO_482000.out)
              replace BK477 := bd BK477
              replace BK481 := bd BK481
              replace HB := am (below_drew1 HB.out)
              obtain ⟨⟨ad513, e513, hx513_0⟩, p513, q513⟩ := pq (Kd.at_int (Kd.R_reads' HO_15.out).2.2 x112_5)
              obtain rfl : (⟨go39, 0, none⟩ : Addr) = ad513 := (by injection e513)
              (first | simp only [add_plain] at hx513_0 | simp only [add_at] at hx513_0 | simp only [Addr.add, Nat.zero_add] at hx513_0 | skip)
              obtain ⟨⟨ad514, e514, hx514_0⟩, p514, q514⟩ := pq (Kd.at_int (Kd.R_reads' HO_15.out).2.2 x12_5)
              obtain rfl : (⟨go39, 0, none⟩ : Addr) = ad514 := (by injection e514)
              (first | simp only [add_plain] at hx514_0 | simp only [add_at] at hx514_0 | simp only [Addr.add, Nat.zero_add] at hx514_0 | skip)
              have p515 : 0 ≤ (x12_5 : Int) := of_decide_eq_true (by first | (with_reducible assumption) | assumption)
              have q515 : x12_5 < (t478.length : Int) := of_decide_eq_true (by first | (with_reducible assumption) | assumption)
              obtain ⟨ad515, A515_0, c515_0, e515, hx515_0, hl515_0, hi515_0⟩ := at_L2 (Kd.N_reads' HO_482000.out).2.2 x12_5 p515 q515
              obtain rfl : ad506 = ad515 := (by injection e515)
              obtain ⟨ce515, hce515, hMe515, hcc515⟩ := Kd.N_get HO_482000.out [] x12_5 p515 (by first | exact q515 | exact of_decide_eq_true (by first | (with_reducible assumption) | assumption) | (have e_ := (Kd.N_reads' HO_482000.out).1; omega))
              obtain ⟨ua515_0, uc515_0, rfl, ul515_0, ge515_0⟩ := Kd.FK_slice_open hMe515
              have hv515_0 := hcc515 0 _ rfl
              rw [Nat.add_zero, show ((Kd.slice 3 (Kd.int .i64))).sz = 1 from rfl, Nat.mul_one] at hv515_0
              replace hv515_0 := Option.some.inj (hv515_0.symm.trans hx515_0)
              injection hv515_0 with hva_ hvn_ hvc_
              rw [hva_] at ge515_0
              rw [hvc_] at ul515_0
              have HL515_0 := am (show Kd.V (Kd.int .i64) 3 _ w.heap.size _ _ (rd_L2 t478 x12_5) from Kd.V_mk ul515_0 ge515_0)
              clear hva_ hvn_ hvc_ ge515_0 ul515_0
              clear hcc515 hce515
              have HR515_0 := am hi515_0
              have HC515_0 := am hl515_0
              clear hi515_0 hl515_0
              replace p515 := eq_true p515
              replace q515 := eq_true q515
              have p516 : 0 ≤ (x112_5 : Int) := of_decide_eq_true (by first | (with_reducible assumption) | assumption)
              have q516 : x112_5 < (t478.length : Int) := of_decide_eq_true (by first | (with_reducible assumption) | assumption)
              obtain ⟨ad516, A516_0, c516_0, e516, hx516_0, hl516_0, hi516_0⟩ := at_L2 (Kd.N_reads' HO_482000.out).2.2 x112_5 p516 q516
              obtain rfl : ad506 = ad516 := (by injection e516)
              obtain ⟨ce516, hce516, hMe516, hcc516⟩ := Kd.N_get HO_482000.out [] x112_5 p516 (by first | exact q516 | exact of_decide_eq_true (by first | (with_reducible assumption) | assumption) | (have e_ := (Kd.N_reads' HO_482000.out).1; omega))
              obtain ⟨ua516_0, uc516_0, rfl, ul516_0, ge516_0⟩ := Kd.FK_slice_open hMe516
              have hv516_0 := hcc516 0 _ rfl
              rw [Nat.add_zero, show ((Kd.slice 3 (Kd.int .i64))).sz = 1 from rfl, Nat.mul_one] at hv516_0
              replace hv516_0 := Option.some.inj (hv516_0.symm.trans hx516_0)
              injection hv516_0 with hva_ hvn_ hvc_
              rw [hva_] at ge516_0
              rw [hvc_] at ul516_0
              have HL516_0 := am (show Kd.V (Kd.int .i64) 3 _ w.heap.size _ _ (rd_L2 t478 x112_5) from Kd.V_mk ul516_0 ge516_0)
              clear hva_ hvn_ hvc_ ge516_0 ul516_0
              clear hcc516 hce516
              have HR516_0 := am hi516_0
              have HC516_0 := am hl516_0
              clear hi516_0 hl516_0
              replace p516 := eq_true p516
              replace q516 := eq_true q516
              refine start_ (n := 23) (S := fun w' => w'.cell? ⟨gb481, 0, none⟩ = some (.slice (some ad506) t478.length co13) ∧ w'.cell? ⟨go39, (x112_5).toNat, none⟩ = some (.int .i64 (rd x15_3 x112_5)) ∧ w'.cell? ⟨go39, (x12_5).toNat, none⟩ = some (.int .i64 (rd x15_3 x12_5)) ∧ w'.cell? (ad506.add (x12_5).toNat) = some (.slice A515_0 (rd_L2 t478 x12_5).length c515_0) ∧ w'.cell? (ad506.add (x112_5).toNat) = some (.slice A516_0 (rd_L2 t478 x112_5).length c516_0)) (ds := []) (yz 23 0) (by kernel_rfl) rfl rfl ⟨bc BK481 0 _, hx513_0, hx514_0, hx515_0, hx516_0⟩ (fun hHeld => ?_); refine with_tabW impl_ChainOf.tab30 impl_ChainOf.bits30 (fun HT_ HW_ => ?_)
              generalize wr.drew = w96 at HO_15 HO_20 HO_482000 BK477 BK481 HB HL515_0 HL516_0 HR515_0 HR516_0 hx513_0 hx514_0 hx515_0 hx516_0 hHeld ⊢
              refine pa 0 (some 115) (yz 23 1) HT_ ?_
              refine pa 1 (some 116) (yz 23 3) HT_ ?_
              refine pa 2 (some 117) (yz 23 7) HT_ ?_
              refine pa 4 (some 119) (yz 23 23) HT_ ?_
              refine pa 5 (some 120) (yz 23 55) HT_ ?_
              refine pa 6 (some 121) (yz 23 119) HT_ ?_
              refine tk 3 (some 118) (yz 23 127) HT_ HW_ hHeld ?_
              refine tk 7 (some 122) (yz 23 255) HT_ HW_ hHeld ?_
              refine pa 8 (some 123) (yz 23 511) HT_ ?_
              refine pa 9 (some 124) (yz 23 1023) HT_ ?_
              refine pa 10 (some 125) (yz 23 2047) HT_ ?_
              refine pa 12 (some 127) (yz 23 6143) HT_ ?_
              refine pa 16 (some 131) (yz 23 71679) HT_ ?_
              refine pa 20 (some 135) (yz 23 1120255) HT_ ?_
              refine tk 11 (some 126) (yz 23 1122303) HT_ HW_ hHeld ?_
              refine pa 13 (some 128) (yz 23 1130495) HT_ ?_
              refine tk 14 (some 129) (yz 23 1146879) HT_ HW_ hHeld ?_
              refine tk 15 (some 130) (yz 23 1179647) HT_ HW_ hHeld ?_
              refine pa 17 (some 132) (yz 23 1310719) HT_ ?_
              refine tk 18 (some 133) (yz 23 1572863) HT_ HW_ hHeld ?_
              refine oa 19 (some 134) (yz 23 2097151) HT_ (fun K hK => ?_)
              refine gm Try.func97 #[.slice A515_0 (rd_L2 t478 x12_5).length c515_0, .slice A516_0 (rd_L2 t478 x112_5).length c516_0] ?_
              with_reducible refine (impl_apart.calls k5 _ _ (rd_L2 t478 x12_5) _ _ (rd_L2 t478 x112_5) t517 _ ?side1 ?side2 ?side3 ?side4 A92.out).mono ?_
              (case side1 => exact co HR515_0.out)
              (case side2 => exact HC515_0.out)
              (case side3 => exact co HR516_0.out)
              (case side4 => exact HC516_0.out)
              rintro e w97 ⟨rfl, hb⟩
              have HS1_ := (hb.cell (World.block_lt_of_cell? _ _ (hHeld.2.1))).trans (hHeld.2.1)
              have HS2_ := (hb.cell (World.block_lt_of_cell? _ _ (hHeld.2.2.1))).trans (hHeld.2.2.1)
              have HS3_ := (hb.cell (World.block_lt_of_cell? _ _ (hHeld.2.2.2.1))).trans (hHeld.2.2.2.1)
              have HS4_ := (hb.cell (World.block_lt_of_cell? _ _ (hHeld.2.2.2.2))).trans (hHeld.2.2.2.2)
              refine ⟨_, rfl, ?_⟩
              replace HO_15 := rK HO_15 hb
              replace HO_20 := sK HO_20 hb
              replace HO_482000 := nK HO_482000 hb
              replace HL515_0 := am (Kd.V_below (vo HL515_0.out) hb)
              replace HL516_0 := am (Kd.V_below (vo HL516_0.out) hb)
              replace BK477 := kb BK477 hb
              replace BK481 := kb BK481 hb
              replace HR515_0 := am (Kd.C_below (co HR515_0.out) hb)
              replace HR516_0 := am (Kd.C_below (co HR516_0.out) hb)
              replace HB := am (below_step bw hb)
              clear hb
              refine hK.out _ _ ⟨bc BK481 0 _, HS1_, HS2_, HS3_, HS4_⟩ (fun hHeld => ?_)
              clear hK K
              refine nm (some 134) ?_
              refine pa 21 (some 136) (yz 23 4194303) HT_ ?_
              refine pa 22 (some 137) (yz 23 8388607) HT_ ?_
              refine done_ (done_of HT_.out (by kernel_rfl)) ?_
              have hnb98 := NB481_477.out
              have hnc98 := NB477_481.out
              have hcz99_0 := bc BK481 0 (.slice (some ad506) t478.length co13)
              have hfz99_0 := blk_frozen BK481.out 0
              have p518 : 0 ≤ (x112_5 : Int) := of_decide_eq_true (by first | (with_reducible assumption) | assumption)
              have q518 : x112_5 < (t478.length : Int) := of_decide_eq_true (by first | (with_reducible assumption) | assumption)
              obtain ⟨ad518, A518_0, c518_0, e518, hx518_0, hl518_0, hi518_0⟩ := at_L2 (Kd.N_reads' HO_482000.out).2.2 x112_5 p518 q518
              obtain rfl : ad506 = ad518 := (by injection e518)
              obtain ⟨ce518, hce518, hMe518, hcc518⟩ := Kd.N_get HO_482000.out [] x112_5 p518 (by first | exact q518 | exact of_decide_eq_true (by first | (with_reducible assumption) | assumption) | (have e_ := (Kd.N_reads' HO_482000.out).1; omega))
              obtain ⟨ua518_0, uc518_0, rfl, ul518_0, ge518_0⟩ := Kd.FK_slice_open hMe518
              have hv518_0 := hcc518 0 _ rfl
              rw [Nat.add_zero, show ((Kd.slice 3 (Kd.int .i64))).sz = 1 from rfl, Nat.mul_one] at hv518_0
              replace hv518_0 := Option.some.inj (hv518_0.symm.trans hx518_0)
              injection hv518_0 with hva_ hvn_ hvc_
              rw [hva_] at ge518_0
              rw [hvc_] at ul518_0
              have HL518_0 := am (show Kd.V (Kd.int .i64) 3 _ w.heap.size _ _ (rd_L2 t478 x112_5) from Kd.V_mk ul518_0 ge518_0)
              clear hva_ hvn_ hvc_ ge518_0 ul518_0
              clear hcc518 hce518
              have HR518_0 := am hi518_0
              have HC518_0 := am hl518_0
              clear hi518_0 hl518_0
              replace p518 := eq_true p518
              replace q518 := eq_true q518
              (try clear hx498_0); (try clear hx499_0); (try clear hx506_0); (try clear hx515_0); (try clear hx516_0); (try clear HS1_ HS2_ HS3_ HS4_); (try clear hHeld)
              try go_wp2_with (first | ((with_reducible refine gate_callee (f := 84) rfl ?_); refine gl (some 145) Try.func84 #[.slice A518_0 (rd_L2 t478 x112_5).length c518_0] ?_; (with_reducible refine (slices_Clone_int_int.calls _ _ (rd_L2 t478 x112_5) t519 _ ?side1 ?side2 A94.out).mono ?_); (case side1 => exact co HR518_0.out); (case side2 => exact HC518_0.out); rintro e w100 ⟨v520, rfl, ho0, hb⟩; refine ⟨_, rfl, ?_⟩; replace HO_20 := am (Kd.S_elder' (so HO_20.out) (Kd.R_base ho0) hb); replace HO_482000 := am (Kd.N_elder' (no HO_482000.out) (Kd.R_base ho0) hb); replace HL515_0 := am (Kd.V_elder' (vo HL515_0.out) (Kd.R_base ho0) hb); replace HL516_0 := am (Kd.V_elder' (vo HL516_0.out) (Kd.R_base ho0) hb); replace HL518_0 := am (Kd.V_elder' (vo HL518_0.out) (Kd.R_base ho0) hb); have HO521 := am (Kd.R_lower (Kd.R_new' (Kd.R_newM (M := fun k_ => (w.heap.size ≤ k_)) ho0 (below_size bw) (fun k_ h_ => h_)) (Kd.R_lt (ro HO_15.out))) (below_size bw)); replace HO_15 := am (Kd.R_elder' (ro HO_15.out) (Kd.R_base ho0) hb); replace BK477 := kb BK477 hb; replace BK481 := kb BK481 hb; replace HR515_0 := am (Kd.C_below (co HR515_0.out) hb); replace HR516_0 := am (Kd.C_below (co HR516_0.out) hb); replace HR518_0 := am (Kd.C_below (co HR518_0.out) hb); replace HB := am (below_step bw hb); clear hb ho0; obtain ⟨Ao102, co102, eo102⟩ := Kd.R_slice HO521.out; subst eo102) | ((with_reducible refine gate_builtin (b := .append) (xs := #[.tmp 140, .tmp 146]) rfl ?_); at_builtin; refine Kd.S_append (Kd.slice 3 (Kd.int .i64)) (w0 := w) w.heap.size rfl (.tmp 140) (.tmp 146) 49 22 (.slice none 0 0) 24 rfl Try.underlying49 info22 rfl (by decide) (by omega) u20 x20_4 t519 [.slice Ao102 t519.length co102] (fun k_ => (w.heap.size ≤ k_) ∧ some k_ ≠ (.slice (some ⟨go39, 0, none⟩) x15_3.length co30 : Value).ownBlock ∧ some k_ ≠ (.slice (some ad506) t478.length co13 : Value).ownBlock ∧ k_ ≠ gb477 ∧ k_ ≠ gb481) (fun k_ => some k_ = (.slice Ao102 t519.length co102 : Value).ownBlock) rfl rfl ?aP (fun k_ hk_ => ((Kd.R_mono (ok' := (fun k_ => ((fun k_ => (w.heap.size ≤ k_) ∧ some k_ ≠ (.slice (some ⟨go39, 0, none⟩) x15_3.length co30 : Value).ownBlock ∧ some k_ ≠ (.slice (some ad506) t478.length co13 : Value).ownBlock ∧ k_ ≠ gb477 ∧ k_ ≠ gb481)) k_ ∧ some k_ ≠ (u20 : Value).ownBlock)) (Kd.R_types (Kd.R_types (Kd.R_apart' (Kd.R_apart' (HO521.out) (Kd.N_typed HO_482000.out) (by decide)) (Kd.S_typed HO_20.out) (by decide)) BK477.out (by decide)) BK481.out (by decide)) (fun k_ hk => ⟨⟨hk.1.1.1.1.1.1, ⟨hk.1.1.1.1.2, ⟨hk.1.1.1.2, ⟨hk.1.2, hk.2⟩⟩⟩⟩, hk.1.1.2⟩))).1 k_ hk_.symm) ?aF ?aO ?aB ?aS ?aL ?_; (case aP => exact ⟨_, rfl, Kd.R_mono (Kd.R_tight rfl (Kd.R_mono (ok' := (fun k_ => ((fun k_ => (w.heap.size ≤ k_) ∧ some k_ ≠ (.slice (some ⟨go39, 0, none⟩) x15_3.length co30 : Value).ownBlock ∧ some k_ ≠ (.slice (some ad506) t478.length co13 : Value).ownBlock ∧ k_ ≠ gb477 ∧ k_ ≠ gb481)) k_ ∧ some k_ ≠ (u20 : Value).ownBlock)) (Kd.R_types (Kd.R_types (Kd.R_apart' (Kd.R_apart' (HO521.out) (Kd.N_typed HO_482000.out) (by decide)) (Kd.S_typed HO_20.out) (by decide)) BK477.out (by decide)) BK481.out (by decide)) (fun k_ hk => ⟨⟨hk.1.1.1.1.1.1, ⟨hk.1.1.1.1.2, ⟨hk.1.1.1.2, ⟨hk.1.2, hk.2⟩⟩⟩⟩, hk.1.1.2⟩))) (fun _ h_ => h_)⟩); (case aB => exact bw); (case aF => exact (fun k_ hk => ⟨(Nat.le_trans (below_size bw) hk), Kd.fresh' (Kd.R_lt (ro HO_15.out)) k_ hk, Kd.fresh' (Kd.N_lt (no HO_482000.out)) k_ hk, Kd.freshB (g := gb477) (o := .cells #[.slice A0_0 l0_0.length c0_0] 27 (0, 0)) (bo BK477.out) k_ hk, Kd.freshB (g := gb481) (o := .cells #[.slice (some ad506) t478.length co13] 49 (0, 0)) (bo BK481.out) k_ hk⟩)); (case aO => exact (by (with_reducible repeat (first | apply Kd.S_alloc | apply Kd.S_drewN | apply Kd.S_drew)); exact Kd.S_mono HO_20.out (fun _ hk => ⟨⟨hk.1.1, ⟨hk.1.2.1, ⟨hk.1.2.2.1, ⟨hk.1.2.2.2.1, hk.1.2.2.2.2⟩⟩⟩⟩, fun e_ => hk.2 e_⟩))); (case aS => exact (below_size bw)); (case aL => have := LMc95.out; omega); intro v523 w101 ho hb hg hat; rw [← Ny522.out] at ho; replace HO_15 := am (Kd.R_over' (ro HO_15.out) (Kd.S_typed (so HO_20.out)) (by decide) hg); replace HO_482000 := am (Kd.N_afterv (ok := (fun k_ => (w.heap.size ≤ k_) ∧ some k_ ≠ (.slice (some ⟨go39, 0, none⟩) x15_3.length co30 : Value).ownBlock ∧ nb k_ Ao102 t519 co102 ∧ k_ ≠ gb477 ∧ k_ ≠ gb481)) (by (with_reducible repeat (first | apply Kd.N_alloc | apply Kd.N_drewN | apply Kd.N_drew)); exact Kd.N_mono HO_482000.out (fun _ hk => ⟨⟨hk.1.1, ⟨hk.1.2.1, ⟨hk.2, ⟨hk.1.2.2.2.1, hk.1.2.2.2.2⟩⟩⟩⟩, hk.1.2.2.1⟩)) hg hat); replace BK477 := am (blk_grown (g := gb477) (o := .cells #[.slice A0_0 l0_0.length c0_0] 27 (0, 0)) (bo BK477.out) hg (Kd.S_ne HO_20.out BK477.out (by decide))); replace BK481 := am (blk_grown (g := gb481) (o := .cells #[.slice (some ad506) t478.length co13] 49 (0, 0)) (bo BK481.out) hg (Kd.S_ne HO_20.out BK481.out (by decide))); replace HL515_0 := am (Kd.V_afterv (ok := (fun k_ => (w.heap.size ≤ k_) ∧ some k_ ≠ (.slice (some ⟨go39, 0, none⟩) x15_3.length co30 : Value).ownBlock ∧ some k_ ≠ (.slice (some ad506) t478.length co13 : Value).ownBlock ∧ nb k_ Ao102 t519 co102 ∧ k_ ≠ gb477 ∧ k_ ≠ gb481)) (by (with_reducible repeat (first | apply Kd.V_alloc | apply Kd.V_drewN | apply Kd.V_drew)); exact Kd.V_mono HL515_0.out (fun _ hk => ⟨⟨hk.1.1.1, ⟨hk.1.1.2.1, ⟨hk.1.2, ⟨hk.2, ⟨hk.1.1.2.2.2.1, hk.1.1.2.2.2.2⟩⟩⟩⟩⟩, hk.1.1.2.2.1⟩)) hg hat); replace HL516_0 := am (Kd.V_afterv (ok := (fun k_ => (w.heap.size ≤ k_) ∧ some k_ ≠ (.slice (some ⟨go39, 0, none⟩) x15_3.length co30 : Value).ownBlock ∧ some k_ ≠ (.slice (some ad506) t478.length co13 : Value).ownBlock ∧ nb k_ Ao102 t519 co102 ∧ k_ ≠ gb477 ∧ k_ ≠ gb481)) (by (with_reducible repeat (first | apply Kd.V_alloc | apply Kd.V_drewN | apply Kd.V_drew)); exact Kd.V_mono HL516_0.out (fun _ hk => ⟨⟨hk.1.1.1, ⟨hk.1.1.2.1, ⟨hk.1.2, ⟨hk.2, ⟨hk.1.1.2.2.2.1, hk.1.1.2.2.2.2⟩⟩⟩⟩⟩, hk.1.1.2.2.1⟩)) hg hat); replace HL518_0 := am (Kd.V_afterv (ok := (fun k_ => (w.heap.size ≤ k_) ∧ some k_ ≠ (.slice (some ⟨go39, 0, none⟩) x15_3.length co30 : Value).ownBlock ∧ some k_ ≠ (.slice (some ad506) t478.length co13 : Value).ownBlock ∧ nb k_ Ao102 t519 co102 ∧ k_ ≠ gb477 ∧ k_ ≠ gb481)) (by (with_reducible repeat (first | apply Kd.V_alloc | apply Kd.V_drewN | apply Kd.V_drew)); exact Kd.V_mono HL518_0.out (fun _ hk => ⟨⟨hk.1.1.1, ⟨hk.1.1.2.1, ⟨hk.1.2, ⟨hk.2, ⟨hk.1.1.2.2.2.1, hk.1.1.2.2.2.2⟩⟩⟩⟩⟩, hk.1.1.2.2.1⟩)) hg hat); replace HB := am (hb); have HO524 := am (ho); clear HO_20 HO521 ho hb hg hat))
              go_roundg k5
              case measure => have := HJ7.out; have := HK2.out; have := HK3.out; have := HK4.out; have := HK5.out; omega
              case rel => exact ⟨(x112_5), (y522), rr, H', ⟨by have := HJ7.out; have := HK2.out; have := HK3.out; have := HK4.out; have := HK5.out; omega⟩, ⟨by (try simp only [nb, hl15_2]); (try simp only [nb, hl15_3]); (with_reducible repeat (first | apply Kd.R_alloc | apply Kd.R_drewN | apply Kd.R_drew)); exact Kd.R_mono HO_15.out (fun _ hk => hk.1)⟩, ⟨by (try simp only [nb, hl15_2]); (try simp only [nb, hl15_3]); (with_reducible repeat (first | apply Kd.S_alloc | apply Kd.S_drewN | apply Kd.S_drew)); exact HO524.out⟩, ⟨by (try simp only [nb, hl15_2]); (try simp only [nb, hl15_3]); (with_reducible repeat (first | apply Kd.N_alloc | apply Kd.N_drewN | apply Kd.N_drew)); exact Kd.N_mono HO_482000.out (fun _ hk => ⟨hk.1.1, ⟨hk.1.2.1, ⟨hk.2, ⟨hk.1.2.2.2.1, hk.1.2.2.2.2⟩⟩⟩⟩)⟩, ⟨by (try simp only [nb, hl15_2]); (try simp only [nb, hl15_3]); (with_reducible repeat (first | refine blk_drewN ?_ _ | refine blk_drew ?_ | refine blk_alloc ?_ _)); exact BK477.out⟩, ⟨by (try simp only [nb, hl15_2]); (try simp only [nb, hl15_3]); (with_reducible repeat (first | refine blk_drewN ?_ _ | refine blk_drew ?_ | refine blk_alloc ?_ _)); exact BK481.out⟩, ⟨bw⟩⟩
             have H' := am H
             clear H
             try go_wp2
             replace HO_15 := am (Kd.R_drew HO_15.out)
             replace HO_20 := am (Kd.S_drew HO_20.out)
             replace HO_482000 := am (Kd.N_drew HO_482000.out)
             replace BK477 := bd BK477
             replace BK481 := bd BK481
             replace HB := am (below_drew1 HB.out)
             obtain ⟨⟨ad513, e513, hx513_0⟩, p513, q513⟩ := pq (Kd.at_int (Kd.R_reads' HO_15.out).2.2 x112_5)
             obtain rfl : (⟨go39, 0, none⟩ : Addr) = ad513 := (by injection e513)
             (first | simp only [add_plain] at hx513_0 | simp only [add_at] at hx513_0 | simp only [Addr.add, Nat.zero_add] at hx513_0 | skip)
             obtain ⟨⟨ad514, e514, hx514_0⟩, p514, q514⟩ := pq (Kd.at_int (Kd.R_reads' HO_15.out).2.2 x12_5)
             obtain rfl : (⟨go39, 0, none⟩ : Addr) = ad514 := (by injection e514)
             (first | simp only [add_plain] at hx514_0 | simp only [add_at] at hx514_0 | simp only [Addr.add, Nat.zero_add] at hx514_0 | skip)
             have p515 : 0 ≤ (x12_5 : Int) := of_decide_eq_true (by first | (with_reducible assumption) | assumption)
             have q515 : x12_5 < (t478.length : Int) := of_decide_eq_true (by first | (with_reducible assumption) | assumption)
             obtain ⟨ad515, A515_0, c515_0, e515, hx515_0, hl515_0, hi515_0⟩ := at_L2 (Kd.N_reads' HO_482000.out).2.2 x12_5 p515 q515
             obtain rfl : ad506 = ad515 := (by injection e515)
             obtain ⟨ce515, hce515, hMe515, hcc515⟩ := Kd.N_get HO_482000.out [] x12_5 p515 (by first | exact q515 | exact of_decide_eq_true (by first | (with_reducible assumption) | assumption) | (have e_ := (Kd.N_reads' HO_482000.out).1; omega))
             obtain ⟨ua515_0, uc515_0, rfl, ul515_0, ge515_0⟩ := Kd.FK_slice_open hMe515
             have hv515_0 := hcc515 0 _ rfl
             rw [Nat.add_zero, show ((Kd.slice 3 (Kd.int .i64))).sz = 1 from rfl, Nat.mul_one] at hv515_0
             replace hv515_0 := Option.some.inj (hv515_0.symm.trans hx515_0)
             injection hv515_0 with hva_ hvn_ hvc_
             rw [hva_] at ge515_0
             rw [hvc_] at ul515_0
             have HL515_0 := am (show Kd.V (Kd.int .i64) 3 _ w.heap.size _ _ (rd_L2 t478 x12_5) from Kd.V_mk ul515_0 ge515_0)
             clear hva_ hvn_ hvc_ ge515_0 ul515_0
             clear hcc515 hce515
             have HR515_0 := am hi515_0
             have HC515_0 := am hl515_0
             clear hi515_0 hl515_0
             replace p515 := eq_true p515
             replace q515 := eq_true q515
             have p516 : 0 ≤ (x112_5 : Int) := of_decide_eq_true (by first | (with_reducible assumption) | assumption)
             have q516 : x112_5 < (t478.length : Int) := of_decide_eq_true (by first | (with_reducible assumption) | assumption)
             obtain ⟨ad516, A516_0, c516_0, e516, hx516_0, hl516_0, hi516_0⟩ := at_L2 (Kd.N_reads' HO_482000.out).2.2 x112_5 p516 q516
             obtain rfl : ad506 = ad516 := (by injection e516)
             obtain ⟨ce516, hce516, hMe516, hcc516⟩ := Kd.N_get HO_482000.out [] x112_5 p516 (by first | exact q516 | exact of_decide_eq_true (by first | (with_reducible assumption) | assumption) | (have e_ := (Kd.N_reads' HO_482000.out).1; omega))
             obtain ⟨ua516_0, uc516_0, rfl, ul516_0, ge516_0⟩ := Kd.FK_slice_open hMe516
             have hv516_0 := hcc516 0 _ rfl
             rw [Nat.add_zero, show ((Kd.slice 3 (Kd.int .i64))).sz = 1 from rfl, Nat.mul_one] at hv516_0
             replace hv516_0 := Option.some.inj (hv516_0.symm.trans hx516_0)
             injection hv516_0 with hva_ hvn_ hvc_
             rw [hva_] at ge516_0
             rw [hvc_] at ul516_0
             have HL516_0 := am (show Kd.V (Kd.int .i64) 3 _ w.heap.size _ _ (rd_L2 t478 x112_5) from Kd.V_mk ul516_0 ge516_0)
             clear hva_ hvn_ hvc_ ge516_0 ul516_0
             clear hcc516 hce516
             have HR516_0 := am hi516_0
             have HC516_0 := am hl516_0
             clear hi516_0 hl516_0
             replace p516 := eq_true p516
             replace q516 := eq_true q516
             refine start_ (n := 23) (S := fun w' => w'.cell? ⟨gb481, 0, none⟩ = some (.slice (some ad506) t478.length co13) ∧ w'.cell? ⟨go39, (x112_5).toNat, none⟩ = some (.int .i64 (rd x15_3 x112_5)) ∧ w'.cell? ⟨go39, (x12_5).toNat, none⟩ = some (.int .i64 (rd x15_3 x12_5)) ∧ w'.cell? (ad506.add (x12_5).toNat) = some (.slice A515_0 (rd_L2 t478 x12_5).length c515_0) ∧ w'.cell? (ad506.add (x112_5).toNat) = some (.slice A516_0 (rd_L2 t478 x112_5).length c516_0)) (ds := []) (yz 23 0) (by kernel_rfl) rfl rfl ⟨bc BK481 0 _, hx513_0, hx514_0, hx515_0, hx516_0⟩ (fun hHeld => ?_); refine with_tabW impl_ChainOf.tab30 impl_ChainOf.bits30 (fun HT_ HW_ => ?_)
             generalize wr.drew = w103 at HO_15 HO_20 HO_482000 BK477 BK481 HB HL515_0 HL516_0 HR515_0 HR516_0 hx513_0 hx514_0 hx515_0 hx516_0 hHeld ⊢
             refine pa 0 (some 115) (yz 23 1) HT_ ?_
             refine pa 1 (some 116) (yz 23 3) HT_ ?_
             refine pa 2 (some 117) (yz 23 7) HT_ ?_
             refine pa 4 (some 119) (yz 23 23) HT_ ?_
             refine pa 5 (some 120) (yz 23 55) HT_ ?_
             refine pa 6 (some 121) (yz 23 119) HT_ ?_
             refine tk 3 (some 118) (yz 23 127) HT_ HW_ hHeld ?_
             refine tk 7 (some 122) (yz 23 255) HT_ HW_ hHeld ?_
             refine pa 8 (some 123) (yz 23 511) HT_ ?_
             refine pa 9 (some 124) (yz 23 1023) HT_ ?_
             refine pa 10 (some 125) (yz 23 2047) HT_ ?_
             refine pa 12 (some 127) (yz 23 6143) HT_ ?_
             refine pa 16 (some 131) (yz 23 71679) HT_ ?_
             refine pa 20 (some 135) (yz 23 1120255) HT_ ?_
             refine tk 11 (some 126) (yz 23 1122303) HT_ HW_ hHeld ?_
             refine pa 13 (some 128) (yz 23 1130495) HT_ ?_
             refine tk 14 (some 129) (yz 23 1146879) HT_ HW_ hHeld ?_
             refine tk 15 (some 130) (yz 23 1179647) HT_ HW_ hHeld ?_
             refine pa 17 (some 132) (yz 23 1310719) HT_ ?_
             refine tk 18 (some 133) (yz 23 1572863) HT_ HW_ hHeld ?_
             refine oa 19 (some 134) (yz 23 2097151) HT_ (fun K hK => ?_)
             refine gm Try.func97 #[.slice A515_0 (rd_L2 t478 x12_5).length c515_0, .slice A516_0 (rd_L2 t478 x112_5).length c516_0] ?_
             with_reducible refine (impl_apart.calls k5 _ _ (rd_L2 t478 x12_5) _ _ (rd_L2 t478 x112_5) t517 _ ?side1 ?side2 ?side3 ?side4 A92.out).mono ?_
             (case side1 => exact co HR515_0.out)
             (case side2 => exact HC515_0.out)
             (case side3 => exact co HR516_0.out)
             (case side4 => exact HC516_0.out)
             rintro e w104 ⟨rfl, hb⟩
             have HS1_ := (hb.cell (World.block_lt_of_cell? _ _ (hHeld.2.1))).trans (hHeld.2.1)
             have HS2_ := (hb.cell (World.block_lt_of_cell? _ _ (hHeld.2.2.1))).trans (hHeld.2.2.1)
             have HS3_ := (hb.cell (World.block_lt_of_cell? _ _ (hHeld.2.2.2.1))).trans (hHeld.2.2.2.1)
             have HS4_ := (hb.cell (World.block_lt_of_cell? _ _ (hHeld.2.2.2.2))).trans (hHeld.2.2.2.2)
             refine ⟨_, rfl, ?_⟩
             replace HO_15 := rK HO_15 hb
             replace HO_20 := sK HO_20 hb
             replace HO_482000 := nK HO_482000 hb
             replace HL515_0 := am (Kd.V_below (vo HL515_0.out) hb)
             replace HL516_0 := am (Kd.V_below (vo HL516_0.out) hb)
             replace BK477 := kb BK477 hb
             replace BK481 := kb BK481 hb
             replace HR515_0 := am (Kd.C_below (co HR515_0.out) hb)
             replace HR516_0 := am (Kd.C_below (co HR516_0.out) hb)
             replace HB := am (below_step bw hb)
             clear hb
             refine hK.out _ _ ⟨bc BK481 0 _, HS1_, HS2_, HS3_, HS4_⟩ (fun hHeld => ?_)
             clear hK K
             refine nm (some 134) ?_
             refine pa 21 (some 136) (yz 23 4194303) HT_ ?_
             refine pa 22 (some 137) (yz 23 8388607) HT_ ?_
             refine done_ (done_of HT_.out (by kernel_rfl)) ?_
             try go_wp2
             go_roundg k5
             case measure => have := HJ7.out; have := HK2.out; have := HK3.out; have := HK4.out; have := HK5.out; omega
             case rel => exact ⟨(x12_5), (wrap64 (x112_5 + 1)), rr, rr, H', ⟨by have := HJ7.out; have := HK2.out; have := HK3.out; have := HK4.out; have := HK5.out; omega⟩, ⟨by (try simp only [nb, hl15_2]); (try simp only [nb, hl15_3]); (with_reducible repeat (first | apply Kd.R_alloc | apply Kd.R_drewN | apply Kd.R_drew)); exact HO_15.out⟩, ⟨by (try simp only [nb, hl15_2]); (try simp only [nb, hl15_3]); (with_reducible repeat (first | apply Kd.S_alloc | apply Kd.S_drewN | apply Kd.S_drew)); exact HO_20.out⟩, ⟨by (try simp only [nb, hl15_2]); (try simp only [nb, hl15_3]); (with_reducible repeat (first | apply Kd.N_alloc | apply Kd.N_drewN | apply Kd.N_drew)); exact HO_482000.out⟩, ⟨by (try simp only [nb, hl15_2]); (try simp only [nb, hl15_3]); (with_reducible repeat (first | refine blk_drewN ?_ _ | refine blk_drew ?_ | refine blk_alloc ?_ _)); exact BK477.out⟩, ⟨by (try simp only [nb, hl15_2]); (try simp only [nb, hl15_3]); (with_reducible repeat (first | refine blk_drewN ?_ _ | refine blk_drew ?_ | refine blk_alloc ?_ _)); exact BK481.out⟩, ⟨bw⟩⟩
            rw [if_neg c89] at H
            have c89b0 : ((rd x15_3 x112_5) == (wrap64 ((rd x15_3 x12_5) - 1))) = false := beq_eq_false_iff_ne.mpr c89
            have c89b1 : ((rd x15_3 x112_5) != (wrap64 ((rd x15_3 x12_5) - 1))) = true := bne_iff_ne.mpr c89
            have H' := am H
            clear H
            try go_wp2
            replace HO_15 := am (Kd.R_drew HO_15.out)
            replace HO_20 := am (Kd.S_drew HO_20.out)
            replace HO_482000 := am (Kd.N_drew HO_482000.out)
            replace BK477 := bd BK477
            replace BK481 := bd BK481
            replace HB := am (below_drew1 HB.out)
            obtain ⟨⟨ad513, e513, hx513_0⟩, p513, q513⟩ := pq (Kd.at_int (Kd.R_reads' HO_15.out).2.2 x112_5)
            obtain rfl : (⟨go39, 0, none⟩ : Addr) = ad513 := (by injection e513)
            (first | simp only [add_plain] at hx513_0 | simp only [add_at] at hx513_0 | simp only [Addr.add, Nat.zero_add] at hx513_0 | skip)
            obtain ⟨⟨ad514, e514, hx514_0⟩, p514, q514⟩ := pq (Kd.at_int (Kd.R_reads' HO_15.out).2.2 x12_5)
            obtain rfl : (⟨go39, 0, none⟩ : Addr) = ad514 := (by injection e514)
            (first | simp only [add_plain] at hx514_0 | simp only [add_at] at hx514_0 | simp only [Addr.add, Nat.zero_add] at hx514_0 | skip)
            refine start_ (n := 23) (S := fun w' => w'.cell? ⟨go39, (x112_5).toNat, none⟩ = some (.int .i64 (rd x15_3 x112_5)) ∧ w'.cell? ⟨go39, (x12_5).toNat, none⟩ = some (.int .i64 (rd x15_3 x12_5))) (ds := []) (yz 23 0) (by kernel_rfl) rfl rfl ⟨hx513_0, hx514_0⟩ (fun hHeld => ?_); refine with_tabW impl_ChainOf.tab30 impl_ChainOf.bits30 (fun HT_ HW_ => ?_)
            generalize wr.drew = w105 at HO_15 HO_20 HO_482000 BK477 BK481 HB hx513_0 hx514_0 hHeld ⊢
            refine pa 0 (some 115) (yz 23 1) HT_ ?_
            refine pa 1 (some 116) (yz 23 3) HT_ ?_
            refine pa 2 (some 117) (yz 23 7) HT_ ?_
            refine pa 4 (some 119) (yz 23 23) HT_ ?_
            refine pa 5 (some 120) (yz 23 55) HT_ ?_
            refine pa 6 (some 121) (yz 23 119) HT_ ?_
            refine tk 3 (some 118) (yz 23 127) HT_ HW_ hHeld ?_
            refine tk 7 (some 122) (yz 23 255) HT_ HW_ hHeld ?_
            refine pa 8 (some 123) (yz 23 511) HT_ ?_
            refine pa 9 (some 124) (yz 23 1023) HT_ ?_
            refine pa 10 (some 125) (yz 23 2047) HT_ ?_
            refine pu 11 (some 126) (yz 23 4095) HT_ ?_
            refine pu 12 (some 127) (yz 23 8191) HT_ ?_
            refine pu 13 (some 128) (yz 23 16383) HT_ ?_
            refine pu 14 (some 129) (yz 23 32767) HT_ ?_
            refine pu 15 (some 130) (yz 23 65535) HT_ ?_
            refine pu 16 (some 131) (yz 23 131071) HT_ ?_
            refine pu 17 (some 132) (yz 23 262143) HT_ ?_
            refine pu 18 (some 133) (yz 23 524287) HT_ ?_
            refine pu 19 (some 134) (yz 23 1048575) HT_ ?_
            refine pu 20 (some 135) (yz 23 2097151) HT_ ?_
            refine pu 21 (some 136) (yz 23 4194303) HT_ ?_
            refine pa 22 (some 137) (yz 23 8388607) HT_ ?_
            refine done_ (done_of HT_.out (by kernel_rfl)) ?_
            try go_wp2
            go_roundg k5
            case measure => have := HJ7.out; have := HK2.out; have := HK3.out; have := HK4.out; have := HK5.out; omega
            case rel => exact ⟨(x12_5), (wrap64 (x112_5 + 1)), rr, rr, H', ⟨by have := HJ7.out; have := HK2.out; have := HK3.out; have := HK4.out; have := HK5.out; omega⟩, ⟨by (try simp only [nb, hl15_2]); (try simp only [nb, hl15_3]); (with_reducible repeat (first | apply Kd.R_alloc | apply Kd.R_drewN | apply Kd.R_drew)); exact HO_15.out⟩, ⟨by (try simp only [nb, hl15_2]); (try simp only [nb, hl15_3]); (with_reducible repeat (first | apply Kd.S_alloc | apply Kd.S_drewN | apply Kd.S_drew)); exact HO_20.out⟩, ⟨by (try simp only [nb, hl15_2]); (try simp only [nb, hl15_3]); (with_reducible repeat (first | apply Kd.N_alloc | apply Kd.N_drewN | apply Kd.N_drew)); exact HO_482000.out⟩, ⟨by (try simp only [nb, hl15_2]); (try simp only [nb, hl15_3]); (with_reducible repeat (first | refine blk_drewN ?_ _ | refine blk_drew ?_ | refine blk_alloc ?_ _)); exact BK477.out⟩, ⟨by (try simp only [nb, hl15_2]); (try simp only [nb, hl15_3]); (with_reducible repeat (first | refine blk_drewN ?_ _ | refine blk_drew ?_ | refine blk_alloc ?_ _)); exact BK481.out⟩, ⟨bw⟩⟩
           replace H := gd H; obtain ⟨c106b0, H⟩ := H
           replace H := gd H; obtain ⟨c107b0, H⟩ := H
           replace H := ga H; obtain ⟨t526, A108, H⟩ := H
           by_cases c109 : x20_4.length < 5864062014805
           rotate_left
           ·rw [if_neg c109] at H
            exact absurd H (by simp)
           rw [if_pos c109] at H
           have LMc109 := am c109
           clear c109
           obtain ⟨y529, hy529⟩ : ∃ y_ : List (List Int), y_ = (x20_4 ++ [t526]) := ⟨_, rfl⟩
           replace H : (impl_ChainOf.l3 k5 x12_5 t483 t484 x15_3 y529 t478) = some (r1, r2) := by first | (rw [hy529]; with_reducible first | exact H | exact bs H) | (with_reducible first | exact bs H | exact H) | (rw [hy529]; exact H) | exact H
           have Ny529 := am hy529
           clear hy529
           have H' := am H
           clear H
           have hnb110 := NB481_477.out
           have hnc110 := NB477_481.out
           have hcz111_0 := bc BK481 0 (.slice (some ad506) t478.length co13)
           have hfz111_0 := blk_frozen BK481.out 0
           have p525 : 0 ≤ (x12_5 : Int) := of_decide_eq_true (by first | (with_reducible assumption) | assumption)
           have q525 : x12_5 < (t478.length : Int) := of_decide_eq_true (by first | (with_reducible assumption) | assumption)
           obtain ⟨ad525, A525_0, c525_0, e525, hx525_0, hl525_0, hi525_0⟩ := at_L2 (Kd.N_reads' HO_482000.out).2.2 x12_5 p525 q525
           obtain rfl : ad506 = ad525 := (by injection e525)
           obtain ⟨ce525, hce525, hMe525, hcc525⟩ := Kd.N_get HO_482000.out [] x12_5 p525 (by first | exact q525 | exact of_decide_eq_true (by first | (with_reducible assumption) | assumption) | (have e_ := (Kd.N_reads' HO_482000.out).1; omega))
           obtain ⟨ua525_0, uc525_0, rfl, ul525_0, ge525_0⟩ := Kd.FK_slice_open hMe525
           have hv525_0 := hcc525 0 _ rfl
           rw [Nat.add_zero, show ((Kd.slice 3 (Kd.int .i64))).sz = 1 from rfl, Nat.mul_one] at hv525_0
           replace hv525_0 := Option.some.inj (hv525_0.symm.trans hx525_0)
           injection hv525_0 with hva_ hvn_ hvc_
           rw [hva_] at ge525_0
           rw [hvc_] at ul525_0
           have HL525_0 := am (show Kd.V (Kd.int .i64) 3 _ w.heap.size _ _ (rd_L2 t478 x12_5) from Kd.V_mk ul525_0 ge525_0)
           clear hva_ hvn_ hvc_ ge525_0 ul525_0
           clear hcc525 hce525
           have HR525_0 := am hi525_0
           have HC525_0 := am hl525_0
           clear hi525_0 hl525_0
           replace p525 := eq_true p525
           replace q525 := eq_true q525
           (try clear hx498_0); (try clear hx499_0); (try clear hx506_0); (try clear hx515_0); (try clear hx516_0); (try clear hx518_0); (try clear HS1_ HS2_ HS3_ HS4_); (try clear hHeld)
           go_wp2_with (first | ((with_reducible refine gate_callee (f := 84) rfl ?_); refine gl (some 145) Try.func84 #[.slice A525_0 (rd_L2 t478 x12_5).length c525_0] ?_; (with_reducible refine (slices_Clone_int_int.calls _ _ (rd_L2 t478 x12_5) t526 _ ?side1 ?side2 A108.out).mono ?_); (case side1 => exact co HR525_0.out); (case side2 => exact HC525_0.out); rintro e w112 ⟨v527, rfl, ho0, hb⟩; refine ⟨_, rfl, ?_⟩; replace HO_20 := am (Kd.S_elder' (so HO_20.out) (Kd.R_base ho0) hb); replace HO_482000 := am (Kd.N_elder' (no HO_482000.out) (Kd.R_base ho0) hb); replace HL525_0 := am (Kd.V_elder' (vo HL525_0.out) (Kd.R_base ho0) hb); have HO528 := am (Kd.R_lower (Kd.R_new' (Kd.R_newM (M := fun k_ => (w.heap.size ≤ k_)) ho0 (below_size bw) (fun k_ h_ => h_)) (Kd.R_lt (ro HO_15.out))) (below_size bw)); replace HO_15 := am (Kd.R_elder' (ro HO_15.out) (Kd.R_base ho0) hb); replace BK477 := kb BK477 hb; replace BK481 := kb BK481 hb; replace HR525_0 := am (Kd.C_below (co HR525_0.out) hb); replace HB := am (below_step bw hb); clear hb ho0; obtain ⟨Ao114, co114, eo114⟩ := Kd.R_slice HO528.out; subst eo114) | ((with_reducible refine gate_builtin (b := .append) (xs := #[.tmp 140, .tmp 146]) rfl ?_); at_builtin; refine Kd.S_append (Kd.slice 3 (Kd.int .i64)) (w0 := w) w.heap.size rfl (.tmp 140) (.tmp 146) 49 22 (.slice none 0 0) 24 rfl Try.underlying49 info22 rfl (by decide) (by omega) u20 x20_4 t526 [.slice Ao114 t526.length co114] (fun k_ => (w.heap.size ≤ k_) ∧ some k_ ≠ (.slice (some ⟨go39, 0, none⟩) x15_3.length co30 : Value).ownBlock ∧ some k_ ≠ (.slice (some ad506) t478.length co13 : Value).ownBlock ∧ k_ ≠ gb477 ∧ k_ ≠ gb481) (fun k_ => some k_ = (.slice Ao114 t526.length co114 : Value).ownBlock) rfl rfl ?aP (fun k_ hk_ => ((Kd.R_mono (ok' := (fun k_ => ((fun k_ => (w.heap.size ≤ k_) ∧ some k_ ≠ (.slice (some ⟨go39, 0, none⟩) x15_3.length co30 : Value).ownBlock ∧ some k_ ≠ (.slice (some ad506) t478.length co13 : Value).ownBlock ∧ k_ ≠ gb477 ∧ k_ ≠ gb481)) k_ ∧ some k_ ≠ (u20 : Value).ownBlock)) (Kd.R_types (Kd.R_types (Kd.R_apart' (Kd.R_apart' (HO528.out) (Kd.N_typed HO_482000.out) (by decide)) (Kd.S_typed HO_20.out) (by decide)) BK477.out (by decide)) BK481.out (by decide)) (fun k_ hk => ⟨⟨hk.1.1.1.1.1.1, ⟨hk.1.1.1.1.2, ⟨hk.1.1.1.2, ⟨hk.1.2, hk.2⟩⟩⟩⟩, hk.1.1.2⟩))).1 k_ hk_.symm) ?aF ?aO ?aB ?aS ?aL ?_; (case aP => exact ⟨_, rfl, Kd.R_mono (Kd.R_tight rfl (Kd.R_mono (ok' := (fun k_ => ((fun k_ => (w.heap.size ≤ k_) ∧ some k_ ≠ (.slice (some ⟨go39, 0, none⟩) x15_3.length co30 : Value).ownBlock ∧ some k_ ≠ (.slice (some ad506) t478.length co13 : Value).ownBlock ∧ k_ ≠ gb477 ∧ k_ ≠ gb481)) k_ ∧ some k_ ≠ (u20 : Value).ownBlock)) (Kd.R_types (Kd.R_types (Kd.R_apart' (Kd.R_apart' (HO528.out) (Kd.N_typed HO_482000.out) (by decide)) (Kd.S_typed HO_20.out) (by decide)) BK477.out (by decide)) BK481.out (by decide)) (fun k_ hk => ⟨⟨hk.1.1.1.1.1.1, ⟨hk.1.1.1.1.2, ⟨hk.1.1.1.2, ⟨hk.1.2, hk.2⟩⟩⟩⟩, hk.1.1.2⟩))) (fun _ h_ => h_)⟩); (case aB => exact bw); (case aF => exact (fun k_ hk => ⟨(Nat.le_trans (below_size bw) hk), Kd.fresh' (Kd.R_lt (ro HO_15.out)) k_ hk, Kd.fresh' (Kd.N_lt (no HO_482000.out)) k_ hk, Kd.freshB (g := gb477) (o := .cells #[.slice A0_0 l0_0.length c0_0] 27 (0, 0)) (bo BK477.out) k_ hk, Kd.freshB (g := gb481) (o := .cells #[.slice (some ad506) t478.length co13] 49 (0, 0)) (bo BK481.out) k_ hk⟩)); (case aO => exact (by (with_reducible repeat (first | apply Kd.S_alloc | apply Kd.S_drewN | apply Kd.S_drew)); exact Kd.S_mono HO_20.out (fun _ hk => ⟨⟨hk.1.1, ⟨hk.1.2.1, ⟨hk.1.2.2.1, ⟨hk.1.2.2.2.1, hk.1.2.2.2.2⟩⟩⟩⟩, fun e_ => hk.2 e_⟩))); (case aS => exact (below_size bw)); (case aL => have := LMc109.out; omega); intro v530 w113 ho hb hg hat; rw [← Ny529.out] at ho; replace HO_15 := am (Kd.R_over' (ro HO_15.out) (Kd.S_typed (so HO_20.out)) (by decide) hg); replace HO_482000 := am (Kd.N_afterv (ok := (fun k_ => (w.heap.size ≤ k_) ∧ some k_ ≠ (.slice (some ⟨go39, 0, none⟩) x15_3.length co30 : Value).ownBlock ∧ nb k_ Ao114 t526 co114 ∧ k_ ≠ gb477 ∧ k_ ≠ gb481)) (by (with_reducible repeat (first | apply Kd.N_alloc | apply Kd.N_drewN | apply Kd.N_drew)); exact Kd.N_mono HO_482000.out (fun _ hk => ⟨⟨hk.1.1, ⟨hk.1.2.1, ⟨hk.2, ⟨hk.1.2.2.2.1, hk.1.2.2.2.2⟩⟩⟩⟩, hk.1.2.2.1⟩)) hg hat); replace BK477 := am (blk_grown (g := gb477) (o := .cells #[.slice A0_0 l0_0.length c0_0] 27 (0, 0)) (bo BK477.out) hg (Kd.S_ne HO_20.out BK477.out (by decide))); replace BK481 := am (blk_grown (g := gb481) (o := .cells #[.slice (some ad506) t478.length co13] 49 (0, 0)) (bo BK481.out) hg (Kd.S_ne HO_20.out BK481.out (by decide))); replace HL525_0 := am (Kd.V_afterv (ok := (fun k_ => (w.heap.size ≤ k_) ∧ some k_ ≠ (.slice (some ⟨go39, 0, none⟩) x15_3.length co30 : Value).ownBlock ∧ some k_ ≠ (.slice (some ad506) t478.length co13 : Value).ownBlock ∧ nb k_ Ao114 t526 co114 ∧ k_ ≠ gb477 ∧ k_ ≠ gb481)) (by (with_reducible repeat (first | apply Kd.V_alloc | apply Kd.V_drewN | apply Kd.V_drew)); exact Kd.V_mono HL525_0.out (fun _ hk => ⟨⟨hk.1.1.1, ⟨hk.1.1.2.1, ⟨hk.1.2, ⟨hk.2, ⟨hk.1.1.2.2.2.1, hk.1.1.2.2.2.2⟩⟩⟩⟩⟩, hk.1.1.2.2.1⟩)) hg hat); replace HB := am (hb); have HO531 := am (ho); clear HO_20 HO528 ho hb hg hat))
           go_roundg k5
           case measure => have := HJ7.out; have := HK2.out; have := HK3.out; have := HK4.out; have := HK5.out; omega
           case rel => exact ⟨(x12_5), (y529), rr, H', ⟨by have := HJ7.out; have := HK2.out; have := HK3.out; have := HK4.out; have := HK5.out; omega⟩, ⟨by (try simp only [nb, hl15_2]); (try simp only [nb, hl15_3]); (with_reducible repeat (first | apply Kd.R_alloc | apply Kd.R_drewN | apply Kd.R_drew)); exact Kd.R_mono HO_15.out (fun _ hk => hk.1)⟩, ⟨by (try simp only [nb, hl15_2]); (try simp only [nb, hl15_3]); (with_reducible repeat (first | apply Kd.S_alloc | apply Kd.S_drewN | apply Kd.S_drew)); exact HO531.out⟩, ⟨by (try simp only [nb, hl15_2]); (try simp only [nb, hl15_3]); (with_reducible repeat (first | apply Kd.N_alloc | apply Kd.N_drewN | apply Kd.N_drew)); exact Kd.N_mono HO_482000.out (fun _ hk => ⟨hk.1.1, ⟨hk.1.2.1, ⟨hk.2, ⟨hk.1.2.2.2.1, hk.1.2.2.2.2⟩⟩⟩⟩)⟩, ⟨by (try simp only [nb, hl15_2]); (try simp only [nb, hl15_3]); (with_reducible repeat (first | refine blk_drewN ?_ _ | refine blk_drew ?_ | refine blk_alloc ?_ _)); exact BK477.out⟩, ⟨by (try simp only [nb, hl15_2]); (try simp only [nb, hl15_3]); (with_reducible repeat (first | refine blk_drewN ?_ _ | refine blk_drew ?_ | refine blk_alloc ?_ _)); exact BK481.out⟩, ⟨bw⟩⟩

end Go.Proofs.Ytlfdipnhlmjiaaa.C
