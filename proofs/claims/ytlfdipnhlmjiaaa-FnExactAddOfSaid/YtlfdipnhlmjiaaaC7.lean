/- Contracts of functions of the program: spec_AddOf, slices_Sort_int_int, slices_Compact_int_int. -/
import Derived.Test.YtlfdipnhlmjiaaaC0
import Derived.Test.YtlfdipnhlmjiaaaC3
import Derived.Test.YtlfdipnhlmjiaaaC6
namespace Go.Proofs.Ytlfdipnhlmjiaaa.C
open Go.RowKit Go.Proofs.YtlfdipnhlmjiaaaW.PrintWords Go.Proofs.YtlfdipnhlmjiaaaW.PrintLast Go.Proofs.YtlfdipnhlmjiaaaW.PrintMore
attribute [local go_sem] max2_int min2_int max_two min_two max_three min_three max_four min_four
set_option linter.unusedVariables false
set_option linter.unusedSimpArgs false

/-! ### spec_AddOf: function 55 -/
def spec_AddOf.f (k : Nat) (l0_0 : List Int) (l1_0 : List Int) : Option (List Int × Bool) := (spec_IsSemigroup.f k l0_0).bind fun t243 => (if t243 = true then ((spec_IsSemigroup.f k l1_0).bind fun t244 => (if t244 = true then ((some (([] : List Int) : List Int)).bind fun y245 => (if y245.length + l0_0.length < 17592186044416 then ((some (y245 ++ l0_0 : List Int)).bind fun y248 => (if y248.length + l1_0.length < 17592186044416 then ((spec_FromGens.f k (y248 ++ l1_0)).bind fun bt254 => (some (bt254.1, bt254.2))) else (none))) else (none))) else (some (([] : List Int), false)))) else (some (([] : List Int), false)))
def spec_AddOf.T3 : Bool × List (List Nat × List Nat) := (true, [([], []), ([], []), ([1], [1]), ([0, 2], [0, 2]), ([], []), ([4], [4]), ([3, 5, 3], [3, 5]), ([6, 6], [6]), ([7], [7]), ([8], [8]), ([8], [8]), ([], []), ([11, 9, 7, 0, 1, 2, 3, 4, 5, 6, 7, 8, 9, 11], [9, 11]), ([10, 12, 0, 1, 2, 3, 4, 5, 6, 7, 8, 9, 10, 11, 12], [10])])
def spec_AddOf.B3 : List Nat := [0, 0, 2, 7, 0, 16, 63, 127, 255, 511, 511, 0, 3071, 8191]
theorem spec_AddOf.tab3 : rtab .any (opsOf Try.f55 3) = spec_AddOf.T3 := by kernel_rfl
theorem spec_AddOf.bits3 : waitsOk spec_AddOf.T3.2 spec_AddOf.B3 = true := by kernel_rfl
set_option maxHeartbeats 8000000 in
set_option maxRecDepth 100000 in
theorem spec_AddOf.calls (k : Nat) (A0_0 : Option Addr) (c0_0 : Nat) (l0_0 : List Int) (A1_0 : Option Addr) (c1_0 : Nat) (l1_0 : List Int) (r1 : List Int) (r2 : Bool) (w : World) (hr0_0 : Kd.C (Kd.int .i64) w A0_0 l0_0.length l0_0) (hc0_0 : l0_0.length ≤ c0_0) (hr1_0 : Kd.C (Kd.int .i64) w A1_0 l1_0.length l1_0) (hc1_0 : l1_0.length ≤ c1_0) (h : spec_AddOf.f k l0_0 l1_0 = some (r1, r2)) :
  Calls Try.prog 55 #[.agg #[.slice A0_0 l0_0.length c0_0], .agg #[.slice A1_0 l1_0.length c1_0]] w fun e w' => ∃ v0_ : Value, e = .returned (.tuple #[.agg #[v0_], .bool r2]) ∧ Kd.R (Kd.int .i64) 3 w' w.heap.size (fun _ => True) v0_ r1 ∧ Below w.heap.size w w' := by
 have hu27 := Try.underlying27
 have HR0_0 := Aside0.mk hr0_0
 have HC0_0 := Aside0.mk hc0_0
 clear hr0_0 hc0_0
 have HR1_0 := Aside0.mk hr1_0
 have HC1_0 := Aside0.mk hc1_0
 clear hr1_0 hc1_0
 have HB := Aside0.mk (Below.refl w.heap.size w)
 have H : ((spec_IsSemigroup.f k l0_0).bind fun t243 => (if t243 = true then ((spec_IsSemigroup.f k l1_0).bind fun t244 => (if t244 = true then ((some (([] : List Int) : List Int)).bind fun y245 => (if y245.length + l0_0.length < 17592186044416 then ((some (y245 ++ l0_0 : List Int)).bind fun y248 => (if y248.length + l1_0.length < 17592186044416 then ((spec_FromGens.f k (y248 ++ l1_0)).bind fun bt254 => (some (bt254.1, bt254.2))) else (none))) else (none))) else (some (([] : List Int), false)))) else (some (([] : List Int), false)))) = some (r1, r2) := h
 clear h
 replace H := ga H; obtain ⟨t243, A3, H⟩ := H
 replace H := gb H; obtain ⟨rfl, H⟩ | ⟨rfl, H⟩ := H
 ·replace H := ga H; obtain ⟨t244, A5, H⟩ := H
  replace H := gb H; obtain ⟨rfl, H⟩ | ⟨rfl, H⟩ := H
  ·obtain ⟨y245, hy245⟩ : ∃ y_ : List Int, y_ = (([] : List Int)) := ⟨_, rfl⟩
   replace H : (if y245.length + l0_0.length < 17592186044416 then ((some (y245 ++ l0_0 : List Int)).bind fun y248 => (if y248.length + l1_0.length < 17592186044416 then ((spec_FromGens.f k (y248 ++ l1_0)).bind fun bt254 => (some (bt254.1, bt254.2))) else (none))) else (none)) = some (r1, r2) := by first | (rw [hy245]; with_reducible exact H) | (have H2_ := (Option.bind_some _ _).symm.trans H; rw [hy245]; with_reducible exact H2_) | (have H2_ := (Option.bind_some _ _).symm.trans H; with_reducible exact H2_) | with_reducible exact H | (rw [hy245]; exact H) | exact H
   have Ny245 := Aside0.mk hy245
   clear hy245
   by_cases c7 : y245.length + l0_0.length < 17592186044416
   rotate_left
   ·rw [if_neg c7] at H
    exact absurd H (by simp)
   rw [if_pos c7] at H
   have LMc7 := Aside0.mk c7
   clear c7
   obtain ⟨y248, hy248⟩ : ∃ y_ : List Int, y_ = (y245 ++ l0_0) := ⟨_, rfl⟩
   replace H : (if y248.length + l1_0.length < 17592186044416 then ((spec_FromGens.f k (y248 ++ l1_0)).bind fun bt254 => (some (bt254.1, bt254.2))) else (none)) = some (r1, r2) := by first | (rw [hy248]; with_reducible exact H) | (have H2_ := (Option.bind_some _ _).symm.trans H; rw [hy248]; with_reducible exact H2_) | (have H2_ := (Option.bind_some _ _).symm.trans H; with_reducible exact H2_) | with_reducible exact H | (rw [hy248]; exact H) | exact H
   have Ny248 := Aside0.mk hy248
   clear hy248
   by_cases c8 : y248.length + l1_0.length < 17592186044416
   rotate_left
   ·rw [if_neg c8] at H
    exact absurd H (by simp)
   rw [if_pos c8] at H
   have LMc8 := Aside0.mk c8
   clear c8
   obtain ⟨y251, hy251⟩ : ∃ y_ : List Int, y_ = (y248 ++ l1_0) := ⟨_, rfl⟩
   replace H : ((spec_FromGens.f k y251).bind fun bt254 => (some (bt254.1, bt254.2))) = some (r1, r2) := by first | (rw [hy251]; with_reducible exact H) | (have H2_ := (Option.bind_some _ _).symm.trans H; rw [hy251]; with_reducible exact H2_) | (have H2_ := (Option.bind_some _ _).symm.trans H; with_reducible exact H2_) | with_reducible exact H | (rw [hy251]; exact H) | exact H
   have Ny251 := Aside0.mk hy251
   clear hy251
   replace H := ga H; obtain ⟨⟨t254, t257⟩, A9, H⟩ := H
   replace H : (some (t254, t257)) = some (r1, r2) := H
   simp only [Option.some.injEq, Prod.mk.injEq] at H
   obtain ⟨rfl, rfl⟩ := H
   go_enter Try.func55, Try.ntmps55
   try go_wp2_with (first | ((with_reducible refine gate_dst (N := 2) rfl ?_); refine bx 2 #[.slice A0_0 l0_0.length c0_0] 27 ?_; intro gb240 hg w10 hbox hb; have BK240 := Aside0.mk (hbox); have GW240 := Aside0.mk (gs hg : w.heap.size ≤ gb240); have GE240 := Aside0.mk (gs hg : w.heap.size ≤ gb240); replace HB := Aside0.mk (below_step bw hb); clear hb hbox hg) | ((with_reducible refine gate_dst (N := 3) rfl ?_); refine bx 3 #[.slice A1_0 l1_0.length c1_0] 27 ?_; intro gb241 hg w11 hbox hb; have BK241 := Aside0.mk (hbox); have GW241 := Aside0.mk (gs hg : w.heap.size ≤ gb241); have GE241 := Aside0.mk (gs hg : w.heap.size ≤ gb241); replace HB := Aside0.mk (below_step bw hb); have NB240_241 := Aside0.mk ((by rw [hg]; exact Nat.ne_of_lt (blk_lt (g := gb240) (o := .cells #[.slice A0_0 l0_0.length c0_0] 27 (0, 0)) (bo BK240.out)) : gb240 ≠ gb241)); have NB241_240 := Aside0.mk ((by rw [hg]; exact Nat.ne_of_gt (blk_lt (g := gb240) (o := .cells #[.slice A0_0 l0_0.length c0_0] 27 (0, 0)) (bo BK240.out)) : gb241 ≠ gb240)); replace BK240 := Aside0.mk (blk_below (g := gb240) (o := .cells #[.slice A0_0 l0_0.length c0_0] 27 (0, 0)) (bo BK240.out) hb); clear hb hbox hg) | ((with_reducible refine gate_dst (N := 4) rfl ?_); refine bx 4 #[.slice none 0 0] 27 ?_; intro gb242 hg w12 hbox hb; have BK242 := Aside0.mk (hbox); have GW242 := Aside0.mk (gs hg : w.heap.size ≤ gb242); have GE242 := Aside0.mk (gs hg : w.heap.size ≤ gb242); replace HB := Aside0.mk (below_step bw hb); have NB240_242 := Aside0.mk ((by rw [hg]; exact Nat.ne_of_lt (blk_lt (g := gb240) (o := .cells #[.slice A0_0 l0_0.length c0_0] 27 (0, 0)) (bo BK240.out)) : gb240 ≠ gb242)); have NB242_240 := Aside0.mk ((by rw [hg]; exact Nat.ne_of_gt (blk_lt (g := gb240) (o := .cells #[.slice A0_0 l0_0.length c0_0] 27 (0, 0)) (bo BK240.out)) : gb242 ≠ gb240)); replace BK240 := Aside0.mk (blk_below (g := gb240) (o := .cells #[.slice A0_0 l0_0.length c0_0] 27 (0, 0)) (bo BK240.out) hb); have NB241_242 := Aside0.mk ((by rw [hg]; exact Nat.ne_of_lt (blk_lt (g := gb241) (o := .cells #[.slice A1_0 l1_0.length c1_0] 27 (0, 0)) (bo BK241.out)) : gb241 ≠ gb242)); have NB242_241 := Aside0.mk ((by rw [hg]; exact Nat.ne_of_gt (blk_lt (g := gb241) (o := .cells #[.slice A1_0 l1_0.length c1_0] 27 (0, 0)) (bo BK241.out)) : gb242 ≠ gb241)); replace BK241 := Aside0.mk (blk_below (g := gb241) (o := .cells #[.slice A1_0 l1_0.length c1_0] 27 (0, 0)) (bo BK241.out) hb); clear hb hbox hg; have hnb13 := NB240_241.out; have hnc13 := NB241_240.out; have hnb14 := NB240_242.out; have hnc14 := NB242_240.out; have hcz15_0 := bc BK240 0 (.slice A0_0 l0_0.length c0_0); have hfz15_0 := blk_frozen BK240.out 0) | ((with_reducible refine gate_callee (f := 58) rfl ?_); refine gl (some 9) Try.func58 #[.agg #[.slice A0_0 l0_0.length c0_0]] ?_; (with_reducible refine (spec_IsSemigroup.calls k _ _ l0_0 true _ ?side1 ?side2 A3.out).mono ?_); (case side1 => exact co (Kd.C_below HR0_0.out HB.out)); (case side2 => exact HC0_0.out); rintro e w16 ⟨rfl, hb⟩; refine ⟨_, rfl, ?_⟩; replace BK240 := Aside0.mk (blk_below (g := gb240) (o := .cells #[.slice A0_0 l0_0.length c0_0] 27 (0, 0)) (bo BK240.out) hb); replace BK241 := Aside0.mk (blk_below (g := gb241) (o := .cells #[.slice A1_0 l1_0.length c1_0] 27 (0, 0)) (bo BK241.out) hb); replace BK242 := Aside0.mk (blk_below (g := gb242) (o := .cells #[.slice none 0 0] 27 (0, 0)) (bo BK242.out) hb); replace HB := Aside0.mk (below_step bw hb); clear hb; have hnb17 := NB241_242.out; have hnc17 := NB242_241.out; have hcz18_0 := bc BK241 0 (.slice A1_0 l1_0.length c1_0); have hfz18_0 := blk_frozen BK241.out 0) | (go_at_call 58; (with_reducible refine (spec_IsSemigroup.calls k _ _ l1_0 true _ ?side1 ?side2 A5.out).mono ?_); (case side1 => exact co (Kd.C_below HR1_0.out HB.out)); (case side2 => exact HC1_0.out); rintro e w19 ⟨rfl, hb⟩; replace BK240 := Aside0.mk (blk_below (g := gb240) (o := .cells #[.slice A0_0 l0_0.length c0_0] 27 (0, 0)) (bo BK240.out) hb); replace BK241 := Aside0.mk (blk_below (g := gb241) (o := .cells #[.slice A1_0 l1_0.length c1_0] 27 (0, 0)) (bo BK241.out) hb); replace BK242 := Aside0.mk (blk_below (g := gb242) (o := .cells #[.slice none 0 0] 27 (0, 0)) (bo BK242.out) hb); replace HB := Aside0.mk (below_step bw hb); clear hb))
   replace BK240 := Aside0.mk (blk_drew BK240.out)
   replace BK241 := Aside0.mk (blk_drew BK241.out)
   replace BK242 := Aside0.mk (blk_drew BK242.out)
   replace HB := Aside0.mk (below_drew1 HB.out)
   refine start_ (n := 14) (S := fun w' => w'.cell? ⟨gb240, 0, none⟩ = some (.slice A0_0 l0_0.length c0_0) ∧ w'.cell? ⟨gb241, 0, none⟩ = some (.slice A1_0 l1_0.length c1_0)) (ds := []) #[Z,Z,Z,Z,Z,Z,Z,Z,Z,Z,Z,Z,Z,Z] (by kernel_rfl) rfl rfl ⟨(blk_cell BK240.out 0).trans rfl, (blk_cell BK241.out 0).trans rfl⟩ (fun hHeld => ?_); refine with_tabW spec_AddOf.tab3 spec_AddOf.bits3 (fun HT_ HW_ => ?_)
   generalize w19.drew = w20 at BK240 BK241 BK242 HB hHeld ⊢
   refine pa 1 (some 19) #[Z,Y,Z,Z,Z,Z,Z,Z,Z,Z,Z,Z,Z,Z] HT_ ?_
   refine pa 4 (some 22) #[Z,Y,Z,Z,Y,Z,Z,Z,Z,Z,Z,Z,Z,Z] HT_ ?_
   refine take_ (i := 2) (N := some 20) (v := ?_) (a' := ?_) #[Z,Y,Y,Z,Y,Z,Z,Z,Z,Z,Z,Z,Z,Z] rfl rfl (take_ofW HT_.out HW_.out (by kernel_rfl)) (fun _ _ _ h => h) (Or.inl ⟨by rfl, ?_⟩) hHeld ?_ ?_
   rotate_left
   ·rintro w' ⟨s0, s1⟩
    go_simp
    with_reducible rfl
   rotate_left
   ·simp only [Act.put, qa, qb, qc, i64_w, i32_w]
    rfl
   refine take_ (i := 5) (N := some 23) (v := ?_) (a' := ?_) #[Z,Y,Y,Z,Y,Y,Z,Z,Z,Z,Z,Z,Z,Z] rfl rfl (take_ofW HT_.out HW_.out (by kernel_rfl)) (fun _ _ _ h => h) (Or.inl ⟨by rfl, ?_⟩) hHeld ?_ ?_
   rotate_left
   ·rintro w' ⟨s0, s1⟩
    go_simp
    with_reducible rfl
   rotate_left
   ·simp only [Act.put, qa, qb, qc, i64_w, i32_w]
    rfl
   refine join_ (σ := Value × Value × Value × Value × Nat) 2 #[Y,Y,Y,Y,Y,Y,Y,Y,Y,Y,Y,Y,Z,Z] (fun s_ => [(18, s_.1), (21, s_.2.1), (24, s_.2.2.1), (25, .tuple #[.agg #[s_.2.2.2.1], .bool t257]), (6, .pointer (some ⟨s_.2.2.2.2, 0, none⟩)), (17, .tuple #[.agg #[s_.2.2.2.1], .bool t257]), (26, .agg #[s_.2.2.2.1]), (27, .bool t257)]) (fun s_ w' => (w'.cell? ⟨gb240, 0, none⟩ = some (.slice A0_0 l0_0.length c0_0) ∧ w'.cell? ⟨gb241, 0, none⟩ = some (.slice A1_0 l1_0.length c1_0)) ∧ (Kd.R (Kd.int .i64) 3 w' w.heap.size (fun k_ => some k_ ≠ (s_.2.2.2.1 : Value).ownBlock) s_.2.2.1 y251) ∧ (Kd.R (Kd.int .i64) 3 w' w.heap.size (fun k_ => some k_ ≠ (s_.2.2.1 : Value).ownBlock) s_.2.2.2.1 t254) ∧ (w'.heap[gb240]? = some (.cells #[.slice A0_0 l0_0.length c0_0] 27 (0, 0))) ∧ (w'.heap[gb241]? = some (.cells #[.slice A1_0 l1_0.length c1_0] 27 (0, 0))) ∧ (w'.heap[gb242]? = some (.cells #[.slice none 0 0] 27 (0, 0))) ∧ (w'.heap[s_.2.2.2.2]? = some (.cells #[.slice none 0 0] 27 (0, 0))) ∧ (w.heap.size ≤ s_.2.2.2.2) ∧ (w.heap.size ≤ s_.2.2.2.2) ∧ (gb240 ≠ s_.2.2.2.2) ∧ (s_.2.2.2.2 ≠ gb240) ∧ (gb241 ≠ s_.2.2.2.2) ∧ (s_.2.2.2.2 ≠ gb241) ∧ (gb242 ≠ s_.2.2.2.2) ∧ (s_.2.2.2.2 ≠ gb242) ∧ (Below w.heap.size w w')) ?_ ?_
   rotate_left
   ·intro hJ0_3_6_7_11
    refine join_ (σ := Value × Value × Value × Value) 3 #[Y,Y,Y,Y,Y,Y,Y,Y,Y,Y,Y,Z,Z,Z] (fun s_ => [(18, s_.1), (21, s_.2.1), (24, s_.2.2.1), (25, .tuple #[.agg #[s_.2.2.2], .bool t257]), (17, .tuple #[.agg #[s_.2.2.2], .bool t257]), (26, .agg #[s_.2.2.2]), (27, .bool t257)]) (fun s_ w' => (w'.cell? ⟨gb240, 0, none⟩ = some (.slice A0_0 l0_0.length c0_0) ∧ w'.cell? ⟨gb241, 0, none⟩ = some (.slice A1_0 l1_0.length c1_0)) ∧ (Kd.R (Kd.int .i64) 3 w' w.heap.size (fun k_ => some k_ ≠ (s_.2.2.2 : Value).ownBlock) s_.2.2.1 y251) ∧ (Kd.R (Kd.int .i64) 3 w' w.heap.size (fun k_ => some k_ ≠ (s_.2.2.1 : Value).ownBlock) s_.2.2.2 t254) ∧ (w'.heap[gb240]? = some (.cells #[.slice A0_0 l0_0.length c0_0] 27 (0, 0))) ∧ (w'.heap[gb241]? = some (.cells #[.slice A1_0 l1_0.length c1_0] 27 (0, 0))) ∧ (w'.heap[gb242]? = some (.cells #[.slice none 0 0] 27 (0, 0))) ∧ (Below w.heap.size w w')) ?_ ?_
    rotate_left
    ·intro hJ0_3_6_7
     refine join_ (σ := Value × Value × Value × Nat) 6 #[Y,Y,Y,Y,Y,Y,Y,Z,Z,Z,Z,Y,Z,Z] (fun s_ => [(18, s_.1), (21, s_.2.1), (24, s_.2.2.1), (6, .pointer (some ⟨s_.2.2.2, 0, none⟩))]) (fun s_ w' => (w'.cell? ⟨gb240, 0, none⟩ = some (.slice A0_0 l0_0.length c0_0) ∧ w'.cell? ⟨gb241, 0, none⟩ = some (.slice A1_0 l1_0.length c1_0)) ∧ (Kd.R (Kd.int .i64) 3 w' w.heap.size (fun _ => True) s_.2.2.1 y251) ∧ (w'.heap[gb240]? = some (.cells #[.slice A0_0 l0_0.length c0_0] 27 (0, 0))) ∧ (w'.heap[gb241]? = some (.cells #[.slice A1_0 l1_0.length c1_0] 27 (0, 0))) ∧ (w'.heap[gb242]? = some (.cells #[.slice none 0 0] 27 (0, 0))) ∧ (w'.heap[s_.2.2.2]? = some (.cells #[.slice none 0 0] 27 (0, 0))) ∧ (w.heap.size ≤ s_.2.2.2) ∧ (w.heap.size ≤ s_.2.2.2) ∧ (gb240 ≠ s_.2.2.2) ∧ (s_.2.2.2 ≠ gb240) ∧ (gb241 ≠ s_.2.2.2) ∧ (s_.2.2.2 ≠ gb241) ∧ (gb242 ≠ s_.2.2.2) ∧ (s_.2.2.2 ≠ gb242) ∧ (Below w.heap.size w w')) ?_ ?_
     rotate_left
     ·intro hJ0_3_6_11
      refine join_ (σ := Value × Value × Value) 7 #[Y,Y,Y,Y,Y,Y,Y,Z,Z,Z,Z,Z,Z,Z] (fun s_ => [(18, s_.1), (21, s_.2.1), (24, s_.2.2)]) (fun s_ w' => (w'.cell? ⟨gb240, 0, none⟩ = some (.slice A0_0 l0_0.length c0_0) ∧ w'.cell? ⟨gb241, 0, none⟩ = some (.slice A1_0 l1_0.length c1_0)) ∧ (Kd.R (Kd.int .i64) 3 w' w.heap.size (fun _ => True) s_.2.2 y251) ∧ (w'.heap[gb240]? = some (.cells #[.slice A0_0 l0_0.length c0_0] 27 (0, 0))) ∧ (w'.heap[gb241]? = some (.cells #[.slice A1_0 l1_0.length c1_0] 27 (0, 0))) ∧ (w'.heap[gb242]? = some (.cells #[.slice none 0 0] 27 (0, 0))) ∧ (Below w.heap.size w w')) ?_ ?_
      rotate_left
      ·intro hJ0_3_6
       refine join_ (σ := Value × Value × Nat) 7 #[Y,Y,Y,Y,Y,Y,Z,Z,Z,Z,Z,Y,Z,Z] (fun s_ => [(18, s_.1), (21, s_.2.1), (6, .pointer (some ⟨s_.2.2, 0, none⟩))]) (fun s_ w' => (w'.cell? ⟨gb240, 0, none⟩ = some (.slice A0_0 l0_0.length c0_0) ∧ w'.cell? ⟨gb241, 0, none⟩ = some (.slice A1_0 l1_0.length c1_0)) ∧ (Kd.R (Kd.int .i64) 3 w' w.heap.size (fun _ => True) s_.2.1 y248) ∧ (w'.heap[gb240]? = some (.cells #[.slice A0_0 l0_0.length c0_0] 27 (0, 0))) ∧ (w'.heap[gb241]? = some (.cells #[.slice A1_0 l1_0.length c1_0] 27 (0, 0))) ∧ (w'.heap[gb242]? = some (.cells #[.slice none 0 0] 27 (0, 0))) ∧ (w'.heap[s_.2.2]? = some (.cells #[.slice none 0 0] 27 (0, 0))) ∧ (w.heap.size ≤ s_.2.2) ∧ (w.heap.size ≤ s_.2.2) ∧ (gb240 ≠ s_.2.2) ∧ (s_.2.2 ≠ gb240) ∧ (gb241 ≠ s_.2.2) ∧ (s_.2.2 ≠ gb241) ∧ (gb242 ≠ s_.2.2) ∧ (s_.2.2 ≠ gb242) ∧ (Below w.heap.size w w')) ?_ ?_
       rotate_left
       ·intro hJ0_3_11
        refine join_ (σ := Value × Value) 8 #[Y,Y,Y,Y,Y,Y,Z,Z,Z,Z,Z,Z,Z,Z] (fun s_ => [(18, s_.1), (21, s_.2)]) (fun s_ w' => (w'.cell? ⟨gb240, 0, none⟩ = some (.slice A0_0 l0_0.length c0_0) ∧ w'.cell? ⟨gb241, 0, none⟩ = some (.slice A1_0 l1_0.length c1_0)) ∧ (Kd.R (Kd.int .i64) 3 w' w.heap.size (fun _ => True) s_.2 y248) ∧ (w'.heap[gb240]? = some (.cells #[.slice A0_0 l0_0.length c0_0] 27 (0, 0))) ∧ (w'.heap[gb241]? = some (.cells #[.slice A1_0 l1_0.length c1_0] 27 (0, 0))) ∧ (w'.heap[gb242]? = some (.cells #[.slice none 0 0] 27 (0, 0))) ∧ (Below w.heap.size w w')) ?_ ?_
        rotate_left
        ·intro hJ0_3
         refine join_ (σ := Value × Nat) 8 #[Y,Y,Y,Z,Y,Y,Z,Z,Z,Z,Z,Y,Z,Z] (fun s_ => [(18, s_.1), (6, .pointer (some ⟨s_.2, 0, none⟩))]) (fun s_ w' => (w'.cell? ⟨gb240, 0, none⟩ = some (.slice A0_0 l0_0.length c0_0) ∧ w'.cell? ⟨gb241, 0, none⟩ = some (.slice A1_0 l1_0.length c1_0)) ∧ (Kd.R (Kd.int .i64) 3 w' w.heap.size (fun _ => True) s_.1 y245) ∧ (w'.heap[gb240]? = some (.cells #[.slice A0_0 l0_0.length c0_0] 27 (0, 0))) ∧ (w'.heap[gb241]? = some (.cells #[.slice A1_0 l1_0.length c1_0] 27 (0, 0))) ∧ (w'.heap[gb242]? = some (.cells #[.slice none 0 0] 27 (0, 0))) ∧ (w'.heap[s_.2]? = some (.cells #[.slice none 0 0] 27 (0, 0))) ∧ (w.heap.size ≤ s_.2) ∧ (w.heap.size ≤ s_.2) ∧ (gb240 ≠ s_.2) ∧ (s_.2 ≠ gb240) ∧ (gb241 ≠ s_.2) ∧ (s_.2 ≠ gb241) ∧ (gb242 ≠ s_.2) ∧ (s_.2 ≠ gb242) ∧ (Below w.heap.size w w')) ?_ ?_
         rotate_left
         ·intro hJ0_11
          refine join_ (σ := Value) 9 #[Y,Y,Y,Z,Y,Y,Z,Z,Z,Z,Z,Z,Z,Z] (fun s_ => [(18, s_)]) (fun s_ w' => (w'.cell? ⟨gb240, 0, none⟩ = some (.slice A0_0 l0_0.length c0_0) ∧ w'.cell? ⟨gb241, 0, none⟩ = some (.slice A1_0 l1_0.length c1_0)) ∧ (Kd.R (Kd.int .i64) 3 w' w.heap.size (fun _ => True) s_ y245) ∧ (w'.heap[gb240]? = some (.cells #[.slice A0_0 l0_0.length c0_0] 27 (0, 0))) ∧ (w'.heap[gb241]? = some (.cells #[.slice A1_0 l1_0.length c1_0] 27 (0, 0))) ∧ (w'.heap[gb242]? = some (.cells #[.slice none 0 0] 27 (0, 0))) ∧ (Below w.heap.size w w')) ?_ ?_
          rotate_left
          ·intro hJ0
           refine join_ (σ := Nat) 9 #[Z,Y,Y,Z,Y,Y,Z,Z,Z,Z,Z,Y,Z,Z] (fun s_ => [(6, .pointer (some ⟨s_, 0, none⟩))]) (fun s_ w' => (w'.cell? ⟨gb240, 0, none⟩ = some (.slice A0_0 l0_0.length c0_0) ∧ w'.cell? ⟨gb241, 0, none⟩ = some (.slice A1_0 l1_0.length c1_0)) ∧ (w'.heap[gb240]? = some (.cells #[.slice A0_0 l0_0.length c0_0] 27 (0, 0))) ∧ (w'.heap[gb241]? = some (.cells #[.slice A1_0 l1_0.length c1_0] 27 (0, 0))) ∧ (w'.heap[gb242]? = some (.cells #[.slice none 0 0] 27 (0, 0))) ∧ (w'.heap[s_]? = some (.cells #[.slice none 0 0] 27 (0, 0))) ∧ (w.heap.size ≤ s_) ∧ (w.heap.size ≤ s_) ∧ (gb240 ≠ s_) ∧ (s_ ≠ gb240) ∧ (gb241 ≠ s_) ∧ (s_ ≠ gb241) ∧ (gb242 ≠ s_) ∧ (s_ ≠ gb242) ∧ (Below w.heap.size w w')) ?_ ?_
           rotate_left
           ·intro hJ11
            refine two_ (i := 0) (j := 11) (Ni := some 18) (Nj := some 6) #[Y,Y,Y,Z,Y,Y,Z,Z,Z,Z,Z,Z,Z,Z] #[Z,Y,Y,Z,Y,Y,Z,Z,Z,Z,Z,Y,Z,Z] rfl rfl rfl rfl (two_of HT_.out (by kernel_rfl)) (by decide) (by decide) (fun K hK => ?_) (fun K hK => ?_)
            ·skip
             refine Kd.R_lit_step (Kd.int .i64) _ 3 ?hg (N := 18) ?hd (xs := ([] : List Int)) (inner := []) (ok := fun _ => True) (okp := fun _ => True) ?hr ?hp (fun _ hk => hk) trivial (Below.refl _ _) (Nat.le_refl _) (by simp) ?_; (case hd => rfl); (case hg => rfl); (case hr => first | (go_simp; done) | (go_simp; rfl)); (case hp => exact (Reps.none _ _))
             intro v246 w21 ho22 hb hg_ hnew_
             clear hg_ hnew_
             (first | rw [← Ny245.out] at ho22 | (simp only [Int.reduceToNat] at ho22; rw [← Ny245.out] at ho22))
             have HO247 := Aside0.mk (Kd.R_lower ho22 (below_size bw))
             replace BK240 := Aside0.mk (blk_below (g := gb240) (o := .cells #[.slice A0_0 l0_0.length c0_0] 27 (0, 0)) (bo BK240.out) hb)
             replace BK241 := Aside0.mk (blk_below (g := gb241) (o := .cells #[.slice A1_0 l1_0.length c1_0] 27 (0, 0)) (bo BK241.out) hb)
             replace BK242 := Aside0.mk (blk_below (g := gb242) (o := .cells #[.slice none 0 0] 27 (0, 0)) (bo BK242.out) hb)
             replace HB := Aside0.mk (below_step bw hb)
             clear hb ho22
             refine hK.out _ _ ⟨(blk_cell BK240.out 0).trans rfl, (blk_cell BK241.out 0).trans rfl⟩ (fun hHeld => ?_)
             clear hK K
             refine norm_ (a' := ?_) ?_ ?_
             rotate_left
             ·show Act.put _ (some 18) _ = _
              simp only [Act.put, qa, qb, qc, i64_w, i32_w]
              rfl
             exact norm_ (by first | (simp only [putAll, Act.put, List.setIfInBounds_toArray, List.set_cons_zero, List.set_cons_succ]; done) | (simp only [putAll, Act.put, List.setIfInBounds_toArray, List.set_cons_zero, List.set_cons_succ]; rfl)) (hJ0 (v246) _ ⟨hHeld, (ro HO247.out), (bo BK240.out), (bo BK241.out), (bo BK242.out), bw⟩)
            ·skip
             refine box_step ?hg (N := 6) ?hd (cs := #[.slice none 0 0]) (t := 27) ?hr ?_; (case hd => rfl); (case hg => rfl); (case hr => first | (go_simp; done) | (go_simp; rfl))
             intro gb258 hg w21 hbox hb
             have BK258 := Aside0.mk (hbox)
             have GW258 := Aside0.mk (gs hg : w.heap.size ≤ gb258)
             have GE258 := Aside0.mk (gs hg : w.heap.size ≤ gb258)
             replace HB := Aside0.mk (below_step bw hb)
             have NB240_258 := Aside0.mk ((by rw [hg]; exact Nat.ne_of_lt (blk_lt (g := gb240) (o := .cells #[.slice A0_0 l0_0.length c0_0] 27 (0, 0)) (bo BK240.out)) : gb240 ≠ gb258))
             have NB258_240 := Aside0.mk ((by rw [hg]; exact Nat.ne_of_gt (blk_lt (g := gb240) (o := .cells #[.slice A0_0 l0_0.length c0_0] 27 (0, 0)) (bo BK240.out)) : gb258 ≠ gb240))
             replace BK240 := Aside0.mk (blk_below (g := gb240) (o := .cells #[.slice A0_0 l0_0.length c0_0] 27 (0, 0)) (bo BK240.out) hb)
             have NB241_258 := Aside0.mk ((by rw [hg]; exact Nat.ne_of_lt (blk_lt (g := gb241) (o := .cells #[.slice A1_0 l1_0.length c1_0] 27 (0, 0)) (bo BK241.out)) : gb241 ≠ gb258))
             have NB258_241 := Aside0.mk ((by rw [hg]; exact Nat.ne_of_gt (blk_lt (g := gb241) (o := .cells #[.slice A1_0 l1_0.length c1_0] 27 (0, 0)) (bo BK241.out)) : gb258 ≠ gb241))
             replace BK241 := Aside0.mk (blk_below (g := gb241) (o := .cells #[.slice A1_0 l1_0.length c1_0] 27 (0, 0)) (bo BK241.out) hb)
             have NB242_258 := Aside0.mk ((by rw [hg]; exact Nat.ne_of_lt (blk_lt (g := gb242) (o := .cells #[.slice none 0 0] 27 (0, 0)) (bo BK242.out)) : gb242 ≠ gb258))
             have NB258_242 := Aside0.mk ((by rw [hg]; exact Nat.ne_of_gt (blk_lt (g := gb242) (o := .cells #[.slice none 0 0] 27 (0, 0)) (bo BK242.out)) : gb258 ≠ gb242))
             replace BK242 := Aside0.mk (blk_below (g := gb242) (o := .cells #[.slice none 0 0] 27 (0, 0)) (bo BK242.out) hb)
             clear hb hbox hg
             refine hK.out _ _ ⟨(blk_cell BK240.out 0).trans rfl, (blk_cell BK241.out 0).trans rfl⟩ (fun hHeld => ?_)
             clear hK K
             refine norm_ (a' := ?_) ?_ ?_
             rotate_left
             ·show Act.put _ (some 6) _ = _
              simp only [Act.put, qa, qb, qc, i64_w, i32_w]
              rfl
             exact norm_ (by first | (simp only [putAll, Act.put, List.setIfInBounds_toArray, List.set_cons_zero, List.set_cons_succ]; done) | (simp only [putAll, Act.put, List.setIfInBounds_toArray, List.set_cons_zero, List.set_cons_succ]; rfl)) (hJ11 (gb258) _ ⟨hHeld, (bo BK240.out), (bo BK241.out), (bo BK242.out), (bo BK258.out), GW258.out, GE258.out, NB240_258.out, NB258_240.out, NB241_258.out, NB258_241.out, NB242_258.out, NB258_242.out, bw⟩)
           ·skip
            rintro gb258 w22 ⟨hS_, h0_, h1_, h2_, h3_, h4_, h5_, h6_, h7_, h8_, h9_, h10_, h11_, h12_⟩
            have n0_ : Aside0 (w22.heap[gb240]? = some (.cells #[.slice A0_0 l0_0.length c0_0] 27 (0, 0))) := ⟨h0_⟩
            have n1_ : Aside0 (w22.heap[gb241]? = some (.cells #[.slice A1_0 l1_0.length c1_0] 27 (0, 0))) := ⟨h1_⟩
            have n2_ : Aside0 (w22.heap[gb242]? = some (.cells #[.slice none 0 0] 27 (0, 0))) := ⟨h2_⟩
            have n3_ : Aside0 (w22.heap[gb258]? = some (.cells #[.slice none 0 0] 27 (0, 0))) := ⟨h3_⟩
            have n4_ : Aside0 (w.heap.size ≤ gb258) := ⟨h4_⟩
            have n5_ : Aside0 (w.heap.size ≤ gb258) := ⟨h5_⟩
            have n6_ : Aside0 (gb240 ≠ gb258) := ⟨h6_⟩
            have n7_ : Aside0 (gb258 ≠ gb240) := ⟨h7_⟩
            have n8_ : Aside0 (gb241 ≠ gb258) := ⟨h8_⟩
            have n9_ : Aside0 (gb258 ≠ gb241) := ⟨h9_⟩
            have n10_ : Aside0 (gb242 ≠ gb258) := ⟨h10_⟩
            have n11_ : Aside0 (gb258 ≠ gb242) := ⟨h11_⟩
            have n12_ : Aside0 (Below w.heap.size w w22) := ⟨h12_⟩
            clear BK240
            clear BK241
            clear BK242
            clear HB
            clear h0_ h1_ h2_ h3_ h4_ h5_ h6_ h7_ h8_ h9_ h10_ h11_ h12_
            have BK240 := n0_
            have BK241 := n1_
            have BK242 := n2_
            have BK258 := n3_
            have GW258 := n4_
            have GE258 := n5_
            have NB240_258 := n6_
            have NB258_240 := n7_
            have NB241_258 := n8_
            have NB258_241 := n9_
            have NB242_258 := n10_
            have NB258_242 := n11_
            have HB := n12_
            clear n0_ n1_ n2_ n3_ n4_ n5_ n6_ n7_ n8_ n9_ n10_ n11_ n12_
            have hHeld : w22.cell? ⟨gb240, 0, none⟩ = some (.slice A0_0 l0_0.length c0_0) ∧ w22.cell? ⟨gb241, 0, none⟩ = some (.slice A1_0 l1_0.length c1_0) := hS_
            refine norm_ (a' := ?_) ?_ ?_
            rotate_left
            ·simp only [putAll, Act.put, List.setIfInBounds_toArray, List.set_cons_zero, List.set_cons_succ]
             rfl
            refine oa 0 (some 18) #[Y,Y,Y,Z,Y,Y,Z,Z,Z,Z,Z,Y,Z,Z] HT_ (fun K hK => ?_)
            refine Kd.R_lit_step (Kd.int .i64) _ 3 ?hg (N := 18) ?hd (xs := ([] : List Int)) (inner := []) (ok := fun _ => True) (okp := fun _ => True) ?hr ?hp (fun _ hk => hk) trivial (Below.refl _ _) (Nat.le_refl _) (by simp) ?_; (case hd => rfl); (case hg => rfl); (case hr => first | (go_simp; done) | (go_simp; rfl)); (case hp => exact (Reps.none _ _))
            intro v246 w23 ho24 hb hg_ hnew_
            clear hg_ hnew_
            (first | rw [← Ny245.out] at ho24 | (simp only [Int.reduceToNat] at ho24; rw [← Ny245.out] at ho24))
            have HO247 := Aside0.mk (Kd.R_lower ho24 (below_size bw))
            replace BK240 := Aside0.mk (blk_below (g := gb240) (o := .cells #[.slice A0_0 l0_0.length c0_0] 27 (0, 0)) (bo BK240.out) hb)
            replace BK241 := Aside0.mk (blk_below (g := gb241) (o := .cells #[.slice A1_0 l1_0.length c1_0] 27 (0, 0)) (bo BK241.out) hb)
            replace BK242 := Aside0.mk (blk_below (g := gb242) (o := .cells #[.slice none 0 0] 27 (0, 0)) (bo BK242.out) hb)
            replace BK258 := Aside0.mk (blk_below (g := gb258) (o := .cells #[.slice none 0 0] 27 (0, 0)) (bo BK258.out) hb)
            replace HB := Aside0.mk (below_step bw hb)
            clear hb ho24
            refine hK.out _ _ ⟨(blk_cell BK240.out 0).trans rfl, (blk_cell BK241.out 0).trans rfl⟩ (fun hHeld => ?_)
            clear hK K
            refine norm_ (a' := ?_) ?_ ?_
            rotate_left
            ·show Act.put _ (some 18) _ = _
             simp only [Act.put, qa, qb, qc, i64_w, i32_w]
             rfl
            exact norm_ (by first | (simp only [putAll, Act.put, List.setIfInBounds_toArray, List.set_cons_zero, List.set_cons_succ]; done) | (simp only [putAll, Act.put, List.setIfInBounds_toArray, List.set_cons_zero, List.set_cons_succ]; rfl)) (hJ0_11 (v246, gb258) _ ⟨hHeld, (ro HO247.out), (bo BK240.out), (bo BK241.out), (bo BK242.out), (bo BK258.out), GW258.out, GE258.out, NB240_258.out, NB258_240.out, NB241_258.out, NB258_241.out, NB242_258.out, NB258_242.out, bw⟩)
          ·skip
           rintro v246 w23 ⟨hS_, h0_, h1_, h2_, h3_, h4_⟩
           have n0_ : Aside0 (Kd.R (Kd.int .i64) 3 w23 w.heap.size (fun _ => True) v246 y245) := ⟨h0_⟩
           have n1_ : Aside0 (w23.heap[gb240]? = some (.cells #[.slice A0_0 l0_0.length c0_0] 27 (0, 0))) := ⟨h1_⟩
           have n2_ : Aside0 (w23.heap[gb241]? = some (.cells #[.slice A1_0 l1_0.length c1_0] 27 (0, 0))) := ⟨h2_⟩
           have n3_ : Aside0 (w23.heap[gb242]? = some (.cells #[.slice none 0 0] 27 (0, 0))) := ⟨h3_⟩
           have n4_ : Aside0 (Below w.heap.size w w23) := ⟨h4_⟩
           clear BK240
           clear BK241
           clear BK242
           clear HB
           clear h0_ h1_ h2_ h3_ h4_
           have HO247 := n0_
           have BK240 := n1_
           have BK241 := n2_
           have BK242 := n3_
           have HB := n4_
           clear n0_ n1_ n2_ n3_ n4_
           have hHeld : w23.cell? ⟨gb240, 0, none⟩ = some (.slice A0_0 l0_0.length c0_0) ∧ w23.cell? ⟨gb241, 0, none⟩ = some (.slice A1_0 l1_0.length c1_0) := hS_
           refine norm_ (a' := ?_) ?_ ?_
           rotate_left
           ·simp only [putAll, Act.put, List.setIfInBounds_toArray, List.set_cons_zero, List.set_cons_succ]
            rfl
           refine two_ (i := 3) (j := 11) (Ni := some 21) (Nj := some 6) #[Y,Y,Y,Y,Y,Y,Z,Z,Z,Z,Z,Z,Z,Z] #[Y,Y,Y,Z,Y,Y,Z,Z,Z,Z,Z,Y,Z,Z] rfl rfl rfl rfl (two_of HT_.out (by kernel_rfl)) (by decide) (by decide) (fun K hK => ?_) (fun K hK => ?_)
           ·skip
            refine Kd.R_append_rows_step (Kd.int .i64) (w0 := w) w.heap.size (by rfl) (.tmp 18) (.tmp 20) 22 3 (.int .i64 0) 8 rfl Try.underlying22 info3 rfl (by decide) (by omega) v246 y245 l0_0 _ _ _ (fun _ => True) (fun _ => False) rfl rfl ?aO ?aR (fun _ _ h => h) (fun _ h => h.elim) ?aF ?aB ?aS ?aL ?_
            (case aR => exact co (Kd.C_below HR0_0.out HB.out))
            (case aB => exact bw)
            (case aF => exact (fun _ _ => trivial))
            (case aO => exact (ro HO247.out))
            (case aS => exact (below_size bw))
            (case aL => have := LMc7.out; omega)
            intro v249 w24 ho hb hg hat
            rw [← Ny248.out] at ho
            replace BK240 := Aside0.mk (blk_grown (g := gb240) (o := .cells #[.slice A0_0 l0_0.length c0_0] 27 (0, 0)) (bo BK240.out) hg (Kd.R_ne HO247.out BK240.out (by decide)))
            replace BK241 := Aside0.mk (blk_grown (g := gb241) (o := .cells #[.slice A1_0 l1_0.length c1_0] 27 (0, 0)) (bo BK241.out) hg (Kd.R_ne HO247.out BK241.out (by decide)))
            replace BK242 := Aside0.mk (blk_grown (g := gb242) (o := .cells #[.slice none 0 0] 27 (0, 0)) (bo BK242.out) hg (Kd.R_ne HO247.out BK242.out (by decide)))
            replace HB := Aside0.mk (hb)
            have HO250 := Aside0.mk (ho)
            clear HO247 ho hb hg hat
            refine hK.out _ _ ⟨(blk_cell BK240.out 0).trans rfl, (blk_cell BK241.out 0).trans rfl⟩ (fun hHeld => ?_)
            clear hK K
            refine norm_ (a' := ?_) ?_ ?_
            rotate_left
            ·show Act.put _ (some 21) _ = _
             simp only [Act.put, qa, qb, qc, i64_w, i32_w]
             rfl
            exact norm_ (by first | (simp only [putAll, Act.put, List.setIfInBounds_toArray, List.set_cons_zero, List.set_cons_succ]; done) | (simp only [putAll, Act.put, List.setIfInBounds_toArray, List.set_cons_zero, List.set_cons_succ]; rfl)) (hJ0_3 (v246, v249) _ ⟨hHeld, (ro HO250.out), (bo BK240.out), (bo BK241.out), (bo BK242.out), bw⟩)
           ·skip
            refine box_step ?hg (N := 6) ?hd (cs := #[.slice none 0 0]) (t := 27) ?hr ?_; (case hd => rfl); (case hg => rfl); (case hr => first | (go_simp; done) | (go_simp; rfl))
            intro gb258 hg w24 hbox hb
            replace HO247 := Aside0.mk (Kd.R_below (ro HO247.out) hb)
            have BK258 := Aside0.mk (hbox)
            have GW258 := Aside0.mk (gs hg : w.heap.size ≤ gb258)
            have GE258 := Aside0.mk (gs hg : w.heap.size ≤ gb258)
            replace HB := Aside0.mk (below_step bw hb)
            have NB240_258 := Aside0.mk ((by rw [hg]; exact Nat.ne_of_lt (blk_lt (g := gb240) (o := .cells #[.slice A0_0 l0_0.length c0_0] 27 (0, 0)) (bo BK240.out)) : gb240 ≠ gb258))
            have NB258_240 := Aside0.mk ((by rw [hg]; exact Nat.ne_of_gt (blk_lt (g := gb240) (o := .cells #[.slice A0_0 l0_0.length c0_0] 27 (0, 0)) (bo BK240.out)) : gb258 ≠ gb240))
            replace BK240 := Aside0.mk (blk_below (g := gb240) (o := .cells #[.slice A0_0 l0_0.length c0_0] 27 (0, 0)) (bo BK240.out) hb)
            have NB241_258 := Aside0.mk ((by rw [hg]; exact Nat.ne_of_lt (blk_lt (g := gb241) (o := .cells #[.slice A1_0 l1_0.length c1_0] 27 (0, 0)) (bo BK241.out)) : gb241 ≠ gb258))
            have NB258_241 := Aside0.mk ((by rw [hg]; exact Nat.ne_of_gt (blk_lt (g := gb241) (o := .cells #[.slice A1_0 l1_0.length c1_0] 27 (0, 0)) (bo BK241.out)) : gb258 ≠ gb241))
            replace BK241 := Aside0.mk (blk_below (g := gb241) (o := .cells #[.slice A1_0 l1_0.length c1_0] 27 (0, 0)) (bo BK241.out) hb)
            have NB242_258 := Aside0.mk ((by rw [hg]; exact Nat.ne_of_lt (blk_lt (g := gb242) (o := .cells #[.slice none 0 0] 27 (0, 0)) (bo BK242.out)) : gb242 ≠ gb258))
            have NB258_242 := Aside0.mk ((by rw [hg]; exact Nat.ne_of_gt (blk_lt (g := gb242) (o := .cells #[.slice none 0 0] 27 (0, 0)) (bo BK242.out)) : gb258 ≠ gb242))
            replace BK242 := Aside0.mk (blk_below (g := gb242) (o := .cells #[.slice none 0 0] 27 (0, 0)) (bo BK242.out) hb)
            clear hb hbox hg
            refine hK.out _ _ ⟨(blk_cell BK240.out 0).trans rfl, (blk_cell BK241.out 0).trans rfl⟩ (fun hHeld => ?_)
            clear hK K
            refine norm_ (a' := ?_) ?_ ?_
            rotate_left
            ·show Act.put _ (some 6) _ = _
             simp only [Act.put, qa, qb, qc, i64_w, i32_w]
             rfl
            exact norm_ (by first | (simp only [putAll, Act.put, List.setIfInBounds_toArray, List.set_cons_zero, List.set_cons_succ]; done) | (simp only [putAll, Act.put, List.setIfInBounds_toArray, List.set_cons_zero, List.set_cons_succ]; rfl)) (hJ0_11 (v246, gb258) _ ⟨hHeld, (ro HO247.out), (bo BK240.out), (bo BK241.out), (bo BK242.out), (bo BK258.out), GW258.out, GE258.out, NB240_258.out, NB258_240.out, NB241_258.out, NB258_241.out, NB242_258.out, NB258_242.out, bw⟩)
         ·skip
          rintro ⟨v246, gb258⟩ w24 ⟨hS_, h0_, h1_, h2_, h3_, h4_, h5_, h6_, h7_, h8_, h9_, h10_, h11_, h12_, h13_⟩
          have n0_ : Aside0 (Kd.R (Kd.int .i64) 3 w24 w.heap.size (fun _ => True) v246 y245) := ⟨h0_⟩
          have n1_ : Aside0 (w24.heap[gb240]? = some (.cells #[.slice A0_0 l0_0.length c0_0] 27 (0, 0))) := ⟨h1_⟩
          have n2_ : Aside0 (w24.heap[gb241]? = some (.cells #[.slice A1_0 l1_0.length c1_0] 27 (0, 0))) := ⟨h2_⟩
          have n3_ : Aside0 (w24.heap[gb242]? = some (.cells #[.slice none 0 0] 27 (0, 0))) := ⟨h3_⟩
          have n4_ : Aside0 (w24.heap[gb258]? = some (.cells #[.slice none 0 0] 27 (0, 0))) := ⟨h4_⟩
          have n5_ : Aside0 (w.heap.size ≤ gb258) := ⟨h5_⟩
          have n6_ : Aside0 (w.heap.size ≤ gb258) := ⟨h6_⟩
          have n7_ : Aside0 (gb240 ≠ gb258) := ⟨h7_⟩
          have n8_ : Aside0 (gb258 ≠ gb240) := ⟨h8_⟩
          have n9_ : Aside0 (gb241 ≠ gb258) := ⟨h9_⟩
          have n10_ : Aside0 (gb258 ≠ gb241) := ⟨h10_⟩
          have n11_ : Aside0 (gb242 ≠ gb258) := ⟨h11_⟩
          have n12_ : Aside0 (gb258 ≠ gb242) := ⟨h12_⟩
          have n13_ : Aside0 (Below w.heap.size w w24) := ⟨h13_⟩
          clear BK240
          clear BK241
          clear BK242
          clear HB
          clear h0_ h1_ h2_ h3_ h4_ h5_ h6_ h7_ h8_ h9_ h10_ h11_ h12_ h13_
          have HO247 := n0_
          have BK240 := n1_
          have BK241 := n2_
          have BK242 := n3_
          have BK258 := n4_
          have GW258 := n5_
          have GE258 := n6_
          have NB240_258 := n7_
          have NB258_240 := n8_
          have NB241_258 := n9_
          have NB258_241 := n10_
          have NB242_258 := n11_
          have NB258_242 := n12_
          have HB := n13_
          clear n0_ n1_ n2_ n3_ n4_ n5_ n6_ n7_ n8_ n9_ n10_ n11_ n12_ n13_
          have hHeld : w24.cell? ⟨gb240, 0, none⟩ = some (.slice A0_0 l0_0.length c0_0) ∧ w24.cell? ⟨gb241, 0, none⟩ = some (.slice A1_0 l1_0.length c1_0) := hS_
          refine norm_ (a' := ?_) ?_ ?_
          rotate_left
          ·simp only [putAll, Act.put, List.setIfInBounds_toArray, List.set_cons_zero, List.set_cons_succ]
           rfl
          refine oa 3 (some 21) #[Y,Y,Y,Y,Y,Y,Z,Z,Z,Z,Z,Y,Z,Z] HT_ (fun K hK => ?_)
          refine Kd.R_append_rows_step (Kd.int .i64) (w0 := w) w.heap.size (by rfl) (.tmp 18) (.tmp 20) 22 3 (.int .i64 0) 8 rfl Try.underlying22 info3 rfl (by decide) (by omega) v246 y245 l0_0 _ _ _ (fun _ => True) (fun _ => False) rfl rfl ?aO ?aR (fun _ _ h => h) (fun _ h => h.elim) ?aF ?aB ?aS ?aL ?_
          (case aR => exact co (Kd.C_below HR0_0.out HB.out))
          (case aB => exact bw)
          (case aF => exact (fun _ _ => trivial))
          (case aO => exact (ro HO247.out))
          (case aS => exact (below_size bw))
          (case aL => have := LMc7.out; omega)
          intro v249 w25 ho hb hg hat
          rw [← Ny248.out] at ho
          replace BK240 := Aside0.mk (blk_grown (g := gb240) (o := .cells #[.slice A0_0 l0_0.length c0_0] 27 (0, 0)) (bo BK240.out) hg (Kd.R_ne HO247.out BK240.out (by decide)))
          replace BK241 := Aside0.mk (blk_grown (g := gb241) (o := .cells #[.slice A1_0 l1_0.length c1_0] 27 (0, 0)) (bo BK241.out) hg (Kd.R_ne HO247.out BK241.out (by decide)))
          replace BK242 := Aside0.mk (blk_grown (g := gb242) (o := .cells #[.slice none 0 0] 27 (0, 0)) (bo BK242.out) hg (Kd.R_ne HO247.out BK242.out (by decide)))
          replace BK258 := Aside0.mk (blk_grown (g := gb258) (o := .cells #[.slice none 0 0] 27 (0, 0)) (bo BK258.out) hg (Kd.R_ne HO247.out BK258.out (by decide)))
          replace HB := Aside0.mk (hb)
          have HO250 := Aside0.mk (ho)
          clear HO247 ho hb hg hat
          refine hK.out _ _ ⟨(blk_cell BK240.out 0).trans rfl, (blk_cell BK241.out 0).trans rfl⟩ (fun hHeld => ?_)
          clear hK K
          refine norm_ (a' := ?_) ?_ ?_
          rotate_left
          ·show Act.put _ (some 21) _ = _
           simp only [Act.put, qa, qb, qc, i64_w, i32_w]
           rfl
          exact norm_ (by first | (simp only [putAll, Act.put, List.setIfInBounds_toArray, List.set_cons_zero, List.set_cons_succ]; done) | (simp only [putAll, Act.put, List.setIfInBounds_toArray, List.set_cons_zero, List.set_cons_succ]; rfl)) (hJ0_3_11 (v246, v249, gb258) _ ⟨hHeld, (ro HO250.out), (bo BK240.out), (bo BK241.out), (bo BK242.out), (bo BK258.out), GW258.out, GE258.out, NB240_258.out, NB258_240.out, NB241_258.out, NB258_241.out, NB242_258.out, NB258_242.out, bw⟩)
        ·skip
         rintro ⟨v246, v249⟩ w24 ⟨hS_, h0_, h1_, h2_, h3_, h4_⟩
         have n0_ : Aside0 (Kd.R (Kd.int .i64) 3 w24 w.heap.size (fun _ => True) v249 y248) := ⟨h0_⟩
         have n1_ : Aside0 (w24.heap[gb240]? = some (.cells #[.slice A0_0 l0_0.length c0_0] 27 (0, 0))) := ⟨h1_⟩
         have n2_ : Aside0 (w24.heap[gb241]? = some (.cells #[.slice A1_0 l1_0.length c1_0] 27 (0, 0))) := ⟨h2_⟩
         have n3_ : Aside0 (w24.heap[gb242]? = some (.cells #[.slice none 0 0] 27 (0, 0))) := ⟨h3_⟩
         have n4_ : Aside0 (Below w.heap.size w w24) := ⟨h4_⟩
         clear BK240
         clear BK241
         clear BK242
         clear HB
         clear h0_ h1_ h2_ h3_ h4_
         have HO250 := n0_
         have BK240 := n1_
         have BK241 := n2_
         have BK242 := n3_
         have HB := n4_
         clear n0_ n1_ n2_ n3_ n4_
         have hHeld : w24.cell? ⟨gb240, 0, none⟩ = some (.slice A0_0 l0_0.length c0_0) ∧ w24.cell? ⟨gb241, 0, none⟩ = some (.slice A1_0 l1_0.length c1_0) := hS_
         refine norm_ (a' := ?_) ?_ ?_
         rotate_left
         ·simp only [putAll, Act.put, List.setIfInBounds_toArray, List.set_cons_zero, List.set_cons_succ]
          rfl
         refine two_ (i := 6) (j := 11) (Ni := some 24) (Nj := some 6) #[Y,Y,Y,Y,Y,Y,Y,Z,Z,Z,Z,Z,Z,Z] #[Y,Y,Y,Y,Y,Y,Z,Z,Z,Z,Z,Y,Z,Z] rfl rfl rfl rfl (two_of HT_.out (by kernel_rfl)) (by decide) (by decide) (fun K hK => ?_) (fun K hK => ?_)
         ·skip
          refine Kd.R_append_rows_step (Kd.int .i64) (w0 := w) w.heap.size (by rfl) (.tmp 21) (.tmp 23) 22 3 (.int .i64 0) 8 rfl Try.underlying22 info3 rfl (by decide) (by omega) v249 y248 l1_0 _ _ _ (fun _ => True) (fun _ => False) rfl rfl ?aO ?aR (fun _ _ h => h) (fun _ h => h.elim) ?aF ?aB ?aS ?aL ?_
          (case aR => exact co (Kd.C_below HR1_0.out HB.out))
          (case aB => exact bw)
          (case aF => exact (fun _ _ => trivial))
          (case aO => exact (ro HO250.out))
          (case aS => exact (below_size bw))
          (case aL => have := LMc8.out; omega)
          intro v252 w25 ho hb hg hat
          rw [← Ny251.out] at ho
          replace BK240 := Aside0.mk (blk_grown (g := gb240) (o := .cells #[.slice A0_0 l0_0.length c0_0] 27 (0, 0)) (bo BK240.out) hg (Kd.R_ne HO250.out BK240.out (by decide)))
          replace BK241 := Aside0.mk (blk_grown (g := gb241) (o := .cells #[.slice A1_0 l1_0.length c1_0] 27 (0, 0)) (bo BK241.out) hg (Kd.R_ne HO250.out BK241.out (by decide)))
          replace BK242 := Aside0.mk (blk_grown (g := gb242) (o := .cells #[.slice none 0 0] 27 (0, 0)) (bo BK242.out) hg (Kd.R_ne HO250.out BK242.out (by decide)))
          replace HB := Aside0.mk (hb)
          have HO253 := Aside0.mk (ho)
          clear HO250 ho hb hg hat
          refine hK.out _ _ ⟨(blk_cell BK240.out 0).trans rfl, (blk_cell BK241.out 0).trans rfl⟩ (fun hHeld => ?_)
          clear hK K
          refine norm_ (a' := ?_) ?_ ?_
          rotate_left
          ·show Act.put _ (some 24) _ = _
           simp only [Act.put, qa, qb, qc, i64_w, i32_w]
           rfl
          exact norm_ (by first | (simp only [putAll, Act.put, List.setIfInBounds_toArray, List.set_cons_zero, List.set_cons_succ]; done) | (simp only [putAll, Act.put, List.setIfInBounds_toArray, List.set_cons_zero, List.set_cons_succ]; rfl)) (hJ0_3_6 (v246, v249, v252) _ ⟨hHeld, (ro HO253.out), (bo BK240.out), (bo BK241.out), (bo BK242.out), bw⟩)
         ·skip
          refine box_step ?hg (N := 6) ?hd (cs := #[.slice none 0 0]) (t := 27) ?hr ?_; (case hd => rfl); (case hg => rfl); (case hr => first | (go_simp; done) | (go_simp; rfl))
          intro gb258 hg w25 hbox hb
          replace HO250 := Aside0.mk (Kd.R_below (ro HO250.out) hb)
          have BK258 := Aside0.mk (hbox)
          have GW258 := Aside0.mk (gs hg : w.heap.size ≤ gb258)
          have GE258 := Aside0.mk (gs hg : w.heap.size ≤ gb258)
          replace HB := Aside0.mk (below_step bw hb)
          have NB240_258 := Aside0.mk ((by rw [hg]; exact Nat.ne_of_lt (blk_lt (g := gb240) (o := .cells #[.slice A0_0 l0_0.length c0_0] 27 (0, 0)) (bo BK240.out)) : gb240 ≠ gb258))
          have NB258_240 := Aside0.mk ((by rw [hg]; exact Nat.ne_of_gt (blk_lt (g := gb240) (o := .cells #[.slice A0_0 l0_0.length c0_0] 27 (0, 0)) (bo BK240.out)) : gb258 ≠ gb240))
          replace BK240 := Aside0.mk (blk_below (g := gb240) (o := .cells #[.slice A0_0 l0_0.length c0_0] 27 (0, 0)) (bo BK240.out) hb)
          have NB241_258 := Aside0.mk ((by rw [hg]; exact Nat.ne_of_lt (blk_lt (g := gb241) (o := .cells #[.slice A1_0 l1_0.length c1_0] 27 (0, 0)) (bo BK241.out)) : gb241 ≠ gb258))
          have NB258_241 := Aside0.mk ((by rw [hg]; exact Nat.ne_of_gt (blk_lt (g := gb241) (o := .cells #[.slice A1_0 l1_0.length c1_0] 27 (0, 0)) (bo BK241.out)) : gb258 ≠ gb241))
          replace BK241 := Aside0.mk (blk_below (g := gb241) (o := .cells #[.slice A1_0 l1_0.length c1_0] 27 (0, 0)) (bo BK241.out) hb)
          have NB242_258 := Aside0.mk ((by rw [hg]; exact Nat.ne_of_lt (blk_lt (g := gb242) (o := .cells #[.slice none 0 0] 27 (0, 0)) (bo BK242.out)) : gb242 ≠ gb258))
          have NB258_242 := Aside0.mk ((by rw [hg]; exact Nat.ne_of_gt (blk_lt (g := gb242) (o := .cells #[.slice none 0 0] 27 (0, 0)) (bo BK242.out)) : gb258 ≠ gb242))
          replace BK242 := Aside0.mk (blk_below (g := gb242) (o := .cells #[.slice none 0 0] 27 (0, 0)) (bo BK242.out) hb)
          clear hb hbox hg
          refine hK.out _ _ ⟨(blk_cell BK240.out 0).trans rfl, (blk_cell BK241.out 0).trans rfl⟩ (fun hHeld => ?_)
          clear hK K
          refine norm_ (a' := ?_) ?_ ?_
          rotate_left
          ·show Act.put _ (some 6) _ = _
           simp only [Act.put, qa, qb, qc, i64_w, i32_w]
           rfl
          exact norm_ (by first | (simp only [putAll, Act.put, List.setIfInBounds_toArray, List.set_cons_zero, List.set_cons_succ]; done) | (simp only [putAll, Act.put, List.setIfInBounds_toArray, List.set_cons_zero, List.set_cons_succ]; rfl)) (hJ0_3_11 (v246, v249, gb258) _ ⟨hHeld, (ro HO250.out), (bo BK240.out), (bo BK241.out), (bo BK242.out), (bo BK258.out), GW258.out, GE258.out, NB240_258.out, NB258_240.out, NB241_258.out, NB258_241.out, NB242_258.out, NB258_242.out, bw⟩)
       ·skip
        rintro ⟨v246, v249, gb258⟩ w25 ⟨hS_, h0_, h1_, h2_, h3_, h4_, h5_, h6_, h7_, h8_, h9_, h10_, h11_, h12_, h13_⟩
        have n0_ : Aside0 (Kd.R (Kd.int .i64) 3 w25 w.heap.size (fun _ => True) v249 y248) := ⟨h0_⟩
        have n1_ : Aside0 (w25.heap[gb240]? = some (.cells #[.slice A0_0 l0_0.length c0_0] 27 (0, 0))) := ⟨h1_⟩
        have n2_ : Aside0 (w25.heap[gb241]? = some (.cells #[.slice A1_0 l1_0.length c1_0] 27 (0, 0))) := ⟨h2_⟩
        have n3_ : Aside0 (w25.heap[gb242]? = some (.cells #[.slice none 0 0] 27 (0, 0))) := ⟨h3_⟩
        have n4_ : Aside0 (w25.heap[gb258]? = some (.cells #[.slice none 0 0] 27 (0, 0))) := ⟨h4_⟩
        have n5_ : Aside0 (w.heap.size ≤ gb258) := ⟨h5_⟩
        have n6_ : Aside0 (w.heap.size ≤ gb258) := ⟨h6_⟩
        have n7_ : Aside0 (gb240 ≠ gb258) := ⟨h7_⟩
        have n8_ : Aside0 (gb258 ≠ gb240) := ⟨h8_⟩
        have n9_ : Aside0 (gb241 ≠ gb258) := ⟨h9_⟩
        have n10_ : Aside0 (gb258 ≠ gb241) := ⟨h10_⟩
        have n11_ : Aside0 (gb242 ≠ gb258) := ⟨h11_⟩
        have n12_ : Aside0 (gb258 ≠ gb242) := ⟨h12_⟩
        have n13_ : Aside0 (Below w.heap.size w w25) := ⟨h13_⟩
        clear BK240
        clear BK241
        clear BK242
        clear HB
        clear h0_ h1_ h2_ h3_ h4_ h5_ h6_ h7_ h8_ h9_ h10_ h11_ h12_ h13_
        have HO250 := n0_
        have BK240 := n1_
        have BK241 := n2_
        have BK242 := n3_
        have BK258 := n4_
        have GW258 := n5_
        have GE258 := n6_
        have NB240_258 := n7_
        have NB258_240 := n8_
        have NB241_258 := n9_
        have NB258_241 := n10_
        have NB242_258 := n11_
        have NB258_242 := n12_
        have HB := n13_
        clear n0_ n1_ n2_ n3_ n4_ n5_ n6_ n7_ n8_ n9_ n10_ n11_ n12_ n13_
        have hHeld : w25.cell? ⟨gb240, 0, none⟩ = some (.slice A0_0 l0_0.length c0_0) ∧ w25.cell? ⟨gb241, 0, none⟩ = some (.slice A1_0 l1_0.length c1_0) := hS_
        refine norm_ (a' := ?_) ?_ ?_
        rotate_left
        ·simp only [putAll, Act.put, List.setIfInBounds_toArray, List.set_cons_zero, List.set_cons_succ]
         rfl
        refine oa 6 (some 24) #[Y,Y,Y,Y,Y,Y,Y,Z,Z,Z,Z,Y,Z,Z] HT_ (fun K hK => ?_)
        refine Kd.R_append_rows_step (Kd.int .i64) (w0 := w) w.heap.size (by rfl) (.tmp 21) (.tmp 23) 22 3 (.int .i64 0) 8 rfl Try.underlying22 info3 rfl (by decide) (by omega) v249 y248 l1_0 _ _ _ (fun _ => True) (fun _ => False) rfl rfl ?aO ?aR (fun _ _ h => h) (fun _ h => h.elim) ?aF ?aB ?aS ?aL ?_
        (case aR => exact co (Kd.C_below HR1_0.out HB.out))
        (case aB => exact bw)
        (case aF => exact (fun _ _ => trivial))
        (case aO => exact (ro HO250.out))
        (case aS => exact (below_size bw))
        (case aL => have := LMc8.out; omega)
        intro v252 w26 ho hb hg hat
        rw [← Ny251.out] at ho
        replace BK240 := Aside0.mk (blk_grown (g := gb240) (o := .cells #[.slice A0_0 l0_0.length c0_0] 27 (0, 0)) (bo BK240.out) hg (Kd.R_ne HO250.out BK240.out (by decide)))
        replace BK241 := Aside0.mk (blk_grown (g := gb241) (o := .cells #[.slice A1_0 l1_0.length c1_0] 27 (0, 0)) (bo BK241.out) hg (Kd.R_ne HO250.out BK241.out (by decide)))
        replace BK242 := Aside0.mk (blk_grown (g := gb242) (o := .cells #[.slice none 0 0] 27 (0, 0)) (bo BK242.out) hg (Kd.R_ne HO250.out BK242.out (by decide)))
        replace BK258 := Aside0.mk (blk_grown (g := gb258) (o := .cells #[.slice none 0 0] 27 (0, 0)) (bo BK258.out) hg (Kd.R_ne HO250.out BK258.out (by decide)))
        replace HB := Aside0.mk (hb)
        have HO253 := Aside0.mk (ho)
        clear HO250 ho hb hg hat
        refine hK.out _ _ ⟨(blk_cell BK240.out 0).trans rfl, (blk_cell BK241.out 0).trans rfl⟩ (fun hHeld => ?_)
        clear hK K
        refine norm_ (a' := ?_) ?_ ?_
        rotate_left
        ·show Act.put _ (some 24) _ = _
         simp only [Act.put, qa, qb, qc, i64_w, i32_w]
         rfl
        exact norm_ (by first | (simp only [putAll, Act.put, List.setIfInBounds_toArray, List.set_cons_zero, List.set_cons_succ]; done) | (simp only [putAll, Act.put, List.setIfInBounds_toArray, List.set_cons_zero, List.set_cons_succ]; rfl)) (hJ0_3_6_11 (v246, v249, v252, gb258) _ ⟨hHeld, (ro HO253.out), (bo BK240.out), (bo BK241.out), (bo BK242.out), (bo BK258.out), GW258.out, GE258.out, NB240_258.out, NB258_240.out, NB241_258.out, NB258_241.out, NB242_258.out, NB258_242.out, bw⟩)
      ·skip
       rintro ⟨v246, v249, v252⟩ w25 ⟨hS_, h0_, h1_, h2_, h3_, h4_⟩
       have n0_ : Aside0 (Kd.R (Kd.int .i64) 3 w25 w.heap.size (fun _ => True) v252 y251) := ⟨h0_⟩
       have n1_ : Aside0 (w25.heap[gb240]? = some (.cells #[.slice A0_0 l0_0.length c0_0] 27 (0, 0))) := ⟨h1_⟩
       have n2_ : Aside0 (w25.heap[gb241]? = some (.cells #[.slice A1_0 l1_0.length c1_0] 27 (0, 0))) := ⟨h2_⟩
       have n3_ : Aside0 (w25.heap[gb242]? = some (.cells #[.slice none 0 0] 27 (0, 0))) := ⟨h3_⟩
       have n4_ : Aside0 (Below w.heap.size w w25) := ⟨h4_⟩
       clear BK240
       clear BK241
       clear BK242
       clear HB
       clear h0_ h1_ h2_ h3_ h4_
       have HO253 := n0_
       have BK240 := n1_
       have BK241 := n2_
       have BK242 := n3_
       have HB := n4_
       clear n0_ n1_ n2_ n3_ n4_
       have hHeld : w25.cell? ⟨gb240, 0, none⟩ = some (.slice A0_0 l0_0.length c0_0) ∧ w25.cell? ⟨gb241, 0, none⟩ = some (.slice A1_0 l1_0.length c1_0) := hS_
       obtain ⟨Ao26, co26, eo26⟩ := Kd.R_slice HO253.out
       (first | subst eo26 | (injection eo26 with f1_ f2_ f3_; have f4_ := f1_.symm; have f5_ := f3_.symm; clear f1_ f2_ f3_; subst f4_; subst f5_))
       refine norm_ (a' := ?_) ?_ ?_
       rotate_left
       ·simp only [putAll, Act.put, List.setIfInBounds_toArray, List.set_cons_zero, List.set_cons_succ]
        rfl
       refine two_ (i := 7) (j := 11) (Ni := some 25) (Nj := some 6) #[Y,Y,Y,Y,Y,Y,Y,Y,Z,Z,Z,Z,Z,Z] #[Y,Y,Y,Y,Y,Y,Y,Z,Z,Z,Z,Y,Z,Z] rfl rfl rfl rfl (two_of HT_.out (by kernel_rfl)) (by decide) (by decide) (fun K hK => ?_) (fun K hK => ?_)
       ·skip
        refine gm Try.func104 #[.slice Ao26 y251.length co26] ?_
        with_reducible refine (spec_FromGens.calls k _ _ y251 t254 t257 _ ?side1 ?side2 A9.out).mono ?_
        (case side1 => exact co (Kd.R_reads' HO253.out).2.2)
        (case side2 => exact (Kd.R_reads' HO253.out).2.1)
        rintro e w27 ⟨v255, rfl, ho0, hb⟩
        refine ⟨_, rfl, ?_⟩
        have HO256 := Aside0.mk (Kd.R_lower (Kd.R_new' ho0 (Kd.R_lt (ro HO253.out))) (below_size bw))
        replace HO253 := Aside0.mk (Kd.R_elder' (ro HO253.out) (Kd.R_base ho0) hb)
        replace BK240 := Aside0.mk (blk_below (g := gb240) (o := .cells #[.slice A0_0 l0_0.length c0_0] 27 (0, 0)) (bo BK240.out) hb)
        replace BK241 := Aside0.mk (blk_below (g := gb241) (o := .cells #[.slice A1_0 l1_0.length c1_0] 27 (0, 0)) (bo BK241.out) hb)
        replace BK242 := Aside0.mk (blk_below (g := gb242) (o := .cells #[.slice none 0 0] 27 (0, 0)) (bo BK242.out) hb)
        replace HB := Aside0.mk (below_step bw hb)
        clear hb ho0
        refine hK.out _ _ ⟨(blk_cell BK240.out 0).trans rfl, (blk_cell BK241.out 0).trans rfl⟩ (fun hHeld => ?_)
        clear hK K
        refine norm_ (a' := ?_) ?_ ?_
        rotate_left
        ·show Act.put _ (some 25) _ = _
         simp only [Act.put, qa, qb, qc, i64_w, i32_w]
         rfl
        refine pa 8 (some 17) #[Y,Y,Y,Y,Y,Y,Y,Y,Y,Z,Z,Z,Z,Z] HT_ ?_
        refine pa 9 (some 26) #[Y,Y,Y,Y,Y,Y,Y,Y,Y,Y,Z,Z,Z,Z] HT_ ?_
        refine pa 10 (some 27) #[Y,Y,Y,Y,Y,Y,Y,Y,Y,Y,Y,Z,Z,Z] HT_ ?_
        exact norm_ (by first | (simp only [putAll, Act.put, List.setIfInBounds_toArray, List.set_cons_zero, List.set_cons_succ]; done) | (simp only [putAll, Act.put, List.setIfInBounds_toArray, List.set_cons_zero, List.set_cons_succ]; rfl)) (hJ0_3_6_7 (v246, v249, .slice Ao26 y251.length co26, v255) _ ⟨hHeld, (by (with_reducible repeat (first | apply Kd.R_alloc | apply Kd.R_drewN | apply Kd.R_drew)); exact Kd.R_mono HO253.out (fun _ hk => hk.2)), (by (with_reducible repeat (first | apply Kd.R_alloc | apply Kd.R_drewN | apply Kd.R_drew)); exact Kd.R_mono HO256.out (fun _ hk => hk.2)), (bo BK240.out), (bo BK241.out), (bo BK242.out), bw⟩)
       ·skip
        refine box_step ?hg (N := 6) ?hd (cs := #[.slice none 0 0]) (t := 27) ?hr ?_; (case hd => rfl); (case hg => rfl); (case hr => first | (go_simp; done) | (go_simp; rfl))
        intro gb258 hg w26 hbox hb
        replace HO253 := Aside0.mk (Kd.R_below (ro HO253.out) hb)
        have BK258 := Aside0.mk (hbox)
        have GW258 := Aside0.mk (gs hg : w.heap.size ≤ gb258)
        have GE258 := Aside0.mk (gs hg : w.heap.size ≤ gb258)
        replace HB := Aside0.mk (below_step bw hb)
        have NB240_258 := Aside0.mk ((by rw [hg]; exact Nat.ne_of_lt (blk_lt (g := gb240) (o := .cells #[.slice A0_0 l0_0.length c0_0] 27 (0, 0)) (bo BK240.out)) : gb240 ≠ gb258))
        have NB258_240 := Aside0.mk ((by rw [hg]; exact Nat.ne_of_gt (blk_lt (g := gb240) (o := .cells #[.slice A0_0 l0_0.length c0_0] 27 (0, 0)) (bo BK240.out)) : gb258 ≠ gb240))
        replace BK240 := Aside0.mk (blk_below (g := gb240) (o := .cells #[.slice A0_0 l0_0.length c0_0] 27 (0, 0)) (bo BK240.out) hb)
        have NB241_258 := Aside0.mk ((by rw [hg]; exact Nat.ne_of_lt (blk_lt (g := gb241) (o := .cells #[.slice A1_0 l1_0.length c1_0] 27 (0, 0)) (bo BK241.out)) : gb241 ≠ gb258))
        have NB258_241 := Aside0.mk ((by rw [hg]; exact Nat.ne_of_gt (blk_lt (g := gb241) (o := .cells #[.slice A1_0 l1_0.length c1_0] 27 (0, 0)) (bo BK241.out)) : gb258 ≠ gb241))
        replace BK241 := Aside0.mk (blk_below (g := gb241) (o := .cells #[.slice A1_0 l1_0.length c1_0] 27 (0, 0)) (bo BK241.out) hb)
        have NB242_258 := Aside0.mk ((by rw [hg]; exact Nat.ne_of_lt (blk_lt (g := gb242) (o := .cells #[.slice none 0 0] 27 (0, 0)) (bo BK242.out)) : gb242 ≠ gb258))
        have NB258_242 := Aside0.mk ((by rw [hg]; exact Nat.ne_of_gt (blk_lt (g := gb242) (o := .cells #[.slice none 0 0] 27 (0, 0)) (bo BK242.out)) : gb258 ≠ gb242))
        replace BK242 := Aside0.mk (blk_below (g := gb242) (o := .cells #[.slice none 0 0] 27 (0, 0)) (bo BK242.out) hb)
        clear hb hbox hg
        refine hK.out _ _ ⟨(blk_cell BK240.out 0).trans rfl, (blk_cell BK241.out 0).trans rfl⟩ (fun hHeld => ?_)
        clear hK K
        refine norm_ (a' := ?_) ?_ ?_
        rotate_left
        ·show Act.put _ (some 6) _ = _
         simp only [Act.put, qa, qb, qc, i64_w, i32_w]
         rfl
        exact norm_ (by first | (simp only [putAll, Act.put, List.setIfInBounds_toArray, List.set_cons_zero, List.set_cons_succ]; done) | (simp only [putAll, Act.put, List.setIfInBounds_toArray, List.set_cons_zero, List.set_cons_succ]; rfl)) (hJ0_3_6_11 (v246, v249, .slice Ao26 y251.length co26, gb258) _ ⟨hHeld, (ro HO253.out), (bo BK240.out), (bo BK241.out), (bo BK242.out), (bo BK258.out), GW258.out, GE258.out, NB240_258.out, NB258_240.out, NB241_258.out, NB258_241.out, NB242_258.out, NB258_242.out, bw⟩)
     ·skip
      rintro ⟨v246, v249, v252, gb258⟩ w26 ⟨hS_, h0_, h1_, h2_, h3_, h4_, h5_, h6_, h7_, h8_, h9_, h10_, h11_, h12_, h13_⟩
      have n0_ : Aside0 (Kd.R (Kd.int .i64) 3 w26 w.heap.size (fun _ => True) v252 y251) := ⟨h0_⟩
      have n1_ : Aside0 (w26.heap[gb240]? = some (.cells #[.slice A0_0 l0_0.length c0_0] 27 (0, 0))) := ⟨h1_⟩
      have n2_ : Aside0 (w26.heap[gb241]? = some (.cells #[.slice A1_0 l1_0.length c1_0] 27 (0, 0))) := ⟨h2_⟩
      have n3_ : Aside0 (w26.heap[gb242]? = some (.cells #[.slice none 0 0] 27 (0, 0))) := ⟨h3_⟩
      have n4_ : Aside0 (w26.heap[gb258]? = some (.cells #[.slice none 0 0] 27 (0, 0))) := ⟨h4_⟩
      have n5_ : Aside0 (w.heap.size ≤ gb258) := ⟨h5_⟩
      have n6_ : Aside0 (w.heap.size ≤ gb258) := ⟨h6_⟩
      have n7_ : Aside0 (gb240 ≠ gb258) := ⟨h7_⟩
      have n8_ : Aside0 (gb258 ≠ gb240) := ⟨h8_⟩
      have n9_ : Aside0 (gb241 ≠ gb258) := ⟨h9_⟩
      have n10_ : Aside0 (gb258 ≠ gb241) := ⟨h10_⟩
      have n11_ : Aside0 (gb242 ≠ gb258) := ⟨h11_⟩
      have n12_ : Aside0 (gb258 ≠ gb242) := ⟨h12_⟩
      have n13_ : Aside0 (Below w.heap.size w w26) := ⟨h13_⟩
      clear BK240
      clear BK241
      clear BK242
      clear HB
      clear h0_ h1_ h2_ h3_ h4_ h5_ h6_ h7_ h8_ h9_ h10_ h11_ h12_ h13_
      have HO253 := n0_
      have BK240 := n1_
      have BK241 := n2_
      have BK242 := n3_
      have BK258 := n4_
      have GW258 := n5_
      have GE258 := n6_
      have NB240_258 := n7_
      have NB258_240 := n8_
      have NB241_258 := n9_
      have NB258_241 := n10_
      have NB242_258 := n11_
      have NB258_242 := n12_
      have HB := n13_
      clear n0_ n1_ n2_ n3_ n4_ n5_ n6_ n7_ n8_ n9_ n10_ n11_ n12_ n13_
      have hHeld : w26.cell? ⟨gb240, 0, none⟩ = some (.slice A0_0 l0_0.length c0_0) ∧ w26.cell? ⟨gb241, 0, none⟩ = some (.slice A1_0 l1_0.length c1_0) := hS_
      obtain ⟨Ao27, co27, eo27⟩ := Kd.R_slice HO253.out
      (first | subst eo27 | (injection eo27 with f1_ f2_ f3_; have f4_ := f1_.symm; have f5_ := f3_.symm; clear f1_ f2_ f3_; subst f4_; subst f5_))
      refine norm_ (a' := ?_) ?_ ?_
      rotate_left
      ·simp only [putAll, Act.put, List.setIfInBounds_toArray, List.set_cons_zero, List.set_cons_succ]
       rfl
      refine oa 7 (some 25) #[Y,Y,Y,Y,Y,Y,Y,Y,Z,Z,Z,Y,Z,Z] HT_ (fun K hK => ?_)
      refine gm Try.func104 #[.slice Ao27 y251.length co27] ?_
      with_reducible refine (spec_FromGens.calls k _ _ y251 t254 t257 _ ?side1 ?side2 A9.out).mono ?_
      (case side1 => exact co (Kd.R_reads' HO253.out).2.2)
      (case side2 => exact (Kd.R_reads' HO253.out).2.1)
      rintro e w28 ⟨v255, rfl, ho0, hb⟩
      refine ⟨_, rfl, ?_⟩
      have HO256 := Aside0.mk (Kd.R_lower (Kd.R_new' ho0 (Kd.R_lt (ro HO253.out))) (below_size bw))
      replace HO253 := Aside0.mk (Kd.R_elder' (ro HO253.out) (Kd.R_base ho0) hb)
      replace BK240 := Aside0.mk (blk_below (g := gb240) (o := .cells #[.slice A0_0 l0_0.length c0_0] 27 (0, 0)) (bo BK240.out) hb)
      replace BK241 := Aside0.mk (blk_below (g := gb241) (o := .cells #[.slice A1_0 l1_0.length c1_0] 27 (0, 0)) (bo BK241.out) hb)
      replace BK242 := Aside0.mk (blk_below (g := gb242) (o := .cells #[.slice none 0 0] 27 (0, 0)) (bo BK242.out) hb)
      replace BK258 := Aside0.mk (blk_below (g := gb258) (o := .cells #[.slice none 0 0] 27 (0, 0)) (bo BK258.out) hb)
      replace HB := Aside0.mk (below_step bw hb)
      clear hb ho0
      refine hK.out _ _ ⟨(blk_cell BK240.out 0).trans rfl, (blk_cell BK241.out 0).trans rfl⟩ (fun hHeld => ?_)
      clear hK K
      refine norm_ (a' := ?_) ?_ ?_
      rotate_left
      ·show Act.put _ (some 25) _ = _
       simp only [Act.put, qa, qb, qc, i64_w, i32_w]
       rfl
      refine pa 8 (some 17) #[Y,Y,Y,Y,Y,Y,Y,Y,Y,Z,Z,Y,Z,Z] HT_ ?_
      refine pa 9 (some 26) #[Y,Y,Y,Y,Y,Y,Y,Y,Y,Y,Z,Y,Z,Z] HT_ ?_
      refine pa 10 (some 27) #[Y,Y,Y,Y,Y,Y,Y,Y,Y,Y,Y,Y,Z,Z] HT_ ?_
      exact norm_ (by first | (simp only [putAll, Act.put, List.setIfInBounds_toArray, List.set_cons_zero, List.set_cons_succ]; done) | (simp only [putAll, Act.put, List.setIfInBounds_toArray, List.set_cons_zero, List.set_cons_succ]; rfl)) (hJ0_3_6_7_11 (v246, v249, .slice Ao27 y251.length co27, v255, gb258) _ ⟨hHeld, (by (with_reducible repeat (first | apply Kd.R_alloc | apply Kd.R_drewN | apply Kd.R_drew)); exact Kd.R_mono HO253.out (fun _ hk => hk.2)), (by (with_reducible repeat (first | apply Kd.R_alloc | apply Kd.R_drewN | apply Kd.R_drew)); exact Kd.R_mono HO256.out (fun _ hk => hk.2)), (bo BK240.out), (bo BK241.out), (bo BK242.out), (bo BK258.out), GW258.out, GE258.out, NB240_258.out, NB258_240.out, NB241_258.out, NB258_241.out, NB242_258.out, NB258_242.out, bw⟩)
    ·skip
     rintro ⟨v246, v249, v252, v255⟩ w27 ⟨hS_, h0_, h1_, h2_, h3_, h4_, h5_⟩
     have n0_ : Aside0 (Kd.R (Kd.int .i64) 3 w27 w.heap.size (fun k_ => some k_ ≠ (v255 : Value).ownBlock) v252 y251) := ⟨h0_⟩
     have n1_ : Aside0 (Kd.R (Kd.int .i64) 3 w27 w.heap.size (fun k_ => some k_ ≠ (v252 : Value).ownBlock) v255 t254) := ⟨h1_⟩
     have n2_ : Aside0 (w27.heap[gb240]? = some (.cells #[.slice A0_0 l0_0.length c0_0] 27 (0, 0))) := ⟨h2_⟩
     have n3_ : Aside0 (w27.heap[gb241]? = some (.cells #[.slice A1_0 l1_0.length c1_0] 27 (0, 0))) := ⟨h3_⟩
     have n4_ : Aside0 (w27.heap[gb242]? = some (.cells #[.slice none 0 0] 27 (0, 0))) := ⟨h4_⟩
     have n5_ : Aside0 (Below w.heap.size w w27) := ⟨h5_⟩
     clear BK240
     clear BK241
     clear BK242
     clear HB
     clear h0_ h1_ h2_ h3_ h4_ h5_
     have HO253 := n0_
     have HO256 := n1_
     have BK240 := n2_
     have BK241 := n3_
     have BK242 := n4_
     have HB := n5_
     clear n0_ n1_ n2_ n3_ n4_ n5_
     have hHeld : w27.cell? ⟨gb240, 0, none⟩ = some (.slice A0_0 l0_0.length c0_0) ∧ w27.cell? ⟨gb241, 0, none⟩ = some (.slice A1_0 l1_0.length c1_0) := hS_
     refine norm_ (a' := ?_) ?_ ?_
     rotate_left
     ·simp only [putAll, Act.put, List.setIfInBounds_toArray, List.set_cons_zero, List.set_cons_succ]
      rfl
     refine oa 11 (some 6) #[Y,Y,Y,Y,Y,Y,Y,Y,Y,Y,Y,Y,Z,Z] HT_ (fun K hK => ?_)
     refine box_step ?hg (N := 6) ?hd (cs := #[.slice none 0 0]) (t := 27) ?hr ?_; (case hd => rfl); (case hg => rfl); (case hr => first | (go_simp; done) | (go_simp; rfl))
     intro gb258 hg w28 hbox hb
     replace HO253 := Aside0.mk (Kd.R_below (ro HO253.out) hb)
     replace HO256 := Aside0.mk (Kd.R_below (ro HO256.out) hb)
     have BK258 := Aside0.mk (hbox)
     have GW258 := Aside0.mk (gs hg : w.heap.size ≤ gb258)
     have GE258 := Aside0.mk (gs hg : w.heap.size ≤ gb258)
     replace HB := Aside0.mk (below_step bw hb)
     have NB240_258 := Aside0.mk ((by rw [hg]; exact Nat.ne_of_lt (blk_lt (g := gb240) (o := .cells #[.slice A0_0 l0_0.length c0_0] 27 (0, 0)) (bo BK240.out)) : gb240 ≠ gb258))
     have NB258_240 := Aside0.mk ((by rw [hg]; exact Nat.ne_of_gt (blk_lt (g := gb240) (o := .cells #[.slice A0_0 l0_0.length c0_0] 27 (0, 0)) (bo BK240.out)) : gb258 ≠ gb240))
     replace BK240 := Aside0.mk (blk_below (g := gb240) (o := .cells #[.slice A0_0 l0_0.length c0_0] 27 (0, 0)) (bo BK240.out) hb)
     have NB241_258 := Aside0.mk ((by rw [hg]; exact Nat.ne_of_lt (blk_lt (g := gb241) (o := .cells #[.slice A1_0 l1_0.length c1_0] 27 (0, 0)) (bo BK241.out)) : gb241 ≠ gb258))
     have NB258_241 := Aside0.mk ((by rw [hg]; exact Nat.ne_of_gt (blk_lt (g := gb241) (o := .cells #[.slice A1_0 l1_0.length c1_0] 27 (0, 0)) (bo BK241.out)) : gb258 ≠ gb241))
     replace BK241 := Aside0.mk (blk_below (g := gb241) (o := .cells #[.slice A1_0 l1_0.length c1_0] 27 (0, 0)) (bo BK241.out) hb)
     have NB242_258 := Aside0.mk ((by rw [hg]; exact Nat.ne_of_lt (blk_lt (g := gb242) (o := .cells #[.slice none 0 0] 27 (0, 0)) (bo BK242.out)) : gb242 ≠ gb258))
     have NB258_242 := Aside0.mk ((by rw [hg]; exact Nat.ne_of_gt (blk_lt (g := gb242) (o := .cells #[.slice none 0 0] 27 (0, 0)) (bo BK242.out)) : gb258 ≠ gb242))
     replace BK242 := Aside0.mk (blk_below (g := gb242) (o := .cells #[.slice none 0 0] 27 (0, 0)) (bo BK242.out) hb)
     clear hb hbox hg
     refine hK.out _ _ ⟨(blk_cell BK240.out 0).trans rfl, (blk_cell BK241.out 0).trans rfl⟩ (fun hHeld => ?_)
     clear hK K
     refine norm_ (a' := ?_) ?_ ?_
     rotate_left
     ·show Act.put _ (some 6) _ = _
      simp only [Act.put, qa, qb, qc, i64_w, i32_w]
      rfl
     exact norm_ (by first | (simp only [putAll, Act.put, List.setIfInBounds_toArray, List.set_cons_zero, List.set_cons_succ]; done) | (simp only [putAll, Act.put, List.setIfInBounds_toArray, List.set_cons_zero, List.set_cons_succ]; rfl)) (hJ0_3_6_7_11 (v246, v249, v252, v255, gb258) _ ⟨hHeld, (ro HO253.out), (ro HO256.out), (bo BK240.out), (bo BK241.out), (bo BK242.out), (bo BK258.out), GW258.out, GE258.out, NB240_258.out, NB258_240.out, NB241_258.out, NB258_241.out, NB242_258.out, NB258_242.out, bw⟩)
   rintro ⟨v246, v249, v252, v255, gb258⟩ w28 ⟨hS_, h0_, h1_, h2_, h3_, h4_, h5_, h6_, h7_, h8_, h9_, h10_, h11_, h12_, h13_, h14_⟩
   have n0_ : Aside0 (Kd.R (Kd.int .i64) 3 w28 w.heap.size (fun k_ => some k_ ≠ (v255 : Value).ownBlock) v252 y251) := ⟨h0_⟩
   have n1_ : Aside0 (Kd.R (Kd.int .i64) 3 w28 w.heap.size (fun k_ => some k_ ≠ (v252 : Value).ownBlock) v255 t254) := ⟨h1_⟩
   have n2_ : Aside0 (w28.heap[gb240]? = some (.cells #[.slice A0_0 l0_0.length c0_0] 27 (0, 0))) := ⟨h2_⟩
   have n3_ : Aside0 (w28.heap[gb241]? = some (.cells #[.slice A1_0 l1_0.length c1_0] 27 (0, 0))) := ⟨h3_⟩
   have n4_ : Aside0 (w28.heap[gb242]? = some (.cells #[.slice none 0 0] 27 (0, 0))) := ⟨h4_⟩
   have n5_ : Aside0 (w28.heap[gb258]? = some (.cells #[.slice none 0 0] 27 (0, 0))) := ⟨h5_⟩
   have n6_ : Aside0 (w.heap.size ≤ gb258) := ⟨h6_⟩
   have n7_ : Aside0 (w.heap.size ≤ gb258) := ⟨h7_⟩
   have n8_ : Aside0 (gb240 ≠ gb258) := ⟨h8_⟩
   have n9_ : Aside0 (gb258 ≠ gb240) := ⟨h9_⟩
   have n10_ : Aside0 (gb241 ≠ gb258) := ⟨h10_⟩
   have n11_ : Aside0 (gb258 ≠ gb241) := ⟨h11_⟩
   have n12_ : Aside0 (gb242 ≠ gb258) := ⟨h12_⟩
   have n13_ : Aside0 (gb258 ≠ gb242) := ⟨h13_⟩
   have n14_ : Aside0 (Below w.heap.size w w28) := ⟨h14_⟩
   clear BK240
   clear BK241
   clear BK242
   clear HB
   clear h0_ h1_ h2_ h3_ h4_ h5_ h6_ h7_ h8_ h9_ h10_ h11_ h12_ h13_ h14_
   have HO253 := n0_
   have HO256 := n1_
   have BK240 := n2_
   have BK241 := n3_
   have BK242 := n4_
   have BK258 := n5_
   have GW258 := n6_
   have GE258 := n7_
   have NB240_258 := n8_
   have NB258_240 := n9_
   have NB241_258 := n10_
   have NB258_241 := n11_
   have NB242_258 := n12_
   have NB258_242 := n13_
   have HB := n14_
   clear n0_ n1_ n2_ n3_ n4_ n5_ n6_ n7_ n8_ n9_ n10_ n11_ n12_ n13_ n14_
   have hHeld : w28.cell? ⟨gb240, 0, none⟩ = some (.slice A0_0 l0_0.length c0_0) ∧ w28.cell? ⟨gb241, 0, none⟩ = some (.slice A1_0 l1_0.length c1_0) := hS_
   obtain ⟨Ao29, co29, eo29⟩ := Kd.R_slice HO256.out
   (first | subst eo29 | (injection eo29 with f1_ f2_ f3_; have f4_ := f1_.symm; have f5_ := f3_.symm; clear f1_ f2_ f3_; subst f4_; subst f5_))
   refine norm_ (a' := ?_) ?_ ?_
   rotate_left
   ·simp only [putAll, Act.put, List.setIfInBounds_toArray, List.set_cons_zero, List.set_cons_succ]
    rfl
   refine oa 12 none #[Y,Y,Y,Y,Y,Y,Y,Y,Y,Y,Y,Y,Y,Z] HT_ (fun K hK => ?_)
   have hs30 := bc BK258 0 (.slice none 0 0)
   have hfs30 := blk_frozen BK258.out 0
   have hns30_0 := NB240_258.out
   have hns30_1 := NB241_258.out
   have hns30_2 := NB242_258.out
   have hms30_0 := NB258_240.out
   have hms30_1 := NB258_241.out
   have hms30_2 := NB258_242.out
   refine skip_ (w1 := ?_) (by rfl) rfl ?_ ?_
   rotate_left
   ·go_simp
    rfl
   refine hK.out _ _ ⟨((cell_far (p := ⟨gb258, _, none⟩) NB240_258.out _).trans (hHeld.1)), ((cell_far (p := ⟨gb258, _, none⟩) NB241_258.out _).trans (hHeld.2))⟩ (fun hHeld => ?_)
   clear hK K
   refine pa 13 (some 7) #[Y,Y,Y,Y,Y,Y,Y,Y,Y,Y,Y,Y,Y,Y] HT_ ?_
   refine done_ (done_of HT_.out (by kernel_rfl)) ?_
   have hnb31 := NB258_240.out
   have hnc31 := NB240_258.out
   have hnb32 := NB258_241.out
   have hnc32 := NB241_258.out
   have hnb33 := NB258_242.out
   have hnc33 := NB242_258.out
   have hcz34_0 := bc BK258 0 (.slice none 0 0)
   have hfz34_0 := blk_frozen BK258.out 0
   have hcz35_0 := bc BK242 0 (.slice none 0 0)
   have hfz35_0 := blk_frozen BK242.out 0
   try go_wp2
   refine bodyPost_ret (results_ct rfl _ _ gb242 27 #[.slice Ao29 t254.length co29] (0, 0) _ rfl (by (with_reducible repeat (first | refine blk_drewN ?_ _ | refine blk_drew ?_ | refine blk_alloc ?_ _)); refine blk_put (cs := #[.slice none 0 0]) ?_ 0 _ rfl; (with_reducible repeat (first | refine blk_drewN ?_ _ | refine blk_drew ?_ | refine blk_alloc ?_ _)); refine blk_far ?_ NB242_258.out _; (with_reducible repeat (first | refine blk_drewN ?_ _ | refine blk_drew ?_ | refine blk_alloc ?_ _)); exact BK242.out) Try.underlying27 rfl (by kernel_rfl)) rfl ?_
   exact ⟨_, re, by (with_reducible repeat (first | apply Kd.R_alloc | apply Kd.R_drewN | apply Kd.R_drew)); exact Kd.R_mono (Kd.R_far (p := ⟨gb242, 0, none⟩) (Kd.R_far (p := ⟨gb258, 0, none⟩) (Kd.R_types (Kd.R_types HO256.out BK258.out (by decide)) BK242.out (by decide)) (fun _ hk => by first | exact hk.1.2 | simp_all) (.slice Ao29 t254.length co29)) (fun _ hk => hk.2) (.slice Ao29 t254.length co29)) (fun _ hk => trivial), bw⟩
  ·simp only [Option.some.injEq, Prod.mk.injEq] at H
   obtain ⟨rfl, rfl⟩ := H
   go_enter Try.func55, Try.ntmps55
   go_wp2_with (first | ((with_reducible refine gate_dst (N := 2) rfl ?_); refine bx 2 #[.slice A0_0 l0_0.length c0_0] 27 ?_; intro gb240 hg w36 hbox hb; have BK240 := Aside0.mk (hbox); have GW240 := Aside0.mk (gs hg : w.heap.size ≤ gb240); have GE240 := Aside0.mk (gs hg : w.heap.size ≤ gb240); replace HB := Aside0.mk (below_step bw hb); clear hb hbox hg) | ((with_reducible refine gate_dst (N := 3) rfl ?_); refine bx 3 #[.slice A1_0 l1_0.length c1_0] 27 ?_; intro gb241 hg w37 hbox hb; have BK241 := Aside0.mk (hbox); have GW241 := Aside0.mk (gs hg : w.heap.size ≤ gb241); have GE241 := Aside0.mk (gs hg : w.heap.size ≤ gb241); replace HB := Aside0.mk (below_step bw hb); have NB240_241 := Aside0.mk ((by rw [hg]; exact Nat.ne_of_lt (blk_lt (g := gb240) (o := .cells #[.slice A0_0 l0_0.length c0_0] 27 (0, 0)) (bo BK240.out)) : gb240 ≠ gb241)); have NB241_240 := Aside0.mk ((by rw [hg]; exact Nat.ne_of_gt (blk_lt (g := gb240) (o := .cells #[.slice A0_0 l0_0.length c0_0] 27 (0, 0)) (bo BK240.out)) : gb241 ≠ gb240)); replace BK240 := Aside0.mk (blk_below (g := gb240) (o := .cells #[.slice A0_0 l0_0.length c0_0] 27 (0, 0)) (bo BK240.out) hb); clear hb hbox hg) | ((with_reducible refine gate_dst (N := 4) rfl ?_); refine bx 4 #[.slice none 0 0] 27 ?_; intro gb242 hg w38 hbox hb; have BK242 := Aside0.mk (hbox); have GW242 := Aside0.mk (gs hg : w.heap.size ≤ gb242); have GE242 := Aside0.mk (gs hg : w.heap.size ≤ gb242); replace HB := Aside0.mk (below_step bw hb); have NB240_242 := Aside0.mk ((by rw [hg]; exact Nat.ne_of_lt (blk_lt (g := gb240) (o := .cells #[.slice A0_0 l0_0.length c0_0] 27 (0, 0)) (bo BK240.out)) : gb240 ≠ gb242)); have NB242_240 := Aside0.mk ((by rw [hg]; exact Nat.ne_of_gt (blk_lt (g := gb240) (o := .cells #[.slice A0_0 l0_0.length c0_0] 27 (0, 0)) (bo BK240.out)) : gb242 ≠ gb240)); replace BK240 := Aside0.mk (blk_below (g := gb240) (o := .cells #[.slice A0_0 l0_0.length c0_0] 27 (0, 0)) (bo BK240.out) hb); have NB241_242 := Aside0.mk ((by rw [hg]; exact Nat.ne_of_lt (blk_lt (g := gb241) (o := .cells #[.slice A1_0 l1_0.length c1_0] 27 (0, 0)) (bo BK241.out)) : gb241 ≠ gb242)); have NB242_241 := Aside0.mk ((by rw [hg]; exact Nat.ne_of_gt (blk_lt (g := gb241) (o := .cells #[.slice A1_0 l1_0.length c1_0] 27 (0, 0)) (bo BK241.out)) : gb242 ≠ gb241)); replace BK241 := Aside0.mk (blk_below (g := gb241) (o := .cells #[.slice A1_0 l1_0.length c1_0] 27 (0, 0)) (bo BK241.out) hb); clear hb hbox hg; have hnb39 := NB240_241.out; have hnc39 := NB241_240.out; have hnb40 := NB240_242.out; have hnc40 := NB242_240.out; have hcz41_0 := bc BK240 0 (.slice A0_0 l0_0.length c0_0); have hfz41_0 := blk_frozen BK240.out 0) | ((with_reducible refine gate_callee (f := 58) rfl ?_); refine gl (some 9) Try.func58 #[.agg #[.slice A0_0 l0_0.length c0_0]] ?_; (with_reducible refine (spec_IsSemigroup.calls k _ _ l0_0 true _ ?side1 ?side2 A3.out).mono ?_); (case side1 => exact co (Kd.C_below HR0_0.out HB.out)); (case side2 => exact HC0_0.out); rintro e w42 ⟨rfl, hb⟩; refine ⟨_, rfl, ?_⟩; replace BK240 := Aside0.mk (blk_below (g := gb240) (o := .cells #[.slice A0_0 l0_0.length c0_0] 27 (0, 0)) (bo BK240.out) hb); replace BK241 := Aside0.mk (blk_below (g := gb241) (o := .cells #[.slice A1_0 l1_0.length c1_0] 27 (0, 0)) (bo BK241.out) hb); replace BK242 := Aside0.mk (blk_below (g := gb242) (o := .cells #[.slice none 0 0] 27 (0, 0)) (bo BK242.out) hb); replace HB := Aside0.mk (below_step bw hb); clear hb; have hnb43 := NB241_242.out; have hnc43 := NB242_241.out; have hcz44_0 := bc BK241 0 (.slice A1_0 l1_0.length c1_0); have hfz44_0 := blk_frozen BK241.out 0) | (go_at_call 58; (with_reducible refine (spec_IsSemigroup.calls k _ _ l1_0 false _ ?side1 ?side2 A5.out).mono ?_); (case side1 => exact co (Kd.C_below HR1_0.out HB.out)); (case side2 => exact HC1_0.out); rintro e w45 ⟨rfl, hb⟩; replace BK240 := Aside0.mk (blk_below (g := gb240) (o := .cells #[.slice A0_0 l0_0.length c0_0] 27 (0, 0)) (bo BK240.out) hb); replace BK241 := Aside0.mk (blk_below (g := gb241) (o := .cells #[.slice A1_0 l1_0.length c1_0] 27 (0, 0)) (bo BK241.out) hb); replace BK242 := Aside0.mk (blk_below (g := gb242) (o := .cells #[.slice none 0 0] 27 (0, 0)) (bo BK242.out) hb); replace HB := Aside0.mk (below_step bw hb); clear hb; have hcz46_0 := bc BK242 0 (.slice none 0 0); have hfz46_0 := blk_frozen BK242.out 0))
   refine bodyPost_ret (results_ct rfl _ _ gb242 27 #[.slice none 0 0] (0, 0) _ rfl (by (with_reducible repeat (first | refine blk_drewN ?_ _ | refine blk_drew ?_ | refine blk_alloc ?_ _)); refine blk_put (cs := #[.slice none 0 0]) ?_ 0 _ rfl; (with_reducible repeat (first | refine blk_drewN ?_ _ | refine blk_drew ?_ | refine blk_alloc ?_ _)); exact BK242.out) Try.underlying27 rfl (by kernel_rfl)) rfl ?_
   exact ⟨_, re, by first | exact Kd.R_nil _ _ _ _ _ | exact Kd.N_nil _ _ _ _ _ | exact Kd.V_nil _ _ _ _ _ | exact Kd.Q_nil _ _ _ _ _ | exact Kd.S_nil _ _ _ _ _, bw⟩
 ·simp only [Option.some.injEq, Prod.mk.injEq] at H
  obtain ⟨rfl, rfl⟩ := H
  go_enter Try.func55, Try.ntmps55
  go_wp2_with (first | ((with_reducible refine gate_dst (N := 2) rfl ?_); refine bx 2 #[.slice A0_0 l0_0.length c0_0] 27 ?_; intro gb240 hg w47 hbox hb; have BK240 := Aside0.mk (hbox); have GW240 := Aside0.mk (gs hg : w.heap.size ≤ gb240); have GE240 := Aside0.mk (gs hg : w.heap.size ≤ gb240); replace HB := Aside0.mk (below_step bw hb); clear hb hbox hg) | ((with_reducible refine gate_dst (N := 3) rfl ?_); refine bx 3 #[.slice A1_0 l1_0.length c1_0] 27 ?_; intro gb241 hg w48 hbox hb; have BK241 := Aside0.mk (hbox); have GW241 := Aside0.mk (gs hg : w.heap.size ≤ gb241); have GE241 := Aside0.mk (gs hg : w.heap.size ≤ gb241); replace HB := Aside0.mk (below_step bw hb); have NB240_241 := Aside0.mk ((by rw [hg]; exact Nat.ne_of_lt (blk_lt (g := gb240) (o := .cells #[.slice A0_0 l0_0.length c0_0] 27 (0, 0)) (bo BK240.out)) : gb240 ≠ gb241)); have NB241_240 := Aside0.mk ((by rw [hg]; exact Nat.ne_of_gt (blk_lt (g := gb240) (o := .cells #[.slice A0_0 l0_0.length c0_0] 27 (0, 0)) (bo BK240.out)) : gb241 ≠ gb240)); replace BK240 := Aside0.mk (blk_below (g := gb240) (o := .cells #[.slice A0_0 l0_0.length c0_0] 27 (0, 0)) (bo BK240.out) hb); clear hb hbox hg) | ((with_reducible refine gate_dst (N := 4) rfl ?_); refine bx 4 #[.slice none 0 0] 27 ?_; intro gb242 hg w49 hbox hb; have BK242 := Aside0.mk (hbox); have GW242 := Aside0.mk (gs hg : w.heap.size ≤ gb242); have GE242 := Aside0.mk (gs hg : w.heap.size ≤ gb242); replace HB := Aside0.mk (below_step bw hb); have NB240_242 := Aside0.mk ((by rw [hg]; exact Nat.ne_of_lt (blk_lt (g := gb240) (o := .cells #[.slice A0_0 l0_0.length c0_0] 27 (0, 0)) (bo BK240.out)) : gb240 ≠ gb242)); have NB242_240 := Aside0.mk ((by rw [hg]; exact Nat.ne_of_gt (blk_lt (g := gb240) (o := .cells #[.slice A0_0 l0_0.length c0_0] 27 (0, 0)) (bo BK240.out)) : gb242 ≠ gb240)); replace BK240 := Aside0.mk (blk_below (g := gb240) (o := .cells #[.slice A0_0 l0_0.length c0_0] 27 (0, 0)) (bo BK240.out) hb); have NB241_242 := Aside0.mk ((by rw [hg]; exact Nat.ne_of_lt (blk_lt (g := gb241) (o := .cells #[.slice A1_0 l1_0.length c1_0] 27 (0, 0)) (bo BK241.out)) : gb241 ≠ gb242)); have NB242_241 := Aside0.mk ((by rw [hg]; exact Nat.ne_of_gt (blk_lt (g := gb241) (o := .cells #[.slice A1_0 l1_0.length c1_0] 27 (0, 0)) (bo BK241.out)) : gb242 ≠ gb241)); replace BK241 := Aside0.mk (blk_below (g := gb241) (o := .cells #[.slice A1_0 l1_0.length c1_0] 27 (0, 0)) (bo BK241.out) hb); clear hb hbox hg; have hnb50 := NB240_241.out; have hnc50 := NB241_240.out; have hnb51 := NB240_242.out; have hnc51 := NB242_240.out; have hcz52_0 := bc BK240 0 (.slice A0_0 l0_0.length c0_0); have hfz52_0 := blk_frozen BK240.out 0) | ((with_reducible refine gate_callee (f := 58) rfl ?_); refine gl (some 9) Try.func58 #[.agg #[.slice A0_0 l0_0.length c0_0]] ?_; (with_reducible refine (spec_IsSemigroup.calls k _ _ l0_0 false _ ?side1 ?side2 A3.out).mono ?_); (case side1 => exact co (Kd.C_below HR0_0.out HB.out)); (case side2 => exact HC0_0.out); rintro e w53 ⟨rfl, hb⟩; refine ⟨_, rfl, ?_⟩; replace BK240 := Aside0.mk (blk_below (g := gb240) (o := .cells #[.slice A0_0 l0_0.length c0_0] 27 (0, 0)) (bo BK240.out) hb); replace BK241 := Aside0.mk (blk_below (g := gb241) (o := .cells #[.slice A1_0 l1_0.length c1_0] 27 (0, 0)) (bo BK241.out) hb); replace BK242 := Aside0.mk (blk_below (g := gb242) (o := .cells #[.slice none 0 0] 27 (0, 0)) (bo BK242.out) hb); replace HB := Aside0.mk (below_step bw hb); clear hb; have hnb54 := NB242_241.out; have hnc54 := NB241_242.out; have hcz55_0 := bc BK242 0 (.slice none 0 0); have hfz55_0 := blk_frozen BK242.out 0))
  refine bodyPost_ret (results_ct rfl _ _ gb242 27 #[.slice none 0 0] (0, 0) _ rfl (by (with_reducible repeat (first | refine blk_drewN ?_ _ | refine blk_drew ?_ | refine blk_alloc ?_ _)); refine blk_put (cs := #[.slice none 0 0]) ?_ 0 _ rfl; (with_reducible repeat (first | refine blk_drewN ?_ _ | refine blk_drew ?_ | refine blk_alloc ?_ _)); exact BK242.out) Try.underlying27 rfl (by kernel_rfl)) rfl ?_
  exact ⟨_, re, by first | exact Kd.R_nil _ _ _ _ _ | exact Kd.N_nil _ _ _ _ _ | exact Kd.V_nil _ _ _ _ _ | exact Kd.Q_nil _ _ _ _ _ | exact Kd.S_nil _ _ _ _ _, bw⟩


/-! ### slices_Sort_int_int: function 146 -/
def slices_Sort_int_int.f (l0 : List Int) : Option (List Int) := if l0.length < 4611686018427387904 then some (l0.mergeSort fun x y => decide (x ≤ y)) else none
theorem slices_Sort_int_int.calls (P0_ : Nat → Prop) (u9000_ : Value) (l0 : List Int) (r : List Int) (w0 w : World) (hB : Below w0.heap.size w0 w) (ho0 : Kd.R (Kd.int .i64) 3 w w0.heap.size P0_ u9000_ l0) (h : slices_Sort_int_int.f l0 = some r) :
  Calls Try.prog 146 #[u9000_] w fun e w' => e = .returned (.tuple #[]) ∧ Kd.R (Kd.int .i64) 3 w' w0.heap.size (fun k_ => (P0_ k_ ∨ w.heap.size ≤ k_)) u9000_ r ∧ Below w0.heap.size w0 w' ∧ Kept w w' (fun k_ => P0_ k_) := by
 unfold slices_Sort_int_int.f at h
 by_cases c : l0.length < 4611686018427387904
 rotate_left
 ·rw [if_neg c] at h
  cases h
 rw [if_pos c] at h
 obtain rfl := Option.some.inj h
 rcases (Kd.own_of_R ho0).2 with ⟨rfl, hn⟩ | ⟨g, cap, cur, rfl, hb, hg, h1, h2, h3, h4⟩
 ·have e0 : l0 = [] := List.eq_nil_of_length_eq_zero hn
  subst e0
  refine (Try.slices_Sort_int_none none 0 w).mono ?_
  rintro e w' ⟨rfl, rfl⟩
  exact ⟨rfl, by rw [List.mergeSort_nil]; exact Kd.R_mono ho0 (fun k hk => .inl hk), hB, Kept.refl _ _⟩
 ·have hl : g < w.heap.size := (Array.getElem?_eq_some_iff.1 hg).1
  refine (Try.slices_Sort_int g 0 cap l0 w (Go.holds_of_blockI hg (by rw [← Nat.mul_one l0.length]; exact h4)) hl c).mono ?_
  rintro e w' ⟨rfl, n, os, rfl⟩
  have hlen : (l0.mergeSort fun x y => decide (x ≤ y)).length = l0.length := List.length_mergeSort ..
  have hgr := Go.grownBy_sortedI (w := w) (g := g) (n := n) (os := os) (l0.mergeSort fun x y => decide (x ≤ y)).toArray
  exact ⟨rfl, Kd.R_of_own (by rw [hlen]; exact Go.ownsRow_sortedI (n := n) (os := os) hlen hb hg h1 h2 h3) (fun k hk => .inl (ho0.1 k hk)),
   ⟨hgr.os.trans hB.os, hgr.tape.trans hB.tape, hgr.output.trans hB.output, Nat.le_trans hB.size hgr.size, fun k hk => (hgr.block k (Nat.lt_of_lt_of_le hk hB.size) (fun e => by injection e with e; omega)).trans (hB.block k hk)⟩,
   ⟨hgr.size, fun i hi hP => hgr.block i hi (fun e => hP (ho0.1 i (by rw [e]; rfl)))⟩⟩


/-! ### slices_Compact_int_int: function 147 -/
def slices_Compact_int_int.f (l0 : List Int) : Option (List Int) := if l0.length ≤ 9223372036854775807 then some (Go.Lib.compact l0) else none
theorem slices_Compact_int_int.calls (P0_ : Nat → Prop) (u9000_ : Value) (l0 : List Int) (r : List Int) (w0 w : World) (hB : Below w0.heap.size w0 w) (ho0 : Kd.R (Kd.int .i64) 3 w w0.heap.size P0_ u9000_ l0) (h : slices_Compact_int_int.f l0 = some r) :
  Calls Try.prog 147 #[u9000_] w fun e w' => ∃ v0_ : Value, e = .returned (v0_) ∧ Kd.R (Kd.int .i64) 3 w' w0.heap.size (fun k_ => (P0_ k_ ∨ w.heap.size ≤ k_)) v0_ r ∧ Below w0.heap.size w0 w' ∧ Kept w w' (fun k_ => P0_ k_) := by
 unfold slices_Compact_int_int.f at h
 by_cases c : l0.length ≤ 9223372036854775807
 rotate_left
 ·rw [if_neg c] at h
  cases h
 rw [if_pos c] at h
 obtain rfl := Option.some.inj h
 rcases (Kd.own_of_R ho0).2 with ⟨rfl, hn⟩ | ⟨g, cap, cur, rfl, hb, hg, h1, h2, h3, h4⟩
 ·have e0 : l0 = [] := List.eq_nil_of_length_eq_zero hn
  subst e0
  refine (Try.slices_Compact_int_empty none 0 w).mono ?_
  rintro e w' ⟨rfl, rfl⟩
  exact ⟨_, rfl, Kd.R_mono (show Kd.R (Kd.int .i64) 3 w' w0.heap.size P0_ (.slice none 0 0) (Go.Lib.compact []) from ho0) (fun k hk => .inl hk), hB, Kept.refl _ _⟩
 ·have hl : g < w.heap.size := (Array.getElem?_eq_some_iff.1 hg).1
  refine (Try.slices_Compact_int g 0 cap l0 w (Go.holds_of_blockI hg (by rw [← Nat.mul_one l0.length]; exact h4)) c h1).mono ?_
  rintro e w' ⟨rfl, q, rfl⟩
  have hk : (Go.Lib.compact l0).length ≤ l0.length := by
   unfold Go.Lib.compact Go.Lib.compactUpTo
   rw [List.length_map]
   exact Nat.le_trans (List.length_filter_le ..) (by rw [List.length_range]; exact Nat.le_refl _)
  have hgr := Go.grownBy_sortedI (w := w) (g := g) (n := q) (os := #[]) (Go.Lib.compact l0 ++ List.replicate (l0.length - (Go.Lib.compact l0).length) 0).toArray
  rw [Go.Sort.grow_empty] at hgr
  have hr := Go.Lib.ownsRow_putRow (q := q) (k := (Go.Lib.compact l0).length) (Kd.own_of_R ho0) (ys := Go.Lib.compact l0 ++ List.replicate (l0.length - (Go.Lib.compact l0).length) 0) (by rw [List.length_append, List.length_replicate]; omega) hk
  rw [List.take_left] at hr
  exact ⟨_, rfl, Kd.R_of_own hr (fun k hk => .inl (ho0.1 k hk)),
   ⟨hgr.os.trans hB.os, hgr.tape.trans hB.tape, hgr.output.trans hB.output, Nat.le_trans hB.size hgr.size, fun k hk => (hgr.block k (Nat.lt_of_lt_of_le hk hB.size) (fun e => by injection e with e; omega)).trans (hB.block k hk)⟩,
   ⟨hgr.size, fun i hi hP => hgr.block i hi (fun e => hP (ho0.1 i (by rw [e]; rfl)))⟩⟩

end Go.Proofs.Ytlfdipnhlmjiaaa.C
