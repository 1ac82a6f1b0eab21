/- Contracts of functions of the program: spec_AddOf. -/
import Derived.Test.YtkfplkdchkmgbaaC0
import Derived.Test.YtkfplkdchkmgbaaC3
import Derived.Test.YtkfplkdchkmgbaaC4
namespace Go.Proofs.Ytkfplkdchkmgbaa.C
open Go.RowKit Go.Proofs.YtkfplkdchkmgbaaW.PrintWords Go.Proofs.YtkfplkdchkmgbaaW.PrintLast Go.Proofs.YtkfplkdchkmgbaaW.PrintMore
attribute [local go_sem] max2_int min2_int max_two min_two max_three min_three max_four min_four
set_option linter.unusedVariables false
set_option linter.unusedSimpArgs false

/-! ### spec_AddOf: function 113 -/
def spec_AddOf.f (k : Nat) (l0_0 : List Int) (l1_0 : List Int) : Option (List Int × Bool) := (spec_IsSemigroup.f k l0_0).bind fun t760 => (if t760 = true then ((spec_IsSemigroup.f k l1_0).bind fun t761 => (if t761 = true then ((some (([] : List Int) : List Int)).bind fun y762 => (if y762.length + l0_0.length < 17592186044416 then ((some (y762 ++ l0_0 : List Int)).bind fun y765 => (if y765.length + l1_0.length < 17592186044416 then ((spec_FromGens.f k (y765 ++ l1_0)).bind fun bt771 => (some (bt771.1, bt771.2))) else (none))) else (none))) else (some (([] : List Int), false)))) else (some (([] : List Int), false)))
def spec_AddOf.T3 : Bool × List (List Nat × List Nat) := (true, [([], []), ([], []), ([1], [1]), ([0, 2], [0, 2]), ([], []), ([4], [4]), ([3, 5, 3], [3, 5]), ([6, 6], [6]), ([7], [7]), ([8], [8]), ([8], [8]), ([], []), ([11, 9, 7, 0, 1, 2, 3, 4, 5, 6, 7, 8, 9, 11], [9, 11]), ([10, 12, 0, 1, 2, 3, 4, 5, 6, 7, 8, 9, 10, 11, 12], [10])])
def spec_AddOf.B3 : List Nat := [0, 0, 2, 7, 0, 16, 63, 127, 255, 511, 511, 0, 3071, 8191]
theorem spec_AddOf.tab3 : rtab .any (opsOf Try.f113 3) = spec_AddOf.T3 := by kernel_rfl
theorem spec_AddOf.bits3 : waitsOk spec_AddOf.T3.2 spec_AddOf.B3 = true := by kernel_rfl
set_option maxHeartbeats 8000000 in
set_option maxRecDepth 100000 in
theorem spec_AddOf.calls (k : Nat) (A0_0 : Option Addr) (c0_0 : Nat) (l0_0 : List Int) (A1_0 : Option Addr) (c1_0 : Nat) (l1_0 : List Int) (r1 : List Int) (r2 : Bool) (w : World) (hr0_0 : Kd.C (Kd.int .i64) w A0_0 l0_0.length l0_0) (hc0_0 : l0_0.length ≤ c0_0) (hr1_0 : Kd.C (Kd.int .i64) w A1_0 l1_0.length l1_0) (hc1_0 : l1_0.length ≤ c1_0) (h : spec_AddOf.f k l0_0 l1_0 = some (r1, r2)) :
  Calls Try.prog 113 #[.agg #[.slice A0_0 l0_0.length c0_0], .agg #[.slice A1_0 l1_0.length c1_0]] w fun e w' => ∃ v0_ : Value, e = .returned (.tuple #[.agg #[v0_], .bool r2]) ∧ Kd.R (Kd.int .i64) 3 w' w.heap.size (fun _ => True) v0_ r1 ∧ Below w.heap.size w w' := by
 have hu26 := Try.underlying26
 have HR0_0 := am hr0_0
 have HC0_0 := am hc0_0
 clear hr0_0 hc0_0
 have HR1_0 := am hr1_0
 have HC1_0 := am hc1_0
 clear hr1_0 hc1_0
 have HB := am (Below.refl w.heap.size w)
 have H : ((spec_IsSemigroup.f k l0_0).bind fun t760 => (if t760 = true then ((spec_IsSemigroup.f k l1_0).bind fun t761 => (if t761 = true then ((some (([] : List Int) : List Int)).bind fun y762 => (if y762.length + l0_0.length < 17592186044416 then ((some (y762 ++ l0_0 : List Int)).bind fun y765 => (if y765.length + l1_0.length < 17592186044416 then ((spec_FromGens.f k (y765 ++ l1_0)).bind fun bt771 => (some (bt771.1, bt771.2))) else (none))) else (none))) else (some (([] : List Int), false)))) else (some (([] : List Int), false)))) = some (r1, r2) := h
 clear h
 replace H := ga H; obtain ⟨t760, A3, H⟩ := H
 replace H := gb H; obtain ⟨rfl, H⟩ | ⟨rfl, H⟩ := H
 ·replace H := ga H; obtain ⟨t761, A5, H⟩ := H
  replace H := gb H; obtain ⟨rfl, H⟩ | ⟨rfl, H⟩ := H
  ·obtain ⟨y762, hy762⟩ : ∃ y_ : List Int, y_ = (([] : List Int)) := ⟨_, rfl⟩
   replace H : (if y762.length + l0_0.length < 17592186044416 then ((some (y762 ++ l0_0 : List Int)).bind fun y765 => (if y765.length + l1_0.length < 17592186044416 then ((spec_FromGens.f k (y765 ++ l1_0)).bind fun bt771 => (some (bt771.1, bt771.2))) else (none))) else (none)) = some (r1, r2) := by first | (rw [hy762]; with_reducible first | exact H | exact bs H) | (with_reducible first | exact bs H | exact H) | (rw [hy762]; exact H) | exact H
   have Ny762 := am hy762
   clear hy762
   by_cases c7 : y762.length + l0_0.length < 17592186044416
   rotate_left
   ·rw [if_neg c7] at H
    exact absurd H (by simp)
   rw [if_pos c7] at H
   have LMc7 := am c7
   clear c7
   obtain ⟨y765, hy765⟩ : ∃ y_ : List Int, y_ = (y762 ++ l0_0) := ⟨_, rfl⟩
   replace H : (if y765.length + l1_0.length < 17592186044416 then ((spec_FromGens.f k (y765 ++ l1_0)).bind fun bt771 => (some (bt771.1, bt771.2))) else (none)) = some (r1, r2) := by first | (rw [hy765]; with_reducible first | exact H | exact bs H) | (with_reducible first | exact bs H | exact H) | (rw [hy765]; exact H) | exact H
   have Ny765 := am hy765
   clear hy765
   by_cases c8 : y765.length + l1_0.length < 17592186044416
   rotate_left
   ·rw [if_neg c8] at H
    exact absurd H (by simp)
   rw [if_pos c8] at H
   have LMc8 := am c8
   clear c8
   obtain ⟨y768, hy768⟩ : ∃ y_ : List Int, y_ = (y765 ++ l1_0) := ⟨_, rfl⟩
   replace H : ((spec_FromGens.f k y768).bind fun bt771 => (some (bt771.1, bt771.2))) = some (r1, r2) := by first | (rw [hy768]; with_reducible first | exact H | exact bs H) | (with_reducible first | exact bs H | exact H) | (rw [hy768]; exact H) | exact H
   have Ny768 := am hy768
   clear hy768
   replace H := ga H; obtain ⟨⟨t771, t774⟩, A9, H⟩ := H
   replace H : (some (t771, t774)) = some (r1, r2) := H
   simp only [Option.some.injEq, Prod.mk.injEq] at H
   obtain ⟨rfl, rfl⟩ := H
   go_enter Try.func113, Try.ntmps113
   try go_wp2_with (first | ((with_reducible refine gate_dst (N := 2) rfl ?_); refine bx 2 #[.slice A0_0 l0_0.length c0_0] 26 ?_; intro gb757 hg w10 hbox hb; have BK757 := am (hbox); have GW757 := am (gs hg : w.heap.size ≤ gb757); have GE757 := GW757; replace HB := am (below_step bw hb); clear hb hbox hg) | ((with_reducible refine gate_dst (N := 3) rfl ?_); refine bx 3 #[.slice A1_0 l1_0.length c1_0] 26 ?_; intro gb758 hg w11 hbox hb; have BK758 := am (hbox); have GW758 := am (gs hg : w.heap.size ≤ gb758); have GE758 := GW758; replace HB := am (below_step bw hb); have NB757_758 := nl hg BK757; have NB758_757 := ns NB757_758; replace BK757 := kb BK757 hb; clear hb hbox hg) | ((with_reducible refine gate_dst (N := 4) rfl ?_); refine bx 4 #[.slice none 0 0] 26 ?_; intro gb759 hg w12 hbox hb; have BK759 := am (hbox); have GW759 := am (gs hg : w.heap.size ≤ gb759); have GE759 := GW759; replace HB := am (below_step bw hb); have NB757_759 := nl hg BK757; have NB759_757 := ns NB757_759; replace BK757 := kb BK757 hb; have NB758_759 := nl hg BK758; have NB759_758 := ns NB758_759; replace BK758 := kb BK758 hb; clear hb hbox hg; have hnb13 := NB757_758.out; have hnc13 := NB758_757.out; have hnb14 := NB757_759.out; have hnc14 := NB759_757.out; have hcz15_0 := bc BK757 0 (.slice A0_0 l0_0.length c0_0); have hfz15_0 := blk_frozen BK757.out 0) | ((with_reducible refine gate_callee (f := 23) rfl ?_); refine gl (some 9) Try.func23 #[.agg #[.slice A0_0 l0_0.length c0_0]] ?_; (with_reducible refine (spec_IsSemigroup.calls k _ _ l0_0 true _ ?side1 ?side2 A3.out).mono ?_); (case side1 => exact co (Kd.C_below HR0_0.out HB.out)); (case side2 => exact HC0_0.out); rintro e w16 ⟨rfl, hb⟩; refine ⟨_, rfl, ?_⟩; replace BK757 := kb BK757 hb; replace BK758 := kb BK758 hb; replace BK759 := kb BK759 hb; replace HB := am (below_step bw hb); clear hb; have hnb17 := NB758_759.out; have hnc17 := NB759_758.out; have hcz18_0 := bc BK758 0 (.slice A1_0 l1_0.length c1_0); have hfz18_0 := blk_frozen BK758.out 0) | (go_at_call 23; (with_reducible refine (spec_IsSemigroup.calls k _ _ l1_0 true _ ?side1 ?side2 A5.out).mono ?_); (case side1 => exact co (Kd.C_below HR1_0.out HB.out)); (case side2 => exact HC1_0.out); rintro e w19 ⟨rfl, hb⟩; replace BK757 := kb BK757 hb; replace BK758 := kb BK758 hb; replace BK759 := kb BK759 hb; replace HB := am (below_step bw hb); clear hb))
   replace BK757 := bd BK757
   replace BK758 := bd BK758
   replace BK759 := bd BK759
   replace HB := am (below_drew1 HB.out)
   refine start_ (n := 14) (S := fun w' => w'.cell? ⟨gb757, 0, none⟩ = some (.slice A0_0 l0_0.length c0_0) ∧ w'.cell? ⟨gb758, 0, none⟩ = some (.slice A1_0 l1_0.length c1_0)) (ds := []) (yz 14 0) (by kernel_rfl) rfl rfl ⟨bc BK757 0 _, bc BK758 0 _⟩ (fun hHeld => ?_); refine with_tabW spec_AddOf.tab3 spec_AddOf.bits3 (fun HT_ HW_ => ?_)
   generalize w19.drew = w20 at BK757 BK758 BK759 HB hHeld ⊢
   refine pa 1 (some 19) (yz 14 2) HT_ ?_
   refine pa 4 (some 22) (yz 14 18) HT_ ?_
   refine tk 2 (some 20) (yz 14 22) HT_ HW_ hHeld ?_
   refine tk 5 (some 23) (yz 14 54) HT_ HW_ hHeld ?_
   refine join_ (σ := Value × Value × Value × Value × Nat) 2 (yz 14 4095) (fun s_ => [(18, s_.1), (21, s_.2.1), (24, s_.2.2.1), (25, .tuple #[.agg #[s_.2.2.2.1], .bool t774]), (6, .pointer (some ⟨s_.2.2.2.2, 0, none⟩)), (17, .tuple #[.agg #[s_.2.2.2.1], .bool t774]), (26, .agg #[s_.2.2.2.1]), (27, .bool t774)]) (fun s_ w' => (w'.cell? ⟨gb757, 0, none⟩ = some (.slice A0_0 l0_0.length c0_0) ∧ w'.cell? ⟨gb758, 0, none⟩ = some (.slice A1_0 l1_0.length c1_0)) ∧ (Kd.R (Kd.int .i64) 3 w' w.heap.size (fun k_ => some k_ ≠ (s_.2.2.2.1 : Value).ownBlock) s_.2.2.1 y768) ∧ (Kd.R (Kd.int .i64) 3 w' w.heap.size (fun k_ => some k_ ≠ (s_.2.2.1 : Value).ownBlock) s_.2.2.2.1 t771) ∧ (w'.heap[gb757]? = some (.cells #[.slice A0_0 l0_0.length c0_0] 26 (0, 0))) ∧ (w'.heap[gb758]? = some (.cells #[.slice A1_0 l1_0.length c1_0] 26 (0, 0))) ∧ (w'.heap[gb759]? = some (.cells #[.slice none 0 0] 26 (0, 0))) ∧ (w'.heap[s_.2.2.2.2]? = some (.cells #[.slice none 0 0] 26 (0, 0))) ∧ (w.heap.size ≤ s_.2.2.2.2) ∧ (w.heap.size ≤ s_.2.2.2.2) ∧ (gb757 ≠ s_.2.2.2.2) ∧ (s_.2.2.2.2 ≠ gb757) ∧ (gb758 ≠ s_.2.2.2.2) ∧ (s_.2.2.2.2 ≠ gb758) ∧ (gb759 ≠ s_.2.2.2.2) ∧ (s_.2.2.2.2 ≠ gb759) ∧ (Below w.heap.size w w')) ?_ ?_
   rotate_left
   ·intro hJ0_3_6_7_11
    refine join_ (σ := Value × Value × Value × Value) 3 (yz 14 2047) (fun s_ => [(18, s_.1), (21, s_.2.1), (24, s_.2.2.1), (25, .tuple #[.agg #[s_.2.2.2], .bool t774]), (17, .tuple #[.agg #[s_.2.2.2], .bool t774]), (26, .agg #[s_.2.2.2]), (27, .bool t774)]) (fun s_ w' => (w'.cell? ⟨gb757, 0, none⟩ = some (.slice A0_0 l0_0.length c0_0) ∧ w'.cell? ⟨gb758, 0, none⟩ = some (.slice A1_0 l1_0.length c1_0)) ∧ (Kd.R (Kd.int .i64) 3 w' w.heap.size (fun k_ => some k_ ≠ (s_.2.2.2 : Value).ownBlock) s_.2.2.1 y768) ∧ (Kd.R (Kd.int .i64) 3 w' w.heap.size (fun k_ => some k_ ≠ (s_.2.2.1 : Value).ownBlock) s_.2.2.2 t771) ∧ (w'.heap[gb757]? = some (.cells #[.slice A0_0 l0_0.length c0_0] 26 (0, 0))) ∧ (w'.heap[gb758]? = some (.cells #[.slice A1_0 l1_0.length c1_0] 26 (0, 0))) ∧ (w'.heap[gb759]? = some (.cells #[.slice none 0 0] 26 (0, 0))) ∧ (Below w.heap.size w w')) ?_ ?_
    rotate_left
    ·intro hJ0_3_6_7
     refine join_ (σ := Value × Value × Value × Nat) 6 (yz 14 2175) (fun s_ => [(18, s_.1), (21, s_.2.1), (24, s_.2.2.1), (6, .pointer (some ⟨s_.2.2.2, 0, none⟩))]) (fun s_ w' => (w'.cell? ⟨gb757, 0, none⟩ = some (.slice A0_0 l0_0.length c0_0) ∧ w'.cell? ⟨gb758, 0, none⟩ = some (.slice A1_0 l1_0.length c1_0)) ∧ (Kd.R (Kd.int .i64) 3 w' w.heap.size (fun _ => True) s_.2.2.1 y768) ∧ (w'.heap[gb757]? = some (.cells #[.slice A0_0 l0_0.length c0_0] 26 (0, 0))) ∧ (w'.heap[gb758]? = some (.cells #[.slice A1_0 l1_0.length c1_0] 26 (0, 0))) ∧ (w'.heap[gb759]? = some (.cells #[.slice none 0 0] 26 (0, 0))) ∧ (w'.heap[s_.2.2.2]? = some (.cells #[.slice none 0 0] 26 (0, 0))) ∧ (w.heap.size ≤ s_.2.2.2) ∧ (w.heap.size ≤ s_.2.2.2) ∧ (gb757 ≠ s_.2.2.2) ∧ (s_.2.2.2 ≠ gb757) ∧ (gb758 ≠ s_.2.2.2) ∧ (s_.2.2.2 ≠ gb758) ∧ (gb759 ≠ s_.2.2.2) ∧ (s_.2.2.2 ≠ gb759) ∧ (Below w.heap.size w w')) ?_ ?_
     rotate_left
     ·intro hJ0_3_6_11
      refine join_ (σ := Value × Value × Value) 7 (yz 14 127) (fun s_ => [(18, s_.1), (21, s_.2.1), (24, s_.2.2)]) (fun s_ w' => (w'.cell? ⟨gb757, 0, none⟩ = some (.slice A0_0 l0_0.length c0_0) ∧ w'.cell? ⟨gb758, 0, none⟩ = some (.slice A1_0 l1_0.length c1_0)) ∧ (Kd.R (Kd.int .i64) 3 w' w.heap.size (fun _ => True) s_.2.2 y768) ∧ (w'.heap[gb757]? = some (.cells #[.slice A0_0 l0_0.length c0_0] 26 (0, 0))) ∧ (w'.heap[gb758]? = some (.cells #[.slice A1_0 l1_0.length c1_0] 26 (0, 0))) ∧ (w'.heap[gb759]? = some (.cells #[.slice none 0 0] 26 (0, 0))) ∧ (Below w.heap.size w w')) ?_ ?_
      rotate_left
      ·intro hJ0_3_6
       refine join_ (σ := Value × Value × Nat) 7 (yz 14 2111) (fun s_ => [(18, s_.1), (21, s_.2.1), (6, .pointer (some ⟨s_.2.2, 0, none⟩))]) (fun s_ w' => (w'.cell? ⟨gb757, 0, none⟩ = some (.slice A0_0 l0_0.length c0_0) ∧ w'.cell? ⟨gb758, 0, none⟩ = some (.slice A1_0 l1_0.length c1_0)) ∧ (Kd.R (Kd.int .i64) 3 w' w.heap.size (fun _ => True) s_.2.1 y765) ∧ (w'.heap[gb757]? = some (.cells #[.slice A0_0 l0_0.length c0_0] 26 (0, 0))) ∧ (w'.heap[gb758]? = some (.cells #[.slice A1_0 l1_0.length c1_0] 26 (0, 0))) ∧ (w'.heap[gb759]? = some (.cells #[.slice none 0 0] 26 (0, 0))) ∧ (w'.heap[s_.2.2]? = some (.cells #[.slice none 0 0] 26 (0, 0))) ∧ (w.heap.size ≤ s_.2.2) ∧ (w.heap.size ≤ s_.2.2) ∧ (gb757 ≠ s_.2.2) ∧ (s_.2.2 ≠ gb757) ∧ (gb758 ≠ s_.2.2) ∧ (s_.2.2 ≠ gb758) ∧ (gb759 ≠ s_.2.2) ∧ (s_.2.2 ≠ gb759) ∧ (Below w.heap.size w w')) ?_ ?_
       rotate_left
       ·intro hJ0_3_11
        refine join_ (σ := Value × Value) 8 (yz 14 63) (fun s_ => [(18, s_.1), (21, s_.2)]) (fun s_ w' => (w'.cell? ⟨gb757, 0, none⟩ = some (.slice A0_0 l0_0.length c0_0) ∧ w'.cell? ⟨gb758, 0, none⟩ = some (.slice A1_0 l1_0.length c1_0)) ∧ (Kd.R (Kd.int .i64) 3 w' w.heap.size (fun _ => True) s_.2 y765) ∧ (w'.heap[gb757]? = some (.cells #[.slice A0_0 l0_0.length c0_0] 26 (0, 0))) ∧ (w'.heap[gb758]? = some (.cells #[.slice A1_0 l1_0.length c1_0] 26 (0, 0))) ∧ (w'.heap[gb759]? = some (.cells #[.slice none 0 0] 26 (0, 0))) ∧ (Below w.heap.size w w')) ?_ ?_
        rotate_left
        ·intro hJ0_3
         refine join_ (σ := Value × Nat) 8 (yz 14 2103) (fun s_ => [(18, s_.1), (6, .pointer (some ⟨s_.2, 0, none⟩))]) (fun s_ w' => (w'.cell? ⟨gb757, 0, none⟩ = some (.slice A0_0 l0_0.length c0_0) ∧ w'.cell? ⟨gb758, 0, none⟩ = some (.slice A1_0 l1_0.length c1_0)) ∧ (Kd.R (Kd.int .i64) 3 w' w.heap.size (fun _ => True) s_.1 y762) ∧ (w'.heap[gb757]? = some (.cells #[.slice A0_0 l0_0.length c0_0] 26 (0, 0))) ∧ (w'.heap[gb758]? = some (.cells #[.slice A1_0 l1_0.length c1_0] 26 (0, 0))) ∧ (w'.heap[gb759]? = some (.cells #[.slice none 0 0] 26 (0, 0))) ∧ (w'.heap[s_.2]? = some (.cells #[.slice none 0 0] 26 (0, 0))) ∧ (w.heap.size ≤ s_.2) ∧ (w.heap.size ≤ s_.2) ∧ (gb757 ≠ s_.2) ∧ (s_.2 ≠ gb757) ∧ (gb758 ≠ s_.2) ∧ (s_.2 ≠ gb758) ∧ (gb759 ≠ s_.2) ∧ (s_.2 ≠ gb759) ∧ (Below w.heap.size w w')) ?_ ?_
         rotate_left
         ·intro hJ0_11
          refine join_ (σ := Value) 9 (yz 14 55) (fun s_ => [(18, s_)]) (fun s_ w' => (w'.cell? ⟨gb757, 0, none⟩ = some (.slice A0_0 l0_0.length c0_0) ∧ w'.cell? ⟨gb758, 0, none⟩ = some (.slice A1_0 l1_0.length c1_0)) ∧ (Kd.R (Kd.int .i64) 3 w' w.heap.size (fun _ => True) s_ y762) ∧ (w'.heap[gb757]? = some (.cells #[.slice A0_0 l0_0.length c0_0] 26 (0, 0))) ∧ (w'.heap[gb758]? = some (.cells #[.slice A1_0 l1_0.length c1_0] 26 (0, 0))) ∧ (w'.heap[gb759]? = some (.cells #[.slice none 0 0] 26 (0, 0))) ∧ (Below w.heap.size w w')) ?_ ?_
          rotate_left
          ·intro hJ0
           refine join_ (σ := Nat) 9 (yz 14 2102) (fun s_ => [(6, .pointer (some ⟨s_, 0, none⟩))]) (fun s_ w' => (w'.cell? ⟨gb757, 0, none⟩ = some (.slice A0_0 l0_0.length c0_0) ∧ w'.cell? ⟨gb758, 0, none⟩ = some (.slice A1_0 l1_0.length c1_0)) ∧ (w'.heap[gb757]? = some (.cells #[.slice A0_0 l0_0.length c0_0] 26 (0, 0))) ∧ (w'.heap[gb758]? = some (.cells #[.slice A1_0 l1_0.length c1_0] 26 (0, 0))) ∧ (w'.heap[gb759]? = some (.cells #[.slice none 0 0] 26 (0, 0))) ∧ (w'.heap[s_]? = some (.cells #[.slice none 0 0] 26 (0, 0))) ∧ (w.heap.size ≤ s_) ∧ (w.heap.size ≤ s_) ∧ (gb757 ≠ s_) ∧ (s_ ≠ gb757) ∧ (gb758 ≠ s_) ∧ (s_ ≠ gb758) ∧ (gb759 ≠ s_) ∧ (s_ ≠ gb759) ∧ (Below w.heap.size w w')) ?_ ?_
           rotate_left
           ·intro hJ11
            refine two_ (i := 0) (j := 11) (Ni := some 18) (Nj := some 6) (yz 14 55) (yz 14 2102) rfl rfl rfl rfl (two_of HT_.out (by kernel_rfl)) (by decide) (by decide) (fun K hK => ?_) (fun K hK => ?_)
            ·skip
             refine Kd.R_lit_step (Kd.int .i64) _ 3 ?hg (N := 18) ?hd (xs := ([] : List Int)) (inner := []) (ok := fun _ => True) (okp := fun _ => True) ?hr ?hp (fun _ hk => hk) trivial (Below.refl _ _) (Nat.le_refl _) (by simp) ?_; (case hd => rfl); (case hg => rfl); (case hr => first | (go_simp; done) | (go_simp; rfl)); (case hp => exact (Reps.none _ _))
             intro v763 w21 ho22 hb hg_ hnew_
             clear hg_ hnew_
             (first | rw [← Ny762.out] at ho22 | (simp only [Int.reduceToNat] at ho22; rw [← Ny762.out] at ho22))
             have HO764 := am (Kd.R_lower ho22 (below_size bw))
             replace BK757 := kb BK757 hb
             replace BK758 := kb BK758 hb
             replace BK759 := kb BK759 hb
             replace HB := am (below_step bw hb)
             clear hb ho22
             refine hK.out _ _ ⟨bc BK757 0 _, bc BK758 0 _⟩ (fun hHeld => ?_)
             clear hK K
             refine nm (some 18) ?_
             exact norm_ (by first | (simp only [putAll, Act.put, List.setIfInBounds_toArray, List.set_cons_zero, List.set_cons_succ]; done) | (simp only [putAll, Act.put, List.setIfInBounds_toArray, List.set_cons_zero, List.set_cons_succ]; rfl)) (hJ0 (v763) _ ⟨hHeld, (ro HO764.out), (bo BK757.out), (bo BK758.out), (bo BK759.out), bw⟩)
            skip
            refine box_step ?hg (N := 6) ?hd (cs := #[.slice none 0 0]) (t := 26) ?hr ?_; (case hd => rfl); (case hg => rfl); (case hr => first | (go_simp; done) | (go_simp; rfl))
            intro gb775 hg w21 hbox hb
            have BK775 := am (hbox)
            have GW775 := am (gs hg : w.heap.size ≤ gb775)
            have GE775 := am (gs hg : w.heap.size ≤ gb775)
            replace HB := am (below_step bw hb)
            have NB757_775 := nl hg BK757
            have NB775_757 := ng hg BK757
            replace BK757 := kb BK757 hb
            have NB758_775 := nl hg BK758
            have NB775_758 := ng hg BK758
            replace BK758 := kb BK758 hb
            have NB759_775 := nl hg BK759
            have NB775_759 := ng hg BK759
            replace BK759 := kb BK759 hb
            clear hb hbox hg
            refine hK.out _ _ ⟨bc BK757 0 _, bc BK758 0 _⟩ (fun hHeld => ?_)
            clear hK K
            refine nm (some 6) ?_
            exact norm_ (by first | (simp only [putAll, Act.put, List.setIfInBounds_toArray, List.set_cons_zero, List.set_cons_succ]; done) | (simp only [putAll, Act.put, List.setIfInBounds_toArray, List.set_cons_zero, List.set_cons_succ]; rfl)) (hJ11 (gb775) _ ⟨hHeld, (bo BK757.out), (bo BK758.out), (bo BK759.out), (bo BK775.out), GW775.out, GE775.out, NB757_775.out, NB775_757.out, NB758_775.out, NB775_758.out, NB759_775.out, NB775_759.out, bw⟩)
           skip
           rintro gb775 w22 ⟨hS_, h0_, h1_, h2_, h3_, h4_, h5_, h6_, h7_, h8_, h9_, h10_, h11_, h12_⟩
           have n0_ : Aside0 (w22.heap[gb757]? = some (.cells #[.slice A0_0 l0_0.length c0_0] 26 (0, 0))) := ⟨h0_⟩
           have n1_ : Aside0 (w22.heap[gb758]? = some (.cells #[.slice A1_0 l1_0.length c1_0] 26 (0, 0))) := ⟨h1_⟩
           have n2_ : Aside0 (w22.heap[gb759]? = some (.cells #[.slice none 0 0] 26 (0, 0))) := ⟨h2_⟩
           have n3_ : Aside0 (w22.heap[gb775]? = some (.cells #[.slice none 0 0] 26 (0, 0))) := ⟨h3_⟩
           have n4_ : Aside0 (w.heap.size ≤ gb775) := ⟨h4_⟩
           have n5_ : Aside0 (w.heap.size ≤ gb775) := ⟨h5_⟩
           have n6_ : Aside0 (gb757 ≠ gb775) := ⟨h6_⟩
           have n7_ : Aside0 (gb775 ≠ gb757) := ⟨h7_⟩
           have n8_ : Aside0 (gb758 ≠ gb775) := ⟨h8_⟩
           have n9_ : Aside0 (gb775 ≠ gb758) := ⟨h9_⟩
           have n10_ : Aside0 (gb759 ≠ gb775) := ⟨h10_⟩
           have n11_ : Aside0 (gb775 ≠ gb759) := ⟨h11_⟩
           have n12_ : Aside0 (Below w.heap.size w w22) := ⟨h12_⟩
           clear BK757
           clear BK758
           clear BK759
           clear HB
           clear h0_ h1_ h2_ h3_ h4_ h5_ h6_ h7_ h8_ h9_ h10_ h11_ h12_
           have BK757 := n0_
           have BK758 := n1_
           have BK759 := n2_
           have BK775 := n3_
           have GW775 := n4_
           have GE775 := n5_
           have NB757_775 := n6_
           have NB775_757 := n7_
           have NB758_775 := n8_
           have NB775_758 := n9_
           have NB759_775 := n10_
           have NB775_759 := n11_
           have HB := n12_
           clear n0_ n1_ n2_ n3_ n4_ n5_ n6_ n7_ n8_ n9_ n10_ n11_ n12_
           have hHeld : w22.cell? ⟨gb757, 0, none⟩ = some (.slice A0_0 l0_0.length c0_0) ∧ w22.cell? ⟨gb758, 0, none⟩ = some (.slice A1_0 l1_0.length c1_0) := hS_
           refine norm_ (a' := ?_) ?_ ?_
           rotate_left
           ·simp only [putAll, Act.put, List.setIfInBounds_toArray, List.set_cons_zero, List.set_cons_succ]
            rfl
           refine oa 0 (some 18) (yz 14 2103) HT_ (fun K hK => ?_)
           refine Kd.R_lit_step (Kd.int .i64) _ 3 ?hg (N := 18) ?hd (xs := ([] : List Int)) (inner := []) (ok := fun _ => True) (okp := fun _ => True) ?hr ?hp (fun _ hk => hk) trivial (Below.refl _ _) (Nat.le_refl _) (by simp) ?_; (case hd => rfl); (case hg => rfl); (case hr => first | (go_simp; done) | (go_simp; rfl)); (case hp => exact (Reps.none _ _))
           intro v763 w23 ho24 hb hg_ hnew_
           clear hg_ hnew_
           (first | rw [← Ny762.out] at ho24 | (simp only [Int.reduceToNat] at ho24; rw [← Ny762.out] at ho24))
           have HO764 := am (Kd.R_lower ho24 (below_size bw))
           replace BK757 := kb BK757 hb
           replace BK758 := kb BK758 hb
           replace BK759 := kb BK759 hb
           replace BK775 := kb BK775 hb
           replace HB := am (below_step bw hb)
           clear hb ho24
           refine hK.out _ _ ⟨bc BK757 0 _, bc BK758 0 _⟩ (fun hHeld => ?_)
           clear hK K
           refine nm (some 18) ?_
           exact norm_ (by first | (simp only [putAll, Act.put, List.setIfInBounds_toArray, List.set_cons_zero, List.set_cons_succ]; done) | (simp only [putAll, Act.put, List.setIfInBounds_toArray, List.set_cons_zero, List.set_cons_succ]; rfl)) (hJ0_11 (v763, gb775) _ ⟨hHeld, (ro HO764.out), (bo BK757.out), (bo BK758.out), (bo BK759.out), (bo BK775.out), GW775.out, GE775.out, NB757_775.out, NB775_757.out, NB758_775.out, NB775_758.out, NB759_775.out, NB775_759.out, bw⟩)
          skip
          rintro v763 w23 ⟨hS_, h0_, h1_, h2_, h3_, h4_⟩
          have n0_ : Aside0 (Kd.R (Kd.int .i64) 3 w23 w.heap.size (fun _ => True) v763 y762) := ⟨h0_⟩
          have n1_ : Aside0 (w23.heap[gb757]? = some (.cells #[.slice A0_0 l0_0.length c0_0] 26 (0, 0))) := ⟨h1_⟩
          have n2_ : Aside0 (w23.heap[gb758]? = some (.cells #[.slice A1_0 l1_0.length c1_0] 26 (0, 0))) := ⟨h2_⟩
          have n3_ : Aside0 (w23.heap[gb759]? = some (.cells #[.slice none 0 0] 26 (0, 0))) := ⟨h3_⟩
          have n4_ : Aside0 (Below w.heap.size w w23) := ⟨h4_⟩
          clear BK757
          clear BK758
          clear BK759
          clear HB
          clear h0_ h1_ h2_ h3_ h4_
          have HO764 := n0_
          have BK757 := n1_
          have BK758 := n2_
          have BK759 := n3_
          have HB := n4_
          clear n0_ n1_ n2_ n3_ n4_
          have hHeld : w23.cell? ⟨gb757, 0, none⟩ = some (.slice A0_0 l0_0.length c0_0) ∧ w23.cell? ⟨gb758, 0, none⟩ = some (.slice A1_0 l1_0.length c1_0) := hS_
          refine norm_ (a' := ?_) ?_ ?_
          rotate_left
          ·simp only [putAll, Act.put, List.setIfInBounds_toArray, List.set_cons_zero, List.set_cons_succ]
           rfl
          refine two_ (i := 3) (j := 11) (Ni := some 21) (Nj := some 6) (yz 14 63) (yz 14 2103) rfl rfl rfl rfl (two_of HT_.out (by kernel_rfl)) (by decide) (by decide) (fun K hK => ?_) (fun K hK => ?_)
          ·skip
           refine Kd.R_append_rows_step (Kd.int .i64) (w0 := w) w.heap.size (by rfl) (.tmp 18) (.tmp 20) 24 3 (.int .i64 0) 8 rfl Try.underlying24 info3 rfl (by decide) (by omega) v763 y762 l0_0 _ _ _ (fun _ => True) (fun _ => False) rfl rfl ?aO ?aR (fun _ _ h => h) (fun _ h => h.elim) ?aF ?aB ?aS ?aL ?_
           (case aR => exact co (Kd.C_below HR0_0.out HB.out))
           (case aB => exact bw)
           (case aF => exact (fun _ _ => trivial))
           (case aO => exact (ro HO764.out))
           (case aS => exact (below_size bw))
           (case aL => have := LMc7.out; omega)
           intro v766 w24 ho hb hg hat
           rw [← Ny765.out] at ho
           replace BK757 := am (blk_grown (g := gb757) (o := .cells #[.slice A0_0 l0_0.length c0_0] 26 (0, 0)) (bo BK757.out) hg (Kd.R_ne HO764.out BK757.out (by decide)))
           replace BK758 := am (blk_grown (g := gb758) (o := .cells #[.slice A1_0 l1_0.length c1_0] 26 (0, 0)) (bo BK758.out) hg (Kd.R_ne HO764.out BK758.out (by decide)))
           replace BK759 := am (blk_grown (g := gb759) (o := .cells #[.slice none 0 0] 26 (0, 0)) (bo BK759.out) hg (Kd.R_ne HO764.out BK759.out (by decide)))
           replace HB := am (hb)
           have HO767 := am (ho)
           clear HO764 ho hb hg hat
           refine hK.out _ _ ⟨bc BK757 0 _, bc BK758 0 _⟩ (fun hHeld => ?_)
           clear hK K
           refine nm (some 21) ?_
           exact norm_ (by first | (simp only [putAll, Act.put, List.setIfInBounds_toArray, List.set_cons_zero, List.set_cons_succ]; done) | (simp only [putAll, Act.put, List.setIfInBounds_toArray, List.set_cons_zero, List.set_cons_succ]; rfl)) (hJ0_3 (v763, v766) _ ⟨hHeld, (ro HO767.out), (bo BK757.out), (bo BK758.out), (bo BK759.out), bw⟩)
          skip
          refine box_step ?hg (N := 6) ?hd (cs := #[.slice none 0 0]) (t := 26) ?hr ?_; (case hd => rfl); (case hg => rfl); (case hr => first | (go_simp; done) | (go_simp; rfl))
          intro gb775 hg w24 hbox hb
          replace HO764 := rK HO764 hb
          have BK775 := am (hbox)
          have GW775 := am (gs hg : w.heap.size ≤ gb775)
          have GE775 := am (gs hg : w.heap.size ≤ gb775)
          replace HB := am (below_step bw hb)
          have NB757_775 := nl hg BK757
          have NB775_757 := ng hg BK757
          replace BK757 := kb BK757 hb
          have NB758_775 := nl hg BK758
          have NB775_758 := ng hg BK758
          replace BK758 := kb BK758 hb
          have NB759_775 := nl hg BK759
          have NB775_759 := ng hg BK759
          replace BK759 := kb BK759 hb
          clear hb hbox hg
          refine hK.out _ _ ⟨bc BK757 0 _, bc BK758 0 _⟩ (fun hHeld => ?_)
          clear hK K
          refine nm (some 6) ?_
          exact norm_ (by first | (simp only [putAll, Act.put, List.setIfInBounds_toArray, List.set_cons_zero, List.set_cons_succ]; done) | (simp only [putAll, Act.put, List.setIfInBounds_toArray, List.set_cons_zero, List.set_cons_succ]; rfl)) (hJ0_11 (v763, gb775) _ ⟨hHeld, (ro HO764.out), (bo BK757.out), (bo BK758.out), (bo BK759.out), (bo BK775.out), GW775.out, GE775.out, NB757_775.out, NB775_757.out, NB758_775.out, NB775_758.out, NB759_775.out, NB775_759.out, bw⟩)
         skip
         rintro ⟨v763, gb775⟩ w24 ⟨hS_, h0_, h1_, h2_, h3_, h4_, h5_, h6_, h7_, h8_, h9_, h10_, h11_, h12_, h13_⟩
         have n0_ : Aside0 (Kd.R (Kd.int .i64) 3 w24 w.heap.size (fun _ => True) v763 y762) := ⟨h0_⟩
         have n1_ : Aside0 (w24.heap[gb757]? = some (.cells #[.slice A0_0 l0_0.length c0_0] 26 (0, 0))) := ⟨h1_⟩
         have n2_ : Aside0 (w24.heap[gb758]? = some (.cells #[.slice A1_0 l1_0.length c1_0] 26 (0, 0))) := ⟨h2_⟩
         have n3_ : Aside0 (w24.heap[gb759]? = some (.cells #[.slice none 0 0] 26 (0, 0))) := ⟨h3_⟩
         have n4_ : Aside0 (w24.heap[gb775]? = some (.cells #[.slice none 0 0] 26 (0, 0))) := ⟨h4_⟩
         have n5_ : Aside0 (w.heap.size ≤ gb775) := ⟨h5_⟩
         have n6_ : Aside0 (w.heap.size ≤ gb775) := ⟨h6_⟩
         have n7_ : Aside0 (gb757 ≠ gb775) := ⟨h7_⟩
         have n8_ : Aside0 (gb775 ≠ gb757) := ⟨h8_⟩
         have n9_ : Aside0 (gb758 ≠ gb775) := ⟨h9_⟩
         have n10_ : Aside0 (gb775 ≠ gb758) := ⟨h10_⟩
         have n11_ : Aside0 (gb759 ≠ gb775) := ⟨h11_⟩
         have n12_ : Aside0 (gb775 ≠ gb759) := ⟨h12_⟩
         have n13_ : Aside0 (Below w.heap.size w w24) := ⟨h13_⟩
         clear BK757
         clear BK758
         clear BK759
         clear HB
         clear h0_ h1_ h2_ h3_ h4_ h5_ h6_ h7_ h8_ h9_ h10_ h11_ h12_ h13_
         have HO764 := n0_
         have BK757 := n1_
         have BK758 := n2_
         have BK759 := n3_
         have BK775 := n4_
         have GW775 := n5_
         have GE775 := n6_
         have NB757_775 := n7_
         have NB775_757 := n8_
         have NB758_775 := n9_
         have NB775_758 := n10_
         have NB759_775 := n11_
         have NB775_759 := n12_
         have HB := n13_
         clear n0_ n1_ n2_ n3_ n4_ n5_ n6_ n7_ n8_ n9_ n10_ n11_ n12_ n13_
         have hHeld : w24.cell? ⟨gb757, 0, none⟩ = some (.slice A0_0 l0_0.length c0_0) ∧ w24.cell? ⟨gb758, 0, none⟩ = some (.slice A1_0 l1_0.length c1_0) := hS_
         refine norm_ (a' := ?_) ?_ ?_
         rotate_left
         ·simp only [putAll, Act.put, List.setIfInBounds_toArray, List.set_cons_zero, List.set_cons_succ]
          rfl
         refine oa 3 (some 21) (yz 14 2111) HT_ (fun K hK => ?_)
         refine Kd.R_append_rows_step (Kd.int .i64) (w0 := w) w.heap.size (by rfl) (.tmp 18) (.tmp 20) 24 3 (.int .i64 0) 8 rfl Try.underlying24 info3 rfl (by decide) (by omega) v763 y762 l0_0 _ _ _ (fun _ => True) (fun _ => False) rfl rfl ?aO ?aR (fun _ _ h => h) (fun _ h => h.elim) ?aF ?aB ?aS ?aL ?_
         (case aR => exact co (Kd.C_below HR0_0.out HB.out))
         (case aB => exact bw)
         (case aF => exact (fun _ _ => trivial))
         (case aO => exact (ro HO764.out))
         (case aS => exact (below_size bw))
         (case aL => have := LMc7.out; omega)
         intro v766 w25 ho hb hg hat
         rw [← Ny765.out] at ho
         replace BK757 := am (blk_grown (g := gb757) (o := .cells #[.slice A0_0 l0_0.length c0_0] 26 (0, 0)) (bo BK757.out) hg (Kd.R_ne HO764.out BK757.out (by decide)))
         replace BK758 := am (blk_grown (g := gb758) (o := .cells #[.slice A1_0 l1_0.length c1_0] 26 (0, 0)) (bo BK758.out) hg (Kd.R_ne HO764.out BK758.out (by decide)))
         replace BK759 := am (blk_grown (g := gb759) (o := .cells #[.slice none 0 0] 26 (0, 0)) (bo BK759.out) hg (Kd.R_ne HO764.out BK759.out (by decide)))
         replace BK775 := am (blk_grown (g := gb775) (o := .cells #[.slice none 0 0] 26 (0, 0)) (bo BK775.out) hg (Kd.R_ne HO764.out BK775.out (by decide)))
         replace HB := am (hb)
         have HO767 := am (ho)
         clear HO764 ho hb hg hat
         refine hK.out _ _ ⟨bc BK757 0 _, bc BK758 0 _⟩ (fun hHeld => ?_)
         clear hK K
         refine nm (some 21) ?_
         exact norm_ (by first | (simp only [putAll, Act.put, List.setIfInBounds_toArray, List.set_cons_zero, List.set_cons_succ]; done) | (simp only [putAll, Act.put, List.setIfInBounds_toArray, List.set_cons_zero, List.set_cons_succ]; rfl)) (hJ0_3_11 (v763, v766, gb775) _ ⟨hHeld, (ro HO767.out), (bo BK757.out), (bo BK758.out), (bo BK759.out), (bo BK775.out), GW775.out, GE775.out, NB757_775.out, NB775_757.out, NB758_775.out, NB775_758.out, NB759_775.out, NB775_759.out, bw⟩)
        skip
        rintro ⟨v763, v766⟩ w24 ⟨hS_, h0_, h1_, h2_, h3_, h4_⟩
        have n0_ : Aside0 (Kd.R (Kd.int .i64) 3 w24 w.heap.size (fun _ => True) v766 y765) := ⟨h0_⟩
        have n1_ : Aside0 (w24.heap[gb757]? = some (.cells #[.slice A0_0 l0_0.length c0_0] 26 (0, 0))) := ⟨h1_⟩
        have n2_ : Aside0 (w24.heap[gb758]? = some (.cells #[.slice A1_0 l1_0.length c1_0] 26 (0, 0))) := ⟨h2_⟩
        have n3_ : Aside0 (w24.heap[gb759]? = some (.cells #[.slice none 0 0] 26 (0, 0))) := ⟨h3_⟩
        have n4_ : Aside0 (Below w.heap.size w w24) := ⟨h4_⟩
        clear BK757
        clear BK758
        clear BK759
        clear HB
        clear h0_ h1_ h2_ h3_ h4_
        have HO767 := n0_
        have BK757 := n1_
        have BK758 := n2_
        have BK759 := n3_
        have HB := n4_
        clear n0_ n1_ n2_ n3_ n4_
        have hHeld : w24.cell? ⟨gb757, 0, none⟩ = some (.slice A0_0 l0_0.length c0_0) ∧ w24.cell? ⟨gb758, 0, none⟩ = some (.slice A1_0 l1_0.length c1_0) := hS_
        refine norm_ (a' := ?_) ?_ ?_
        rotate_left
        ·simp only [putAll, Act.put, List.setIfInBounds_toArray, List.set_cons_zero, List.set_cons_succ]
         rfl
        refine two_ (i := 6) (j := 11) (Ni := some 24) (Nj := some 6) (yz 14 127) (yz 14 2111) rfl rfl rfl rfl (two_of HT_.out (by kernel_rfl)) (by decide) (by decide) (fun K hK => ?_) (fun K hK => ?_)
        ·skip
         refine Kd.R_append_rows_step (Kd.int .i64) (w0 := w) w.heap.size (by rfl) (.tmp 21) (.tmp 23) 24 3 (.int .i64 0) 8 rfl Try.underlying24 info3 rfl (by decide) (by omega) v766 y765 l1_0 _ _ _ (fun _ => True) (fun _ => False) rfl rfl ?aO ?aR (fun _ _ h => h) (fun _ h => h.elim) ?aF ?aB ?aS ?aL ?_
         (case aR => exact co (Kd.C_below HR1_0.out HB.out))
         (case aB => exact bw)
         (case aF => exact (fun _ _ => trivial))
         (case aO => exact (ro HO767.out))
         (case aS => exact (below_size bw))
         (case aL => have := LMc8.out; omega)
         intro v769 w25 ho hb hg hat
         rw [← Ny768.out] at ho
         replace BK757 := am (blk_grown (g := gb757) (o := .cells #[.slice A0_0 l0_0.length c0_0] 26 (0, 0)) (bo BK757.out) hg (Kd.R_ne HO767.out BK757.out (by decide)))
         replace BK758 := am (blk_grown (g := gb758) (o := .cells #[.slice A1_0 l1_0.length c1_0] 26 (0, 0)) (bo BK758.out) hg (Kd.R_ne HO767.out BK758.out (by decide)))
         replace BK759 := am (blk_grown (g := gb759) (o := .cells #[.slice none 0 0] 26 (0, 0)) (bo BK759.out) hg (Kd.R_ne HO767.out BK759.out (by decide)))
         replace HB := am (hb)
         have HO770 := am (ho)
         clear HO767 ho hb hg hat
         refine hK.out _ _ ⟨bc BK757 0 _, bc BK758 0 _⟩ (fun hHeld => ?_)
         clear hK K
         refine nm (some 24) ?_
         exact norm_ (by first | (simp only [putAll, Act.put, List.setIfInBounds_toArray, List.set_cons_zero, List.set_cons_succ]; done) | (simp only [putAll, Act.put, List.setIfInBounds_toArray, List.set_cons_zero, List.set_cons_succ]; rfl)) (hJ0_3_6 (v763, v766, v769) _ ⟨hHeld, (ro HO770.out), (bo BK757.out), (bo BK758.out), (bo BK759.out), bw⟩)
        skip
        refine box_step ?hg (N := 6) ?hd (cs := #[.slice none 0 0]) (t := 26) ?hr ?_; (case hd => rfl); (case hg => rfl); (case hr => first | (go_simp; done) | (go_simp; rfl))
        intro gb775 hg w25 hbox hb
        replace HO767 := rK HO767 hb
        have BK775 := am (hbox)
        have GW775 := am (gs hg : w.heap.size ≤ gb775)
        have GE775 := am (gs hg : w.heap.size ≤ gb775)
        replace HB := am (below_step bw hb)
        have NB757_775 := nl hg BK757
        have NB775_757 := ng hg BK757
        replace BK757 := kb BK757 hb
        have NB758_775 := nl hg BK758
        have NB775_758 := ng hg BK758
        replace BK758 := kb BK758 hb
        have NB759_775 := nl hg BK759
        have NB775_759 := ng hg BK759
        replace BK759 := kb BK759 hb
        clear hb hbox hg
        refine hK.out _ _ ⟨bc BK757 0 _, bc BK758 0 _⟩ (fun hHeld => ?_)
        clear hK K
        refine nm (some 6) ?_
        exact norm_ (by first | (simp only [putAll, Act.put, List.setIfInBounds_toArray, List.set_cons_zero, List.set_cons_succ]; done) | (simp only [putAll, Act.put, List.setIfInBounds_toArray, List.set_cons_zero, List.set_cons_succ]; rfl)) (hJ0_3_11 (v763, v766, gb775) _ ⟨hHeld, (ro HO767.out), (bo BK757.out), (bo BK758.out), (bo BK759.out), (bo BK775.out), GW775.out, GE775.out, NB757_775.out, NB775_757.out, NB758_775.out, NB775_758.out, NB759_775.out, NB775_759.out, bw⟩)
       skip
       rintro ⟨v763, v766, gb775⟩ w25 ⟨hS_, h0_, h1_, h2_, h3_, h4_, h5_, h6_, h7_, h8_, h9_, h10_, h11_, h12_, h13_⟩
       have n0_ : Aside0 (Kd.R (Kd.int .i64) 3 w25 w.heap.size (fun _ => True) v766 y765) := ⟨h0_⟩
       have n1_ : Aside0 (w25.heap[gb757]? = some (.cells #[.slice A0_0 l0_0.length c0_0] 26 (0, 0))) := ⟨h1_⟩
       have n2_ : Aside0 (w25.heap[gb758]? = some (.cells #[.slice A1_0 l1_0.length c1_0] 26 (0, 0))) := ⟨h2_⟩
       have n3_ : Aside0 (w25.heap[gb759]? = some (.cells #[.slice none 0 0] 26 (0, 0))) := ⟨h3_⟩
       have n4_ : Aside0 (w25.heap[gb775]? = some (.cells #[.slice none 0 0] 26 (0, 0))) := ⟨h4_⟩
       have n5_ : Aside0 (w.heap.size ≤ gb775) := ⟨h5_⟩
       have n6_ : Aside0 (w.heap.size ≤ gb775) := ⟨h6_⟩
       have n7_ : Aside0 (gb757 ≠ gb775) := ⟨h7_⟩
       have n8_ : Aside0 (gb775 ≠ gb757) := ⟨h8_⟩
       have n9_ : Aside0 (gb758 ≠ gb775) := ⟨h9_⟩
       have n10_ : Aside0 (gb775 ≠ gb758) := ⟨h10_⟩
       have n11_ : Aside0 (gb759 ≠ gb775) := ⟨h11_⟩
       have n12_ : Aside0 (gb775 ≠ gb759) := ⟨h12_⟩
       have n13_ : Aside0 (Below w.heap.size w w25) := ⟨h13_⟩
       clear BK757
       clear BK758
       clear BK759
       clear HB
       clear h0_ h1_ h2_ h3_ h4_ h5_ h6_ h7_ h8_ h9_ h10_ h11_ h12_ h13_
       have HO767 := n0_
       have BK757 := n1_
       have BK758 := n2_
       have BK759 := n3_
       have BK775 := n4_
       have GW775 := n5_
       have GE775 := n6_
       have NB757_775 := n7_
       have NB775_757 := n8_
       have NB758_775 := n9_
       have NB775_758 := n10_
       have NB759_775 := n11_
       have NB775_759 := n12_
       have HB := n13_
       clear n0_ n1_ n2_ n3_ n4_ n5_ n6_ n7_ n8_ n9_ n10_ n11_ n12_ n13_
       have hHeld : w25.cell? ⟨gb757, 0, none⟩ = some (.slice A0_0 l0_0.length c0_0) ∧ w25.cell? ⟨gb758, 0, none⟩ = some (.slice A1_0 l1_0.length c1_0) := hS_
       refine norm_ (a' := ?_) ?_ ?_
       rotate_left
       ·simp only [putAll, Act.put, List.setIfInBounds_toArray, List.set_cons_zero, List.set_cons_succ]
        rfl
       refine oa 6 (some 24) (yz 14 2175) HT_ (fun K hK => ?_)
       refine Kd.R_append_rows_step (Kd.int .i64) (w0 := w) w.heap.size (by rfl) (.tmp 21) (.tmp 23) 24 3 (.int .i64 0) 8 rfl Try.underlying24 info3 rfl (by decide) (by omega) v766 y765 l1_0 _ _ _ (fun _ => True) (fun _ => False) rfl rfl ?aO ?aR (fun _ _ h => h) (fun _ h => h.elim) ?aF ?aB ?aS ?aL ?_
       (case aR => exact co (Kd.C_below HR1_0.out HB.out))
       (case aB => exact bw)
       (case aF => exact (fun _ _ => trivial))
       (case aO => exact (ro HO767.out))
       (case aS => exact (below_size bw))
       (case aL => have := LMc8.out; omega)
       intro v769 w26 ho hb hg hat
       rw [← Ny768.out] at ho
       replace BK757 := am (blk_grown (g := gb757) (o := .cells #[.slice A0_0 l0_0.length c0_0] 26 (0, 0)) (bo BK757.out) hg (Kd.R_ne HO767.out BK757.out (by decide)))
       replace BK758 := am (blk_grown (g := gb758) (o := .cells #[.slice A1_0 l1_0.length c1_0] 26 (0, 0)) (bo BK758.out) hg (Kd.R_ne HO767.out BK758.out (by decide)))
       replace BK759 := am (blk_grown (g := gb759) (o := .cells #[.slice none 0 0] 26 (0, 0)) (bo BK759.out) hg (Kd.R_ne HO767.out BK759.out (by decide)))
       replace BK775 := am (blk_grown (g := gb775) (o := .cells #[.slice none 0 0] 26 (0, 0)) (bo BK775.out) hg (Kd.R_ne HO767.out BK775.out (by decide)))
       replace HB := am (hb)
       have HO770 := am (ho)
       clear HO767 ho hb hg hat
       refine hK.out _ _ ⟨bc BK757 0 _, bc BK758 0 _⟩ (fun hHeld => ?_)
       clear hK K
       refine nm (some 24) ?_
       exact norm_ (by first | (simp only [putAll, Act.put, List.setIfInBounds_toArray, List.set_cons_zero, List.set_cons_succ]; done) | (simp only [putAll, Act.put, List.setIfInBounds_toArray, List.set_cons_zero, List.set_cons_succ]; rfl)) (hJ0_3_6_11 (v763, v766, v769, gb775) _ ⟨hHeld, (ro HO770.out), (bo BK757.out), (bo BK758.out), (bo BK759.out), (bo BK775.out), GW775.out, GE775.out, NB757_775.out, NB775_757.out, NB758_775.out, NB775_758.out, NB759_775.out, NB775_759.out, bw⟩)
      skip
      rintro ⟨v763, v766, v769⟩ w25 ⟨hS_, h0_, h1_, h2_, h3_, h4_⟩
      have n0_ : Aside0 (Kd.R (Kd.int .i64) 3 w25 w.heap.size (fun _ => True) v769 y768) := ⟨h0_⟩
      have n1_ : Aside0 (w25.heap[gb757]? = some (.cells #[.slice A0_0 l0_0.length c0_0] 26 (0, 0))) := ⟨h1_⟩
      have n2_ : Aside0 (w25.heap[gb758]? = some (.cells #[.slice A1_0 l1_0.length c1_0] 26 (0, 0))) := ⟨h2_⟩
      have n3_ : Aside0 (w25.heap[gb759]? = some (.cells #[.slice none 0 0] 26 (0, 0))) := ⟨h3_⟩
      have n4_ : Aside0 (Below w.heap.size w w25) := ⟨h4_⟩
      clear BK757
      clear BK758
      clear BK759
      clear HB
      clear h0_ h1_ h2_ h3_ h4_
      have HO770 := n0_
      have BK757 := n1_
      have BK758 := n2_
      have BK759 := n3_
      have HB := n4_
      clear n0_ n1_ n2_ n3_ n4_
      have hHeld : w25.cell? ⟨gb757, 0, none⟩ = some (.slice A0_0 l0_0.length c0_0) ∧ w25.cell? ⟨gb758, 0, none⟩ = some (.slice A1_0 l1_0.length c1_0) := hS_
      obtain ⟨Ao26, co26, eo26⟩ := Kd.R_slice HO770.out
      (first | subst eo26 | (injection eo26 with f1_ f2_ f3_; have f4_ := f1_.symm; have f5_ := f3_.symm; clear f1_ f2_ f3_; subst f4_; subst f5_))
      refine norm_ (a' := ?_) ?_ ?_
      rotate_left
      ·simp only [putAll, Act.put, List.setIfInBounds_toArray, List.set_cons_zero, List.set_cons_succ]
       rfl
      refine two_ (i := 7) (j := 11) (Ni := some 25) (Nj := some 6) (yz 14 255) (yz 14 2175) rfl rfl rfl rfl (two_of HT_.out (by kernel_rfl)) (by decide) (by decide) (fun K hK => ?_) (fun K hK => ?_)
      ·skip
       refine gm Try.func206 #[.slice Ao26 y768.length co26] ?_
       with_reducible refine (spec_FromGens.calls k _ _ y768 t771 t774 _ ?side1 ?side2 A9.out).mono ?_
       (case side1 => exact co (Kd.R_reads' HO770.out).2.2)
       (case side2 => exact (Kd.R_reads' HO770.out).2.1)
       rintro e w27 ⟨v772, rfl, ho0, hb⟩
       refine ⟨_, rfl, ?_⟩
       have HO773 := am (Kd.R_lower (Kd.R_new' ho0 (Kd.R_lt (ro HO770.out))) (below_size bw))
       replace HO770 := am (Kd.R_elder' (ro HO770.out) (Kd.R_base ho0) hb)
       replace BK757 := kb BK757 hb
       replace BK758 := kb BK758 hb
       replace BK759 := kb BK759 hb
       replace HB := am (below_step bw hb)
       clear hb ho0
       refine hK.out _ _ ⟨bc BK757 0 _, bc BK758 0 _⟩ (fun hHeld => ?_)
       clear hK K
       refine nm (some 25) ?_
       refine pa 8 (some 17) (yz 14 511) HT_ ?_
       refine pa 9 (some 26) (yz 14 1023) HT_ ?_
       refine pa 10 (some 27) (yz 14 2047) HT_ ?_
       exact norm_ (by first | (simp only [putAll, Act.put, List.setIfInBounds_toArray, List.set_cons_zero, List.set_cons_succ]; done) | (simp only [putAll, Act.put, List.setIfInBounds_toArray, List.set_cons_zero, List.set_cons_succ]; rfl)) (hJ0_3_6_7 (v763, v766, .slice Ao26 y768.length co26, v772) _ ⟨hHeld, (by (with_reducible repeat (first | apply Kd.R_alloc | apply Kd.R_drewN | apply Kd.R_drew)); exact Kd.R_mono HO770.out (fun _ hk => hk.2)), (by (with_reducible repeat (first | apply Kd.R_alloc | apply Kd.R_drewN | apply Kd.R_drew)); exact Kd.R_mono HO773.out (fun _ hk => hk.2)), (bo BK757.out), (bo BK758.out), (bo BK759.out), bw⟩)
      skip
      refine box_step ?hg (N := 6) ?hd (cs := #[.slice none 0 0]) (t := 26) ?hr ?_; (case hd => rfl); (case hg => rfl); (case hr => first | (go_simp; done) | (go_simp; rfl))
      intro gb775 hg w26 hbox hb
      replace HO770 := rK HO770 hb
      have BK775 := am (hbox)
      have GW775 := am (gs hg : w.heap.size ≤ gb775)
      have GE775 := am (gs hg : w.heap.size ≤ gb775)
      replace HB := am (below_step bw hb)
      have NB757_775 := nl hg BK757
      have NB775_757 := ng hg BK757
      replace BK757 := kb BK757 hb
      have NB758_775 := nl hg BK758
      have NB775_758 := ng hg BK758
      replace BK758 := kb BK758 hb
      have NB759_775 := nl hg BK759
      have NB775_759 := ng hg BK759
      replace BK759 := kb BK759 hb
      clear hb hbox hg
      refine hK.out _ _ ⟨bc BK757 0 _, bc BK758 0 _⟩ (fun hHeld => ?_)
      clear hK K
      refine nm (some 6) ?_
      exact norm_ (by first | (simp only [putAll, Act.put, List.setIfInBounds_toArray, List.set_cons_zero, List.set_cons_succ]; done) | (simp only [putAll, Act.put, List.setIfInBounds_toArray, List.set_cons_zero, List.set_cons_succ]; rfl)) (hJ0_3_6_11 (v763, v766, .slice Ao26 y768.length co26, gb775) _ ⟨hHeld, (ro HO770.out), (bo BK757.out), (bo BK758.out), (bo BK759.out), (bo BK775.out), GW775.out, GE775.out, NB757_775.out, NB775_757.out, NB758_775.out, NB775_758.out, NB759_775.out, NB775_759.out, bw⟩)
     skip
     rintro ⟨v763, v766, v769, gb775⟩ w26 ⟨hS_, h0_, h1_, h2_, h3_, h4_, h5_, h6_, h7_, h8_, h9_, h10_, h11_, h12_, h13_⟩
     have n0_ : Aside0 (Kd.R (Kd.int .i64) 3 w26 w.heap.size (fun _ => True) v769 y768) := ⟨h0_⟩
     have n1_ : Aside0 (w26.heap[gb757]? = some (.cells #[.slice A0_0 l0_0.length c0_0] 26 (0, 0))) := ⟨h1_⟩
     have n2_ : Aside0 (w26.heap[gb758]? = some (.cells #[.slice A1_0 l1_0.length c1_0] 26 (0, 0))) := ⟨h2_⟩
     have n3_ : Aside0 (w26.heap[gb759]? = some (.cells #[.slice none 0 0] 26 (0, 0))) := ⟨h3_⟩
     have n4_ : Aside0 (w26.heap[gb775]? = some (.cells #[.slice none 0 0] 26 (0, 0))) := ⟨h4_⟩
     have n5_ : Aside0 (w.heap.size ≤ gb775) := ⟨h5_⟩
     have n6_ : Aside0 (w.heap.size ≤ gb775) := ⟨h6_⟩
     have n7_ : Aside0 (gb757 ≠ gb775) := ⟨h7_⟩
     have n8_ : Aside0 (gb775 ≠ gb757) := ⟨h8_⟩
     have n9_ : Aside0 (gb758 ≠ gb775) := ⟨h9_⟩
     have n10_ : Aside0 (gb775 ≠ gb758) := ⟨h10_⟩
     have n11_ : Aside0 (gb759 ≠ gb775) := ⟨h11_⟩
     have n12_ : Aside0 (gb775 ≠ gb759) := ⟨h12_⟩
     have n13_ : Aside0 (Below w.heap.size w w26) := ⟨h13_⟩
     clear BK757
     clear BK758
     clear BK759
     clear HB
     clear h0_ h1_ h2_ h3_ h4_ h5_ h6_ h7_ h8_ h9_ h10_ h11_ h12_ h13_
     have HO770 := n0_
     have BK757 := n1_
     have BK758 := n2_
     have BK759 := n3_
     have BK775 := n4_
     have GW775 := n5_
     have GE775 := n6_
     have NB757_775 := n7_
     have NB775_757 := n8_
     have NB758_775 := n9_
     have NB775_758 := n10_
     have NB759_775 := n11_
     have NB775_759 := n12_
     have HB := n13_
     clear n0_ n1_ n2_ n3_ n4_ n5_ n6_ n7_ n8_ n9_ n10_ n11_ n12_ n13_
     have hHeld : w26.cell? ⟨gb757, 0, none⟩ = some (.slice A0_0 l0_0.length c0_0) ∧ w26.cell? ⟨gb758, 0, none⟩ = some (.slice A1_0 l1_0.length c1_0) := hS_
     obtain ⟨Ao27, co27, eo27⟩ := Kd.R_slice HO770.out
     (first | subst eo27 | (injection eo27 with f1_ f2_ f3_; have f4_ := f1_.symm; have f5_ := f3_.symm; clear f1_ f2_ f3_; subst f4_; subst f5_))
     refine norm_ (a' := ?_) ?_ ?_
     rotate_left
     ·simp only [putAll, Act.put, List.setIfInBounds_toArray, List.set_cons_zero, List.set_cons_succ]
      rfl
     refine oa 7 (some 25) (yz 14 2303) HT_ (fun K hK => ?_)
     refine gm Try.func206 #[.slice Ao27 y768.length co27] ?_
     with_reducible refine (spec_FromGens.calls k _ _ y768 t771 t774 _ ?side1 ?side2 A9.out).mono ?_
     (case side1 => exact co (Kd.R_reads' HO770.out).2.2)
     (case side2 => exact (Kd.R_reads' HO770.out).2.1)
     rintro e w28 ⟨v772, rfl, ho0, hb⟩
     refine ⟨_, rfl, ?_⟩
     have HO773 := am (Kd.R_lower (Kd.R_new' ho0 (Kd.R_lt (ro HO770.out))) (below_size bw))
     replace HO770 := am (Kd.R_elder' (ro HO770.out) (Kd.R_base ho0) hb)
     replace BK757 := kb BK757 hb
     replace BK758 := kb BK758 hb
     replace BK759 := kb BK759 hb
     replace BK775 := kb BK775 hb
     replace HB := am (below_step bw hb)
     clear hb ho0
     refine hK.out _ _ ⟨bc BK757 0 _, bc BK758 0 _⟩ (fun hHeld => ?_)
     clear hK K
     refine nm (some 25) ?_
     refine pa 8 (some 17) (yz 14 2559) HT_ ?_
     refine pa 9 (some 26) (yz 14 3071) HT_ ?_
     refine pa 10 (some 27) (yz 14 4095) HT_ ?_
     exact norm_ (by first | (simp only [putAll, Act.put, List.setIfInBounds_toArray, List.set_cons_zero, List.set_cons_succ]; done) | (simp only [putAll, Act.put, List.setIfInBounds_toArray, List.set_cons_zero, List.set_cons_succ]; rfl)) (hJ0_3_6_7_11 (v763, v766, .slice Ao27 y768.length co27, v772, gb775) _ ⟨hHeld, (by (with_reducible repeat (first | apply Kd.R_alloc | apply Kd.R_drewN | apply Kd.R_drew)); exact Kd.R_mono HO770.out (fun _ hk => hk.2)), (by (with_reducible repeat (first | apply Kd.R_alloc | apply Kd.R_drewN | apply Kd.R_drew)); exact Kd.R_mono HO773.out (fun _ hk => hk.2)), (bo BK757.out), (bo BK758.out), (bo BK759.out), (bo BK775.out), GW775.out, GE775.out, NB757_775.out, NB775_757.out, NB758_775.out, NB775_758.out, NB759_775.out, NB775_759.out, bw⟩)
    skip
    rintro ⟨v763, v766, v769, v772⟩ w27 ⟨hS_, h0_, h1_, h2_, h3_, h4_, h5_⟩
    have n0_ : Aside0 (Kd.R (Kd.int .i64) 3 w27 w.heap.size (fun k_ => some k_ ≠ (v772 : Value).ownBlock) v769 y768) := ⟨h0_⟩
    have n1_ : Aside0 (Kd.R (Kd.int .i64) 3 w27 w.heap.size (fun k_ => some k_ ≠ (v769 : Value).ownBlock) v772 t771) := ⟨h1_⟩
    have n2_ : Aside0 (w27.heap[gb757]? = some (.cells #[.slice A0_0 l0_0.length c0_0] 26 (0, 0))) := ⟨h2_⟩
    have n3_ : Aside0 (w27.heap[gb758]? = some (.cells #[.slice A1_0 l1_0.length c1_0] 26 (0, 0))) := ⟨h3_⟩
    have n4_ : Aside0 (w27.heap[gb759]? = some (.cells #[.slice none 0 0] 26 (0, 0))) := ⟨h4_⟩
    have n5_ : Aside0 (Below w.heap.size w w27) := ⟨h5_⟩
    clear BK757
    clear BK758
    clear BK759
    clear HB
    clear h0_ h1_ h2_ h3_ h4_ h5_
    have HO770 := n0_
    have HO773 := n1_
    have BK757 := n2_
    have BK758 := n3_
    have BK759 := n4_
    have HB := n5_
    clear n0_ n1_ n2_ n3_ n4_ n5_
    have hHeld : w27.cell? ⟨gb757, 0, none⟩ = some (.slice A0_0 l0_0.length c0_0) ∧ w27.cell? ⟨gb758, 0, none⟩ = some (.slice A1_0 l1_0.length c1_0) := hS_
    refine norm_ (a' := ?_) ?_ ?_
    rotate_left
    ·simp only [putAll, Act.put, List.setIfInBounds_toArray, List.set_cons_zero, List.set_cons_succ]
     rfl
    refine oa 11 (some 6) (yz 14 4095) HT_ (fun K hK => ?_)
    refine box_step ?hg (N := 6) ?hd (cs := #[.slice none 0 0]) (t := 26) ?hr ?_; (case hd => rfl); (case hg => rfl); (case hr => first | (go_simp; done) | (go_simp; rfl))
    intro gb775 hg w28 hbox hb
    replace HO770 := rK HO770 hb
    replace HO773 := rK HO773 hb
    have BK775 := am (hbox)
    have GW775 := am (gs hg : w.heap.size ≤ gb775)
    have GE775 := am (gs hg : w.heap.size ≤ gb775)
    replace HB := am (below_step bw hb)
    have NB757_775 := nl hg BK757
    have NB775_757 := ng hg BK757
    replace BK757 := kb BK757 hb
    have NB758_775 := nl hg BK758
    have NB775_758 := ng hg BK758
    replace BK758 := kb BK758 hb
    have NB759_775 := nl hg BK759
    have NB775_759 := ng hg BK759
    replace BK759 := kb BK759 hb
    clear hb hbox hg
    refine hK.out _ _ ⟨bc BK757 0 _, bc BK758 0 _⟩ (fun hHeld => ?_)
    clear hK K
    refine nm (some 6) ?_
    exact norm_ (by first | (simp only [putAll, Act.put, List.setIfInBounds_toArray, List.set_cons_zero, List.set_cons_succ]; done) | (simp only [putAll, Act.put, List.setIfInBounds_toArray, List.set_cons_zero, List.set_cons_succ]; rfl)) (hJ0_3_6_7_11 (v763, v766, v769, v772, gb775) _ ⟨hHeld, (ro HO770.out), (ro HO773.out), (bo BK757.out), (bo BK758.out), (bo BK759.out), (bo BK775.out), GW775.out, GE775.out, NB757_775.out, NB775_757.out, NB758_775.out, NB775_758.out, NB759_775.out, NB775_759.out, bw⟩)
   rintro ⟨v763, v766, v769, v772, gb775⟩ w28 ⟨hS_, h0_, h1_, h2_, h3_, h4_, h5_, h6_, h7_, h8_, h9_, h10_, h11_, h12_, h13_, h14_⟩
   have n0_ : Aside0 (Kd.R (Kd.int .i64) 3 w28 w.heap.size (fun k_ => some k_ ≠ (v772 : Value).ownBlock) v769 y768) := ⟨h0_⟩
   have n1_ : Aside0 (Kd.R (Kd.int .i64) 3 w28 w.heap.size (fun k_ => some k_ ≠ (v769 : Value).ownBlock) v772 t771) := ⟨h1_⟩
   have n2_ : Aside0 (w28.heap[gb757]? = some (.cells #[.slice A0_0 l0_0.length c0_0] 26 (0, 0))) := ⟨h2_⟩
   have n3_ : Aside0 (w28.heap[gb758]? = some (.cells #[.slice A1_0 l1_0.length c1_0] 26 (0, 0))) := ⟨h3_⟩
   have n4_ : Aside0 (w28.heap[gb759]? = some (.cells #[.slice none 0 0] 26 (0, 0))) := ⟨h4_⟩
   have n5_ : Aside0 (w28.heap[gb775]? = some (.cells #[.slice none 0 0] 26 (0, 0))) := ⟨h5_⟩
   have n6_ : Aside0 (w.heap.size ≤ gb775) := ⟨h6_⟩
   have n7_ : Aside0 (w.heap.size ≤ gb775) := ⟨h7_⟩
   have n8_ : Aside0 (gb757 ≠ gb775) := ⟨h8_⟩
   have n9_ : Aside0 (gb775 ≠ gb757) := ⟨h9_⟩
   have n10_ : Aside0 (gb758 ≠ gb775) := ⟨h10_⟩
   have n11_ : Aside0 (gb775 ≠ gb758) := ⟨h11_⟩
   have n12_ : Aside0 (gb759 ≠ gb775) := ⟨h12_⟩
   have n13_ : Aside0 (gb775 ≠ gb759) := ⟨h13_⟩
   have n14_ : Aside0 (Below w.heap.size w w28) := ⟨h14_⟩
   clear BK757
   clear BK758
   clear BK759
   clear HB
   clear h0_ h1_ h2_ h3_ h4_ h5_ h6_ h7_ h8_ h9_ h10_ h11_ h12_ h13_ h14_
   have HO770 := n0_
   have HO773 := n1_
   have BK757 := n2_
   have BK758 := n3_
   have BK759 := n4_
   have BK775 := n5_
   have GW775 := n6_
   have GE775 := n7_
   have NB757_775 := n8_
   have NB775_757 := n9_
   have NB758_775 := n10_
   have NB775_758 := n11_
   have NB759_775 := n12_
   have NB775_759 := n13_
   have HB := n14_
   clear n0_ n1_ n2_ n3_ n4_ n5_ n6_ n7_ n8_ n9_ n10_ n11_ n12_ n13_ n14_
   have hHeld : w28.cell? ⟨gb757, 0, none⟩ = some (.slice A0_0 l0_0.length c0_0) ∧ w28.cell? ⟨gb758, 0, none⟩ = some (.slice A1_0 l1_0.length c1_0) := hS_
   obtain ⟨Ao29, co29, eo29⟩ := Kd.R_slice HO773.out
   (first | subst eo29 | (injection eo29 with f1_ f2_ f3_; have f4_ := f1_.symm; have f5_ := f3_.symm; clear f1_ f2_ f3_; subst f4_; subst f5_))
   refine norm_ (a' := ?_) ?_ ?_
   rotate_left
   ·simp only [putAll, Act.put, List.setIfInBounds_toArray, List.set_cons_zero, List.set_cons_succ]
    rfl
   refine oa 12 none (yz 14 8191) HT_ (fun K hK => ?_)
   have hs30 := bc BK775 0 (.slice none 0 0)
   have hfs30 := blk_frozen BK775.out 0
   have hns30_0 := NB757_775.out
   have hns30_1 := NB758_775.out
   have hns30_2 := NB759_775.out
   have hms30_0 := NB775_757.out
   have hms30_1 := NB775_758.out
   have hms30_2 := NB775_759.out
   refine skip_ (w1 := ?_) (by rfl) rfl ?_ ?_
   rotate_left
   ·go_simp
    rfl
   refine hK.out _ _ ⟨((cell_far (p := ⟨gb775, _, none⟩) NB757_775.out _).trans (hHeld.1)), ((cell_far (p := ⟨gb775, _, none⟩) NB758_775.out _).trans (hHeld.2))⟩ (fun hHeld => ?_)
   clear hK K
   refine pa 13 (some 7) (yz 14 16383) HT_ ?_
   refine done_ (done_of HT_.out (by kernel_rfl)) ?_
   have hnb31 := NB775_757.out
   have hnc31 := NB757_775.out
   have hnb32 := NB775_758.out
   have hnc32 := NB758_775.out
   have hnb33 := NB775_759.out
   have hnc33 := NB759_775.out
   have hcz34_0 := bc BK775 0 (.slice none 0 0)
   have hfz34_0 := blk_frozen BK775.out 0
   have hcz35_0 := bc BK759 0 (.slice none 0 0)
   have hfz35_0 := blk_frozen BK759.out 0
   try go_wp2
   refine bodyPost_ret (results_ct rfl _ _ gb759 26 #[.slice Ao29 t771.length co29] (0, 0) _ rfl (by (with_reducible repeat (first | refine blk_drewN ?_ _ | refine blk_drew ?_ | refine blk_alloc ?_ _)); refine blk_put (cs := #[.slice none 0 0]) ?_ 0 _ rfl; (with_reducible repeat (first | refine blk_drewN ?_ _ | refine blk_drew ?_ | refine blk_alloc ?_ _)); refine blk_far ?_ NB759_775.out _; (with_reducible repeat (first | refine blk_drewN ?_ _ | refine blk_drew ?_ | refine blk_alloc ?_ _)); exact BK759.out) Try.underlying26 rfl (by kernel_rfl)) rfl ?_
   exact ⟨_, re, by (with_reducible repeat (first | apply Kd.R_alloc | apply Kd.R_drewN | apply Kd.R_drew)); exact Kd.R_mono (Kd.R_far (p := ⟨gb759, 0, none⟩) (Kd.R_far (p := ⟨gb775, 0, none⟩) (Kd.R_types (Kd.R_types HO773.out BK775.out (by decide)) BK759.out (by decide)) (fun _ hk => by first | exact hk.1.2 | simp_all) (.slice Ao29 t771.length co29)) (fun _ hk => hk.2) (.slice Ao29 t771.length co29)) (fun _ hk => trivial), bw⟩
  simp only [Option.some.injEq, Prod.mk.injEq] at H
  obtain ⟨rfl, rfl⟩ := H
  go_enter Try.func113, Try.ntmps113
  go_wp2_with (first | ((with_reducible refine gate_dst (N := 2) rfl ?_); refine bx 2 #[.slice A0_0 l0_0.length c0_0] 26 ?_; intro gb757 hg w36 hbox hb; have BK757 := am (hbox); have GW757 := am (gs hg : w.heap.size ≤ gb757); have GE757 := GW757; replace HB := am (below_step bw hb); clear hb hbox hg) | ((with_reducible refine gate_dst (N := 3) rfl ?_); refine bx 3 #[.slice A1_0 l1_0.length c1_0] 26 ?_; intro gb758 hg w37 hbox hb; have BK758 := am (hbox); have GW758 := am (gs hg : w.heap.size ≤ gb758); have GE758 := GW758; replace HB := am (below_step bw hb); have NB757_758 := nl hg BK757; have NB758_757 := ns NB757_758; replace BK757 := kb BK757 hb; clear hb hbox hg) | ((with_reducible refine gate_dst (N := 4) rfl ?_); refine bx 4 #[.slice none 0 0] 26 ?_; intro gb759 hg w38 hbox hb; have BK759 := am (hbox); have GW759 := am (gs hg : w.heap.size ≤ gb759); have GE759 := GW759; replace HB := am (below_step bw hb); have NB757_759 := nl hg BK757; have NB759_757 := ns NB757_759; replace BK757 := kb BK757 hb; have NB758_759 := nl hg BK758; have NB759_758 := ns NB758_759; replace BK758 := kb BK758 hb; clear hb hbox hg; have hnb39 := NB757_758.out; have hnc39 := NB758_757.out; have hnb40 := NB757_759.out; have hnc40 := NB759_757.out; have hcz41_0 := bc BK757 0 (.slice A0_0 l0_0.length c0_0); have hfz41_0 := blk_frozen BK757.out 0) | ((with_reducible refine gate_callee (f := 23) rfl ?_); refine gl (some 9) Try.func23 #[.agg #[.slice A0_0 l0_0.length c0_0]] ?_; (with_reducible refine (spec_IsSemigroup.calls k _ _ l0_0 true _ ?side1 ?side2 A3.out).mono ?_); (case side1 => exact co (Kd.C_below HR0_0.out HB.out)); (case side2 => exact HC0_0.out); rintro e w42 ⟨rfl, hb⟩; refine ⟨_, rfl, ?_⟩; replace BK757 := kb BK757 hb; replace BK758 := kb BK758 hb; replace BK759 := kb BK759 hb; replace HB := am (below_step bw hb); clear hb; have hnb43 := NB758_759.out; have hnc43 := NB759_758.out; have hcz44_0 := bc BK758 0 (.slice A1_0 l1_0.length c1_0); have hfz44_0 := blk_frozen BK758.out 0) | (go_at_call 23; (with_reducible refine (spec_IsSemigroup.calls k _ _ l1_0 false _ ?side1 ?side2 A5.out).mono ?_); (case side1 => exact co (Kd.C_below HR1_0.out HB.out)); (case side2 => exact HC1_0.out); rintro e w45 ⟨rfl, hb⟩; replace BK757 := kb BK757 hb; replace BK758 := kb BK758 hb; replace BK759 := kb BK759 hb; replace HB := am (below_step bw hb); clear hb; have hcz46_0 := bc BK759 0 (.slice none 0 0); have hfz46_0 := blk_frozen BK759.out 0))
  refine bodyPost_ret (results_ct rfl _ _ gb759 26 #[.slice none 0 0] (0, 0) _ rfl (by (with_reducible repeat (first | refine blk_drewN ?_ _ | refine blk_drew ?_ | refine blk_alloc ?_ _)); refine blk_put (cs := #[.slice none 0 0]) ?_ 0 _ rfl; (with_reducible repeat (first | refine blk_drewN ?_ _ | refine blk_drew ?_ | refine blk_alloc ?_ _)); exact BK759.out) Try.underlying26 rfl (by kernel_rfl)) rfl ?_
  exact ⟨_, re, by first | exact Kd.R_nil _ _ _ _ _ | exact Kd.N_nil _ _ _ _ _ | exact Kd.V_nil _ _ _ _ _ | exact Kd.Q_nil _ _ _ _ _ | exact Kd.S_nil _ _ _ _ _, bw⟩
 simp only [Option.some.injEq, Prod.mk.injEq] at H
 obtain ⟨rfl, rfl⟩ := H
 go_enter Try.func113, Try.ntmps113
 go_wp2_with (first | ((with_reducible refine gate_dst (N := 2) rfl ?_); refine bx 2 #[.slice A0_0 l0_0.length c0_0] 26 ?_; intro gb757 hg w47 hbox hb; have BK757 := am (hbox); have GW757 := am (gs hg : w.heap.size ≤ gb757); have GE757 := GW757; replace HB := am (below_step bw hb); clear hb hbox hg) | ((with_reducible refine gate_dst (N := 3) rfl ?_); refine bx 3 #[.slice A1_0 l1_0.length c1_0] 26 ?_; intro gb758 hg w48 hbox hb; have BK758 := am (hbox); have GW758 := am (gs hg : w.heap.size ≤ gb758); have GE758 := GW758; replace HB := am (below_step bw hb); have NB757_758 := nl hg BK757; have NB758_757 := ns NB757_758; replace BK757 := kb BK757 hb; clear hb hbox hg) | ((with_reducible refine gate_dst (N := 4) rfl ?_); refine bx 4 #[.slice none 0 0] 26 ?_; intro gb759 hg w49 hbox hb; have BK759 := am (hbox); have GW759 := am (gs hg : w.heap.size ≤ gb759); have GE759 := GW759; replace HB := am (below_step bw hb); have NB757_759 := nl hg BK757; have NB759_757 := ns NB757_759; replace BK757 := kb BK757 hb; have NB758_759 := nl hg BK758; have NB759_758 := ns NB758_759; replace BK758 := kb BK758 hb; clear hb hbox hg; have hnb50 := NB757_758.out; have hnc50 := NB758_757.out; have hnb51 := NB757_759.out; have hnc51 := NB759_757.out; have hcz52_0 := bc BK757 0 (.slice A0_0 l0_0.length c0_0); have hfz52_0 := blk_frozen BK757.out 0) | ((with_reducible refine gate_callee (f := 23) rfl ?_); refine gl (some 9) Try.func23 #[.agg #[.slice A0_0 l0_0.length c0_0]] ?_; (with_reducible refine (spec_IsSemigroup.calls k _ _ l0_0 false _ ?side1 ?side2 A3.out).mono ?_); (case side1 => exact co (Kd.C_below HR0_0.out HB.out)); (case side2 => exact HC0_0.out); rintro e w53 ⟨rfl, hb⟩; refine ⟨_, rfl, ?_⟩; replace BK757 := kb BK757 hb; replace BK758 := kb BK758 hb; replace BK759 := kb BK759 hb; replace HB := am (below_step bw hb); clear hb; have hnb54 := NB759_758.out; have hnc54 := NB758_759.out; have hcz55_0 := bc BK759 0 (.slice none 0 0); have hfz55_0 := blk_frozen BK759.out 0))
 refine bodyPost_ret (results_ct rfl _ _ gb759 26 #[.slice none 0 0] (0, 0) _ rfl (by (with_reducible repeat (first | refine blk_drewN ?_ _ | refine blk_drew ?_ | refine blk_alloc ?_ _)); refine blk_put (cs := #[.slice none 0 0]) ?_ 0 _ rfl; (with_reducible repeat (first | refine blk_drewN ?_ _ | refine blk_drew ?_ | refine blk_alloc ?_ _)); exact BK759.out) Try.underlying26 rfl (by kernel_rfl)) rfl ?_
 exact ⟨_, re, by first | exact Kd.R_nil _ _ _ _ _ | exact Kd.N_nil _ _ _ _ _ | exact Kd.V_nil _ _ _ _ _ | exact Kd.Q_nil _ _ _ _ _ | exact Kd.S_nil _ _ _ _ _, bw⟩

end Go.Proofs.Ytkfplkdchkmgbaa.C
