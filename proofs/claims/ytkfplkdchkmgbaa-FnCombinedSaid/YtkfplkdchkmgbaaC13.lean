/- Contracts of functions of the program: impl_AddOf. -/
import Derived.Test.YtkfplkdchkmgbaaC0
import Derived.Test.YtkfplkdchkmgbaaC1
import Derived.Test.YtkfplkdchkmgbaaC8
namespace Go.Proofs.Ytkfplkdchkmgbaa.C
open Go.RowKit Go.Proofs.YtkfplkdchkmgbaaW.PrintWords Go.Proofs.YtkfplkdchkmgbaaW.PrintLast Go.Proofs.YtkfplkdchkmgbaaW.PrintMore
attribute [local go_sem] max2_int min2_int max_two min_two max_three min_three max_four min_four
set_option linter.unusedVariables false
set_option linter.unusedSimpArgs false

/-! ### impl_AddOf: function 112 -/
def impl_AddOf.f (k : Nat) (l0_0 : List Int) (l1_0 : List Int) : Option (List Int × Bool) := (impl_IsSemigroup.f k l0_0).bind fun t742 => (if t742 = true then ((impl_IsSemigroup.f k l1_0).bind fun t743 => (if t743 = true then ((some (([] : List Int) : List Int)).bind fun y744 => (if y744.length + l0_0.length < 17592186044416 then ((some (y744 ++ l0_0 : List Int)).bind fun y747 => (if y747.length + l1_0.length < 17592186044416 then ((impl_FromGens.f k (y747 ++ l1_0)).bind fun bt753 => (some (bt753.1, bt753.2))) else (none))) else (none))) else (some (([] : List Int), false)))) else (some (([] : List Int), false)))
def impl_AddOf.T3 : Bool × List (List Nat × List Nat) := (true, [([], []), ([], []), ([1], [1]), ([0, 2], [0, 2]), ([], []), ([4], [4]), ([3, 5, 3], [3, 5]), ([6, 6], [6]), ([7], [7]), ([7], [7]), ([8, 7, 0, 1, 2, 3, 4, 5, 6, 7, 8, 9], [8]), ([9, 10, 0, 1, 2, 3, 4, 5, 6, 7, 8, 9, 10], [9])])
def impl_AddOf.B3 : List Nat := [0, 0, 2, 7, 0, 16, 63, 127, 255, 255, 1023, 2047]
theorem impl_AddOf.tab3 : rtab .any (opsOf Try.f112 3) = impl_AddOf.T3 := by kernel_rfl
theorem impl_AddOf.bits3 : waitsOk impl_AddOf.T3.2 impl_AddOf.B3 = true := by kernel_rfl
set_option maxHeartbeats 8000000 in
set_option maxRecDepth 100000 in
theorem impl_AddOf.calls (k : Nat) (A0_0 : Option Addr) (c0_0 : Nat) (l0_0 : List Int) (A1_0 : Option Addr) (c1_0 : Nat) (l1_0 : List Int) (r1 : List Int) (r2 : Bool) (w : World) (hr0_0 : Kd.C (Kd.int .i64) w A0_0 l0_0.length l0_0) (hc0_0 : l0_0.length ≤ c0_0) (hr1_0 : Kd.C (Kd.int .i64) w A1_0 l1_0.length l1_0) (hc1_0 : l1_0.length ≤ c1_0) (h : impl_AddOf.f k l0_0 l1_0 = some (r1, r2)) :
  Calls Try.prog 112 #[.agg #[.slice A0_0 l0_0.length c0_0], .agg #[.slice A1_0 l1_0.length c1_0]] w fun e w' => ∃ v0_ : Value, e = .returned (.tuple #[.agg #[v0_], .bool r2]) ∧ Kd.R (Kd.int .i64) 3 w' w.heap.size (fun _ => True) v0_ r1 ∧ Below w.heap.size w w' := by
 have hu26 := Try.underlying26
 have HR0_0 := am hr0_0
 have HC0_0 := am hc0_0
 clear hr0_0 hc0_0
 have HR1_0 := am hr1_0
 have HC1_0 := am hc1_0
 clear hr1_0 hc1_0
 have HB := am (Below.refl w.heap.size w)
 have H : ((impl_IsSemigroup.f k l0_0).bind fun t742 => (if t742 = true then ((impl_IsSemigroup.f k l1_0).bind fun t743 => (if t743 = true then ((some (([] : List Int) : List Int)).bind fun y744 => (if y744.length + l0_0.length < 17592186044416 then ((some (y744 ++ l0_0 : List Int)).bind fun y747 => (if y747.length + l1_0.length < 17592186044416 then ((impl_FromGens.f k (y747 ++ l1_0)).bind fun bt753 => (some (bt753.1, bt753.2))) else (none))) else (none))) else (some (([] : List Int), false)))) else (some (([] : List Int), false)))) = some (r1, r2) := h
 clear h
 replace H := ga H; obtain ⟨t742, A3, H⟩ := H
 replace H := gb H; obtain ⟨rfl, H⟩ | ⟨rfl, H⟩ := H
 ·replace H := ga H; obtain ⟨t743, A5, H⟩ := H
  replace H := gb H; obtain ⟨rfl, H⟩ | ⟨rfl, H⟩ := H
  ·obtain ⟨y744, hy744⟩ : ∃ y_ : List Int, y_ = (([] : List Int)) := ⟨_, rfl⟩
   replace H : (if y744.length + l0_0.length < 17592186044416 then ((some (y744 ++ l0_0 : List Int)).bind fun y747 => (if y747.length + l1_0.length < 17592186044416 then ((impl_FromGens.f k (y747 ++ l1_0)).bind fun bt753 => (some (bt753.1, bt753.2))) else (none))) else (none)) = some (r1, r2) := by first | (rw [hy744]; with_reducible first | exact H | exact bs H) | (with_reducible first | exact bs H | exact H) | (rw [hy744]; exact H) | exact H
   have Ny744 := am hy744
   clear hy744
   by_cases c7 : y744.length + l0_0.length < 17592186044416
   rotate_left
   ·rw [if_neg c7] at H
    exact absurd H (by simp)
   rw [if_pos c7] at H
   have LMc7 := am c7
   clear c7
   obtain ⟨y747, hy747⟩ : ∃ y_ : List Int, y_ = (y744 ++ l0_0) := ⟨_, rfl⟩
   replace H : (if y747.length + l1_0.length < 17592186044416 then ((impl_FromGens.f k (y747 ++ l1_0)).bind fun bt753 => (some (bt753.1, bt753.2))) else (none)) = some (r1, r2) := by first | (rw [hy747]; with_reducible first | exact H | exact bs H) | (with_reducible first | exact bs H | exact H) | (rw [hy747]; exact H) | exact H
   have Ny747 := am hy747
   clear hy747
   by_cases c8 : y747.length + l1_0.length < 17592186044416
   rotate_left
   ·rw [if_neg c8] at H
    exact absurd H (by simp)
   rw [if_pos c8] at H
   have LMc8 := am c8
   clear c8
   obtain ⟨y750, hy750⟩ : ∃ y_ : List Int, y_ = (y747 ++ l1_0) := ⟨_, rfl⟩
   replace H : ((impl_FromGens.f k y750).bind fun bt753 => (some (bt753.1, bt753.2))) = some (r1, r2) := by first | (rw [hy750]; with_reducible first | exact H | exact bs H) | (with_reducible first | exact bs H | exact H) | (rw [hy750]; exact H) | exact H
   have Ny750 := am hy750
   clear hy750
   replace H := ga H; obtain ⟨⟨t753, t756⟩, A9, H⟩ := H
   replace H : (some (t753, t756)) = some (r1, r2) := H
   simp only [Option.some.injEq, Prod.mk.injEq] at H
   obtain ⟨rfl, rfl⟩ := H
   go_enter Try.func112, Try.ntmps112
   try go_wp2_with (first | ((with_reducible refine gate_dst (N := 2) rfl ?_); refine bx 2 #[.slice A0_0 l0_0.length c0_0] 26 ?_; intro gb739 hg w10 hbox hb; have BK739 := am (hbox); have GW739 := am (gs hg : w.heap.size ≤ gb739); have GE739 := GW739; replace HB := am (below_step bw hb); clear hb hbox hg) | ((with_reducible refine gate_dst (N := 3) rfl ?_); refine bx 3 #[.slice A1_0 l1_0.length c1_0] 26 ?_; intro gb740 hg w11 hbox hb; have BK740 := am (hbox); have GW740 := am (gs hg : w.heap.size ≤ gb740); have GE740 := GW740; replace HB := am (below_step bw hb); have NB739_740 := nl hg BK739; have NB740_739 := ns NB739_740; replace BK739 := kb BK739 hb; clear hb hbox hg) | ((with_reducible refine gate_dst (N := 4) rfl ?_); refine bx 4 #[.slice none 0 0] 26 ?_; intro gb741 hg w12 hbox hb; have BK741 := am (hbox); have GW741 := am (gs hg : w.heap.size ≤ gb741); have GE741 := GW741; replace HB := am (below_step bw hb); have NB739_741 := nl hg BK739; have NB741_739 := ns NB739_741; replace BK739 := kb BK739 hb; have NB740_741 := nl hg BK740; have NB741_740 := ns NB740_741; replace BK740 := kb BK740 hb; clear hb hbox hg; have hnb13 := NB739_740.out; have hnc13 := NB740_739.out; have hnb14 := NB739_741.out; have hnc14 := NB741_739.out; have hcz15_0 := bc BK739 0 (.slice A0_0 l0_0.length c0_0); have hfz15_0 := blk_frozen BK739.out 0) | ((with_reducible refine gate_callee (f := 151) rfl ?_); refine gl (some 7) Try.func151 #[.agg #[.slice A0_0 l0_0.length c0_0]] ?_; (with_reducible refine (impl_IsSemigroup.calls k _ _ l0_0 true _ ?side1 ?side2 A3.out).mono ?_); (case side1 => exact co (Kd.C_below HR0_0.out HB.out)); (case side2 => exact HC0_0.out); rintro e w16 ⟨rfl, hb⟩; refine ⟨_, rfl, ?_⟩; replace BK739 := kb BK739 hb; replace BK740 := kb BK740 hb; replace BK741 := kb BK741 hb; replace HB := am (below_step bw hb); clear hb; have hnb17 := NB740_741.out; have hnc17 := NB741_740.out; have hcz18_0 := bc BK740 0 (.slice A1_0 l1_0.length c1_0); have hfz18_0 := blk_frozen BK740.out 0) | (go_at_call 151; (with_reducible refine (impl_IsSemigroup.calls k _ _ l1_0 true _ ?side1 ?side2 A5.out).mono ?_); (case side1 => exact co (Kd.C_below HR1_0.out HB.out)); (case side2 => exact HC1_0.out); rintro e w19 ⟨rfl, hb⟩; replace BK739 := kb BK739 hb; replace BK740 := kb BK740 hb; replace BK741 := kb BK741 hb; replace HB := am (below_step bw hb); clear hb))
   replace BK739 := bd BK739
   replace BK740 := bd BK740
   replace BK741 := bd BK741
   replace HB := am (below_drew1 HB.out)
   refine start_ (n := 12) (S := fun w' => w'.cell? ⟨gb739, 0, none⟩ = some (.slice A0_0 l0_0.length c0_0) ∧ w'.cell? ⟨gb740, 0, none⟩ = some (.slice A1_0 l1_0.length c1_0)) (ds := []) (yz 12 0) (by kernel_rfl) rfl rfl ⟨bc BK739 0 _, bc BK740 0 _⟩ (fun hHeld => ?_); refine with_tabW impl_AddOf.tab3 impl_AddOf.bits3 (fun HT_ HW_ => ?_)
   generalize w19.drew = w20 at BK739 BK740 BK741 HB hHeld ⊢
   refine pa 1 (some 16) (yz 12 2) HT_ ?_
   refine pa 4 (some 19) (yz 12 18) HT_ ?_
   refine tk 2 (some 17) (yz 12 22) HT_ HW_ hHeld ?_
   refine tk 5 (some 20) (yz 12 54) HT_ HW_ hHeld ?_
   refine oa 0 (some 15) (yz 12 55) HT_ (fun K hK => ?_)
   refine Kd.R_lit_step (Kd.int .i64) _ 3 ?hg (N := 15) ?hd (xs := ([] : List Int)) (inner := []) (ok := fun _ => True) (okp := fun _ => True) ?hr ?hp (fun _ hk => hk) trivial (Below.refl _ _) (Nat.le_refl _) (by simp) ?_; (case hd => rfl); (case hg => rfl); (case hr => first | (go_simp; done) | (go_simp; rfl)); (case hp => exact (Reps.none _ _))
   intro v745 w21 ho22 hb hg_ hnew_
   clear hg_ hnew_
   (first | rw [← Ny744.out] at ho22 | (simp only [Int.reduceToNat] at ho22; rw [← Ny744.out] at ho22))
   have HO746 := am (Kd.R_lower ho22 (below_size bw))
   replace BK739 := kb BK739 hb
   replace BK740 := kb BK740 hb
   replace BK741 := kb BK741 hb
   replace HB := am (below_step bw hb)
   clear hb ho22
   refine hK.out _ _ ⟨bc BK739 0 _, bc BK740 0 _⟩ (fun hHeld => ?_)
   clear hK K
   refine nm (some 15) ?_
   refine oa 3 (some 18) (yz 12 63) HT_ (fun K hK => ?_)
   refine Kd.R_append_rows_step (Kd.int .i64) (w0 := w) w.heap.size (by rfl) (.tmp 15) (.tmp 17) 24 3 (.int .i64 0) 8 rfl Try.underlying24 info3 rfl (by decide) (by omega) v745 y744 l0_0 _ _ _ (fun _ => True) (fun _ => False) rfl rfl ?aO ?aR (fun _ _ h => h) (fun _ h => h.elim) ?aF ?aB ?aS ?aL ?_
   (case aR => exact co (Kd.C_below HR0_0.out HB.out))
   (case aB => exact bw)
   (case aF => exact (fun _ _ => trivial))
   (case aO => exact (ro HO746.out))
   (case aS => exact (below_size bw))
   (case aL => have := LMc7.out; omega)
   intro v748 w23 ho hb hg hat
   rw [← Ny747.out] at ho
   replace BK739 := am (blk_grown (g := gb739) (o := .cells #[.slice A0_0 l0_0.length c0_0] 26 (0, 0)) (bo BK739.out) hg (Kd.R_ne HO746.out BK739.out (by decide)))
   replace BK740 := am (blk_grown (g := gb740) (o := .cells #[.slice A1_0 l1_0.length c1_0] 26 (0, 0)) (bo BK740.out) hg (Kd.R_ne HO746.out BK740.out (by decide)))
   replace BK741 := am (blk_grown (g := gb741) (o := .cells #[.slice none 0 0] 26 (0, 0)) (bo BK741.out) hg (Kd.R_ne HO746.out BK741.out (by decide)))
   replace HB := am (hb)
   have HO749 := am (ho)
   clear HO746 ho hb hg hat
   refine hK.out _ _ ⟨bc BK739 0 _, bc BK740 0 _⟩ (fun hHeld => ?_)
   clear hK K
   refine nm (some 18) ?_
   refine oa 6 (some 21) (yz 12 127) HT_ (fun K hK => ?_)
   refine Kd.R_append_rows_step (Kd.int .i64) (w0 := w) w.heap.size (by rfl) (.tmp 18) (.tmp 20) 24 3 (.int .i64 0) 8 rfl Try.underlying24 info3 rfl (by decide) (by omega) v748 y747 l1_0 _ _ _ (fun _ => True) (fun _ => False) rfl rfl ?aO ?aR (fun _ _ h => h) (fun _ h => h.elim) ?aF ?aB ?aS ?aL ?_
   (case aR => exact co (Kd.C_below HR1_0.out HB.out))
   (case aB => exact bw)
   (case aF => exact (fun _ _ => trivial))
   (case aO => exact (ro HO749.out))
   (case aS => exact (below_size bw))
   (case aL => have := LMc8.out; omega)
   intro v751 w24 ho hb hg hat
   rw [← Ny750.out] at ho
   replace BK739 := am (blk_grown (g := gb739) (o := .cells #[.slice A0_0 l0_0.length c0_0] 26 (0, 0)) (bo BK739.out) hg (Kd.R_ne HO749.out BK739.out (by decide)))
   replace BK740 := am (blk_grown (g := gb740) (o := .cells #[.slice A1_0 l1_0.length c1_0] 26 (0, 0)) (bo BK740.out) hg (Kd.R_ne HO749.out BK740.out (by decide)))
   replace BK741 := am (blk_grown (g := gb741) (o := .cells #[.slice none 0 0] 26 (0, 0)) (bo BK741.out) hg (Kd.R_ne HO749.out BK741.out (by decide)))
   replace HB := am (hb)
   have HO752 := am (ho)
   clear HO749 ho hb hg hat
   obtain ⟨Ao25, co25, eo25⟩ := Kd.R_slice HO752.out
   (first | subst eo25 | (injection eo25 with f1_ f2_ f3_; have f4_ := f1_.symm; have f5_ := f3_.symm; clear f1_ f2_ f3_; subst f4_; subst f5_))
   refine hK.out _ _ ⟨bc BK739 0 _, bc BK740 0 _⟩ (fun hHeld => ?_)
   clear hK K
   refine nm (some 21) ?_
   refine oa 7 (some 22) (yz 12 255) HT_ (fun K hK => ?_)
   refine gm Try.func92 #[.slice Ao25 y750.length co25] ?_
   with_reducible refine (impl_FromGens.calls k _ _ y750 t753 t756 _ ?side1 ?side2 A9.out).mono ?_
   (case side1 => exact co (Kd.R_reads' HO752.out).2.2)
   (case side2 => exact (Kd.R_reads' HO752.out).2.1)
   rintro e w26 ⟨v754, rfl, ho0, hb⟩
   refine ⟨_, rfl, ?_⟩
   have HO755 := am (Kd.R_lower (Kd.R_new' ho0 (Kd.R_lt (ro HO752.out))) (below_size bw))
   replace HO752 := am (Kd.R_elder' (ro HO752.out) (Kd.R_base ho0) hb)
   replace BK739 := kb BK739 hb
   replace BK740 := kb BK740 hb
   replace BK741 := kb BK741 hb
   replace HB := am (below_step bw hb)
   clear hb ho0
   obtain ⟨Ao27, co27, eo27⟩ := Kd.R_slice HO755.out
   (first | subst eo27 | (injection eo27 with f1_ f2_ f3_; have f4_ := f1_.symm; have f5_ := f3_.symm; clear f1_ f2_ f3_; subst f4_; subst f5_))
   refine hK.out _ _ ⟨bc BK739 0 _, bc BK740 0 _⟩ (fun hHeld => ?_)
   clear hK K
   refine nm (some 22) ?_
   refine pa 8 (some 23) (yz 12 511) HT_ ?_
   refine pa 9 (some 24) (yz 12 1023) HT_ ?_
   refine oa 10 none (yz 12 2047) HT_ (fun K hK => ?_)
   have hs28 := bc BK741 0 (.slice none 0 0)
   have hfs28 := blk_frozen BK741.out 0
   have hns28_0 := NB739_741.out
   have hns28_1 := NB740_741.out
   have hms28_0 := NB741_739.out
   have hms28_1 := NB741_740.out
   refine skip_ (w1 := ?_) (by rfl) rfl ?_ ?_
   rotate_left
   ·go_simp
    rfl
   refine hK.out _ _ ⟨((cell_far (p := ⟨gb741, _, none⟩) NB739_741.out _).trans (hHeld.1)), ((cell_far (p := ⟨gb741, _, none⟩) NB740_741.out _).trans (hHeld.2))⟩ (fun hHeld => ?_)
   clear hK K
   refine pa 11 (some 5) (yz 12 4095) HT_ ?_
   refine done_ (done_of HT_.out (by kernel_rfl)) ?_
   try go_wp2
   refine bodyPost_ret (results_ct rfl _ _ gb741 26 #[.slice Ao27 t753.length co27] (0, 0) _ rfl (by (with_reducible repeat (first | refine blk_drewN ?_ _ | refine blk_drew ?_ | refine blk_alloc ?_ _)); refine blk_put (cs := #[.slice none 0 0]) ?_ 0 _ rfl; (with_reducible repeat (first | refine blk_drewN ?_ _ | refine blk_drew ?_ | refine blk_alloc ?_ _)); exact BK741.out) Try.underlying26 rfl (by kernel_rfl)) rfl ?_
   exact ⟨_, re, by (with_reducible repeat (first | apply Kd.R_alloc | apply Kd.R_drewN | apply Kd.R_drew)); exact Kd.R_mono (Kd.R_far (p := ⟨gb741, 0, none⟩) (Kd.R_types HO755.out BK741.out (by decide)) (fun _ hk => hk.2) (.slice Ao27 t753.length co27)) (fun _ hk => trivial), bw⟩
  simp only [Option.some.injEq, Prod.mk.injEq] at H
  obtain ⟨rfl, rfl⟩ := H
  go_enter Try.func112, Try.ntmps112
  go_wp2_with (first | ((with_reducible refine gate_dst (N := 2) rfl ?_); refine bx 2 #[.slice A0_0 l0_0.length c0_0] 26 ?_; intro gb739 hg w29 hbox hb; have BK739 := am (hbox); have GW739 := am (gs hg : w.heap.size ≤ gb739); have GE739 := GW739; replace HB := am (below_step bw hb); clear hb hbox hg) | ((with_reducible refine gate_dst (N := 3) rfl ?_); refine bx 3 #[.slice A1_0 l1_0.length c1_0] 26 ?_; intro gb740 hg w30 hbox hb; have BK740 := am (hbox); have GW740 := am (gs hg : w.heap.size ≤ gb740); have GE740 := GW740; replace HB := am (below_step bw hb); have NB739_740 := nl hg BK739; have NB740_739 := ns NB739_740; replace BK739 := kb BK739 hb; clear hb hbox hg) | ((with_reducible refine gate_dst (N := 4) rfl ?_); refine bx 4 #[.slice none 0 0] 26 ?_; intro gb741 hg w31 hbox hb; have BK741 := am (hbox); have GW741 := am (gs hg : w.heap.size ≤ gb741); have GE741 := GW741; replace HB := am (below_step bw hb); have NB739_741 := nl hg BK739; have NB741_739 := ns NB739_741; replace BK739 := kb BK739 hb; have NB740_741 := nl hg BK740; have NB741_740 := ns NB740_741; replace BK740 := kb BK740 hb; clear hb hbox hg; have hnb32 := NB739_740.out; have hnc32 := NB740_739.out; have hnb33 := NB739_741.out; have hnc33 := NB741_739.out; have hcz34_0 := bc BK739 0 (.slice A0_0 l0_0.length c0_0); have hfz34_0 := blk_frozen BK739.out 0) | ((with_reducible refine gate_callee (f := 151) rfl ?_); refine gl (some 7) Try.func151 #[.agg #[.slice A0_0 l0_0.length c0_0]] ?_; (with_reducible refine (impl_IsSemigroup.calls k _ _ l0_0 true _ ?side1 ?side2 A3.out).mono ?_); (case side1 => exact co (Kd.C_below HR0_0.out HB.out)); (case side2 => exact HC0_0.out); rintro e w35 ⟨rfl, hb⟩; refine ⟨_, rfl, ?_⟩; replace BK739 := kb BK739 hb; replace BK740 := kb BK740 hb; replace BK741 := kb BK741 hb; replace HB := am (below_step bw hb); clear hb; have hnb36 := NB740_741.out; have hnc36 := NB741_740.out; have hcz37_0 := bc BK740 0 (.slice A1_0 l1_0.length c1_0); have hfz37_0 := blk_frozen BK740.out 0) | (go_at_call 151; (with_reducible refine (impl_IsSemigroup.calls k _ _ l1_0 false _ ?side1 ?side2 A5.out).mono ?_); (case side1 => exact co (Kd.C_below HR1_0.out HB.out)); (case side2 => exact HC1_0.out); rintro e w38 ⟨rfl, hb⟩; replace BK739 := kb BK739 hb; replace BK740 := kb BK740 hb; replace BK741 := kb BK741 hb; replace HB := am (below_step bw hb); clear hb; have hcz39_0 := bc BK741 0 (.slice none 0 0); have hfz39_0 := blk_frozen BK741.out 0))
  refine bodyPost_ret (results_ct rfl _ _ gb741 26 #[.slice none 0 0] (0, 0) _ rfl (by (with_reducible repeat (first | refine blk_drewN ?_ _ | refine blk_drew ?_ | refine blk_alloc ?_ _)); refine blk_put (cs := #[.slice none 0 0]) ?_ 0 _ rfl; (with_reducible repeat (first | refine blk_drewN ?_ _ | refine blk_drew ?_ | refine blk_alloc ?_ _)); exact BK741.out) Try.underlying26 rfl (by kernel_rfl)) rfl ?_
  exact ⟨_, re, by first | exact Kd.R_nil _ _ _ _ _ | exact Kd.N_nil _ _ _ _ _ | exact Kd.V_nil _ _ _ _ _ | exact Kd.Q_nil _ _ _ _ _ | exact Kd.S_nil _ _ _ _ _, bw⟩
 simp only [Option.some.injEq, Prod.mk.injEq] at H
 obtain ⟨rfl, rfl⟩ := H
 go_enter Try.func112, Try.ntmps112
 go_wp2_with (first | ((with_reducible refine gate_dst (N := 2) rfl ?_); refine bx 2 #[.slice A0_0 l0_0.length c0_0] 26 ?_; intro gb739 hg w40 hbox hb; have BK739 := am (hbox); have GW739 := am (gs hg : w.heap.size ≤ gb739); have GE739 := GW739; replace HB := am (below_step bw hb); clear hb hbox hg) | ((with_reducible refine gate_dst (N := 3) rfl ?_); refine bx 3 #[.slice A1_0 l1_0.length c1_0] 26 ?_; intro gb740 hg w41 hbox hb; have BK740 := am (hbox); have GW740 := am (gs hg : w.heap.size ≤ gb740); have GE740 := GW740; replace HB := am (below_step bw hb); have NB739_740 := nl hg BK739; have NB740_739 := ns NB739_740; replace BK739 := kb BK739 hb; clear hb hbox hg) | ((with_reducible refine gate_dst (N := 4) rfl ?_); refine bx 4 #[.slice none 0 0] 26 ?_; intro gb741 hg w42 hbox hb; have BK741 := am (hbox); have GW741 := am (gs hg : w.heap.size ≤ gb741); have GE741 := GW741; replace HB := am (below_step bw hb); have NB739_741 := nl hg BK739; have NB741_739 := ns NB739_741; replace BK739 := kb BK739 hb; have NB740_741 := nl hg BK740; have NB741_740 := ns NB740_741; replace BK740 := kb BK740 hb; clear hb hbox hg; have hnb43 := NB739_740.out; have hnc43 := NB740_739.out; have hnb44 := NB739_741.out; have hnc44 := NB741_739.out; have hcz45_0 := bc BK739 0 (.slice A0_0 l0_0.length c0_0); have hfz45_0 := blk_frozen BK739.out 0) | ((with_reducible refine gate_callee (f := 151) rfl ?_); refine gl (some 7) Try.func151 #[.agg #[.slice A0_0 l0_0.length c0_0]] ?_; (with_reducible refine (impl_IsSemigroup.calls k _ _ l0_0 false _ ?side1 ?side2 A3.out).mono ?_); (case side1 => exact co (Kd.C_below HR0_0.out HB.out)); (case side2 => exact HC0_0.out); rintro e w46 ⟨rfl, hb⟩; refine ⟨_, rfl, ?_⟩; replace BK739 := kb BK739 hb; replace BK740 := kb BK740 hb; replace BK741 := kb BK741 hb; replace HB := am (below_step bw hb); clear hb; have hnb47 := NB741_740.out; have hnc47 := NB740_741.out; have hcz48_0 := bc BK741 0 (.slice none 0 0); have hfz48_0 := blk_frozen BK741.out 0))
 refine bodyPost_ret (results_ct rfl _ _ gb741 26 #[.slice none 0 0] (0, 0) _ rfl (by (with_reducible repeat (first | refine blk_drewN ?_ _ | refine blk_drew ?_ | refine blk_alloc ?_ _)); refine blk_put (cs := #[.slice none 0 0]) ?_ 0 _ rfl; (with_reducible repeat (first | refine blk_drewN ?_ _ | refine blk_drew ?_ | refine blk_alloc ?_ _)); exact BK741.out) Try.underlying26 rfl (by kernel_rfl)) rfl ?_
 exact ⟨_, re, by first | exact Kd.R_nil _ _ _ _ _ | exact Kd.N_nil _ _ _ _ _ | exact Kd.V_nil _ _ _ _ _ | exact Kd.Q_nil _ _ _ _ _ | exact Kd.S_nil _ _ _ _ _, bw⟩

end Go.Proofs.Ytkfplkdchkmgbaa.C
