/- Contracts of functions of the program: spec_l3Bent, spec_l16Draw, spec_DrawInIdeal. -/
import Derived.Test.YtkfplkdchkmgbaaGreatC0
import Derived.Test.YtkfplkdchkmgbaaGreatC1
import Derived.Test.YtkfplkdchkmgbaaGreatC5
namespace Go.Proofs.YtkfplkdchkmgbaaGreat.C
open Go.RowKit Go.Proofs.YtkfplkdchkmgbaaGreatW.PrintWords Go.Proofs.YtkfplkdchkmgbaaGreatW.PrintLast Go.Proofs.YtkfplkdchkmgbaaGreatW.PrintMore
attribute [local go_sem] max2_int min2_int max_two min_two max_three min_three max_four min_four
set_option linter.unusedVariables false
set_option linter.unusedSimpArgs false

/-! ### spec_l3Bent: function 39 -/
def spec_l3Bent.f (k : Nat) (s0_0 : List Int) (s0_1 : Int) (s0_2 : Int) : Option (List Int × Int × Int) := (spec_l3Draw.f k s0_0 s0_1 s0_2).bind fun bt314 => ((spec_l1Below.f s0_0 bt314.2.1 bt314.2.2 12).bind fun bt320 => (if bt320.1 = 0 then ((spec_l1PickInt.f s0_0 bt320.2.1 bt320.2.2 (([0, 61, 12, (-3), 60] : List Int))).bind fun bt326 => (if bt314.1.length < 17592186044416 then (some ((bt314.1 ++ [bt326.1]), bt326.2.1, bt326.2.2)) else (none))) else (if bt320.1 = 1 then (if 1 ≤ (bt314.1.length : Int) then (some ((bt314.1.drop (1 : Int).toNat), bt320.2.1, bt320.2.2)) else (none)) else (if bt320.1 = 2 then ((spec_l1PickInt.f s0_0 bt320.2.1 bt320.2.2 (([0, 59, 4] : List Int))).bind fun bt338 => (some ((([bt338.1, 60] : List Int)), bt338.2.1, bt338.2.2))) else (some (bt314.1, bt320.2.1, bt320.2.2))))))
def spec_l3Bent.T4 : Bool × List (List Nat × List Nat) := (true, [([], []), ([0], [0]), ([], []), ([], []), ([2, 3], [2, 3]), ([4], [4]), ([1, 5, 4], [1, 5]), ([0, 1, 2, 3, 4, 5, 6], []), ([7, 6, 6, 0, 1, 2, 3, 4, 5, 6], [6, 7])])
def spec_l3Bent.B4 : List Nat := [0, 1, 0, 0, 12, 28, 63, 127, 255]
theorem spec_l3Bent.tab4 : rtab .any (opsOf Tryz.f39 4) = spec_l3Bent.T4 := by kernel_rfl
theorem spec_l3Bent.bits4 : waitsOk spec_l3Bent.T4.2 spec_l3Bent.B4 = true := by kernel_rfl
set_option maxHeartbeats 8000000 in
set_option maxRecDepth 100000 in
theorem spec_l3Bent.calls (k : Nat) (g : Nat) (s0_0 : List Int) (s0_1 : Int) (s0_2 : Int) (r1 : List Int) (r2 : Int) (r3 : Int) (w0 w : World) (hI : IsS74 w0 w g s0_0 s0_1 s0_2) (hB : Below w0.heap.size w0 w) (h : spec_l3Bent.f k s0_0 s0_1 s0_2 = some (r1, r2, r3)) :
  Calls Tryz.prog 39 #[.pointer (some ⟨g, 0, none⟩)] w fun e w' => ∃ v0_ : Value, e = .returned (.agg #[v0_]) ∧ Kd.Q (Kd.int .i64) 3 w' w.heap.size (fun _ => True) v0_ r1 ∧ IsS74 w0 w' g s0_0 r2 r3 ∧ Below w0.heap.size w0 w' ∧ KeepBut w w' g none := by
 have hu26 := Tryz.underlying26
 have HI0 := am hI
 have HK := am (KeepBut.refl w g none)
 have HL := am hB.size
 clear hI
 have HW0 := am hB.size
 have HB := am hB
 clear hB
 have H : ((spec_l3Draw.f k s0_0 s0_1 s0_2).bind fun bt314 => ((spec_l1Below.f s0_0 bt314.2.1 bt314.2.2 12).bind fun bt320 => (if bt320.1 = 0 then ((spec_l1PickInt.f s0_0 bt320.2.1 bt320.2.2 (([0, 61, 12, (-3), 60] : List Int))).bind fun bt326 => (if bt314.1.length < 17592186044416 then (some ((bt314.1 ++ [bt326.1]), bt326.2.1, bt326.2.2)) else (none))) else (if bt320.1 = 1 then (if 1 ≤ (bt314.1.length : Int) then (some ((bt314.1.drop (1 : Int).toNat), bt320.2.1, bt320.2.2)) else (none)) else (if bt320.1 = 2 then ((spec_l1PickInt.f s0_0 bt320.2.1 bt320.2.2 (([0, 59, 4] : List Int))).bind fun bt338 => (some ((([bt338.1, 60] : List Int)), bt338.2.1, bt338.2.2))) else (some (bt314.1, bt320.2.1, bt320.2.2))))))) = some (r1, r2, r3) := h
 clear h
 replace H := ga H; obtain ⟨⟨t314, t317, t318⟩, A2, H⟩ := H
 replace H : ((spec_l1Below.f s0_0 t317 t318 12).bind fun bt320 => (if bt320.1 = 0 then ((spec_l1PickInt.f s0_0 bt320.2.1 bt320.2.2 (([0, 61, 12, (-3), 60] : List Int))).bind fun bt326 => (if t314.length < 17592186044416 then (some ((t314 ++ [bt326.1]), bt326.2.1, bt326.2.2)) else (none))) else (if bt320.1 = 1 then (if 1 ≤ (t314.length : Int) then (some ((t314.drop (1 : Int).toNat), bt320.2.1, bt320.2.2)) else (none)) else (if bt320.1 = 2 then ((spec_l1PickInt.f s0_0 bt320.2.1 bt320.2.2 (([0, 59, 4] : List Int))).bind fun bt338 => (some ((([bt338.1, 60] : List Int)), bt338.2.1, bt338.2.2))) else (some (t314, bt320.2.1, bt320.2.2)))))) = some (r1, r2, r3) := H
 replace H := ga H; obtain ⟨⟨t320, t321, t322⟩, A3, H⟩ := H
 replace H : (if t320 = 0 then ((spec_l1PickInt.f s0_0 t321 t322 (([0, 61, 12, (-3), 60] : List Int))).bind fun bt326 => (if t314.length < 17592186044416 then (some ((t314 ++ [bt326.1]), bt326.2.1, bt326.2.2)) else (none))) else (if t320 = 1 then (if 1 ≤ (t314.length : Int) then (some ((t314.drop (1 : Int).toNat), t321, t322)) else (none)) else (if t320 = 2 then ((spec_l1PickInt.f s0_0 t321 t322 (([0, 59, 4] : List Int))).bind fun bt338 => (some ((([bt338.1, 60] : List Int)), bt338.2.1, bt338.2.2))) else (some (t314, t321, t322))))) = some (r1, r2, r3) := H
 by_cases c4 : t320 = 0
 ·rw [if_pos c4] at H
  have c4b0 : (t320 == 0) = true := beq_iff_eq.mpr c4
  have c4b1 : (t320 != 0) = false := bne_eq_false_iff_eq.mpr c4
  clear c4
  obtain ⟨y323, hy323⟩ : ∃ y_ : List Int, y_ = (([0, 61, 12, (-3), 60] : List Int)) := ⟨_, rfl⟩
  replace H : ((spec_l1PickInt.f s0_0 t321 t322 y323).bind fun bt326 => (if t314.length < 17592186044416 then (some ((t314 ++ [bt326.1]), bt326.2.1, bt326.2.2)) else (none))) = some (r1, r2, r3) := by first | (rw [hy323]; with_reducible first | exact H | exact bs H) | (with_reducible first | exact bs H | exact H) | (rw [hy323]; exact H) | exact H
  have Ny323 := am hy323
  clear hy323
  replace H := ga H; obtain ⟨⟨t326, t327, t328⟩, A5, H⟩ := H
  replace H : (if t314.length < 17592186044416 then (some ((t314 ++ [t326]), t327, t328)) else (none)) = some (r1, r2, r3) := H
  by_cases c6 : t314.length < 17592186044416
  rotate_left
  ·rw [if_neg c6] at H
   exact absurd H (by simp)
  rw [if_pos c6] at H
  have LMc6 := am c6
  clear c6
  obtain ⟨y329, hy329⟩ : ∃ y_ : List Int, y_ = (t314 ++ [t326]) := ⟨_, rfl⟩
  replace H : (some (y329, t327, t328)) = some (r1, r2, r3) := by first | (rw [hy329]; with_reducible first | exact H | exact bs H) | (with_reducible first | exact bs H | exact H) | (rw [hy329]; exact H) | exact H
  have Ny329 := am hy329
  clear hy329
  simp only [Option.some.injEq, Prod.mk.injEq] at H
  obtain ⟨rfl, rfl, rfl⟩ := H
  go_enter Tryz.func39, Tryz.ntmps39
  try go_wp2_with (first | ((with_reducible refine gate_dst (N := 2) rfl ?_); refine bx 2 #[.slice none 0 0] 26 ?_; intro gb313 hg w7 hbox hb; replace HB := am (below_step bv hb); have BK313 := am (hbox); have GW313 := am ((by rw [hg]; exact (keep_size (w := w) (g := g) (row := none) (by repeat (first | (with_reducible first | exact HK.out | apply KeepBut.set_ | apply keep_drewN | apply keep_drew | apply keep_alloc) | exact HK.out))) : w.heap.size ≤ gb313)); have GE313 := am ((Nat.le_trans HW0.out (by rw [hg]; exact (keep_size (w := w) (g := g) (row := none) (by repeat (first | (with_reducible first | exact HK.out | apply KeepBut.set_ | apply keep_drewN | apply keep_drew | apply keep_alloc) | exact HK.out))) : w.heap.size ≤ gb313) : w0.heap.size ≤ gb313)); replace HK := am (KeepBut.trans (by repeat (first | (with_reducible first | exact HK.out | apply KeepBut.set_ | apply keep_drewN | apply keep_drew | apply keep_alloc) | exact HK.out)) (KeepBut.of_below hb g none) (.inl rfl)); have NB0_313 := am ((by rw [hg]; exact Nat.ne_of_lt (IsS74.lt (show IsS74 w0 _ g s0_0 s0_1 s0_2 from (iw HI0.out))) : g ≠ gb313)); have NB313_0 := ns NB0_313; replace HI0 := am (IsS74.below (iw HI0.out) hb); clear hb hbox hg) | ((with_reducible refine gate_callee (f := 90) rfl ?_); refine goesL_ (some 5) rfl rfl Tryz.func90 (by kernel_rfl) rfl #[.pointer (some ⟨g, 0, none⟩)] rfl (by (try simp only [List.map_toArray, List.map_cons, List.map_nil]); first | done | rfl | (simp only [List.length_drop, List.length_take]; rfl)) ?_; (with_reducible refine (spec_l3Draw.calls k g s0_0 s0_1 s0_2 t314 t317 t318 w0 _ ?side1 ?side2 A2.out).mono ?_); (case side1 => exact iw HI0.out); (case side2 => exact bv); rintro e w8 ⟨v315, rfl, ho0, hi, hb, hk⟩; refine ⟨_, rfl, ?_⟩; replace BK313 := kk hk BK313 NB313_0; have HO316 := am (Kd.R_lower ho0 (keep_size (w := w) (g := g) (row := none) (by repeat (first | (with_reducible first | exact HK.out | apply KeepBut.set_ | apply keep_drewN | apply keep_drew | apply keep_alloc | refine keep_far ?_ GW313.out _) | exact HK.out)))); replace HK := am (KeepBut.trans (by repeat (first | (with_reducible first | exact HK.out | apply KeepBut.set_ | apply keep_drewN | apply keep_drew | apply keep_alloc | refine keep_far ?_ GW313.out _) | exact HK.out)) hk (.inl rfl)); replace HB := am (hb); replace HI0 := am (hi); clear hb hk hi ho0) | ((with_reducible refine gate_dst (N := 3) rfl ?_); refine bx 3 #[.slice none 0 0] 26 ?_; intro gb319 hg w9 hbox hb; replace HO316 := rK HO316 hb; replace HB := am (below_step bv hb); have BK319 := am (hbox); have GW319 := am ((by rw [hg]; exact (keep_size (w := w) (g := g) (row := none) (by repeat (first | (with_reducible first | exact HK.out | apply KeepBut.set_ | apply keep_drewN | apply keep_drew | apply keep_alloc | refine keep_far ?_ GW313.out _) | exact HK.out))) : w.heap.size ≤ gb319)); have GE319 := am ((Nat.le_trans HW0.out (by rw [hg]; exact (keep_size (w := w) (g := g) (row := none) (by repeat (first | (with_reducible first | exact HK.out | apply KeepBut.set_ | apply keep_drewN | apply keep_drew | apply keep_alloc | refine keep_far ?_ GW313.out _) | exact HK.out))) : w.heap.size ≤ gb319) : w0.heap.size ≤ gb319)); replace HK := am (KeepBut.trans (by repeat (first | (with_reducible first | exact HK.out | apply KeepBut.set_ | apply keep_drewN | apply keep_drew | apply keep_alloc | refine keep_far ?_ GW313.out _) | exact HK.out)) (KeepBut.of_below hb g none) (.inl rfl)); have NB313_319 := nl hg BK313; have NB319_313 := ns NB313_319; replace BK313 := kb BK313 hb; have NB0_319 := am ((by rw [hg]; exact Nat.ne_of_lt (IsS74.lt (show IsS74 w0 _ g s0_0 t317 t318 from (iw HI0.out))) : g ≠ gb319)); have NB319_0 := ns NB0_319; replace HI0 := am (IsS74.below (iw HI0.out) hb); clear hb hbox hg; obtain ⟨Ao10, co10, eo10⟩ := Kd.R_slice HO316.out; subst eo10; have hnb11 := NB319_313.out; have hnc11 := NB313_319.out; have hnb12 := NB319_0.out; have hnc12 := NB0_319.out; have hcz13_0 := bc BK319 0 (.slice none 0 0); have hfz13_0 := blk_frozen BK319.out 0) | ((with_reducible refine gate_callee (f := 42) rfl ?_); refine goesL_ (some 7) rfl rfl Tryz.func42 (by kernel_rfl) rfl #[.pointer (some ⟨g, 0, none⟩), .int .i64 12] rfl (by (try simp only [List.map_toArray, List.map_cons, List.map_nil]); first | done | rfl | (simp only [List.length_drop, List.length_take]; rfl)) ?_; (with_reducible refine (spec_l1Below.calls g s0_0 t317 t318 12 t320 t321 t322 w0 _ ?side1 ?side2 A3.out).mono ?_); (case side1 => exact iw HI0.out); (case side2 => exact bv); rintro e w14 ⟨rfl, hi, hb, hk⟩; refine ⟨_, rfl, ?_⟩; replace BK313 := kk hk BK313 NB313_0; replace HO316 := am (Kd.R_mono (Kd.R_keep (IsS74.apart (show IsS74 w0 _ g s0_0 t317 t318 from (iw HI0.out)) (rF HO316 BK319 (.slice Ao10 t314.length co10)) (by decide)) hk (fun _ h => h.2)) (fun _ h => h.1)); replace BK319 := am (KeepBut.blk hk (g' := gb319) (o := .cells #[.slice Ao10 t314.length co10] 26 (0, 0)) (by (with_reducible repeat (first | refine blk_drewN ?_ _ | refine blk_drew ?_ | refine blk_alloc ?_ _)); refine blk_put (cs := #[.slice none 0 0]) ?_ 0 _ rfl; (with_reducible repeat (first | refine blk_drewN ?_ _ | refine blk_drew ?_ | refine blk_alloc ?_ _)); exact BK319.out) NB319_0.out (by simp)); replace HK := am (KeepBut.trans (by repeat (first | (with_reducible first | exact HK.out | apply KeepBut.set_ | apply keep_drewN | apply keep_drew | apply keep_alloc | refine keep_far ?_ GW313.out _ | refine keep_far ?_ GW319.out _) | exact HK.out)) hk (.inl rfl)); replace HB := am (hb); replace HI0 := am (hi); clear hb hk hi))
  replace HO316 := am (Kd.R_drew HO316.out)
  replace BK313 := bd BK313
  replace BK319 := bd BK319
  replace HI0 := am (IsS74.drew HI0.out)
  replace HK := am (keep_drew HK.out)
  replace HB := am (below_drew1 HB.out)
  refine start_ (n := 9) (S := fun w' => w'.cell? ⟨gb319, 0, none⟩ = some (.slice Ao10 t314.length co10)) (ds := [8]) (yz 9 0) (by kernel_rfl) rfl rfl (bc BK319 0 _) (fun hHeld => ?_); refine with_tabW spec_l3Bent.tab4 spec_l3Bent.bits4 (fun HT_ HW_ => ?_)
  generalize w14.drew = w15 at HO316 BK313 BK319 HI0 HK HB hHeld ⊢
  refine pa 0 (some 10) (yz 9 1) HT_ ?_
  refine pa 2 (some 12) (yz 9 5) HT_ ?_
  refine tK 1 (some 11) (yz 9 7) HT_ HW_ hHeld ?_
  refine oa 3 (some 13) (yz 9 15) HT_ (fun K hK => ?_)
  refine Kd.R_lit_step (Kd.int .i64) _ 3 ?hg (N := 13) ?hd (xs := ([0, 61, 12, (-3), 60] : List Int)) (inner := [.int .i64 0, .int .i64 61, .int .i64 12, .int .i64 (-3), .int .i64 60]) (ok := fun _ => True) (okp := fun _ => True) ?hr ?hp (fun _ hk => hk) trivial (Below.refl _ _) (Nat.le_refl _) (by simp) ?_; (case hd => rfl); (case hg => rfl); (case hr => first | (go_simp; done) | (go_simp; rfl)); (case hp => exact (Reps.one (show Kd.M (Kd.int .i64) _ _ _ 0 [.int .i64 0] from rfl) (Reps.one (show Kd.M (Kd.int .i64) _ _ _ 61 [.int .i64 61] from rfl) (Reps.one (show Kd.M (Kd.int .i64) _ _ _ 12 [.int .i64 12] from rfl) (Reps.one (show Kd.M (Kd.int .i64) _ _ _ (-3) [.int .i64 (-3)] from rfl) (Reps.one (show Kd.M (Kd.int .i64) _ _ _ 60 [.int .i64 60] from rfl) (Reps.none _ _)))))))
  intro v324 w16 ho17 hb hg_ hnew_
  clear hg_ hnew_
  (first | rw [← Ny323.out] at ho17 | (simp only [Int.reduceToNat] at ho17; rw [← Ny323.out] at ho17))
  have HO325 := am (Kd.R_lower (Kd.R_new' ho17 (Kd.R_lt (ro HO316.out))) (keep_size (w := w) (g := g) (row := none) (by repeat (first | (with_reducible first | exact HK.out | apply KeepBut.set_ | apply keep_drewN | apply keep_drew | apply keep_alloc | refine keep_far ?_ GW313.out _ | refine keep_far ?_ GW319.out _) | exact HK.out))))
  replace HO316 := am (Kd.R_elder' (ro HO316.out) (Kd.R_base ho17) hb)
  replace BK313 := kb BK313 hb
  replace BK319 := kb BK319 hb
  replace HK := am (KeepBut.trans (by repeat (first | (with_reducible first | exact HK.out | apply KeepBut.set_ | apply keep_drewN | apply keep_drew | apply keep_alloc | refine keep_far ?_ GW313.out _ | refine keep_far ?_ GW319.out _) | exact HK.out)) (KeepBut.of_below hb g none) (.inl rfl))
  replace HB := am (below_step bv hb)
  replace HI0 := am (IsS74.below (iw HI0.out) hb)
  clear hb ho17
  obtain ⟨Ao18, co18, eo18⟩ := Kd.R_slice HO325.out
  (first | subst eo18 | (injection eo18 with f1_ f2_ f3_; have f4_ := f1_.symm; have f5_ := f3_.symm; clear f1_ f2_ f3_; subst f4_; subst f5_))
  refine hK.out _ _ (bc BK319 0 _) (fun hHeld => ?_)
  clear hK K
  refine nm (some 13) ?_
  refine oa 4 (some 14) (yz 9 31) HT_ (fun K hK => ?_)
  refine goes_ Tryz.func41 (by kernel_rfl) rfl #[.pointer (some ⟨g, 0, none⟩), .slice Ao18 y323.length co18] (by rfl) rfl rfl (by (try simp only [List.map_toArray, List.map_cons, List.map_nil]); first | done | rfl | (simp only [List.length_drop, List.length_take]; rfl)) ?_
  with_reducible refine (spec_l1PickInt.calls g s0_0 t321 t322 _ _ y323 t326 t327 t328 w0 _ ?side1 ?side2 ?side3 ?side4 ?side5 A5.out).mono ?_
  (case side1 => exact iw HI0.out)
  (case side2 => exact bv)
  (case side3 => exact co (Kd.R_reads' HO325.out).2.2)
  (case side4 => exact (Kd.R_reads' HO325.out).2.1)
  (case side5 => exact far_slice (IsS74.own_ne HI0.out HO325.out (by decide)))
  rintro e w19 ⟨rfl, hi, hb, hk⟩
  refine ⟨_, rfl, ?_⟩
  replace BK313 := kk hk BK313 NB313_0
  replace HO316 := am (Kd.R_mono (Kd.R_keep (IsS74.apart (show IsS74 w0 _ g s0_0 t321 t322 from (iw HI0.out)) (ro HO316.out) (by decide)) hk (fun _ h => h.2)) (fun _ h => h.1))
  replace BK319 := kk hk BK319 NB319_0
  replace HO325 := am (Kd.R_mono (Kd.R_keep (IsS74.apart (show IsS74 w0 _ g s0_0 t321 t322 from (iw HI0.out)) (ro HO325.out) (by decide)) hk (fun _ h => h.2)) (fun _ h => h.1))
  replace HK := am (KeepBut.trans (by repeat (first | (with_reducible first | exact HK.out | apply KeepBut.set_ | apply keep_drewN | apply keep_drew | apply keep_alloc | refine keep_far ?_ GW313.out _ | refine keep_far ?_ GW319.out _) | exact HK.out)) hk (.inl rfl))
  replace HB := am (hb)
  replace HI0 := am (hi)
  clear hb hk hi
  refine hK.out _ _ (bc BK319 0 _) (fun hHeld => ?_)
  clear hK K
  refine nm (some 14) ?_
  refine oa 5 (some 15) (yz 9 63) HT_ (fun K hK => ?_)
  refine value_ (w1 := ?_) (v := ?_) (by rfl) rfl ?_ ?_
  rotate_left 2
  ·go_simp
   constructor
   ·rfl
   rfl
  refine hK.out _ _ ((blk_cell (blk_alloc BK319.out _) 0).trans rfl) (fun hHeld => ?_)
  clear hK K
  refine nm (some 15) ?_
  refine oa 6 (some 16) (yz 9 127) HT_ (fun K hK => ?_)
  refine Kd.R_append_step (Kd.int .i64) w.heap.size (by rfl) (.tmp 11) (.tmp 15) 24 3 (.int .i64 0) 8 rfl Tryz.underlying24 info3 rfl (by decide) (by omega) (.slice Ao10 t314.length co10) t314 t326 [.int .i64 t326] (fun k_ => nb k_ Ao18 y323 co18) (fun _ => False) rfl rfl ?aP (fun _ hk => hk.elim) ?aF ?aO (Below.refl _ _) ?aS ?aL ?_
  (case aP => exact rfl)
  (case aF => exact (fun k_ hk => Kd.fresh' (Kd.R_lt (ro HO325.out)) k_ hk))
  (case aO => exact (by (with_reducible repeat (first | apply Kd.R_alloc | apply Kd.R_drewN | apply Kd.R_drew)); exact Kd.R_mono HO316.out (fun _ hk => hk.2)))
  (case aS => exact (keep_size (w := w) (g := g) (row := none) (by repeat (first | (with_reducible first | exact HK.out | apply KeepBut.set_ | apply keep_drewN | apply keep_drew | apply keep_alloc | refine keep_far ?_ GW313.out _ | refine keep_far ?_ GW319.out _) | exact HK.out))))
  (case aL => have := LMc6.out; omega)
  intro v330 w20 ho hb hg hat
  rw [← Ny329.out] at ho
  replace BK313 := am (blk_grown (g := gb313) (o := .cells #[.slice none 0 0] 26 (0, 0)) (bo BK313.out) hg (Kd.R_ne HO316.out BK313.out (by decide)))
  replace BK319 := am (blk_grown (g := gb319) (o := .cells #[.slice Ao10 t314.length co10] 26 (0, 0)) (bo BK319.out) hg (Kd.R_ne HO316.out BK319.out (by decide)))
  replace HO325 := am (Kd.R_after (ok := (fun _ => True)) (ro HO325.out) hg hat)
  replace HB := am (below_weaken bv HL.out hb)
  replace HI0 := am (IsS74.grown (iw HI0.out) hg (IsS74.own_ne HI0.out HO316.out (by decide)))
  replace HK := am (KeepBut.trans (by repeat (first | (with_reducible first | exact HK.out | apply KeepBut.set_ | apply keep_drewN | apply keep_drew | apply keep_alloc | refine keep_far ?_ GW313.out _ | refine keep_far ?_ GW319.out _) | exact HK.out)) (KeepBut.of_grown hg g) (Kd.R_base2 HO316.out))
  have HO331 := am (ho)
  clear HO316 ho hb hg hat
  obtain ⟨Ao21, co21, eo21⟩ := Kd.R_slice HO331.out
  (first | subst eo21 | (injection eo21 with f1_ f2_ f3_; have f4_ := f1_.symm; have f5_ := f3_.symm; clear f1_ f2_ f3_; subst f4_; subst f5_))
  refine hK.out _ _ (bc BK319 0 _) (fun hHeld => ?_)
  clear hK K
  refine nm (some 16) ?_
  refine pa 7 (some 17) (yz 9 255) HT_ ?_
  refine last_ (i := 8) (N := none) (yz 9 511) rfl rfl (one_of HT_.out (by kernel_rfl)) (by decide) (fun K hK => ?_)
  have hs22 := bc BK319 0 (.slice Ao10 t314.length co10)
  have hfs22 := blk_frozen BK319.out 0
  have hns22_0 := NB313_319.out
  have hms22_0 := NB319_313.out
  refine skip_ (w1 := ?_) (by rfl) rfl ?_ ?_
  rotate_left
  ·go_simp
   rfl
  refine hK.out _ _ ?_
  clear hK K
  refine done_ (done_of HT_.out (by kernel_rfl)) ?_
  have hcz23_0 := bc BK319 0 (.slice Ao10 t314.length co10)
  have hfz23_0 := blk_frozen BK319.out 0
  have hnb24 := NB313_0.out
  have hnc24 := NB0_313.out
  have hcz25_0 := bc BK313 0 (.slice none 0 0)
  have hfz25_0 := blk_frozen BK313.out 0
  try go_wp2
  refine bodyPost_ret (results_cell_row rfl _ _ gb313 26 #[.slice Ao21 y329.length co21] (0, 0) _ rfl (by (with_reducible repeat (first | refine blk_drewN ?_ _ | refine blk_drew ?_ | refine blk_alloc ?_ _)); refine blk_put (cs := #[.slice none 0 0]) ?_ 0 _ rfl; (with_reducible repeat (first | refine blk_drewN ?_ _ | refine blk_drew ?_ | refine blk_alloc ?_ _)); refine blk_far ?_ NB313_319.out _; (with_reducible repeat (first | refine blk_drewN ?_ _ | refine blk_drew ?_ | refine blk_alloc ?_ _)); exact BK313.out) Tryz.underlying26 rfl (by kernel_rfl)) rfl ?_
  exact ⟨_, re, Kd.Q_of_R (by (with_reducible repeat (first | apply Kd.R_alloc | apply Kd.R_drewN | apply Kd.R_drew)); exact Kd.R_mono (Kd.R_far (p := ⟨gb313, 0, none⟩) (Kd.R_far (p := ⟨gb319, 0, none⟩) (Kd.R_types (Kd.R_types HO331.out BK319.out (by decide)) BK313.out (by decide)) (fun _ hk => by first | exact hk.1.2 | simp_all) (.slice Ao21 y329.length co21)) (fun _ hk => hk.2) (.slice Ao21 y329.length co21)) (fun _ hk => trivial)), (iw HI0.out), bv, by repeat (first | (with_reducible first | exact HK.out | apply KeepBut.set_ | apply keep_drewN | apply keep_drew | apply keep_alloc | refine keep_far ?_ GW313.out _ | refine keep_far ?_ GW319.out _) | exact HK.out)⟩
 rw [if_neg c4] at H
 have c4b0 : (t320 == 0) = false := beq_eq_false_iff_ne.mpr c4
 have c4b1 : (t320 != 0) = true := bne_iff_ne.mpr c4
 by_cases c26 : t320 = 1
 ·rw [if_pos c26] at H
  have c26b0 : (t320 == 1) = true := beq_iff_eq.mpr c26
  have c26b1 : (t320 != 1) = false := bne_eq_false_iff_eq.mpr c26
  clear c26
  replace H := gp H; obtain ⟨c27, H⟩ := H
  have c27b0 := eq_true c27
  have c27b1 : decide (1 ≤ (t314.length : Int)) = true := decide_eq_true c27
  clear c27
  obtain ⟨y332, hy332⟩ : ∃ y_ : List Int, y_ = (t314.drop (1 : Int).toNat) := ⟨_, rfl⟩
  replace H : (some (y332, t321, t322)) = some (r1, r2, r3) := by first | (rw [hy332]; with_reducible first | exact H | exact bs H) | (with_reducible first | exact bs H | exact H) | (rw [hy332]; exact H) | exact H
  have Ny332 := am hy332
  clear hy332
  simp only [Option.some.injEq, Prod.mk.injEq] at H
  obtain ⟨rfl, rfl, rfl⟩ := H
  go_enter Tryz.func39, Tryz.ntmps39
  go_wp2_with (first | ((with_reducible refine gate_dst (N := 2) rfl ?_); refine bx 2 #[.slice none 0 0] 26 ?_; intro gb313 hg w28 hbox hb; replace HB := am (below_step bv hb); have BK313 := am (hbox); have GW313 := am ((by rw [hg]; exact (keep_size (w := w) (g := g) (row := none) (by repeat (first | (with_reducible first | exact HK.out | apply KeepBut.set_ | apply keep_drewN | apply keep_drew | apply keep_alloc) | exact HK.out))) : w.heap.size ≤ gb313)); have GE313 := am ((Nat.le_trans HW0.out (by rw [hg]; exact (keep_size (w := w) (g := g) (row := none) (by repeat (first | (with_reducible first | exact HK.out | apply KeepBut.set_ | apply keep_drewN | apply keep_drew | apply keep_alloc) | exact HK.out))) : w.heap.size ≤ gb313) : w0.heap.size ≤ gb313)); replace HK := am (KeepBut.trans (by repeat (first | (with_reducible first | exact HK.out | apply KeepBut.set_ | apply keep_drewN | apply keep_drew | apply keep_alloc) | exact HK.out)) (KeepBut.of_below hb g none) (.inl rfl)); have NB0_313 := am ((by rw [hg]; exact Nat.ne_of_lt (IsS74.lt (show IsS74 w0 _ g s0_0 s0_1 s0_2 from (iw HI0.out))) : g ≠ gb313)); have NB313_0 := ns NB0_313; replace HI0 := am (IsS74.below (iw HI0.out) hb); clear hb hbox hg) | ((with_reducible refine gate_callee (f := 90) rfl ?_); refine goesL_ (some 5) rfl rfl Tryz.func90 (by kernel_rfl) rfl #[.pointer (some ⟨g, 0, none⟩)] rfl (by (try simp only [List.map_toArray, List.map_cons, List.map_nil]); first | done | rfl | (simp only [List.length_drop, List.length_take]; rfl)) ?_; (with_reducible refine (spec_l3Draw.calls k g s0_0 s0_1 s0_2 t314 t317 t318 w0 _ ?side1 ?side2 A2.out).mono ?_); (case side1 => exact iw HI0.out); (case side2 => exact bv); rintro e w29 ⟨v315, rfl, ho0, hi, hb, hk⟩; refine ⟨_, rfl, ?_⟩; replace BK313 := kk hk BK313 NB313_0; have HO316 := am (Kd.R_lower ho0 (keep_size (w := w) (g := g) (row := none) (by repeat (first | (with_reducible first | exact HK.out | apply KeepBut.set_ | apply keep_drewN | apply keep_drew | apply keep_alloc | refine keep_far ?_ GW313.out _) | exact HK.out)))); replace HK := am (KeepBut.trans (by repeat (first | (with_reducible first | exact HK.out | apply KeepBut.set_ | apply keep_drewN | apply keep_drew | apply keep_alloc | refine keep_far ?_ GW313.out _) | exact HK.out)) hk (.inl rfl)); replace HB := am (hb); replace HI0 := am (hi); clear hb hk hi ho0) | ((with_reducible refine gate_dst (N := 3) rfl ?_); refine bx 3 #[.slice none 0 0] 26 ?_; intro gb319 hg w30 hbox hb; replace HO316 := rK HO316 hb; replace HB := am (below_step bv hb); have BK319 := am (hbox); have GW319 := am ((by rw [hg]; exact (keep_size (w := w) (g := g) (row := none) (by repeat (first | (with_reducible first | exact HK.out | apply KeepBut.set_ | apply keep_drewN | apply keep_drew | apply keep_alloc | refine keep_far ?_ GW313.out _) | exact HK.out))) : w.heap.size ≤ gb319)); have GE319 := am ((Nat.le_trans HW0.out (by rw [hg]; exact (keep_size (w := w) (g := g) (row := none) (by repeat (first | (with_reducible first | exact HK.out | apply KeepBut.set_ | apply keep_drewN | apply keep_drew | apply keep_alloc | refine keep_far ?_ GW313.out _) | exact HK.out))) : w.heap.size ≤ gb319) : w0.heap.size ≤ gb319)); replace HK := am (KeepBut.trans (by repeat (first | (with_reducible first | exact HK.out | apply KeepBut.set_ | apply keep_drewN | apply keep_drew | apply keep_alloc | refine keep_far ?_ GW313.out _) | exact HK.out)) (KeepBut.of_below hb g none) (.inl rfl)); have NB313_319 := nl hg BK313; have NB319_313 := ns NB313_319; replace BK313 := kb BK313 hb; have NB0_319 := am ((by rw [hg]; exact Nat.ne_of_lt (IsS74.lt (show IsS74 w0 _ g s0_0 t317 t318 from (iw HI0.out))) : g ≠ gb319)); have NB319_0 := ns NB0_319; replace HI0 := am (IsS74.below (iw HI0.out) hb); clear hb hbox hg; obtain ⟨Ao31, co31, eo31⟩ := Kd.R_slice HO316.out; subst eo31; have hnb32 := NB319_313.out; have hnc32 := NB313_319.out; have hnb33 := NB319_0.out; have hnc33 := NB0_319.out; have hcz34_0 := bc BK319 0 (.slice none 0 0); have hfz34_0 := blk_frozen BK319.out 0) | ((with_reducible refine gate_callee (f := 42) rfl ?_); refine goesL_ (some 7) rfl rfl Tryz.func42 (by kernel_rfl) rfl #[.pointer (some ⟨g, 0, none⟩), .int .i64 12] rfl (by (try simp only [List.map_toArray, List.map_cons, List.map_nil]); first | done | rfl | (simp only [List.length_drop, List.length_take]; rfl)) ?_; (with_reducible refine (spec_l1Below.calls g s0_0 t317 t318 12 t320 t321 t322 w0 _ ?side1 ?side2 A3.out).mono ?_); (case side1 => exact iw HI0.out); (case side2 => exact bv); rintro e w35 ⟨rfl, hi, hb, hk⟩; refine ⟨_, rfl, ?_⟩; replace BK313 := kk hk BK313 NB313_0; replace HO316 := am (Kd.R_mono (Kd.R_keep (IsS74.apart (show IsS74 w0 _ g s0_0 t317 t318 from (iw HI0.out)) (rF HO316 BK319 (.slice Ao31 t314.length co31)) (by decide)) hk (fun _ h => h.2)) (fun _ h => h.1)); replace BK319 := am (KeepBut.blk hk (g' := gb319) (o := .cells #[.slice Ao31 t314.length co31] 26 (0, 0)) (by (with_reducible repeat (first | refine blk_drewN ?_ _ | refine blk_drew ?_ | refine blk_alloc ?_ _)); refine blk_put (cs := #[.slice none 0 0]) ?_ 0 _ rfl; (with_reducible repeat (first | refine blk_drewN ?_ _ | refine blk_drew ?_ | refine blk_alloc ?_ _)); exact BK319.out) NB319_0.out (by simp)); replace HK := am (KeepBut.trans (by repeat (first | (with_reducible first | exact HK.out | apply KeepBut.set_ | apply keep_drewN | apply keep_drew | apply keep_alloc | refine keep_far ?_ GW313.out _ | refine keep_far ?_ GW319.out _) | exact HK.out)) hk (.inl rfl)); replace HB := am (hb); replace HI0 := am (hi); clear hb hk hi; have hcz36_0 := bc BK319 0 (.slice Ao31 t314.length co31); have hfz36_0 := blk_frozen BK319.out 0; have q37 : (1 : Int) ≤ ((t314.length : Int) : Int) := of_decide_eq_true (by first | (with_reducible assumption) | assumption); obtain ⟨i037, hi037, _, hsz37, _⟩ := info_parts info3; have hcut37 := cut_from (P := Tryz.prog) 24 3 .i64 Tryz.underlying24 hi037 1 hsz37 Ao31 t314.length co31 1 (by omega) q37; have hr37 := Kd.Q_drop (k := (1 : Int).toNat) (Kd.Q_of_R HO316.out) (by omega); obtain ⟨A37, hA37⟩ : ∃ A1, A1 = (if co31 = (1 : Int).toNat then Ao31 else (Ao31 : Option Addr).map (·.add ((1 : Int).toNat * 1))) := ⟨_, rfl⟩; obtain ⟨c37, hc37⟩ : ∃ c1, c1 = co31 - (1 : Int).toNat := ⟨_, rfl⟩; have hy37 : y332.length = t314.length - (1 : Int).toNat := (by rw [Ny332.out, List.length_drop]); rw [← Ny332.out] at hr37; rw [← hy37, ← hA37, ← hc37] at hcut37; replace hr37 : Kd.Q (Kd.int .i64) 3 w35 w.heap.size (fun _ => True) (.slice A37 y332.length c37) y332 := (by rw [hA37, hc37, hy37]; exact hr37); have HE37 : Aside0 ((Value.slice A37 y332.length c37).ownBlock = (.slice Ao31 t314.length co31 : Value).ownBlock) := ⟨by rw [hA37]; split <;> (cases (Ao31 : Option Addr) <;> rfl)⟩; clear hy37 hi037 hsz37 HO316 hA37 hc37; have HO334 := am hr37; clear hr37; replace q37 := eq_true q37; have hnb38 := NB313_0.out; have hnc38 := NB0_313.out; have hcz39_0 := bc BK313 0 (.slice none 0 0); have hfz39_0 := blk_frozen BK313.out 0))
  refine bodyPost_ret (results_cell_row rfl _ _ gb313 26 #[.slice A37 y332.length c37] (0, 0) _ rfl (by (with_reducible repeat (first | refine blk_drewN ?_ _ | refine blk_drew ?_ | refine blk_alloc ?_ _)); refine blk_put (cs := #[.slice none 0 0]) ?_ 0 _ rfl; (with_reducible repeat (first | refine blk_drewN ?_ _ | refine blk_drew ?_ | refine blk_alloc ?_ _)); refine blk_far ?_ NB313_319.out _; (with_reducible repeat (first | refine blk_drewN ?_ _ | refine blk_drew ?_ | refine blk_alloc ?_ _)); exact BK313.out) Tryz.underlying26 rfl (by kernel_rfl)) rfl ?_
  exact ⟨_, re, by (with_reducible repeat (first | apply Kd.Q_alloc | apply Kd.Q_drewN | apply Kd.Q_drew)); exact Kd.Q_mono (Kd.Q_far (p := ⟨gb313, 0, none⟩) (Kd.Q_far (p := ⟨gb319, 0, none⟩) (Kd.Q_types (Kd.Q_types HO334.out BK319.out (by decide)) BK313.out (by decide)) (fun _ hk => by first | exact hk.1.2 | simp_all) (.slice A37 y332.length c37)) (fun _ hk => hk.2) (.slice A37 y332.length c37)) (fun _ hk => trivial), (iw HI0.out), bv, by repeat (first | (with_reducible first | exact HK.out | apply KeepBut.set_ | apply keep_drewN | apply keep_drew | apply keep_alloc | refine keep_far ?_ GW313.out _ | refine keep_far ?_ GW319.out _) | exact HK.out)⟩
 rw [if_neg c26] at H
 have c26b0 : (t320 == 1) = false := beq_eq_false_iff_ne.mpr c26
 have c26b1 : (t320 != 1) = true := bne_iff_ne.mpr c26
 by_cases c40 : t320 = 2
 ·rw [if_pos c40] at H
  have c40b0 : (t320 == 2) = true := beq_iff_eq.mpr c40
  have c40b1 : (t320 != 2) = false := bne_eq_false_iff_eq.mpr c40
  clear c40
  obtain ⟨y335, hy335⟩ : ∃ y_ : List Int, y_ = (([0, 59, 4] : List Int)) := ⟨_, rfl⟩
  replace H : ((spec_l1PickInt.f s0_0 t321 t322 y335).bind fun bt338 => (some ((([bt338.1, 60] : List Int)), bt338.2.1, bt338.2.2))) = some (r1, r2, r3) := by first | (rw [hy335]; with_reducible first | exact H | exact bs H) | (with_reducible first | exact bs H | exact H) | (rw [hy335]; exact H) | exact H
  have Ny335 := am hy335
  clear hy335
  replace H := ga H; obtain ⟨⟨t338, t339, t340⟩, A41, H⟩ := H
  replace H : (some ((([t338, 60] : List Int)), t339, t340)) = some (r1, r2, r3) := H
  obtain ⟨y341, hy341⟩ : ∃ y_ : List Int, y_ = (([t338, 60] : List Int)) := ⟨_, rfl⟩
  replace H : (some (y341, t339, t340)) = some (r1, r2, r3) := by first | (rw [hy341]; with_reducible first | exact H | exact bs H) | (with_reducible first | exact bs H | exact H) | (rw [hy341]; exact H) | exact H
  have Ny341 := am hy341
  clear hy341
  simp only [Option.some.injEq, Prod.mk.injEq] at H
  obtain ⟨rfl, rfl, rfl⟩ := H
  go_enter Tryz.func39, Tryz.ntmps39
  go_wp2_with (first | ((with_reducible refine gate_dst (N := 2) rfl ?_); refine bx 2 #[.slice none 0 0] 26 ?_; intro gb313 hg w42 hbox hb; replace HB := am (below_step bv hb); have BK313 := am (hbox); have GW313 := am ((by rw [hg]; exact (keep_size (w := w) (g := g) (row := none) (by repeat (first | (with_reducible first | exact HK.out | apply KeepBut.set_ | apply keep_drewN | apply keep_drew | apply keep_alloc) | exact HK.out))) : w.heap.size ≤ gb313)); have GE313 := am ((Nat.le_trans HW0.out (by rw [hg]; exact (keep_size (w := w) (g := g) (row := none) (by repeat (first | (with_reducible first | exact HK.out | apply KeepBut.set_ | apply keep_drewN | apply keep_drew | apply keep_alloc) | exact HK.out))) : w.heap.size ≤ gb313) : w0.heap.size ≤ gb313)); replace HK := am (KeepBut.trans (by repeat (first | (with_reducible first | exact HK.out | apply KeepBut.set_ | apply keep_drewN | apply keep_drew | apply keep_alloc) | exact HK.out)) (KeepBut.of_below hb g none) (.inl rfl)); have NB0_313 := am ((by rw [hg]; exact Nat.ne_of_lt (IsS74.lt (show IsS74 w0 _ g s0_0 s0_1 s0_2 from (iw HI0.out))) : g ≠ gb313)); have NB313_0 := ns NB0_313; replace HI0 := am (IsS74.below (iw HI0.out) hb); clear hb hbox hg) | ((with_reducible refine gate_callee (f := 90) rfl ?_); refine goesL_ (some 5) rfl rfl Tryz.func90 (by kernel_rfl) rfl #[.pointer (some ⟨g, 0, none⟩)] rfl (by (try simp only [List.map_toArray, List.map_cons, List.map_nil]); first | done | rfl | (simp only [List.length_drop, List.length_take]; rfl)) ?_; (with_reducible refine (spec_l3Draw.calls k g s0_0 s0_1 s0_2 t314 t317 t318 w0 _ ?side1 ?side2 A2.out).mono ?_); (case side1 => exact iw HI0.out); (case side2 => exact bv); rintro e w43 ⟨v315, rfl, ho0, hi, hb, hk⟩; refine ⟨_, rfl, ?_⟩; replace BK313 := kk hk BK313 NB313_0; have HO316 := am (Kd.R_lower ho0 (keep_size (w := w) (g := g) (row := none) (by repeat (first | (with_reducible first | exact HK.out | apply KeepBut.set_ | apply keep_drewN | apply keep_drew | apply keep_alloc | refine keep_far ?_ GW313.out _) | exact HK.out)))); replace HK := am (KeepBut.trans (by repeat (first | (with_reducible first | exact HK.out | apply KeepBut.set_ | apply keep_drewN | apply keep_drew | apply keep_alloc | refine keep_far ?_ GW313.out _) | exact HK.out)) hk (.inl rfl)); replace HB := am (hb); replace HI0 := am (hi); clear hb hk hi ho0) | ((with_reducible refine gate_dst (N := 3) rfl ?_); refine bx 3 #[.slice none 0 0] 26 ?_; intro gb319 hg w44 hbox hb; replace HO316 := rK HO316 hb; replace HB := am (below_step bv hb); have BK319 := am (hbox); have GW319 := am ((by rw [hg]; exact (keep_size (w := w) (g := g) (row := none) (by repeat (first | (with_reducible first | exact HK.out | apply KeepBut.set_ | apply keep_drewN | apply keep_drew | apply keep_alloc | refine keep_far ?_ GW313.out _) | exact HK.out))) : w.heap.size ≤ gb319)); have GE319 := am ((Nat.le_trans HW0.out (by rw [hg]; exact (keep_size (w := w) (g := g) (row := none) (by repeat (first | (with_reducible first | exact HK.out | apply KeepBut.set_ | apply keep_drewN | apply keep_drew | apply keep_alloc | refine keep_far ?_ GW313.out _) | exact HK.out))) : w.heap.size ≤ gb319) : w0.heap.size ≤ gb319)); replace HK := am (KeepBut.trans (by repeat (first | (with_reducible first | exact HK.out | apply KeepBut.set_ | apply keep_drewN | apply keep_drew | apply keep_alloc | refine keep_far ?_ GW313.out _) | exact HK.out)) (KeepBut.of_below hb g none) (.inl rfl)); have NB313_319 := nl hg BK313; have NB319_313 := ns NB313_319; replace BK313 := kb BK313 hb; have NB0_319 := am ((by rw [hg]; exact Nat.ne_of_lt (IsS74.lt (show IsS74 w0 _ g s0_0 t317 t318 from (iw HI0.out))) : g ≠ gb319)); have NB319_0 := ns NB0_319; replace HI0 := am (IsS74.below (iw HI0.out) hb); clear hb hbox hg; obtain ⟨Ao45, co45, eo45⟩ := Kd.R_slice HO316.out; subst eo45; have hnb46 := NB319_313.out; have hnc46 := NB313_319.out; have hnb47 := NB319_0.out; have hnc47 := NB0_319.out; have hcz48_0 := bc BK319 0 (.slice none 0 0); have hfz48_0 := blk_frozen BK319.out 0) | ((with_reducible refine gate_callee (f := 42) rfl ?_); refine goesL_ (some 7) rfl rfl Tryz.func42 (by kernel_rfl) rfl #[.pointer (some ⟨g, 0, none⟩), .int .i64 12] rfl (by (try simp only [List.map_toArray, List.map_cons, List.map_nil]); first | done | rfl | (simp only [List.length_drop, List.length_take]; rfl)) ?_; (with_reducible refine (spec_l1Below.calls g s0_0 t317 t318 12 t320 t321 t322 w0 _ ?side1 ?side2 A3.out).mono ?_); (case side1 => exact iw HI0.out); (case side2 => exact bv); rintro e w49 ⟨rfl, hi, hb, hk⟩; refine ⟨_, rfl, ?_⟩; replace BK313 := kk hk BK313 NB313_0; replace HO316 := am (Kd.R_mono (Kd.R_keep (IsS74.apart (show IsS74 w0 _ g s0_0 t317 t318 from (iw HI0.out)) (rF HO316 BK319 (.slice Ao45 t314.length co45)) (by decide)) hk (fun _ h => h.2)) (fun _ h => h.1)); replace BK319 := am (KeepBut.blk hk (g' := gb319) (o := .cells #[.slice Ao45 t314.length co45] 26 (0, 0)) (by (with_reducible repeat (first | refine blk_drewN ?_ _ | refine blk_drew ?_ | refine blk_alloc ?_ _)); refine blk_put (cs := #[.slice none 0 0]) ?_ 0 _ rfl; (with_reducible repeat (first | refine blk_drewN ?_ _ | refine blk_drew ?_ | refine blk_alloc ?_ _)); exact BK319.out) NB319_0.out (by simp)); replace HK := am (KeepBut.trans (by repeat (first | (with_reducible first | exact HK.out | apply KeepBut.set_ | apply keep_drewN | apply keep_drew | apply keep_alloc | refine keep_far ?_ GW313.out _ | refine keep_far ?_ GW319.out _) | exact HK.out)) hk (.inl rfl)); replace HB := am (hb); replace HI0 := am (hi); clear hb hk hi) | ((with_reducible refine gate_dst (N := 27) rfl ?_); refine Kd.R_lit (Kd.int .i64) _ 3 ?hg (N := 27) ?hd (xs := ([0, 59, 4] : List Int)) (inner := [.int .i64 0, .int .i64 59, .int .i64 4]) (ok := fun _ => True) (okp := fun _ => True) ?hr ?hp (fun _ hk => hk) trivial (Below.refl _ _) (Nat.le_refl _) (by simp) ?_; (case hd => rfl); (case hg => rfl); (case hr => first | (go_simp; done) | (go_simp; rfl)); (case hp => exact (Reps.one (show Kd.M (Kd.int .i64) _ _ _ 0 [.int .i64 0] from rfl) (Reps.one (show Kd.M (Kd.int .i64) _ _ _ 59 [.int .i64 59] from rfl) (Reps.one (show Kd.M (Kd.int .i64) _ _ _ 4 [.int .i64 4] from rfl) (Reps.none _ _))))); intro v336 w50 ho51 hb hg_ hnew_; clear hg_ hnew_; (first | rw [← Ny335.out] at ho51 | (simp only [Int.reduceToNat] at ho51; rw [← Ny335.out] at ho51)); have HO337 := am (Kd.R_lower (Kd.R_new' ho51 (Kd.R_lt (ro HO316.out))) (keep_size (w := w) (g := g) (row := none) (by repeat (first | (with_reducible first | exact HK.out | apply KeepBut.set_ | apply keep_drewN | apply keep_drew | apply keep_alloc | refine keep_far ?_ GW313.out _ | refine keep_far ?_ GW319.out _) | exact HK.out)))); replace HO316 := am (Kd.R_elder' (ro HO316.out) (Kd.R_base ho51) hb); replace BK313 := kb BK313 hb; replace BK319 := kb BK319 hb; replace HK := am (KeepBut.trans (by repeat (first | (with_reducible first | exact HK.out | apply KeepBut.set_ | apply keep_drewN | apply keep_drew | apply keep_alloc | refine keep_far ?_ GW313.out _ | refine keep_far ?_ GW319.out _) | exact HK.out)) (KeepBut.of_below hb g none) (.inl rfl)); replace HB := am (below_step bv hb); replace HI0 := am (IsS74.below (iw HI0.out) hb); clear hb ho51; obtain ⟨Ao52, co52, eo52⟩ := Kd.R_slice HO337.out; subst eo52) | ((with_reducible refine gate_callee (f := 41) rfl ?_); refine goesL_ (some 28) rfl rfl Tryz.func41 (by kernel_rfl) rfl #[.pointer (some ⟨g, 0, none⟩), .slice Ao52 y335.length co52] rfl (by (try simp only [List.map_toArray, List.map_cons, List.map_nil]); first | done | rfl | (simp only [List.length_drop, List.length_take]; rfl)) ?_; (with_reducible refine (spec_l1PickInt.calls g s0_0 t321 t322 _ _ y335 t338 t339 t340 w0 _ ?side1 ?side2 ?side3 ?side4 ?side5 A41.out).mono ?_); (case side1 => exact iw HI0.out); (case side2 => exact bv); (case side3 => exact co (Kd.R_reads' HO337.out).2.2); (case side4 => exact (Kd.R_reads' HO337.out).2.1); (case side5 => exact far_slice (IsS74.own_ne HI0.out HO337.out (by decide))); rintro e w53 ⟨rfl, hi, hb, hk⟩; refine ⟨_, rfl, ?_⟩; replace BK313 := kk hk BK313 NB313_0; replace HO316 := am (Kd.R_mono (Kd.R_keep (IsS74.apart (show IsS74 w0 _ g s0_0 t321 t322 from (iw HI0.out)) (ro HO316.out) (by decide)) hk (fun _ h => h.2)) (fun _ h => h.1)); replace BK319 := kk hk BK319 NB319_0; replace HO337 := am (Kd.R_mono (Kd.R_keep (IsS74.apart (show IsS74 w0 _ g s0_0 t321 t322 from (iw HI0.out)) (ro HO337.out) (by decide)) hk (fun _ h => h.2)) (fun _ h => h.1)); replace HK := am (KeepBut.trans (by repeat (first | (with_reducible first | exact HK.out | apply KeepBut.set_ | apply keep_drewN | apply keep_drew | apply keep_alloc | refine keep_far ?_ GW313.out _ | refine keep_far ?_ GW319.out _) | exact HK.out)) hk (.inl rfl)); replace HB := am (hb); replace HI0 := am (hi); clear hb hk hi) | ((with_reducible refine gate_dst (N := 29) rfl ?_); refine Kd.R_lit (Kd.int .i64) _ 3 ?hg (N := 29) ?hd (xs := ([t338, 60] : List Int)) (inner := [.int .i64 t338, .int .i64 60]) (ok := fun _ => True) (okp := fun _ => True) ?hr ?hp (fun _ hk => hk) trivial (Below.refl _ _) (Nat.le_refl _) (by simp) ?_; (case hd => rfl); (case hg => rfl); (case hr => first | (go_simp; done) | (go_simp; rfl)); (case hp => exact (Reps.one (show Kd.M (Kd.int .i64) _ _ _ t338 [.int .i64 t338] from rfl) (Reps.one (show Kd.M (Kd.int .i64) _ _ _ 60 [.int .i64 60] from rfl) (Reps.none _ _)))); intro v342 w54 ho55 hb hg_ hnew_; clear hg_ hnew_; (first | rw [← Ny341.out] at ho55 | (simp only [Int.reduceToNat] at ho55; rw [← Ny341.out] at ho55)); have HO343 := am (Kd.R_lower (Kd.R_new' (Kd.R_new' ho55 (Kd.R_lt (ro HO316.out))) (Kd.R_lt (ro HO337.out))) (keep_size (w := w) (g := g) (row := none) (by repeat (first | (with_reducible first | exact HK.out | apply KeepBut.set_ | apply keep_drewN | apply keep_drew | apply keep_alloc | refine keep_far ?_ GW313.out _ | refine keep_far ?_ GW319.out _) | exact HK.out)))); replace HO316 := am (Kd.R_elder' (ro HO316.out) (Kd.R_base ho55) hb); replace HO337 := am (Kd.R_elder' (ro HO337.out) (Kd.R_base ho55) hb); replace BK313 := kb BK313 hb; replace BK319 := kb BK319 hb; replace HK := am (KeepBut.trans (by repeat (first | (with_reducible first | exact HK.out | apply KeepBut.set_ | apply keep_drewN | apply keep_drew | apply keep_alloc | refine keep_far ?_ GW313.out _ | refine keep_far ?_ GW319.out _) | exact HK.out)) (KeepBut.of_below hb g none) (.inl rfl)); replace HB := am (below_step bv hb); replace HI0 := am (IsS74.below (iw HI0.out) hb); clear hb ho55; obtain ⟨Ao56, co56, eo56⟩ := Kd.R_slice HO343.out; subst eo56; have hcz57_0 := bc BK319 0 (.slice Ao45 t314.length co45); have hfz57_0 := blk_frozen BK319.out 0; have hnb58 := NB313_0.out; have hnc58 := NB0_313.out; have hcz59_0 := bc BK313 0 (.slice none 0 0); have hfz59_0 := blk_frozen BK313.out 0))
  refine bodyPost_ret (results_cell_row rfl _ _ gb313 26 #[.slice Ao56 y341.length co56] (0, 0) _ rfl (by (with_reducible repeat (first | refine blk_drewN ?_ _ | refine blk_drew ?_ | refine blk_alloc ?_ _)); refine blk_put (cs := #[.slice none 0 0]) ?_ 0 _ rfl; (with_reducible repeat (first | refine blk_drewN ?_ _ | refine blk_drew ?_ | refine blk_alloc ?_ _)); refine blk_far ?_ NB313_319.out _; (with_reducible repeat (first | refine blk_drewN ?_ _ | refine blk_drew ?_ | refine blk_alloc ?_ _)); exact BK313.out) Tryz.underlying26 rfl (by kernel_rfl)) rfl ?_
  exact ⟨_, re, Kd.Q_of_R (by (with_reducible repeat (first | apply Kd.R_alloc | apply Kd.R_drewN | apply Kd.R_drew)); exact Kd.R_mono (Kd.R_far (p := ⟨gb313, 0, none⟩) (Kd.R_far (p := ⟨gb319, 0, none⟩) (Kd.R_types (Kd.R_types HO343.out BK319.out (by decide)) BK313.out (by decide)) (fun _ hk => by first | exact hk.1.2 | simp_all) (.slice Ao56 y341.length co56)) (fun _ hk => hk.2) (.slice Ao56 y341.length co56)) (fun _ hk => trivial)), (iw HI0.out), bv, by repeat (first | (with_reducible first | exact HK.out | apply KeepBut.set_ | apply keep_drewN | apply keep_drew | apply keep_alloc | refine keep_far ?_ GW313.out _ | refine keep_far ?_ GW319.out _) | exact HK.out)⟩
 rw [if_neg c40] at H
 have c40b0 : (t320 == 2) = false := beq_eq_false_iff_ne.mpr c40
 have c40b1 : (t320 != 2) = true := bne_iff_ne.mpr c40
 simp only [Option.some.injEq, Prod.mk.injEq] at H
 obtain ⟨rfl, rfl, rfl⟩ := H
 go_enter Tryz.func39, Tryz.ntmps39
 go_wp2_with (first | ((with_reducible refine gate_dst (N := 2) rfl ?_); refine bx 2 #[.slice none 0 0] 26 ?_; intro gb313 hg w60 hbox hb; replace HB := am (below_step bv hb); have BK313 := am (hbox); have GW313 := am ((by rw [hg]; exact (keep_size (w := w) (g := g) (row := none) (by repeat (first | (with_reducible first | exact HK.out | apply KeepBut.set_ | apply keep_drewN | apply keep_drew | apply keep_alloc) | exact HK.out))) : w.heap.size ≤ gb313)); have GE313 := am ((Nat.le_trans HW0.out (by rw [hg]; exact (keep_size (w := w) (g := g) (row := none) (by repeat (first | (with_reducible first | exact HK.out | apply KeepBut.set_ | apply keep_drewN | apply keep_drew | apply keep_alloc) | exact HK.out))) : w.heap.size ≤ gb313) : w0.heap.size ≤ gb313)); replace HK := am (KeepBut.trans (by repeat (first | (with_reducible first | exact HK.out | apply KeepBut.set_ | apply keep_drewN | apply keep_drew | apply keep_alloc) | exact HK.out)) (KeepBut.of_below hb g none) (.inl rfl)); have NB0_313 := am ((by rw [hg]; exact Nat.ne_of_lt (IsS74.lt (show IsS74 w0 _ g s0_0 s0_1 s0_2 from (iw HI0.out))) : g ≠ gb313)); have NB313_0 := ns NB0_313; replace HI0 := am (IsS74.below (iw HI0.out) hb); clear hb hbox hg) | ((with_reducible refine gate_callee (f := 90) rfl ?_); refine goesL_ (some 5) rfl rfl Tryz.func90 (by kernel_rfl) rfl #[.pointer (some ⟨g, 0, none⟩)] rfl (by (try simp only [List.map_toArray, List.map_cons, List.map_nil]); first | done | rfl | (simp only [List.length_drop, List.length_take]; rfl)) ?_; (with_reducible refine (spec_l3Draw.calls k g s0_0 s0_1 s0_2 t314 t317 t318 w0 _ ?side1 ?side2 A2.out).mono ?_); (case side1 => exact iw HI0.out); (case side2 => exact bv); rintro e w61 ⟨v315, rfl, ho0, hi, hb, hk⟩; refine ⟨_, rfl, ?_⟩; replace BK313 := kk hk BK313 NB313_0; have HO316 := am (Kd.R_lower ho0 (keep_size (w := w) (g := g) (row := none) (by repeat (first | (with_reducible first | exact HK.out | apply KeepBut.set_ | apply keep_drewN | apply keep_drew | apply keep_alloc | refine keep_far ?_ GW313.out _) | exact HK.out)))); replace HK := am (KeepBut.trans (by repeat (first | (with_reducible first | exact HK.out | apply KeepBut.set_ | apply keep_drewN | apply keep_drew | apply keep_alloc | refine keep_far ?_ GW313.out _) | exact HK.out)) hk (.inl rfl)); replace HB := am (hb); replace HI0 := am (hi); clear hb hk hi ho0) | ((with_reducible refine gate_dst (N := 3) rfl ?_); refine bx 3 #[.slice none 0 0] 26 ?_; intro gb319 hg w62 hbox hb; replace HO316 := rK HO316 hb; replace HB := am (below_step bv hb); have BK319 := am (hbox); have GW319 := am ((by rw [hg]; exact (keep_size (w := w) (g := g) (row := none) (by repeat (first | (with_reducible first | exact HK.out | apply KeepBut.set_ | apply keep_drewN | apply keep_drew | apply keep_alloc | refine keep_far ?_ GW313.out _) | exact HK.out))) : w.heap.size ≤ gb319)); have GE319 := am ((Nat.le_trans HW0.out (by rw [hg]; exact (keep_size (w := w) (g := g) (row := none) (by repeat (first | (with_reducible first | exact HK.out | apply KeepBut.set_ | apply keep_drewN | apply keep_drew | apply keep_alloc | refine keep_far ?_ GW313.out _) | exact HK.out))) : w.heap.size ≤ gb319) : w0.heap.size ≤ gb319)); replace HK := am (KeepBut.trans (by repeat (first | (with_reducible first | exact HK.out | apply KeepBut.set_ | apply keep_drewN | apply keep_drew | apply keep_alloc | refine keep_far ?_ GW313.out _) | exact HK.out)) (KeepBut.of_below hb g none) (.inl rfl)); have NB313_319 := nl hg BK313; have NB319_313 := ns NB313_319; replace BK313 := kb BK313 hb; have NB0_319 := am ((by rw [hg]; exact Nat.ne_of_lt (IsS74.lt (show IsS74 w0 _ g s0_0 t317 t318 from (iw HI0.out))) : g ≠ gb319)); have NB319_0 := ns NB0_319; replace HI0 := am (IsS74.below (iw HI0.out) hb); clear hb hbox hg; obtain ⟨Ao63, co63, eo63⟩ := Kd.R_slice HO316.out; subst eo63; have hnb64 := NB319_313.out; have hnc64 := NB313_319.out; have hnb65 := NB319_0.out; have hnc65 := NB0_319.out; have hcz66_0 := bc BK319 0 (.slice none 0 0); have hfz66_0 := blk_frozen BK319.out 0) | ((with_reducible refine gate_callee (f := 42) rfl ?_); refine goesL_ (some 7) rfl rfl Tryz.func42 (by kernel_rfl) rfl #[.pointer (some ⟨g, 0, none⟩), .int .i64 12] rfl (by (try simp only [List.map_toArray, List.map_cons, List.map_nil]); first | done | rfl | (simp only [List.length_drop, List.length_take]; rfl)) ?_; (with_reducible refine (spec_l1Below.calls g s0_0 t317 t318 12 t320 t321 t322 w0 _ ?side1 ?side2 A3.out).mono ?_); (case side1 => exact iw HI0.out); (case side2 => exact bv); rintro e w67 ⟨rfl, hi, hb, hk⟩; refine ⟨_, rfl, ?_⟩; replace BK313 := kk hk BK313 NB313_0; replace HO316 := am (Kd.R_mono (Kd.R_keep (IsS74.apart (show IsS74 w0 _ g s0_0 t317 t318 from (iw HI0.out)) (rF HO316 BK319 (.slice Ao63 t314.length co63)) (by decide)) hk (fun _ h => h.2)) (fun _ h => h.1)); replace BK319 := am (KeepBut.blk hk (g' := gb319) (o := .cells #[.slice Ao63 t314.length co63] 26 (0, 0)) (by (with_reducible repeat (first | refine blk_drewN ?_ _ | refine blk_drew ?_ | refine blk_alloc ?_ _)); refine blk_put (cs := #[.slice none 0 0]) ?_ 0 _ rfl; (with_reducible repeat (first | refine blk_drewN ?_ _ | refine blk_drew ?_ | refine blk_alloc ?_ _)); exact BK319.out) NB319_0.out (by simp)); replace HK := am (KeepBut.trans (by repeat (first | (with_reducible first | exact HK.out | apply KeepBut.set_ | apply keep_drewN | apply keep_drew | apply keep_alloc | refine keep_far ?_ GW313.out _ | refine keep_far ?_ GW319.out _) | exact HK.out)) hk (.inl rfl)); replace HB := am (hb); replace HI0 := am (hi); clear hb hk hi; have hcz68_0 := bc BK319 0 (.slice Ao63 t314.length co63); have hfz68_0 := blk_frozen BK319.out 0; have hnb69 := NB313_0.out; have hnc69 := NB0_313.out; have hcz70_0 := bc BK313 0 (.slice none 0 0); have hfz70_0 := blk_frozen BK313.out 0))
 refine bodyPost_ret (results_cell_row rfl _ _ gb313 26 #[.slice Ao63 t314.length co63] (0, 0) _ rfl (by (with_reducible repeat (first | refine blk_drewN ?_ _ | refine blk_drew ?_ | refine blk_alloc ?_ _)); refine blk_put (cs := #[.slice none 0 0]) ?_ 0 _ rfl; (with_reducible repeat (first | refine blk_drewN ?_ _ | refine blk_drew ?_ | refine blk_alloc ?_ _)); exact BK313.out) Tryz.underlying26 rfl (by kernel_rfl)) rfl ?_
 exact ⟨_, re, Kd.Q_of_R (by (with_reducible repeat (first | apply Kd.R_alloc | apply Kd.R_drewN | apply Kd.R_drew)); exact Kd.R_mono (Kd.R_far (p := ⟨gb313, 0, none⟩) (Kd.R_types HO316.out BK313.out (by decide)) (fun _ hk => hk.2) (.slice Ao63 t314.length co63)) (fun _ hk => trivial)), (iw HI0.out), bv, by repeat (first | (with_reducible first | exact HK.out | apply KeepBut.set_ | apply keep_drewN | apply keep_drew | apply keep_alloc | refine keep_far ?_ GW313.out _ | refine keep_far ?_ GW319.out _) | exact HK.out)⟩


/-! ### spec_l16Draw: function 40 -/
def spec_l16Draw.l0 : Nat → List Int → Int → Int → List Int → Int → Int → Option (List Int × Int × Int)
 | 0, _, _, _, _, _, _ => none
 | k + 1, x3, x4, x5, x1000, x1001, x1002 => if x5 < x4 then ((spec_l1Below.f x1000 x1001 x1002 24).bind fun bt350 => (if x3.length < 17592186044416 then (spec_l16Draw.l0 k (x3 ++ [wrap64 (bt350.1 - 6)]) x4 (wrap64 (x5 + 1)) x1000 bt350.2.1 bt350.2.2) else (none))) else ((spec_l1Below.f x1000 x1001 x1002 16).bind fun bt356 => (if bt356.1 = 0 then (some ((([] : List Int)), bt356.2.1, bt356.2.2)) else (if bt356.1 = 1 then ((spec_l1PickInt.f x1000 bt356.2.1 bt356.2.2 (([200, 201, (-200), (-201)] : List Int))).bind fun bt365 => (if x3.length < 17592186044416 then (some ((x3 ++ [bt365.1]), bt365.2.1, bt365.2.2)) else (none))) else (some (x3, bt356.2.1, bt356.2.2)))))
def spec_l16Draw.f (k : Nat) (s0_0 : List Int) (s0_1 : Int) (s0_2 : Int) : Option (List Int × Int × Int) := (spec_l1Below.f s0_0 s0_1 s0_2 4).bind fun bt347 => (spec_l16Draw.l0 k (([] : List Int)) (wrap64 (1 + bt347.1)) 0 s0_0 bt347.2.1 bt347.2.2)
set_option maxHeartbeats 8000000 in
set_option maxRecDepth 100000 in
theorem spec_l16Draw.calls (k : Nat) (g : Nat) (s0_0 : List Int) (s0_1 : Int) (s0_2 : Int) (r1 : List Int) (r2 : Int) (r3 : Int) (w0 w : World) (hI : IsS74 w0 w g s0_0 s0_1 s0_2) (hB : Below w0.heap.size w0 w) (h : spec_l16Draw.f k s0_0 s0_1 s0_2 = some (r1, r2, r3)) :
  Calls Tryz.prog 40 #[.pointer (some ⟨g, 0, none⟩)] w fun e w' => ∃ v0_ : Value, e = .returned (v0_) ∧ Kd.R (Kd.int .i64) 3 w' w.heap.size (fun _ => True) v0_ r1 ∧ IsS74 w0 w' g s0_0 r2 r3 ∧ Below w0.heap.size w0 w' ∧ KeepBut w w' g none := by
 have HI0 := am hI
 have HK := am (KeepBut.refl w g none)
 have HL := am hB.size
 clear hI
 have HW0 := am hB.size
 have HB := am hB
 clear hB
 have H : ((spec_l1Below.f s0_0 s0_1 s0_2 4).bind fun bt347 => (spec_l16Draw.l0 k (([] : List Int)) (wrap64 (1 + bt347.1)) 0 s0_0 bt347.2.1 bt347.2.2)) = some (r1, r2, r3) := h
 clear h
 obtain ⟨y344, hy344⟩ : ∃ y_ : List Int, y_ = (([] : List Int)) := ⟨_, rfl⟩
 replace H : ((spec_l1Below.f s0_0 s0_1 s0_2 4).bind fun bt347 => (spec_l16Draw.l0 k y344 (wrap64 (1 + bt347.1)) 0 s0_0 bt347.2.1 bt347.2.2)) = some (r1, r2, r3) := by first | (rw [hy344]; with_reducible first | exact H | exact bs H) | (with_reducible first | exact bs H | exact H) | (rw [hy344]; exact H) | exact H
 have Ny344 := am hy344
 clear hy344
 replace H := ga H; obtain ⟨⟨t347, t348, t349⟩, A2, H⟩ := H
 replace H : (spec_l16Draw.l0 k y344 (wrap64 (1 + t347)) 0 s0_0 t348 t349) = some (r1, r2, r3) := H
 have H' := am H
 clear H
 go_enter Tryz.func40, Tryz.ntmps40
 go_wp2_with (first | ((with_reducible refine gate_dst (N := 6) rfl ?_); refine Kd.R_lit (Kd.int .i64) _ 3 ?hg (N := 6) ?hd (xs := ([] : List Int)) (inner := []) (ok := fun _ => True) (okp := fun _ => True) ?hr ?hp (fun _ hk => hk) trivial (Below.refl _ _) (Nat.le_refl _) (by simp) ?_; (case hd => rfl); (case hg => rfl); (case hr => first | (go_simp; done) | (go_simp; rfl)); (case hp => exact (Reps.none _ _)); intro v345 w3 ho4 hb hg_ hnew_; clear hg_ hnew_; (first | rw [← Ny344.out] at ho4 | (simp only [Int.reduceToNat] at ho4; rw [← Ny344.out] at ho4)); have HO346 := am (Kd.R_lower ho4 (keep_size (w := w) (g := g) (row := none) (by repeat (first | (with_reducible first | exact HK.out | apply KeepBut.set_ | apply keep_drewN | apply keep_drew | apply keep_alloc) | exact HK.out)))); replace HK := am (KeepBut.trans (by repeat (first | (with_reducible first | exact HK.out | apply KeepBut.set_ | apply keep_drewN | apply keep_drew | apply keep_alloc) | exact HK.out)) (KeepBut.of_below hb g none) (.inl rfl)); replace HB := am (below_step bv hb); replace HI0 := am (IsS74.below (iw HI0.out) hb); clear hb ho4) | ((with_reducible refine gate_callee (f := 42) rfl ?_); refine goesL_ (some 8) rfl rfl Tryz.func42 (by kernel_rfl) rfl #[.pointer (some ⟨g, 0, none⟩), .int .i64 4] rfl (by (try simp only [List.map_toArray, List.map_cons, List.map_nil]); first | done | rfl | (simp only [List.length_drop, List.length_take]; rfl)) ?_; (with_reducible refine (spec_l1Below.calls g s0_0 s0_1 s0_2 4 t347 t348 t349 w0 _ ?side1 ?side2 A2.out).mono ?_); (case side1 => exact iw HI0.out); (case side2 => exact bv); rintro e w5 ⟨rfl, hi, hb, hk⟩; refine ⟨_, rfl, ?_⟩; replace HO346 := am (Kd.R_mono (Kd.R_keep (IsS74.apart (show IsS74 w0 _ g s0_0 s0_1 s0_2 from (iw HI0.out)) (ro HO346.out) (by decide)) hk (fun _ h => h.2)) (fun _ h => h.1)); replace HK := am (KeepBut.trans (by repeat (first | (with_reducible first | exact HK.out | apply KeepBut.set_ | apply keep_drewN | apply keep_drew | apply keep_alloc) | exact HK.out)) hk (.inl rfl)); replace HB := am (hb); replace HI0 := am (hi); clear hb hk hi))
 go_loopg [3, 5] k (fun kq v3 v5 w' => ∃ (x3_1 : List Int) (x5_1 : Int) (x1001_1 : Int) (x1002_1 : Int), v5 = .int .i64 x5_1 ∧ Aside0 (spec_l16Draw.l0 kq x3_1 (wrap64 (1 + t347)) x5_1 s0_0 x1001_1 x1002_1 = some (r1, r2, r3)) ∧ Aside0 (kq ≤ k) ∧ Aside0 (Kd.R (Kd.int .i64) 3 w' w.heap.size (fun _ => True) v3 x3_1) ∧ Aside0 (IsS74 w0 w' g s0_0 x1001_1 x1002_1) ∧ Aside0 (KeepBut w w' g none) ∧ Aside0 (Below w0.heap.size w0 w'))
 case atStart => exact ⟨(y344), (0), (t348), (t349), rr, H', ⟨Nat.le_refl _⟩, ⟨ro HO346.out⟩, ⟨(iw HI0.out)⟩, ⟨by repeat (first | (with_reducible first | exact HK.out | apply KeepBut.set_ | apply keep_drewN | apply keep_drew | apply keep_alloc) | exact HK.out)⟩, ⟨bv⟩⟩
 case round =>
  clear H'
  obtain ⟨x3_1, x5_1, x1001_1, x1002_1, rfl, HA, HK1, HO_3, HI0, HK, HB⟩ := hrel
  cases gk with
  | zero => exact absurd HA.out (by simp [spec_l16Draw.l0])
  | succ k1 =>
   have H := HA.out
   clear HA
   simp only [spec_l16Draw.l0] at H
   replace H := gi H; obtain ⟨c6b0, H⟩ | ⟨c6b0, H⟩ := H
   ·replace H := ga H; obtain ⟨⟨t350, t351, t352⟩, A7, H⟩ := H
    replace H : (if x3_1.length < 17592186044416 then (spec_l16Draw.l0 k1 (x3_1 ++ [wrap64 (t350 - 6)]) (wrap64 (1 + t347)) (wrap64 (x5_1 + 1)) s0_0 t351 t352) else (none)) = some (r1, r2, r3) := H
    by_cases c8 : x3_1.length < 17592186044416
    rotate_left
    ·rw [if_neg c8] at H
     exact absurd H (by simp)
    rw [if_pos c8] at H
    have LMc8 := am c8
    clear c8
    obtain ⟨y353, hy353⟩ : ∃ y_ : List Int, y_ = (x3_1 ++ [wrap64 (t350 - 6)]) := ⟨_, rfl⟩
    replace H : (spec_l16Draw.l0 k1 y353 (wrap64 (1 + t347)) (wrap64 (x5_1 + 1)) s0_0 t351 t352) = some (r1, r2, r3) := by first | (rw [hy353]; with_reducible first | exact H | exact bs H) | (with_reducible first | exact bs H | exact H) | (rw [hy353]; exact H) | exact H
    have Ny353 := am hy353
    clear hy353
    have H' := am H
    clear H
    go_wp2_with (first | ((with_reducible refine gate_callee (f := 42) rfl ?_); refine goesL_ (some 17) rfl rfl Tryz.func42 (by kernel_rfl) rfl #[.pointer (some ⟨g, 0, none⟩), .int .i64 24] rfl (by (try simp only [List.map_toArray, List.map_cons, List.map_nil]); first | done | rfl | (simp only [List.length_drop, List.length_take]; rfl)) ?_; (with_reducible refine (spec_l1Below.calls g s0_0 x1001_1 x1002_1 24 t350 t351 t352 w0 _ ?side1 ?side2 A7.out).mono ?_); (case side1 => exact iw HI0.out); (case side2 => exact bv); rintro e w9 ⟨rfl, hi, hb, hk⟩; refine ⟨_, rfl, ?_⟩; replace HO_3 := am (Kd.R_mono (Kd.R_keep (IsS74.apart (show IsS74 w0 _ g s0_0 x1001_1 x1002_1 from (iw HI0.out)) (ro HO_3.out) (by decide)) hk (fun _ h => h.2)) (fun _ h => h.1)); replace HK := am (KeepBut.trans (by repeat (first | (with_reducible first | exact HK.out | apply KeepBut.set_ | apply keep_drewN | apply keep_drew | apply keep_alloc) | exact HK.out)) hk (.inl rfl)); replace HB := am (hb); replace HI0 := am (hi); clear hb hk hi) | ((with_reducible refine gate_builtin (b := .append) (xs := #[.tmp 15, .tmp 19]) rfl ?_); at_builtin; refine Kd.R_append (Kd.int .i64) w.heap.size rfl (.tmp 15) (.tmp 19) 24 3 (.int .i64 0) 8 rfl Tryz.underlying24 info3 rfl (by decide) (by omega) u3 x3_1 (wrap64 (t350 - 6)) [.int .i64 (wrap64 (t350 - 6))] (fun _ => True) (fun _ => False) rfl rfl ?aP (fun _ hk => hk.elim) ?aF ?aO (Below.refl _ _) ?aS ?aL ?_; (case aP => exact rfl); (case aF => exact (fun _ _ => trivial)); (case aO => exact (ro HO_3.out)); (case aS => exact (keep_size (w := w) (g := g) (row := none) (by repeat (first | (with_reducible first | exact HK.out | apply KeepBut.set_ | apply keep_drewN | apply keep_drew | apply keep_alloc) | exact HK.out)))); (case aL => have := LMc8.out; omega); intro v354 w10 ho hb hg hat; rw [← Ny353.out] at ho; replace HB := am (below_weaken bv HL.out hb); replace HI0 := am (IsS74.grown (iw HI0.out) hg (IsS74.own_ne HI0.out HO_3.out (by decide))); replace HK := am (KeepBut.trans (by repeat (first | (with_reducible first | exact HK.out | apply KeepBut.set_ | apply keep_drewN | apply keep_drew | apply keep_alloc) | exact HK.out)) (KeepBut.of_grown hg g) (Kd.R_base2 HO_3.out)); have HO355 := am (ho); clear HO_3 ho hb hg hat))
    go_roundg k1
    case measure => have := HK1.out; omega
    case rel => exact ⟨(y353), (wrap64 (x5_1 + 1)), (t351), (t352), rr, H', ⟨by have := HK1.out; omega⟩, ⟨ro HO355.out⟩, ⟨(iw HI0.out)⟩, ⟨by repeat (first | (with_reducible first | exact HK.out | apply KeepBut.set_ | apply keep_drewN | apply keep_drew | apply keep_alloc) | exact HK.out)⟩, ⟨bv⟩⟩
   replace H := ga H; obtain ⟨⟨t356, t357, t358⟩, A11, H⟩ := H
   replace H : (if t356 = 0 then (some ((([] : List Int)), t357, t358)) else (if t356 = 1 then ((spec_l1PickInt.f s0_0 t357 t358 (([200, 201, (-200), (-201)] : List Int))).bind fun bt365 => (if x3_1.length < 17592186044416 then (some ((x3_1 ++ [bt365.1]), bt365.2.1, bt365.2.2)) else (none))) else (some (x3_1, t357, t358)))) = some (r1, r2, r3) := H
   by_cases c12 : t356 = 0
   ·rw [if_pos c12] at H
    have c12b0 : (t356 == 0) = true := beq_iff_eq.mpr c12
    have c12b1 : (t356 != 0) = false := bne_eq_false_iff_eq.mpr c12
    clear c12
    obtain ⟨y359, hy359⟩ : ∃ y_ : List Int, y_ = (([] : List Int)) := ⟨_, rfl⟩
    replace H : (some (y359, t357, t358)) = some (r1, r2, r3) := by first | (rw [hy359]; with_reducible first | exact H | exact bs H) | (with_reducible first | exact bs H | exact H) | (rw [hy359]; exact H) | exact H
    have Ny359 := am hy359
    clear hy359
    simp only [Option.some.injEq, Prod.mk.injEq] at H
    obtain ⟨rfl, rfl, rfl⟩ := H
    go_wp2_with (first | ((with_reducible refine gate_callee (f := 42) rfl ?_); refine goesL_ (some 22) rfl rfl Tryz.func42 (by kernel_rfl) rfl #[.pointer (some ⟨g, 0, none⟩), .int .i64 16] rfl (by (try simp only [List.map_toArray, List.map_cons, List.map_nil]); first | done | rfl | (simp only [List.length_drop, List.length_take]; rfl)) ?_; (with_reducible refine (spec_l1Below.calls g s0_0 x1001_1 x1002_1 16 t356 t357 t358 w0 _ ?side1 ?side2 A11.out).mono ?_); (case side1 => exact iw HI0.out); (case side2 => exact bv); rintro e w13 ⟨rfl, hi, hb, hk⟩; refine ⟨_, rfl, ?_⟩; replace HO_3 := am (Kd.R_mono (Kd.R_keep (IsS74.apart (show IsS74 w0 _ g s0_0 x1001_1 x1002_1 from (iw HI0.out)) (ro HO_3.out) (by decide)) hk (fun _ h => h.2)) (fun _ h => h.1)); replace HK := am (KeepBut.trans (by repeat (first | (with_reducible first | exact HK.out | apply KeepBut.set_ | apply keep_drewN | apply keep_drew | apply keep_alloc) | exact HK.out)) hk (.inl rfl)); replace HB := am (hb); replace HI0 := am (hi); clear hb hk hi) | ((with_reducible refine gate_dst (N := 25) rfl ?_); refine Kd.R_lit (Kd.int .i64) _ 3 ?hg (N := 25) ?hd (xs := ([] : List Int)) (inner := []) (ok := fun _ => True) (okp := fun _ => True) ?hr ?hp (fun _ hk => hk) trivial (Below.refl _ _) (Nat.le_refl _) (by simp) ?_; (case hd => rfl); (case hg => rfl); (case hr => first | (go_simp; done) | (go_simp; rfl)); (case hp => exact (Reps.none _ _)); intro v360 w14 ho15 hb hg_ hnew_; clear hg_ hnew_; (first | rw [← Ny359.out] at ho15 | (simp only [Int.reduceToNat] at ho15; rw [← Ny359.out] at ho15)); have HO361 := am (Kd.R_lower (Kd.R_new' ho15 (Kd.R_lt (ro HO_3.out))) (keep_size (w := w) (g := g) (row := none) (by repeat (first | (with_reducible first | exact HK.out | apply KeepBut.set_ | apply keep_drewN | apply keep_drew | apply keep_alloc) | exact HK.out)))); replace HO_3 := am (Kd.R_elder' (ro HO_3.out) (Kd.R_base ho15) hb); replace HK := am (KeepBut.trans (by repeat (first | (with_reducible first | exact HK.out | apply KeepBut.set_ | apply keep_drewN | apply keep_drew | apply keep_alloc) | exact HK.out)) (KeepBut.of_below hb g none) (.inl rfl)); replace HB := am (below_step bv hb); replace HI0 := am (IsS74.below (iw HI0.out) hb); clear hb ho15))
    go_ret
    exact ⟨_, re, by (with_reducible repeat (first | apply Kd.R_alloc | apply Kd.R_drewN | apply Kd.R_drew)); exact Kd.R_mono HO361.out (fun _ hk => trivial), (iw HI0.out), bv, by repeat (first | (with_reducible first | exact HK.out | apply KeepBut.set_ | apply keep_drewN | apply keep_drew | apply keep_alloc) | exact HK.out)⟩
   rw [if_neg c12] at H
   have c12b0 : (t356 == 0) = false := beq_eq_false_iff_ne.mpr c12
   have c12b1 : (t356 != 0) = true := bne_iff_ne.mpr c12
   by_cases c16 : t356 = 1
   ·rw [if_pos c16] at H
    have c16b0 : (t356 == 1) = true := beq_iff_eq.mpr c16
    have c16b1 : (t356 != 1) = false := bne_eq_false_iff_eq.mpr c16
    clear c16
    obtain ⟨y362, hy362⟩ : ∃ y_ : List Int, y_ = (([200, 201, (-200), (-201)] : List Int)) := ⟨_, rfl⟩
    replace H : ((spec_l1PickInt.f s0_0 t357 t358 y362).bind fun bt365 => (if x3_1.length < 17592186044416 then (some ((x3_1 ++ [bt365.1]), bt365.2.1, bt365.2.2)) else (none))) = some (r1, r2, r3) := by first | (rw [hy362]; with_reducible first | exact H | exact bs H) | (with_reducible first | exact bs H | exact H) | (rw [hy362]; exact H) | exact H
    have Ny362 := am hy362
    clear hy362
    replace H := ga H; obtain ⟨⟨t365, t366, t367⟩, A17, H⟩ := H
    replace H : (if x3_1.length < 17592186044416 then (some ((x3_1 ++ [t365]), t366, t367)) else (none)) = some (r1, r2, r3) := H
    by_cases c18 : x3_1.length < 17592186044416
    rotate_left
    ·rw [if_neg c18] at H
     exact absurd H (by simp)
    rw [if_pos c18] at H
    have LMc18 := am c18
    clear c18
    obtain ⟨y368, hy368⟩ : ∃ y_ : List Int, y_ = (x3_1 ++ [t365]) := ⟨_, rfl⟩
    replace H : (some (y368, t366, t367)) = some (r1, r2, r3) := by first | (rw [hy368]; with_reducible first | exact H | exact bs H) | (with_reducible first | exact bs H | exact H) | (rw [hy368]; exact H) | exact H
    have Ny368 := am hy368
    clear hy368
    simp only [Option.some.injEq, Prod.mk.injEq] at H
    obtain ⟨rfl, rfl, rfl⟩ := H
    go_wp2_with (first | ((with_reducible refine gate_callee (f := 42) rfl ?_); refine goesL_ (some 22) rfl rfl Tryz.func42 (by kernel_rfl) rfl #[.pointer (some ⟨g, 0, none⟩), .int .i64 16] rfl (by (try simp only [List.map_toArray, List.map_cons, List.map_nil]); first | done | rfl | (simp only [List.length_drop, List.length_take]; rfl)) ?_; (with_reducible refine (spec_l1Below.calls g s0_0 x1001_1 x1002_1 16 t356 t357 t358 w0 _ ?side1 ?side2 A11.out).mono ?_); (case side1 => exact iw HI0.out); (case side2 => exact bv); rintro e w19 ⟨rfl, hi, hb, hk⟩; refine ⟨_, rfl, ?_⟩; replace HO_3 := am (Kd.R_mono (Kd.R_keep (IsS74.apart (show IsS74 w0 _ g s0_0 x1001_1 x1002_1 from (iw HI0.out)) (ro HO_3.out) (by decide)) hk (fun _ h => h.2)) (fun _ h => h.1)); replace HK := am (KeepBut.trans (by repeat (first | (with_reducible first | exact HK.out | apply KeepBut.set_ | apply keep_drewN | apply keep_drew | apply keep_alloc) | exact HK.out)) hk (.inl rfl)); replace HB := am (hb); replace HI0 := am (hi); clear hb hk hi) | ((with_reducible refine gate_dst (N := 30) rfl ?_); refine Kd.R_lit (Kd.int .i64) _ 3 ?hg (N := 30) ?hd (xs := ([200, 201, (-200), (-201)] : List Int)) (inner := [.int .i64 200, .int .i64 201, .int .i64 (-200), .int .i64 (-201)]) (ok := fun _ => True) (okp := fun _ => True) ?hr ?hp (fun _ hk => hk) trivial (Below.refl _ _) (Nat.le_refl _) (by simp) ?_; (case hd => rfl); (case hg => rfl); (case hr => first | (go_simp; done) | (go_simp; rfl)); (case hp => exact (Reps.one (show Kd.M (Kd.int .i64) _ _ _ 200 [.int .i64 200] from rfl) (Reps.one (show Kd.M (Kd.int .i64) _ _ _ 201 [.int .i64 201] from rfl) (Reps.one (show Kd.M (Kd.int .i64) _ _ _ (-200) [.int .i64 (-200)] from rfl) (Reps.one (show Kd.M (Kd.int .i64) _ _ _ (-201) [.int .i64 (-201)] from rfl) (Reps.none _ _)))))); intro v363 w20 ho21 hb hg_ hnew_; clear hg_ hnew_; (first | rw [← Ny362.out] at ho21 | (simp only [Int.reduceToNat] at ho21; rw [← Ny362.out] at ho21)); have HO364 := am (Kd.R_lower (Kd.R_new' ho21 (Kd.R_lt (ro HO_3.out))) (keep_size (w := w) (g := g) (row := none) (by repeat (first | (with_reducible first | exact HK.out | apply KeepBut.set_ | apply keep_drewN | apply keep_drew | apply keep_alloc) | exact HK.out)))); replace HO_3 := am (Kd.R_elder' (ro HO_3.out) (Kd.R_base ho21) hb); replace HK := am (KeepBut.trans (by repeat (first | (with_reducible first | exact HK.out | apply KeepBut.set_ | apply keep_drewN | apply keep_drew | apply keep_alloc) | exact HK.out)) (KeepBut.of_below hb g none) (.inl rfl)); replace HB := am (below_step bv hb); replace HI0 := am (IsS74.below (iw HI0.out) hb); clear hb ho21; obtain ⟨Ao22, co22, eo22⟩ := Kd.R_slice HO364.out; subst eo22) | ((with_reducible refine gate_callee (f := 41) rfl ?_); refine goesL_ (some 31) rfl rfl Tryz.func41 (by kernel_rfl) rfl #[.pointer (some ⟨g, 0, none⟩), .slice Ao22 y362.length co22] rfl (by (try simp only [List.map_toArray, List.map_cons, List.map_nil]); first | done | rfl | (simp only [List.length_drop, List.length_take]; rfl)) ?_; (with_reducible refine (spec_l1PickInt.calls g s0_0 t357 t358 _ _ y362 t365 t366 t367 w0 _ ?side1 ?side2 ?side3 ?side4 ?side5 A17.out).mono ?_); (case side1 => exact iw HI0.out); (case side2 => exact bv); (case side3 => exact co (Kd.R_reads' HO364.out).2.2); (case side4 => exact (Kd.R_reads' HO364.out).2.1); (case side5 => exact far_slice (IsS74.own_ne HI0.out HO364.out (by decide))); rintro e w23 ⟨rfl, hi, hb, hk⟩; refine ⟨_, rfl, ?_⟩; replace HO_3 := am (Kd.R_mono (Kd.R_keep (IsS74.apart (show IsS74 w0 _ g s0_0 t357 t358 from (iw HI0.out)) (ro HO_3.out) (by decide)) hk (fun _ h => h.2)) (fun _ h => h.1)); replace HO364 := am (Kd.R_mono (Kd.R_keep (IsS74.apart (show IsS74 w0 _ g s0_0 t357 t358 from (iw HI0.out)) (ro HO364.out) (by decide)) hk (fun _ h => h.2)) (fun _ h => h.1)); replace HK := am (KeepBut.trans (by repeat (first | (with_reducible first | exact HK.out | apply KeepBut.set_ | apply keep_drewN | apply keep_drew | apply keep_alloc) | exact HK.out)) hk (.inl rfl)); replace HB := am (hb); replace HI0 := am (hi); clear hb hk hi) | ((with_reducible refine gate_builtin (b := .append) (xs := #[.tmp 28, .tmp 32]) rfl ?_); at_builtin; refine Kd.R_append (Kd.int .i64) w.heap.size rfl (.tmp 28) (.tmp 32) 24 3 (.int .i64 0) 8 rfl Tryz.underlying24 info3 rfl (by decide) (by omega) u3 x3_1 t365 [.int .i64 t365] (fun k_ => nb k_ Ao22 y362 co22) (fun _ => False) rfl rfl ?aP (fun _ hk => hk.elim) ?aF ?aO (Below.refl _ _) ?aS ?aL ?_; (case aP => exact rfl); (case aF => exact (fun k_ hk => Kd.fresh' (Kd.R_lt (ro HO364.out)) k_ hk)); (case aO => exact (by (with_reducible repeat (first | apply Kd.R_alloc | apply Kd.R_drewN | apply Kd.R_drew)); exact Kd.R_mono HO_3.out (fun _ hk => hk.2))); (case aS => exact (keep_size (w := w) (g := g) (row := none) (by repeat (first | (with_reducible first | exact HK.out | apply KeepBut.set_ | apply keep_drewN | apply keep_drew | apply keep_alloc) | exact HK.out)))); (case aL => have := LMc18.out; omega); intro v369 w24 ho hb hg hat; rw [← Ny368.out] at ho; replace HO364 := am (Kd.R_after (ok := (fun _ => True)) (ro HO364.out) hg hat); replace HB := am (below_weaken bv HL.out hb); replace HI0 := am (IsS74.grown (iw HI0.out) hg (IsS74.own_ne HI0.out HO_3.out (by decide))); replace HK := am (KeepBut.trans (by repeat (first | (with_reducible first | exact HK.out | apply KeepBut.set_ | apply keep_drewN | apply keep_drew | apply keep_alloc) | exact HK.out)) (KeepBut.of_grown hg g) (Kd.R_base2 HO_3.out)); have HO370 := am (ho); clear HO_3 ho hb hg hat))
    go_ret
    exact ⟨_, re, by (with_reducible repeat (first | apply Kd.R_alloc | apply Kd.R_drewN | apply Kd.R_drew)); exact Kd.R_mono HO370.out (fun _ hk => trivial), (iw HI0.out), bv, by repeat (first | (with_reducible first | exact HK.out | apply KeepBut.set_ | apply keep_drewN | apply keep_drew | apply keep_alloc) | exact HK.out)⟩
   rw [if_neg c16] at H
   have c16b0 : (t356 == 1) = false := beq_eq_false_iff_ne.mpr c16
   have c16b1 : (t356 != 1) = true := bne_iff_ne.mpr c16
   simp only [Option.some.injEq, Prod.mk.injEq] at H
   obtain ⟨rfl, rfl, rfl⟩ := H
   go_wp2_with (first | ((with_reducible refine gate_callee (f := 42) rfl ?_); refine goesL_ (some 22) rfl rfl Tryz.func42 (by kernel_rfl) rfl #[.pointer (some ⟨g, 0, none⟩), .int .i64 16] rfl (by (try simp only [List.map_toArray, List.map_cons, List.map_nil]); first | done | rfl | (simp only [List.length_drop, List.length_take]; rfl)) ?_; (with_reducible refine (spec_l1Below.calls g s0_0 x1001_1 x1002_1 16 t356 t357 t358 w0 _ ?side1 ?side2 A11.out).mono ?_); (case side1 => exact iw HI0.out); (case side2 => exact bv); rintro e w25 ⟨rfl, hi, hb, hk⟩; refine ⟨_, rfl, ?_⟩; replace HO_3 := am (Kd.R_mono (Kd.R_keep (IsS74.apart (show IsS74 w0 _ g s0_0 x1001_1 x1002_1 from (iw HI0.out)) (ro HO_3.out) (by decide)) hk (fun _ h => h.2)) (fun _ h => h.1)); replace HK := am (KeepBut.trans (by repeat (first | (with_reducible first | exact HK.out | apply KeepBut.set_ | apply keep_drewN | apply keep_drew | apply keep_alloc) | exact HK.out)) hk (.inl rfl)); replace HB := am (hb); replace HI0 := am (hi); clear hb hk hi))
   go_ret
   exact ⟨_, re, ro HO_3.out, (iw HI0.out), bv, by repeat (first | (with_reducible first | exact HK.out | apply KeepBut.set_ | apply keep_drewN | apply keep_drew | apply keep_alloc) | exact HK.out)⟩


/-! ### spec_DrawInIdeal: function 6 -/
def spec_DrawInIdeal.f (k : Nat) (l0 : List Int) : Option (List Int × List Int × Int) := (spec_l1New.f k l0).bind fun bt372 => ((spec_l3Bent.f k bt372.1 bt372.2.1 bt372.2.2).bind fun bt376 => ((spec_l16Draw.f k bt372.1 bt376.2.1 bt376.2.2).bind fun bt382 => ((spec_l1Below.f bt372.1 bt382.2.1 bt382.2.2 50).bind fun bt387 => ((spec_l1Below.f bt372.1 bt387.2.1 bt387.2.2 50).bind fun bt390 => ((spec_l1PickInt.f bt372.1 bt390.2.1 bt390.2.2 (([wrap64 (bt387.1 - 10), wrap64 (bt390.1 - 10), 1000001] : List Int))).bind fun bt396 => (some (bt376.1, bt382.1, bt396.1)))))))
def spec_DrawInIdeal.T4 : Bool × List (List Nat × List Nat) := (true, [([], []), ([], []), ([], []), ([], []), ([3], [3]), ([4], [4]), ([], []), ([6, 4], [6]), ([7], [7]), ([5, 8], [5, 8]), ([2, 9, 7], [2, 9]), ([0, 10, 0], [0]), ([1, 11, 0, 1, 11], [1]), ([10, 12, 0, 1, 2, 3, 4, 5, 6, 7, 8, 9, 10, 11, 12], [10])])
def spec_DrawInIdeal.B4 : List Nat := [0, 0, 0, 0, 8, 24, 0, 88, 216, 504, 1020, 2045, 4095, 8191]
theorem spec_DrawInIdeal.tab4 : rtab .any (opsOf Tryz.f6 4) = spec_DrawInIdeal.T4 := by kernel_rfl
theorem spec_DrawInIdeal.bits4 : waitsOk spec_DrawInIdeal.T4.2 spec_DrawInIdeal.B4 = true := by kernel_rfl
set_option maxHeartbeats 8000000 in
set_option maxRecDepth 100000 in
theorem spec_DrawInIdeal.calls (k : Nat) (A0 : Option Addr) (c0 : Nat) (l0 : List Int) (r1 : List Int) (r2 : List Int) (r3 : Int) (w : World) (hr0 : Kd.C (Kd.int .u8) w A0 l0.length l0) (hc0 : l0.length ≤ c0) (h : spec_DrawInIdeal.f k l0 = some (r1, r2, r3)) :
  Calls Tryz.prog 6 #[.slice A0 l0.length c0] w fun e w' => ∃ v0_ v1_ : Value, e = .returned (.tuple #[.agg #[v0_], v1_, .int .i64 r3]) ∧ Kd.Q (Kd.int .i64) 3 w' w.heap.size (fun k_ => some k_ ≠ (v1_ : Value).ownBlock) v0_ r1 ∧ Kd.R (Kd.int .i64) 3 w' w.heap.size (fun k_ => some k_ ≠ (v0_ : Value).ownBlock) v1_ r2 ∧ Below w.heap.size w w' := by
 have hu26 := Tryz.underlying26
 have HR0 := am hr0
 have HC0 := am hc0
 clear hr0 hc0
 have HB := am (Below.refl w.heap.size w)
 have H : ((spec_l1New.f k l0).bind fun bt372 => ((spec_l3Bent.f k bt372.1 bt372.2.1 bt372.2.2).bind fun bt376 => ((spec_l16Draw.f k bt372.1 bt376.2.1 bt376.2.2).bind fun bt382 => ((spec_l1Below.f bt372.1 bt382.2.1 bt382.2.2 50).bind fun bt387 => ((spec_l1Below.f bt372.1 bt387.2.1 bt387.2.2 50).bind fun bt390 => ((spec_l1PickInt.f bt372.1 bt390.2.1 bt390.2.2 (([wrap64 (bt387.1 - 10), wrap64 (bt390.1 - 10), 1000001] : List Int))).bind fun bt396 => (some (bt376.1, bt382.1, bt396.1)))))))) = some (r1, r2, r3) := h
 clear h
 replace H := ga H; obtain ⟨⟨t372, t373, t374⟩, A2, H⟩ := H
 replace H : ((spec_l3Bent.f k t372 t373 t374).bind fun bt376 => ((spec_l16Draw.f k t372 bt376.2.1 bt376.2.2).bind fun bt382 => ((spec_l1Below.f t372 bt382.2.1 bt382.2.2 50).bind fun bt387 => ((spec_l1Below.f t372 bt387.2.1 bt387.2.2 50).bind fun bt390 => ((spec_l1PickInt.f t372 bt390.2.1 bt390.2.2 (([wrap64 (bt387.1 - 10), wrap64 (bt390.1 - 10), 1000001] : List Int))).bind fun bt396 => (some (bt376.1, bt382.1, bt396.1))))))) = some (r1, r2, r3) := H
 replace H := ga H; obtain ⟨⟨t376, t379, t380⟩, A3, H⟩ := H
 replace H : ((spec_l16Draw.f k t372 t379 t380).bind fun bt382 => ((spec_l1Below.f t372 bt382.2.1 bt382.2.2 50).bind fun bt387 => ((spec_l1Below.f t372 bt387.2.1 bt387.2.2 50).bind fun bt390 => ((spec_l1PickInt.f t372 bt390.2.1 bt390.2.2 (([wrap64 (bt387.1 - 10), wrap64 (bt390.1 - 10), 1000001] : List Int))).bind fun bt396 => (some (t376, bt382.1, bt396.1)))))) = some (r1, r2, r3) := H
 replace H := ga H; obtain ⟨⟨t382, t385, t386⟩, A4, H⟩ := H
 replace H : ((spec_l1Below.f t372 t385 t386 50).bind fun bt387 => ((spec_l1Below.f t372 bt387.2.1 bt387.2.2 50).bind fun bt390 => ((spec_l1PickInt.f t372 bt390.2.1 bt390.2.2 (([wrap64 (bt387.1 - 10), wrap64 (bt390.1 - 10), 1000001] : List Int))).bind fun bt396 => (some (t376, t382, bt396.1))))) = some (r1, r2, r3) := H
 replace H := ga H; obtain ⟨⟨t387, t388, t389⟩, A5, H⟩ := H
 replace H : ((spec_l1Below.f t372 t388 t389 50).bind fun bt390 => ((spec_l1PickInt.f t372 bt390.2.1 bt390.2.2 (([wrap64 (t387 - 10), wrap64 (bt390.1 - 10), 1000001] : List Int))).bind fun bt396 => (some (t376, t382, bt396.1)))) = some (r1, r2, r3) := H
 replace H := ga H; obtain ⟨⟨t390, t391, t392⟩, A6, H⟩ := H
 replace H : ((spec_l1PickInt.f t372 t391 t392 (([wrap64 (t387 - 10), wrap64 (t390 - 10), 1000001] : List Int))).bind fun bt396 => (some (t376, t382, bt396.1))) = some (r1, r2, r3) := H
 obtain ⟨y393, hy393⟩ : ∃ y_ : List Int, y_ = (([wrap64 (t387 - 10), wrap64 (t390 - 10), 1000001] : List Int)) := ⟨_, rfl⟩
 replace H : ((spec_l1PickInt.f t372 t391 t392 y393).bind fun bt396 => (some (t376, t382, bt396.1))) = some (r1, r2, r3) := by first | (rw [hy393]; with_reducible first | exact H | exact bs H) | (with_reducible first | exact bs H | exact H) | (rw [hy393]; exact H) | exact H
 have Ny393 := am hy393
 clear hy393
 replace H := ga H; obtain ⟨⟨t396, t397, t398⟩, A7, H⟩ := H
 replace H : (some (t376, t382, t396)) = some (r1, r2, r3) := H
 simp only [Option.some.injEq, Prod.mk.injEq] at H
 obtain ⟨rfl, rfl, rfl⟩ := H
 go_enter Tryz.func6, Tryz.ntmps6
 try go_wp2_with (first | ((with_reducible refine gate_dst (N := 2) rfl ?_); refine bx 2 #[.slice none 0 0] 26 ?_; intro gb371 hg w8 hbox hb; have BK371 := am (hbox); have GW371 := am (gs hg : w.heap.size ≤ gb371); have GE371 := GW371; replace HB := am (below_step bw hb); clear hb hbox hg) | ((with_reducible refine gate_callee (f := 38) rfl ?_); refine goesL_ (some 9) rfl rfl Tryz.func38 (by kernel_rfl) rfl #[.slice A0 l0.length c0] rfl (by (try simp only [List.map_toArray, List.map_cons, List.map_nil]); first | done | rfl | (simp only [List.length_drop, List.length_take]; rfl)) ?_; (with_reducible refine (spec_l1New.calls k _ _ l0 t372 t373 t374 w _ ?side1 ?side2 ?side3 A2.out).mono ?_); (case side1 => exact bw); (case side2 => exact HR0.out); (case side3 => exact HC0.out); rintro e w9 ⟨g375, rfl, hi, hb, hb2⟩; refine ⟨_, rfl, ?_⟩; replace HB := am (hb); have HI375 := am (hi); have NB375_371 := am (IsS74.ne_blk hi (blk_below (g := gb371) (o := .cells #[.slice none 0 0] 26 (0, 0)) (bo BK371.out) hb2) (by decide)); have NB371_375 := ns NB375_371; replace BK371 := kb BK371 hb2; clear hb hb2 hi) | ((with_reducible refine gate_callee (f := 39) rfl ?_); refine goesL_ (some 11) rfl rfl Tryz.func39 (by kernel_rfl) rfl #[.pointer (some ⟨g375, 0, none⟩)] rfl (by (try simp only [List.map_toArray, List.map_cons, List.map_nil]); first | done | rfl | (simp only [List.length_drop, List.length_take]; rfl)) ?_; (with_reducible refine (spec_l3Bent.calls k g375 t372 t373 t374 t376 t379 t380 w _ ?side1 ?side2 A3.out).mono ?_); (case side1 => exact iw HI375.out); (case side2 => exact bv); rintro e w10 ⟨v377, rfl, ho0, hi, hb, hk⟩; refine ⟨_, rfl, ?_⟩; replace BK371 := kk hk BK371 NB371_375; have HO378 := am (Kd.Q_lower ho0 (below_size bv)); replace HB := am (hb); replace HI375 := am (hi); clear hb hk hi ho0) | ((with_reducible refine gate_dst (N := 6) rfl ?_); refine bx 6 #[.slice none 0 0] 26 ?_; intro gb381 hg w11 hbox hb; replace HO378 := qK HO378 hb; have BK381 := am (hbox); have GW381 := am ((by rw [hg]; exact (below_size bv) : w.heap.size ≤ gb381)); have GE381 := GW381; replace HB := am (below_step bv hb); have NB371_381 := nl hg BK371; have NB381_371 := ns NB371_381; replace BK371 := kb BK371 hb; have NB375_381 := am ((by rw [hg]; exact Nat.ne_of_lt (IsS74.lt (show IsS74 w _ g375 t372 t379 t380 from (iw HI375.out))) : g375 ≠ gb381)); have NB381_375 := ns NB375_381; replace HI375 := am (IsS74.below (iw HI375.out) hb); clear hb hbox hg; obtain ⟨Ao12, co12, eo12, _⟩ := Kd.Q_slice HO378.out; subst eo12; have hnb13 := NB381_371.out; have hnc13 := NB371_381.out; have hnb14 := NB381_375.out; have hnc14 := NB375_381.out; have hcz15_0 := bc BK381 0 (.slice none 0 0); have hfz15_0 := blk_frozen BK381.out 0) | ((with_reducible refine gate_callee (f := 40) rfl ?_); refine goesL_ (some 13) rfl rfl Tryz.func40 (by kernel_rfl) rfl #[.pointer (some ⟨g375, 0, none⟩)] rfl (by (try simp only [List.map_toArray, List.map_cons, List.map_nil]); first | done | rfl | (simp only [List.length_drop, List.length_take]; rfl)) ?_; (with_reducible refine (spec_l16Draw.calls k g375 t372 t379 t380 t382 t385 t386 w _ ?side1 ?side2 A4.out).mono ?_); (case side1 => exact iw HI375.out); (case side2 => exact bv); rintro e w16 ⟨v383, rfl, ho0, hi, hb, hk⟩; refine ⟨_, rfl, ?_⟩; replace BK371 := kk hk BK371 NB371_375; have HO384 := am (Kd.R_lower (Kd.R_new' ho0 (Kd.Q_lt (qF HO378 BK381 (.slice Ao12 t376.length co12)))) (below_size bv)); replace HO378 := am (Kd.Q_mono (Kd.Q_told (Kd.Q_oldK (IsS74.apartQ (show IsS74 w _ g375 t372 t379 t380 from (iw HI375.out)) (qF HO378 BK381 (.slice Ao12 t376.length co12)) (by decide)) hk) (Kd.R_base ho0)) (fun _ h_ => h_.1)); replace BK381 := am (KeepBut.blk hk (g' := gb381) (o := .cells #[.slice Ao12 t376.length co12] 26 (0, 0)) (by (with_reducible repeat (first | refine blk_drewN ?_ _ | refine blk_drew ?_ | refine blk_alloc ?_ _)); refine blk_put (cs := #[.slice none 0 0]) ?_ 0 _ rfl; (with_reducible repeat (first | refine blk_drewN ?_ _ | refine blk_drew ?_ | refine blk_alloc ?_ _)); exact BK381.out) NB381_375.out (by simp)); replace HB := am (hb); replace HI375 := am (hi); clear hb hk hi ho0))
 replace HO378 := am (Kd.Q_drew HO378.out)
 replace HO384 := am (Kd.R_drew HO384.out)
 replace BK371 := bd BK371
 replace BK381 := bd BK381
 replace HI375 := am (IsS74.drew HI375.out)
 replace HB := am (below_drew1 HB.out)
 refine start_ (n := 14) (S := fun w' => w'.cell? ⟨gb381, 0, none⟩ = some (.slice Ao12 t376.length co12)) (ds := []) (yz 14 0) (by kernel_rfl) rfl rfl (bc BK381 0 _) (fun hHeld => ?_); refine with_tabW spec_DrawInIdeal.tab4 spec_DrawInIdeal.bits4 (fun HT_ HW_ => ?_)
 generalize w16.drew = w17 at HO378 HO384 BK371 BK381 HI375 HB hHeld ⊢
 refine pa 1 (some 15) (yz 14 2) HT_ ?_
 refine pa 2 (some 16) (yz 14 6) HT_ ?_
 refine pa 3 (some 17) (yz 14 14) HT_ ?_
 refine pa 6 (some 20) (yz 14 78) HT_ ?_
 refine tK 0 (some 14) (yz 14 79) HT_ HW_ hHeld ?_
 refine oa 4 (some 18) (yz 14 95) HT_ (fun K hK => ?_)
 refine goes_ Tryz.func42 (by kernel_rfl) rfl #[.pointer (some ⟨g375, 0, none⟩), .int .i64 50] (by rfl) rfl rfl (by (try simp only [List.map_toArray, List.map_cons, List.map_nil]); first | done | rfl | (simp only [List.length_drop, List.length_take]; rfl)) ?_
 with_reducible refine (spec_l1Below.calls g375 t372 t385 t386 50 t387 t388 t389 w _ ?side1 ?side2 A5.out).mono ?_
 (case side1 => exact iw HI375.out)
 (case side2 => exact bv)
 rintro e w18 ⟨rfl, hi, hb, hk⟩
 refine ⟨_, rfl, ?_⟩
 replace BK371 := kk hk BK371 NB371_375
 replace HO378 := am (Kd.Q_mono (Kd.Q_keep (IsS74.apartQ (show IsS74 w _ g375 t372 t385 t386 from (iw HI375.out)) (qo HO378.out) (by decide)) hk (fun _ h => h.2)) (fun _ h => h.1))
 replace BK381 := kk hk BK381 NB381_375
 replace HO384 := am (Kd.R_mono (Kd.R_keep (IsS74.apart (show IsS74 w _ g375 t372 t385 t386 from (iw HI375.out)) (ro HO384.out) (by decide)) hk (fun _ h => h.2)) (fun _ h => h.1))
 replace HB := am (hb)
 replace HI375 := am (hi)
 clear hb hk hi
 refine hK.out _ _ (bc BK381 0 _) (fun hHeld => ?_)
 clear hK K
 refine nm (some 18) ?_
 refine pa 5 (some 19) (yz 14 127) HT_ ?_
 refine oa 7 (some 21) (yz 14 255) HT_ (fun K hK => ?_)
 refine goes_ Tryz.func42 (by kernel_rfl) rfl #[.pointer (some ⟨g375, 0, none⟩), .int .i64 50] (by rfl) rfl rfl (by (try simp only [List.map_toArray, List.map_cons, List.map_nil]); first | done | rfl | (simp only [List.length_drop, List.length_take]; rfl)) ?_
 with_reducible refine (spec_l1Below.calls g375 t372 t388 t389 50 t390 t391 t392 w _ ?side1 ?side2 A6.out).mono ?_
 (case side1 => exact iw HI375.out)
 (case side2 => exact bv)
 rintro e w19 ⟨rfl, hi, hb, hk⟩
 refine ⟨_, rfl, ?_⟩
 replace BK371 := kk hk BK371 NB371_375
 replace HO378 := am (Kd.Q_mono (Kd.Q_keep (IsS74.apartQ (show IsS74 w _ g375 t372 t388 t389 from (iw HI375.out)) (qo HO378.out) (by decide)) hk (fun _ h => h.2)) (fun _ h => h.1))
 replace BK381 := kk hk BK381 NB381_375
 replace HO384 := am (Kd.R_mono (Kd.R_keep (IsS74.apart (show IsS74 w _ g375 t372 t388 t389 from (iw HI375.out)) (ro HO384.out) (by decide)) hk (fun _ h => h.2)) (fun _ h => h.1))
 replace HB := am (hb)
 replace HI375 := am (hi)
 clear hb hk hi
 refine hK.out _ _ (bc BK381 0 _) (fun hHeld => ?_)
 clear hK K
 refine nm (some 21) ?_
 refine pa 8 (some 22) (yz 14 511) HT_ ?_
 refine oa 9 (some 23) (yz 14 1023) HT_ (fun K hK => ?_)
 refine Kd.R_lit_step (Kd.int .i64) _ 3 ?hg (N := 23) ?hd (xs := ([wrap64 (t387 - 10), wrap64 (t390 - 10), 1000001] : List Int)) (inner := [.int .i64 (wrap64 (t387 - 10)), .int .i64 (wrap64 (t390 - 10)), .int .i64 1000001]) (ok := fun _ => True) (okp := fun _ => True) ?hr ?hp (fun _ hk => hk) trivial (Below.refl _ _) (Nat.le_refl _) (by simp) ?_; (case hd => rfl); (case hg => rfl); (case hr => first | (go_simp; done) | (go_simp; rfl)); (case hp => exact (Reps.one (show Kd.M (Kd.int .i64) _ _ _ (wrap64 (t387 - 10)) [.int .i64 (wrap64 (t387 - 10))] from rfl) (Reps.one (show Kd.M (Kd.int .i64) _ _ _ (wrap64 (t390 - 10)) [.int .i64 (wrap64 (t390 - 10))] from rfl) (Reps.one (show Kd.M (Kd.int .i64) _ _ _ 1000001 [.int .i64 1000001] from rfl) (Reps.none _ _)))))
 intro v394 w20 ho21 hb hg_ hnew_
 clear hg_ hnew_
 (first | rw [← Ny393.out] at ho21 | (simp only [Int.reduceToNat] at ho21; rw [← Ny393.out] at ho21))
 have HO395 := am (Kd.R_lower (Kd.R_new' (Kd.R_new' ho21 (Kd.Q_lt (qo HO378.out))) (Kd.R_lt (ro HO384.out))) (below_size bv))
 replace HO378 := am (Kd.Q_elder' (qo HO378.out) (Kd.R_base ho21) hb)
 replace HO384 := am (Kd.R_elder' (ro HO384.out) (Kd.R_base ho21) hb)
 replace BK371 := kb BK371 hb
 replace BK381 := kb BK381 hb
 replace HB := am (below_step bv hb)
 replace HI375 := am (IsS74.below (iw HI375.out) hb)
 clear hb ho21
 obtain ⟨Ao22, co22, eo22⟩ := Kd.R_slice HO395.out
 (first | subst eo22 | (injection eo22 with f1_ f2_ f3_; have f4_ := f1_.symm; have f5_ := f3_.symm; clear f1_ f2_ f3_; subst f4_; subst f5_))
 refine hK.out _ _ (bc BK381 0 _) (fun hHeld => ?_)
 clear hK K
 refine nm (some 23) ?_
 refine oa 10 (some 24) (yz 14 2047) HT_ (fun K hK => ?_)
 refine goes_ Tryz.func41 (by kernel_rfl) rfl #[.pointer (some ⟨g375, 0, none⟩), .slice Ao22 y393.length co22] (by rfl) rfl rfl (by (try simp only [List.map_toArray, List.map_cons, List.map_nil]); first | done | rfl | (simp only [List.length_drop, List.length_take]; rfl)) ?_
 with_reducible refine (spec_l1PickInt.calls g375 t372 t391 t392 _ _ y393 t396 t397 t398 w _ ?side1 ?side2 ?side3 ?side4 ?side5 A7.out).mono ?_
 (case side1 => exact iw HI375.out)
 (case side2 => exact bv)
 (case side3 => exact co (Kd.R_reads' HO395.out).2.2)
 (case side4 => exact (Kd.R_reads' HO395.out).2.1)
 (case side5 => exact far_slice (IsS74.own_ne HI375.out HO395.out (by decide)))
 rintro e w23 ⟨rfl, hi, hb, hk⟩
 refine ⟨_, rfl, ?_⟩
 replace BK371 := kk hk BK371 NB371_375
 replace HO378 := am (Kd.Q_mono (Kd.Q_keep (IsS74.apartQ (show IsS74 w _ g375 t372 t391 t392 from (iw HI375.out)) (qo HO378.out) (by decide)) hk (fun _ h => h.2)) (fun _ h => h.1))
 replace BK381 := kk hk BK381 NB381_375
 replace HO384 := am (Kd.R_mono (Kd.R_keep (IsS74.apart (show IsS74 w _ g375 t372 t391 t392 from (iw HI375.out)) (ro HO384.out) (by decide)) hk (fun _ h => h.2)) (fun _ h => h.1))
 replace HO395 := am (Kd.R_mono (Kd.R_keep (IsS74.apart (show IsS74 w _ g375 t372 t391 t392 from (iw HI375.out)) (ro HO395.out) (by decide)) hk (fun _ h => h.2)) (fun _ h => h.1))
 replace HB := am (hb)
 replace HI375 := am (hi)
 clear hb hk hi
 refine hK.out _ _ (bc BK381 0 _) (fun hHeld => ?_)
 clear hK K
 refine nm (some 24) ?_
 refine oa 11 none (yz 14 4095) HT_ (fun K hK => ?_)
 have hs24 := bc BK371 0 (.slice none 0 0)
 have hfs24 := blk_frozen BK371.out 0
 have hns24_1 := NB381_371.out
 have hms24_1 := NB371_381.out
 refine skip_ (w1 := ?_) (by rfl) rfl ?_ ?_
 rotate_left
 ·go_simp
  rfl
 refine hK.out _ _ (((cell_far (p := ⟨gb371, _, none⟩) NB381_371.out _).trans (hHeld))) (fun hHeld => ?_)
 clear hK K
 refine pa 12 (some 3) (yz 14 8191) HT_ ?_
 refine pa 13 (some 4) (yz 14 16383) HT_ ?_
 refine done_ (done_of HT_.out (by kernel_rfl)) ?_
 try go_wp2
 refine bodyPost_ret (results_ctt rfl _ _ gb371 26 #[.slice Ao12 t376.length co12] (0, 0) _ rfl (by (with_reducible repeat (first | refine blk_drewN ?_ _ | refine blk_drew ?_ | refine blk_alloc ?_ _)); refine blk_put (cs := #[.slice none 0 0]) ?_ 0 _ rfl; (with_reducible repeat (first | refine blk_drewN ?_ _ | refine blk_drew ?_ | refine blk_alloc ?_ _)); exact BK371.out) Tryz.underlying26 rfl (by kernel_rfl)) rfl ?_
 exact ⟨_, _, re, by (with_reducible repeat (first | apply Kd.Q_alloc | apply Kd.Q_drewN | apply Kd.Q_drew)); exact Kd.Q_mono (Kd.Q_far (p := ⟨gb371, 0, none⟩) (Kd.Q_types HO378.out BK371.out (by decide)) (fun _ hk => hk.2) (.slice Ao12 t376.length co12)) (fun _ hk => by first | exact hk.1.1.2 | simp_all), by (with_reducible repeat (first | apply Kd.R_alloc | apply Kd.R_drewN | apply Kd.R_drew)); exact Kd.R_mono (Kd.R_far (p := ⟨gb371, 0, none⟩) (Kd.R_types HO384.out BK371.out (by decide)) (fun _ hk => hk.2) (.slice Ao12 t376.length co12)) (fun _ hk => by first | exact hk.1.1.2 | simp_all), bv⟩

end Go.Proofs.YtkfplkdchkmgbaaGreat.C
