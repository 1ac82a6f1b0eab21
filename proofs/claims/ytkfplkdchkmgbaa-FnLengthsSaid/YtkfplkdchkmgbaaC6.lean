/- Contracts of functions of the program: spec_l3Bent, spec_l1New, impl_within, impl_allWithin. -/
import Derived.Test.YtkfplkdchkmgbaaC0
import Derived.Test.YtkfplkdchkmgbaaC1
import Derived.Test.YtkfplkdchkmgbaaC5
namespace Go.Proofs.Ytkfplkdchkmgbaa.C
open Go.RowKit Go.Proofs.YtkfplkdchkmgbaaW.PrintWords Go.Proofs.YtkfplkdchkmgbaaW.PrintLast Go.Proofs.YtkfplkdchkmgbaaW.PrintMore
attribute [local go_sem] max2_int min2_int max_two min_two max_three min_three max_four min_four
set_option linter.unusedVariables false
set_option linter.unusedSimpArgs false

/-! ### spec_l3Bent: function 130 -/
def spec_l3Bent.f (k : Nat) (s0_0 : List Int) (s0_1 : Int) (s0_2 : Int) : Option (List Int × Int × Int) := (spec_l3Draw.f k s0_0 s0_1 s0_2).bind fun bt316 => ((spec_l1Below.f s0_0 bt316.2.1 bt316.2.2 12).bind fun bt322 => (if bt322.1 = 0 then ((spec_l1PickInt.f s0_0 bt322.2.1 bt322.2.2 (([0, 61, 12, (-3), 60] : List Int))).bind fun bt328 => (if bt316.1.length < 17592186044416 then (some ((bt316.1 ++ [bt328.1]), bt328.2.1, bt328.2.2)) else (none))) else (if bt322.1 = 1 then (if 1 ≤ (bt316.1.length : Int) then (some ((bt316.1.drop (1 : Int).toNat), bt322.2.1, bt322.2.2)) else (none)) else (if bt322.1 = 2 then ((spec_l1PickInt.f s0_0 bt322.2.1 bt322.2.2 (([0, 59, 4] : List Int))).bind fun bt340 => (some ((([bt340.1, 60] : List Int)), bt340.2.1, bt340.2.2))) else (some (bt316.1, bt322.2.1, bt322.2.2))))))
def spec_l3Bent.T4 : Bool × List (List Nat × List Nat) := (true, [([], []), ([0], [0]), ([], []), ([], []), ([2, 3], [2, 3]), ([4], [4]), ([1, 5, 4], [1, 5]), ([0, 1, 2, 3, 4, 5, 6], []), ([7, 6, 6, 0, 1, 2, 3, 4, 5, 6], [6, 7])])
def spec_l3Bent.B4 : List Nat := [0, 1, 0, 0, 12, 28, 63, 127, 255]
theorem spec_l3Bent.tab4 : rtab .any (opsOf Try.f130 4) = spec_l3Bent.T4 := by kernel_rfl
theorem spec_l3Bent.bits4 : waitsOk spec_l3Bent.T4.2 spec_l3Bent.B4 = true := by kernel_rfl
set_option maxHeartbeats 8000000 in
set_option maxRecDepth 100000 in
theorem spec_l3Bent.calls (k : Nat) (g : Nat) (s0_0 : List Int) (s0_1 : Int) (s0_2 : Int) (r1 : List Int) (r2 : Int) (r3 : Int) (w0 w : World) (hI : IsS132 w0 w g s0_0 s0_1 s0_2) (hB : Below w0.heap.size w0 w) (h : spec_l3Bent.f k s0_0 s0_1 s0_2 = some (r1, r2, r3)) :
  Calls Try.prog 130 #[.pointer (some ⟨g, 0, none⟩)] w fun e w' => ∃ v0_ : Value, e = .returned (.agg #[v0_]) ∧ Kd.Q (Kd.int .i64) 3 w' w.heap.size (fun _ => True) v0_ r1 ∧ IsS132 w0 w' g s0_0 r2 r3 ∧ Below w0.heap.size w0 w' ∧ KeepBut w w' g none := by
 have hu26 := Try.underlying26
 have HI0 := am hI
 have HK := am (KeepBut.refl w g none)
 have HL := am hB.size
 clear hI
 have HW0 := am hB.size
 have HB := am hB
 clear hB
 have H : ((spec_l3Draw.f k s0_0 s0_1 s0_2).bind fun bt316 => ((spec_l1Below.f s0_0 bt316.2.1 bt316.2.2 12).bind fun bt322 => (if bt322.1 = 0 then ((spec_l1PickInt.f s0_0 bt322.2.1 bt322.2.2 (([0, 61, 12, (-3), 60] : List Int))).bind fun bt328 => (if bt316.1.length < 17592186044416 then (some ((bt316.1 ++ [bt328.1]), bt328.2.1, bt328.2.2)) else (none))) else (if bt322.1 = 1 then (if 1 ≤ (bt316.1.length : Int) then (some ((bt316.1.drop (1 : Int).toNat), bt322.2.1, bt322.2.2)) else (none)) else (if bt322.1 = 2 then ((spec_l1PickInt.f s0_0 bt322.2.1 bt322.2.2 (([0, 59, 4] : List Int))).bind fun bt340 => (some ((([bt340.1, 60] : List Int)), bt340.2.1, bt340.2.2))) else (some (bt316.1, bt322.2.1, bt322.2.2))))))) = some (r1, r2, r3) := h
 clear h
 replace H := ga H; obtain ⟨⟨t316, t319, t320⟩, A2, H⟩ := H
 replace H : ((spec_l1Below.f s0_0 t319 t320 12).bind fun bt322 => (if bt322.1 = 0 then ((spec_l1PickInt.f s0_0 bt322.2.1 bt322.2.2 (([0, 61, 12, (-3), 60] : List Int))).bind fun bt328 => (if t316.length < 17592186044416 then (some ((t316 ++ [bt328.1]), bt328.2.1, bt328.2.2)) else (none))) else (if bt322.1 = 1 then (if 1 ≤ (t316.length : Int) then (some ((t316.drop (1 : Int).toNat), bt322.2.1, bt322.2.2)) else (none)) else (if bt322.1 = 2 then ((spec_l1PickInt.f s0_0 bt322.2.1 bt322.2.2 (([0, 59, 4] : List Int))).bind fun bt340 => (some ((([bt340.1, 60] : List Int)), bt340.2.1, bt340.2.2))) else (some (t316, bt322.2.1, bt322.2.2)))))) = some (r1, r2, r3) := H
 replace H := ga H; obtain ⟨⟨t322, t323, t324⟩, A3, H⟩ := H
 replace H : (if t322 = 0 then ((spec_l1PickInt.f s0_0 t323 t324 (([0, 61, 12, (-3), 60] : List Int))).bind fun bt328 => (if t316.length < 17592186044416 then (some ((t316 ++ [bt328.1]), bt328.2.1, bt328.2.2)) else (none))) else (if t322 = 1 then (if 1 ≤ (t316.length : Int) then (some ((t316.drop (1 : Int).toNat), t323, t324)) else (none)) else (if t322 = 2 then ((spec_l1PickInt.f s0_0 t323 t324 (([0, 59, 4] : List Int))).bind fun bt340 => (some ((([bt340.1, 60] : List Int)), bt340.2.1, bt340.2.2))) else (some (t316, t323, t324))))) = some (r1, r2, r3) := H
 by_cases c4 : t322 = 0
 ·rw [if_pos c4] at H
  have c4b0 : (t322 == 0) = true := beq_iff_eq.mpr c4
  have c4b1 : (t322 != 0) = false := bne_eq_false_iff_eq.mpr c4
  clear c4
  obtain ⟨y325, hy325⟩ : ∃ y_ : List Int, y_ = (([0, 61, 12, (-3), 60] : List Int)) := ⟨_, rfl⟩
  replace H : ((spec_l1PickInt.f s0_0 t323 t324 y325).bind fun bt328 => (if t316.length < 17592186044416 then (some ((t316 ++ [bt328.1]), bt328.2.1, bt328.2.2)) else (none))) = some (r1, r2, r3) := by first | (rw [hy325]; with_reducible exact H) | (have H2_ := (Option.bind_some _ _).symm.trans H; rw [hy325]; with_reducible exact H2_) | (have H2_ := (Option.bind_some _ _).symm.trans H; with_reducible exact H2_) | with_reducible exact H | (rw [hy325]; exact H) | exact H
  have Ny325 := am hy325
  clear hy325
  replace H := ga H; obtain ⟨⟨t328, t329, t330⟩, A5, H⟩ := H
  replace H : (if t316.length < 17592186044416 then (some ((t316 ++ [t328]), t329, t330)) else (none)) = some (r1, r2, r3) := H
  by_cases c6 : t316.length < 17592186044416
  rotate_left
  ·rw [if_neg c6] at H
   exact absurd H (by simp)
  rw [if_pos c6] at H
  have LMc6 := am c6
  clear c6
  obtain ⟨y331, hy331⟩ : ∃ y_ : List Int, y_ = (t316 ++ [t328]) := ⟨_, rfl⟩
  replace H : (some (y331, t329, t330)) = some (r1, r2, r3) := by first | (rw [hy331]; with_reducible exact H) | (have H2_ := (Option.bind_some _ _).symm.trans H; rw [hy331]; with_reducible exact H2_) | (have H2_ := (Option.bind_some _ _).symm.trans H; with_reducible exact H2_) | with_reducible exact H | (rw [hy331]; exact H) | exact H
  have Ny331 := am hy331
  clear hy331
  simp only [Option.some.injEq, Prod.mk.injEq] at H
  obtain ⟨rfl, rfl, rfl⟩ := H
  go_enter Try.func130, Try.ntmps130
  try go_wp2_with (first | ((with_reducible refine gate_dst (N := 2) rfl ?_); refine bx 2 #[.slice none 0 0] 26 ?_; intro gb315 hg w7 hbox hb; replace HB := am (below_step bv hb); have BK315 := am (hbox); have GW315 := am ((by rw [hg]; exact (keep_size (w := w) (g := g) (row := none) (by repeat (first | (with_reducible first | exact HK.out | apply KeepBut.set_ | apply keep_drewN | apply keep_drew | apply keep_alloc) | exact HK.out))) : w.heap.size ≤ gb315)); have GE315 := am ((Nat.le_trans HW0.out (by rw [hg]; exact (keep_size (w := w) (g := g) (row := none) (by repeat (first | (with_reducible first | exact HK.out | apply KeepBut.set_ | apply keep_drewN | apply keep_drew | apply keep_alloc) | exact HK.out))) : w.heap.size ≤ gb315) : w0.heap.size ≤ gb315)); replace HK := am (KeepBut.trans (by repeat (first | (with_reducible first | exact HK.out | apply KeepBut.set_ | apply keep_drewN | apply keep_drew | apply keep_alloc) | exact HK.out)) (KeepBut.of_below hb g none) (.inl rfl)); have NB0_315 := am ((by rw [hg]; exact Nat.ne_of_lt (IsS132.lt (show IsS132 w0 _ g s0_0 s0_1 s0_2 from (iw HI0.out))) : g ≠ gb315)); have NB315_0 := ns NB0_315; replace HI0 := am (IsS132.below (iw HI0.out) hb); clear hb hbox hg) | ((with_reducible refine gate_callee (f := 213) rfl ?_); refine gl (some 5) Try.func213 #[.pointer (some ⟨g, 0, none⟩)] ?_; (with_reducible refine (spec_l3Draw.calls k g s0_0 s0_1 s0_2 t316 t319 t320 w0 _ ?side1 ?side2 A2.out).mono ?_); (case side1 => exact iw HI0.out); (case side2 => exact bv); rintro e w8 ⟨v317, rfl, ho0, hi, hb, hk⟩; refine ⟨_, rfl, ?_⟩; replace BK315 := kk hk BK315 NB315_0; have HO318 := am (Kd.R_lower ho0 (keep_size (w := w) (g := g) (row := none) (by repeat (first | (with_reducible first | exact HK.out | apply KeepBut.set_ | apply keep_drewN | apply keep_drew | apply keep_alloc | refine keep_far ?_ GW315.out _) | exact HK.out)))); replace HK := am (KeepBut.trans (by repeat (first | (with_reducible first | exact HK.out | apply KeepBut.set_ | apply keep_drewN | apply keep_drew | apply keep_alloc | refine keep_far ?_ GW315.out _) | exact HK.out)) hk (.inl rfl)); replace HB := am (hb); replace HI0 := am (hi); clear hb hk hi ho0) | ((with_reducible refine gate_dst (N := 3) rfl ?_); refine bx 3 #[.slice none 0 0] 26 ?_; intro gb321 hg w9 hbox hb; replace HO318 := am (Kd.R_below (ro HO318.out) hb); replace HB := am (below_step bv hb); have BK321 := am (hbox); have GW321 := am ((by rw [hg]; exact (keep_size (w := w) (g := g) (row := none) (by repeat (first | (with_reducible first | exact HK.out | apply KeepBut.set_ | apply keep_drewN | apply keep_drew | apply keep_alloc | refine keep_far ?_ GW315.out _) | exact HK.out))) : w.heap.size ≤ gb321)); have GE321 := am ((Nat.le_trans HW0.out (by rw [hg]; exact (keep_size (w := w) (g := g) (row := none) (by repeat (first | (with_reducible first | exact HK.out | apply KeepBut.set_ | apply keep_drewN | apply keep_drew | apply keep_alloc | refine keep_far ?_ GW315.out _) | exact HK.out))) : w.heap.size ≤ gb321) : w0.heap.size ≤ gb321)); replace HK := am (KeepBut.trans (by repeat (first | (with_reducible first | exact HK.out | apply KeepBut.set_ | apply keep_drewN | apply keep_drew | apply keep_alloc | refine keep_far ?_ GW315.out _) | exact HK.out)) (KeepBut.of_below hb g none) (.inl rfl)); have NB315_321 := nl hg BK315; have NB321_315 := ns NB315_321; replace BK315 := kb BK315 hb; have NB0_321 := am ((by rw [hg]; exact Nat.ne_of_lt (IsS132.lt (show IsS132 w0 _ g s0_0 t319 t320 from (iw HI0.out))) : g ≠ gb321)); have NB321_0 := ns NB0_321; replace HI0 := am (IsS132.below (iw HI0.out) hb); clear hb hbox hg; obtain ⟨Ao10, co10, eo10⟩ := Kd.R_slice HO318.out; subst eo10; have hnb11 := NB321_315.out; have hnc11 := NB315_321.out; have hnb12 := NB321_0.out; have hnc12 := NB0_321.out; have hcz13_0 := bc BK321 0 (.slice none 0 0); have hfz13_0 := blk_frozen BK321.out 0) | ((with_reducible refine gate_callee (f := 156) rfl ?_); refine gl (some 7) Try.func156 #[.pointer (some ⟨g, 0, none⟩), .int .i64 12] ?_; (with_reducible refine (spec_l1Below.calls g s0_0 t319 t320 12 t322 t323 t324 w0 _ ?side1 ?side2 A3.out).mono ?_); (case side1 => exact iw HI0.out); (case side2 => exact bv); rintro e w14 ⟨rfl, hi, hb, hk⟩; refine ⟨_, rfl, ?_⟩; replace BK315 := kk hk BK315 NB315_0; replace HO318 := am (Kd.R_mono (Kd.R_keep (IsS132.apart (show IsS132 w0 _ g s0_0 t319 t320 from (iw HI0.out)) (by (with_reducible repeat (first | apply Kd.R_alloc | apply Kd.R_drewN | apply Kd.R_drew)); exact (Kd.R_mono (Kd.R_far (p := ⟨gb321, 0, none⟩) (Kd.R_types HO318.out BK321.out (by decide)) (fun _ hk => hk.2) (.slice Ao10 t316.length co10)) (fun _ h_ => h_.1))) (by decide)) hk (fun _ h => h.2)) (fun _ h => h.1)); replace BK321 := am (KeepBut.blk hk (g' := gb321) (o := .cells #[.slice Ao10 t316.length co10] 26 (0, 0)) (by (with_reducible repeat (first | refine blk_drewN ?_ _ | refine blk_drew ?_ | refine blk_alloc ?_ _)); refine blk_put (cs := #[.slice none 0 0]) ?_ 0 _ rfl; (with_reducible repeat (first | refine blk_drewN ?_ _ | refine blk_drew ?_ | refine blk_alloc ?_ _)); exact BK321.out) NB321_0.out (by simp)); replace HK := am (KeepBut.trans (by repeat (first | (with_reducible first | exact HK.out | apply KeepBut.set_ | apply keep_drewN | apply keep_drew | apply keep_alloc | refine keep_far ?_ GW315.out _ | refine keep_far ?_ GW321.out _) | exact HK.out)) hk (.inl rfl)); replace HB := am (hb); replace HI0 := am (hi); clear hb hk hi))
  replace HO318 := am (Kd.R_drew HO318.out)
  replace BK315 := am (blk_drew BK315.out)
  replace BK321 := am (blk_drew BK321.out)
  replace HI0 := am (IsS132.drew HI0.out)
  replace HK := am (keep_drew HK.out)
  replace HB := am (below_drew1 HB.out)
  refine start_ (n := 9) (S := fun w' => w'.cell? ⟨gb321, 0, none⟩ = some (.slice Ao10 t316.length co10)) (ds := [8]) (yz 9 0) (by kernel_rfl) rfl rfl ((blk_cell BK321.out 0).trans rfl) (fun hHeld => ?_); refine with_tabW spec_l3Bent.tab4 spec_l3Bent.bits4 (fun HT_ HW_ => ?_)
  generalize w14.drew = w15 at HO318 BK315 BK321 HI0 HK HB hHeld ⊢
  refine pa 0 (some 10) (yz 9 1) HT_ ?_
  refine pa 2 (some 12) (yz 9 5) HT_ ?_
  refine take_ (i := 1) (N := some 11) (v := ?_) (a' := ?_) (yz 9 7) rfl rfl (take_ofW HT_.out HW_.out (by kernel_rfl)) (fun _ _ _ h => h) (Or.inl ⟨by rfl, ?_⟩) hHeld ?_ ?_
  rotate_left
  ·intro w' s0
   go_simp
   with_reducible rfl
  rotate_left
  ·simp only [Act.put, qa, qb, qc, i64_w, i32_w]
   rfl
  refine oa 3 (some 13) (yz 9 15) HT_ (fun K hK => ?_)
  refine Kd.R_lit_step (Kd.int .i64) _ 3 ?hg (N := 13) ?hd (xs := ([0, 61, 12, (-3), 60] : List Int)) (inner := [.int .i64 0, .int .i64 61, .int .i64 12, .int .i64 (-3), .int .i64 60]) (ok := fun _ => True) (okp := fun _ => True) ?hr ?hp (fun _ hk => hk) trivial (Below.refl _ _) (Nat.le_refl _) (by simp) ?_; (case hd => rfl); (case hg => rfl); (case hr => first | (go_simp; done) | (go_simp; rfl)); (case hp => exact (Reps.one (show Kd.M (Kd.int .i64) _ _ _ 0 [.int .i64 0] from rfl) (Reps.one (show Kd.M (Kd.int .i64) _ _ _ 61 [.int .i64 61] from rfl) (Reps.one (show Kd.M (Kd.int .i64) _ _ _ 12 [.int .i64 12] from rfl) (Reps.one (show Kd.M (Kd.int .i64) _ _ _ (-3) [.int .i64 (-3)] from rfl) (Reps.one (show Kd.M (Kd.int .i64) _ _ _ 60 [.int .i64 60] from rfl) (Reps.none _ _)))))))
  intro v326 w16 ho17 hb hg_ hnew_
  clear hg_ hnew_
  (first | rw [← Ny325.out] at ho17 | (simp only [Int.reduceToNat] at ho17; rw [← Ny325.out] at ho17))
  have HO327 := am (Kd.R_lower (Kd.R_new' ho17 (Kd.R_lt (ro HO318.out))) (keep_size (w := w) (g := g) (row := none) (by repeat (first | (with_reducible first | exact HK.out | apply KeepBut.set_ | apply keep_drewN | apply keep_drew | apply keep_alloc | refine keep_far ?_ GW315.out _ | refine keep_far ?_ GW321.out _) | exact HK.out))))
  replace HO318 := am (Kd.R_elder' (ro HO318.out) (Kd.R_base ho17) hb)
  replace BK315 := kb BK315 hb
  replace BK321 := kb BK321 hb
  replace HK := am (KeepBut.trans (by repeat (first | (with_reducible first | exact HK.out | apply KeepBut.set_ | apply keep_drewN | apply keep_drew | apply keep_alloc | refine keep_far ?_ GW315.out _ | refine keep_far ?_ GW321.out _) | exact HK.out)) (KeepBut.of_below hb g none) (.inl rfl))
  replace HB := am (below_step bv hb)
  replace HI0 := am (IsS132.below (iw HI0.out) hb)
  clear hb ho17
  obtain ⟨Ao18, co18, eo18⟩ := Kd.R_slice HO327.out
  (first | subst eo18 | (injection eo18 with f1_ f2_ f3_; have f4_ := f1_.symm; have f5_ := f3_.symm; clear f1_ f2_ f3_; subst f4_; subst f5_))
  refine hK.out _ _ ((blk_cell BK321.out 0).trans rfl) (fun hHeld => ?_)
  clear hK K
  refine norm_ (a' := ?_) ?_ ?_
  rotate_left
  ·show Act.put _ (some 13) _ = _
   simp only [Act.put, qa, qb, qc, i64_w, i32_w]
   rfl
  refine oa 4 (some 14) (yz 9 31) HT_ (fun K hK => ?_)
  refine gm Try.func150 #[.pointer (some ⟨g, 0, none⟩), .slice Ao18 y325.length co18] ?_
  with_reducible refine (spec_l1PickInt.calls g s0_0 t323 t324 _ _ y325 t328 t329 t330 w0 _ ?side1 ?side2 ?side3 ?side4 ?side5 A5.out).mono ?_
  (case side1 => exact iw HI0.out)
  (case side2 => exact bv)
  (case side3 => exact co (Kd.R_reads' HO327.out).2.2)
  (case side4 => exact (Kd.R_reads' HO327.out).2.1)
  (case side5 => exact far_slice (IsS132.own_ne HI0.out HO327.out (by decide)))
  rintro e w19 ⟨rfl, hi, hb, hk⟩
  refine ⟨_, rfl, ?_⟩
  replace BK315 := kk hk BK315 NB315_0
  replace HO318 := am (Kd.R_mono (Kd.R_keep (IsS132.apart (show IsS132 w0 _ g s0_0 t323 t324 from (iw HI0.out)) (ro HO318.out) (by decide)) hk (fun _ h => h.2)) (fun _ h => h.1))
  replace BK321 := kk hk BK321 NB321_0
  replace HO327 := am (Kd.R_mono (Kd.R_keep (IsS132.apart (show IsS132 w0 _ g s0_0 t323 t324 from (iw HI0.out)) (ro HO327.out) (by decide)) hk (fun _ h => h.2)) (fun _ h => h.1))
  replace HK := am (KeepBut.trans (by repeat (first | (with_reducible first | exact HK.out | apply KeepBut.set_ | apply keep_drewN | apply keep_drew | apply keep_alloc | refine keep_far ?_ GW315.out _ | refine keep_far ?_ GW321.out _) | exact HK.out)) hk (.inl rfl))
  replace HB := am (hb)
  replace HI0 := am (hi)
  clear hb hk hi
  refine hK.out _ _ ((blk_cell BK321.out 0).trans rfl) (fun hHeld => ?_)
  clear hK K
  refine norm_ (a' := ?_) ?_ ?_
  rotate_left
  ·show Act.put _ (some 14) _ = _
   simp only [Act.put, qa, qb, qc, i64_w, i32_w]
   rfl
  refine oa 5 (some 15) (yz 9 63) HT_ (fun K hK => ?_)
  refine value_ (w1 := ?_) (v := ?_) (by rfl) rfl ?_ ?_
  rotate_left 2
  ·go_simp
   constructor
   ·rfl
   ·rfl
  refine hK.out _ _ ((blk_cell (blk_alloc BK321.out _) 0).trans rfl) (fun hHeld => ?_)
  clear hK K
  refine norm_ (a' := ?_) ?_ ?_
  rotate_left
  ·show Act.put _ (some 15) _ = _
   simp only [Act.put, qa, qb, qc, i64_w, i32_w]
   rfl
  refine oa 6 (some 16) (yz 9 127) HT_ (fun K hK => ?_)
  refine Kd.R_append_step (Kd.int .i64) w.heap.size (by rfl) (.tmp 11) (.tmp 15) 24 3 (.int .i64 0) 8 rfl Try.underlying24 info3 rfl (by decide) (by omega) (.slice Ao10 t316.length co10) t316 t328 [.int .i64 t328] (fun k_ => some k_ ≠ (.slice Ao18 y325.length co18 : Value).ownBlock) (fun _ => False) rfl rfl ?aP (fun _ hk => hk.elim) ?aF ?aO (Below.refl _ _) ?aS ?aL ?_
  (case aP => exact rfl)
  (case aF => exact (fun k_ hk => Kd.fresh' (Kd.R_lt (ro HO327.out)) k_ hk))
  (case aO => exact (by (with_reducible repeat (first | apply Kd.R_alloc | apply Kd.R_drewN | apply Kd.R_drew)); exact Kd.R_mono HO318.out (fun _ hk => hk.2)))
  (case aS => exact (keep_size (w := w) (g := g) (row := none) (by repeat (first | (with_reducible first | exact HK.out | apply KeepBut.set_ | apply keep_drewN | apply keep_drew | apply keep_alloc | refine keep_far ?_ GW315.out _ | refine keep_far ?_ GW321.out _) | exact HK.out))))
  (case aL => have := LMc6.out; omega)
  intro v332 w20 ho hb hg hat
  rw [← Ny331.out] at ho
  replace BK315 := am (blk_grown (g := gb315) (o := .cells #[.slice none 0 0] 26 (0, 0)) (bo BK315.out) hg (Kd.R_ne HO318.out BK315.out (by decide)))
  replace BK321 := am (blk_grown (g := gb321) (o := .cells #[.slice Ao10 t316.length co10] 26 (0, 0)) (bo BK321.out) hg (Kd.R_ne HO318.out BK321.out (by decide)))
  replace HO327 := am (Kd.R_after (ok := (fun _ => True)) (ro HO327.out) hg hat)
  replace HB := am (below_weaken bv HL.out hb)
  replace HI0 := am (IsS132.grown (iw HI0.out) hg (IsS132.own_ne HI0.out HO318.out (by decide)))
  replace HK := am (KeepBut.trans (by repeat (first | (with_reducible first | exact HK.out | apply KeepBut.set_ | apply keep_drewN | apply keep_drew | apply keep_alloc | refine keep_far ?_ GW315.out _ | refine keep_far ?_ GW321.out _) | exact HK.out)) (KeepBut.of_grown hg g) (Kd.R_base2 HO318.out))
  have HO333 := am (ho)
  clear HO318 ho hb hg hat
  obtain ⟨Ao21, co21, eo21⟩ := Kd.R_slice HO333.out
  (first | subst eo21 | (injection eo21 with f1_ f2_ f3_; have f4_ := f1_.symm; have f5_ := f3_.symm; clear f1_ f2_ f3_; subst f4_; subst f5_))
  refine hK.out _ _ ((blk_cell BK321.out 0).trans rfl) (fun hHeld => ?_)
  clear hK K
  refine norm_ (a' := ?_) ?_ ?_
  rotate_left
  ·show Act.put _ (some 16) _ = _
   simp only [Act.put, qa, qb, qc, i64_w, i32_w]
   rfl
  refine pa 7 (some 17) (yz 9 255) HT_ ?_
  refine last_ (i := 8) (N := none) (yz 9 511) rfl rfl (one_of HT_.out (by kernel_rfl)) (by decide) (fun K hK => ?_)
  have hs22 := bc BK321 0 (.slice Ao10 t316.length co10)
  have hfs22 := blk_frozen BK321.out 0
  have hns22_0 := NB315_321.out
  have hms22_0 := NB321_315.out
  refine skip_ (w1 := ?_) (by rfl) rfl ?_ ?_
  rotate_left
  ·go_simp
   rfl
  refine hK.out _ _ ?_
  clear hK K
  refine done_ (done_of HT_.out (by kernel_rfl)) ?_
  have hcz23_0 := bc BK321 0 (.slice Ao10 t316.length co10)
  have hfz23_0 := blk_frozen BK321.out 0
  have hnb24 := NB315_0.out
  have hnc24 := NB0_315.out
  have hcz25_0 := bc BK315 0 (.slice none 0 0)
  have hfz25_0 := blk_frozen BK315.out 0
  try go_wp2
  refine bodyPost_ret (results_cell_row rfl _ _ gb315 26 #[.slice Ao21 y331.length co21] (0, 0) _ rfl (by (with_reducible repeat (first | refine blk_drewN ?_ _ | refine blk_drew ?_ | refine blk_alloc ?_ _)); refine blk_put (cs := #[.slice none 0 0]) ?_ 0 _ rfl; (with_reducible repeat (first | refine blk_drewN ?_ _ | refine blk_drew ?_ | refine blk_alloc ?_ _)); refine blk_far ?_ NB315_321.out _; (with_reducible repeat (first | refine blk_drewN ?_ _ | refine blk_drew ?_ | refine blk_alloc ?_ _)); exact BK315.out) Try.underlying26 rfl (by kernel_rfl)) rfl ?_
  exact ⟨_, re, Kd.Q_of_R (by (with_reducible repeat (first | apply Kd.R_alloc | apply Kd.R_drewN | apply Kd.R_drew)); exact Kd.R_mono (Kd.R_far (p := ⟨gb315, 0, none⟩) (Kd.R_far (p := ⟨gb321, 0, none⟩) (Kd.R_types (Kd.R_types HO333.out BK321.out (by decide)) BK315.out (by decide)) (fun _ hk => by first | exact hk.1.2 | simp_all) (.slice Ao21 y331.length co21)) (fun _ hk => hk.2) (.slice Ao21 y331.length co21)) (fun _ hk => trivial)), (iw HI0.out), bv, by repeat (first | (with_reducible first | exact HK.out | apply KeepBut.set_ | apply keep_drewN | apply keep_drew | apply keep_alloc | refine keep_far ?_ GW315.out _ | refine keep_far ?_ GW321.out _) | exact HK.out)⟩
 ·rw [if_neg c4] at H
  have c4b0 : (t322 == 0) = false := beq_eq_false_iff_ne.mpr c4
  have c4b1 : (t322 != 0) = true := bne_iff_ne.mpr c4
  by_cases c26 : t322 = 1
  ·rw [if_pos c26] at H
   have c26b0 : (t322 == 1) = true := beq_iff_eq.mpr c26
   have c26b1 : (t322 != 1) = false := bne_eq_false_iff_eq.mpr c26
   clear c26
   replace H := gp H; obtain ⟨c27, H⟩ := H
   have c27b0 := eq_true c27
   have c27b1 : decide (1 ≤ (t316.length : Int)) = true := decide_eq_true c27
   clear c27
   obtain ⟨y334, hy334⟩ : ∃ y_ : List Int, y_ = (t316.drop (1 : Int).toNat) := ⟨_, rfl⟩
   replace H : (some (y334, t323, t324)) = some (r1, r2, r3) := by first | (rw [hy334]; with_reducible exact H) | (have H2_ := (Option.bind_some _ _).symm.trans H; rw [hy334]; with_reducible exact H2_) | (have H2_ := (Option.bind_some _ _).symm.trans H; with_reducible exact H2_) | with_reducible exact H | (rw [hy334]; exact H) | exact H
   have Ny334 := am hy334
   clear hy334
   simp only [Option.some.injEq, Prod.mk.injEq] at H
   obtain ⟨rfl, rfl, rfl⟩ := H
   go_enter Try.func130, Try.ntmps130
   go_wp2_with (first | ((with_reducible refine gate_dst (N := 2) rfl ?_); refine bx 2 #[.slice none 0 0] 26 ?_; intro gb315 hg w28 hbox hb; replace HB := am (below_step bv hb); have BK315 := am (hbox); have GW315 := am ((by rw [hg]; exact (keep_size (w := w) (g := g) (row := none) (by repeat (first | (with_reducible first | exact HK.out | apply KeepBut.set_ | apply keep_drewN | apply keep_drew | apply keep_alloc) | exact HK.out))) : w.heap.size ≤ gb315)); have GE315 := am ((Nat.le_trans HW0.out (by rw [hg]; exact (keep_size (w := w) (g := g) (row := none) (by repeat (first | (with_reducible first | exact HK.out | apply KeepBut.set_ | apply keep_drewN | apply keep_drew | apply keep_alloc) | exact HK.out))) : w.heap.size ≤ gb315) : w0.heap.size ≤ gb315)); replace HK := am (KeepBut.trans (by repeat (first | (with_reducible first | exact HK.out | apply KeepBut.set_ | apply keep_drewN | apply keep_drew | apply keep_alloc) | exact HK.out)) (KeepBut.of_below hb g none) (.inl rfl)); have NB0_315 := am ((by rw [hg]; exact Nat.ne_of_lt (IsS132.lt (show IsS132 w0 _ g s0_0 s0_1 s0_2 from (iw HI0.out))) : g ≠ gb315)); have NB315_0 := ns NB0_315; replace HI0 := am (IsS132.below (iw HI0.out) hb); clear hb hbox hg) | ((with_reducible refine gate_callee (f := 213) rfl ?_); refine gl (some 5) Try.func213 #[.pointer (some ⟨g, 0, none⟩)] ?_; (with_reducible refine (spec_l3Draw.calls k g s0_0 s0_1 s0_2 t316 t319 t320 w0 _ ?side1 ?side2 A2.out).mono ?_); (case side1 => exact iw HI0.out); (case side2 => exact bv); rintro e w29 ⟨v317, rfl, ho0, hi, hb, hk⟩; refine ⟨_, rfl, ?_⟩; replace BK315 := kk hk BK315 NB315_0; have HO318 := am (Kd.R_lower ho0 (keep_size (w := w) (g := g) (row := none) (by repeat (first | (with_reducible first | exact HK.out | apply KeepBut.set_ | apply keep_drewN | apply keep_drew | apply keep_alloc | refine keep_far ?_ GW315.out _) | exact HK.out)))); replace HK := am (KeepBut.trans (by repeat (first | (with_reducible first | exact HK.out | apply KeepBut.set_ | apply keep_drewN | apply keep_drew | apply keep_alloc | refine keep_far ?_ GW315.out _) | exact HK.out)) hk (.inl rfl)); replace HB := am (hb); replace HI0 := am (hi); clear hb hk hi ho0) | ((with_reducible refine gate_dst (N := 3) rfl ?_); refine bx 3 #[.slice none 0 0] 26 ?_; intro gb321 hg w30 hbox hb; replace HO318 := am (Kd.R_below (ro HO318.out) hb); replace HB := am (below_step bv hb); have BK321 := am (hbox); have GW321 := am ((by rw [hg]; exact (keep_size (w := w) (g := g) (row := none) (by repeat (first | (with_reducible first | exact HK.out | apply KeepBut.set_ | apply keep_drewN | apply keep_drew | apply keep_alloc | refine keep_far ?_ GW315.out _) | exact HK.out))) : w.heap.size ≤ gb321)); have GE321 := am ((Nat.le_trans HW0.out (by rw [hg]; exact (keep_size (w := w) (g := g) (row := none) (by repeat (first | (with_reducible first | exact HK.out | apply KeepBut.set_ | apply keep_drewN | apply keep_drew | apply keep_alloc | refine keep_far ?_ GW315.out _) | exact HK.out))) : w.heap.size ≤ gb321) : w0.heap.size ≤ gb321)); replace HK := am (KeepBut.trans (by repeat (first | (with_reducible first | exact HK.out | apply KeepBut.set_ | apply keep_drewN | apply keep_drew | apply keep_alloc | refine keep_far ?_ GW315.out _) | exact HK.out)) (KeepBut.of_below hb g none) (.inl rfl)); have NB315_321 := nl hg BK315; have NB321_315 := ns NB315_321; replace BK315 := kb BK315 hb; have NB0_321 := am ((by rw [hg]; exact Nat.ne_of_lt (IsS132.lt (show IsS132 w0 _ g s0_0 t319 t320 from (iw HI0.out))) : g ≠ gb321)); have NB321_0 := ns NB0_321; replace HI0 := am (IsS132.below (iw HI0.out) hb); clear hb hbox hg; obtain ⟨Ao31, co31, eo31⟩ := Kd.R_slice HO318.out; subst eo31; have hnb32 := NB321_315.out; have hnc32 := NB315_321.out; have hnb33 := NB321_0.out; have hnc33 := NB0_321.out; have hcz34_0 := bc BK321 0 (.slice none 0 0); have hfz34_0 := blk_frozen BK321.out 0) | ((with_reducible refine gate_callee (f := 156) rfl ?_); refine gl (some 7) Try.func156 #[.pointer (some ⟨g, 0, none⟩), .int .i64 12] ?_; (with_reducible refine (spec_l1Below.calls g s0_0 t319 t320 12 t322 t323 t324 w0 _ ?side1 ?side2 A3.out).mono ?_); (case side1 => exact iw HI0.out); (case side2 => exact bv); rintro e w35 ⟨rfl, hi, hb, hk⟩; refine ⟨_, rfl, ?_⟩; replace BK315 := kk hk BK315 NB315_0; replace HO318 := am (Kd.R_mono (Kd.R_keep (IsS132.apart (show IsS132 w0 _ g s0_0 t319 t320 from (iw HI0.out)) (by (with_reducible repeat (first | apply Kd.R_alloc | apply Kd.R_drewN | apply Kd.R_drew)); exact (Kd.R_mono (Kd.R_far (p := ⟨gb321, 0, none⟩) (Kd.R_types HO318.out BK321.out (by decide)) (fun _ hk => hk.2) (.slice Ao31 t316.length co31)) (fun _ h_ => h_.1))) (by decide)) hk (fun _ h => h.2)) (fun _ h => h.1)); replace BK321 := am (KeepBut.blk hk (g' := gb321) (o := .cells #[.slice Ao31 t316.length co31] 26 (0, 0)) (by (with_reducible repeat (first | refine blk_drewN ?_ _ | refine blk_drew ?_ | refine blk_alloc ?_ _)); refine blk_put (cs := #[.slice none 0 0]) ?_ 0 _ rfl; (with_reducible repeat (first | refine blk_drewN ?_ _ | refine blk_drew ?_ | refine blk_alloc ?_ _)); exact BK321.out) NB321_0.out (by simp)); replace HK := am (KeepBut.trans (by repeat (first | (with_reducible first | exact HK.out | apply KeepBut.set_ | apply keep_drewN | apply keep_drew | apply keep_alloc | refine keep_far ?_ GW315.out _ | refine keep_far ?_ GW321.out _) | exact HK.out)) hk (.inl rfl)); replace HB := am (hb); replace HI0 := am (hi); clear hb hk hi; have hcz36_0 := bc BK321 0 (.slice Ao31 t316.length co31); have hfz36_0 := blk_frozen BK321.out 0; have q37 : (1 : Int) ≤ ((t316.length : Int) : Int) := of_decide_eq_true (by first | (with_reducible assumption) | assumption); obtain ⟨i037, hi037, _, hsz37, _⟩ := info_parts info3; have hcut37 := cut_from (P := Try.prog) 24 3 .i64 Try.underlying24 hi037 1 hsz37 Ao31 t316.length co31 1 (by omega) q37; have hr37 := Kd.Q_drop (k := (1 : Int).toNat) (Kd.Q_of_R HO318.out) (by omega); obtain ⟨A37, hA37⟩ : ∃ A1, A1 = (if co31 = (1 : Int).toNat then Ao31 else (Ao31 : Option Addr).map (·.add ((1 : Int).toNat * 1))) := ⟨_, rfl⟩; obtain ⟨c37, hc37⟩ : ∃ c1, c1 = co31 - (1 : Int).toNat := ⟨_, rfl⟩; have hy37 : y334.length = t316.length - (1 : Int).toNat := (by rw [Ny334.out, List.length_drop]); rw [← Ny334.out] at hr37; rw [← hy37, ← hA37, ← hc37] at hcut37; replace hr37 : Kd.Q (Kd.int .i64) 3 w35 w.heap.size (fun _ => True) (.slice A37 y334.length c37) y334 := (by rw [hA37, hc37, hy37]; exact hr37); have HE37 : Aside0 ((Value.slice A37 y334.length c37).ownBlock = (.slice Ao31 t316.length co31 : Value).ownBlock) := ⟨by rw [hA37]; split <;> (cases (Ao31 : Option Addr) <;> rfl)⟩; clear hy37 hi037 hsz37 HO318 hA37 hc37; have HO336 := am hr37; clear hr37; replace q37 := eq_true q37; have hnb38 := NB315_0.out; have hnc38 := NB0_315.out; have hcz39_0 := bc BK315 0 (.slice none 0 0); have hfz39_0 := blk_frozen BK315.out 0))
   refine bodyPost_ret (results_cell_row rfl _ _ gb315 26 #[.slice A37 y334.length c37] (0, 0) _ rfl (by (with_reducible repeat (first | refine blk_drewN ?_ _ | refine blk_drew ?_ | refine blk_alloc ?_ _)); refine blk_put (cs := #[.slice none 0 0]) ?_ 0 _ rfl; (with_reducible repeat (first | refine blk_drewN ?_ _ | refine blk_drew ?_ | refine blk_alloc ?_ _)); refine blk_far ?_ NB315_321.out _; (with_reducible repeat (first | refine blk_drewN ?_ _ | refine blk_drew ?_ | refine blk_alloc ?_ _)); exact BK315.out) Try.underlying26 rfl (by kernel_rfl)) rfl ?_
   exact ⟨_, re, by (with_reducible repeat (first | apply Kd.Q_alloc | apply Kd.Q_drewN | apply Kd.Q_drew)); exact Kd.Q_mono (Kd.Q_far (p := ⟨gb315, 0, none⟩) (Kd.Q_far (p := ⟨gb321, 0, none⟩) (Kd.Q_types (Kd.Q_types HO336.out BK321.out (by decide)) BK315.out (by decide)) (fun _ hk => by first | exact hk.1.2 | simp_all) (.slice A37 y334.length c37)) (fun _ hk => hk.2) (.slice A37 y334.length c37)) (fun _ hk => trivial), (iw HI0.out), bv, by repeat (first | (with_reducible first | exact HK.out | apply KeepBut.set_ | apply keep_drewN | apply keep_drew | apply keep_alloc | refine keep_far ?_ GW315.out _ | refine keep_far ?_ GW321.out _) | exact HK.out)⟩
  ·rw [if_neg c26] at H
   have c26b0 : (t322 == 1) = false := beq_eq_false_iff_ne.mpr c26
   have c26b1 : (t322 != 1) = true := bne_iff_ne.mpr c26
   by_cases c40 : t322 = 2
   ·rw [if_pos c40] at H
    have c40b0 : (t322 == 2) = true := beq_iff_eq.mpr c40
    have c40b1 : (t322 != 2) = false := bne_eq_false_iff_eq.mpr c40
    clear c40
    obtain ⟨y337, hy337⟩ : ∃ y_ : List Int, y_ = (([0, 59, 4] : List Int)) := ⟨_, rfl⟩
    replace H : ((spec_l1PickInt.f s0_0 t323 t324 y337).bind fun bt340 => (some ((([bt340.1, 60] : List Int)), bt340.2.1, bt340.2.2))) = some (r1, r2, r3) := by first | (rw [hy337]; with_reducible exact H) | (have H2_ := (Option.bind_some _ _).symm.trans H; rw [hy337]; with_reducible exact H2_) | (have H2_ := (Option.bind_some _ _).symm.trans H; with_reducible exact H2_) | with_reducible exact H | (rw [hy337]; exact H) | exact H
    have Ny337 := am hy337
    clear hy337
    replace H := ga H; obtain ⟨⟨t340, t341, t342⟩, A41, H⟩ := H
    replace H : (some ((([t340, 60] : List Int)), t341, t342)) = some (r1, r2, r3) := H
    obtain ⟨y343, hy343⟩ : ∃ y_ : List Int, y_ = (([t340, 60] : List Int)) := ⟨_, rfl⟩
    replace H : (some (y343, t341, t342)) = some (r1, r2, r3) := by first | (rw [hy343]; with_reducible exact H) | (have H2_ := (Option.bind_some _ _).symm.trans H; rw [hy343]; with_reducible exact H2_) | (have H2_ := (Option.bind_some _ _).symm.trans H; with_reducible exact H2_) | with_reducible exact H | (rw [hy343]; exact H) | exact H
    have Ny343 := am hy343
    clear hy343
    simp only [Option.some.injEq, Prod.mk.injEq] at H
    obtain ⟨rfl, rfl, rfl⟩ := H
    go_enter Try.func130, Try.ntmps130
    go_wp2_with (first | ((with_reducible refine gate_dst (N := 2) rfl ?_); refine bx 2 #[.slice none 0 0] 26 ?_; intro gb315 hg w42 hbox hb; replace HB := am (below_step bv hb); have BK315 := am (hbox); have GW315 := am ((by rw [hg]; exact (keep_size (w := w) (g := g) (row := none) (by repeat (first | (with_reducible first | exact HK.out | apply KeepBut.set_ | apply keep_drewN | apply keep_drew | apply keep_alloc) | exact HK.out))) : w.heap.size ≤ gb315)); have GE315 := am ((Nat.le_trans HW0.out (by rw [hg]; exact (keep_size (w := w) (g := g) (row := none) (by repeat (first | (with_reducible first | exact HK.out | apply KeepBut.set_ | apply keep_drewN | apply keep_drew | apply keep_alloc) | exact HK.out))) : w.heap.size ≤ gb315) : w0.heap.size ≤ gb315)); replace HK := am (KeepBut.trans (by repeat (first | (with_reducible first | exact HK.out | apply KeepBut.set_ | apply keep_drewN | apply keep_drew | apply keep_alloc) | exact HK.out)) (KeepBut.of_below hb g none) (.inl rfl)); have NB0_315 := am ((by rw [hg]; exact Nat.ne_of_lt (IsS132.lt (show IsS132 w0 _ g s0_0 s0_1 s0_2 from (iw HI0.out))) : g ≠ gb315)); have NB315_0 := ns NB0_315; replace HI0 := am (IsS132.below (iw HI0.out) hb); clear hb hbox hg) | ((with_reducible refine gate_callee (f := 213) rfl ?_); refine gl (some 5) Try.func213 #[.pointer (some ⟨g, 0, none⟩)] ?_; (with_reducible refine (spec_l3Draw.calls k g s0_0 s0_1 s0_2 t316 t319 t320 w0 _ ?side1 ?side2 A2.out).mono ?_); (case side1 => exact iw HI0.out); (case side2 => exact bv); rintro e w43 ⟨v317, rfl, ho0, hi, hb, hk⟩; refine ⟨_, rfl, ?_⟩; replace BK315 := kk hk BK315 NB315_0; have HO318 := am (Kd.R_lower ho0 (keep_size (w := w) (g := g) (row := none) (by repeat (first | (with_reducible first | exact HK.out | apply KeepBut.set_ | apply keep_drewN | apply keep_drew | apply keep_alloc | refine keep_far ?_ GW315.out _) | exact HK.out)))); replace HK := am (KeepBut.trans (by repeat (first | (with_reducible first | exact HK.out | apply KeepBut.set_ | apply keep_drewN | apply keep_drew | apply keep_alloc | refine keep_far ?_ GW315.out _) | exact HK.out)) hk (.inl rfl)); replace HB := am (hb); replace HI0 := am (hi); clear hb hk hi ho0) | ((with_reducible refine gate_dst (N := 3) rfl ?_); refine bx 3 #[.slice none 0 0] 26 ?_; intro gb321 hg w44 hbox hb; replace HO318 := am (Kd.R_below (ro HO318.out) hb); replace HB := am (below_step bv hb); have BK321 := am (hbox); have GW321 := am ((by rw [hg]; exact (keep_size (w := w) (g := g) (row := none) (by repeat (first | (with_reducible first | exact HK.out | apply KeepBut.set_ | apply keep_drewN | apply keep_drew | apply keep_alloc | refine keep_far ?_ GW315.out _) | exact HK.out))) : w.heap.size ≤ gb321)); have GE321 := am ((Nat.le_trans HW0.out (by rw [hg]; exact (keep_size (w := w) (g := g) (row := none) (by repeat (first | (with_reducible first | exact HK.out | apply KeepBut.set_ | apply keep_drewN | apply keep_drew | apply keep_alloc | refine keep_far ?_ GW315.out _) | exact HK.out))) : w.heap.size ≤ gb321) : w0.heap.size ≤ gb321)); replace HK := am (KeepBut.trans (by repeat (first | (with_reducible first | exact HK.out | apply KeepBut.set_ | apply keep_drewN | apply keep_drew | apply keep_alloc | refine keep_far ?_ GW315.out _) | exact HK.out)) (KeepBut.of_below hb g none) (.inl rfl)); have NB315_321 := nl hg BK315; have NB321_315 := ns NB315_321; replace BK315 := kb BK315 hb; have NB0_321 := am ((by rw [hg]; exact Nat.ne_of_lt (IsS132.lt (show IsS132 w0 _ g s0_0 t319 t320 from (iw HI0.out))) : g ≠ gb321)); have NB321_0 := ns NB0_321; replace HI0 := am (IsS132.below (iw HI0.out) hb); clear hb hbox hg; obtain ⟨Ao45, co45, eo45⟩ := Kd.R_slice HO318.out; subst eo45; have hnb46 := NB321_315.out; have hnc46 := NB315_321.out; have hnb47 := NB321_0.out; have hnc47 := NB0_321.out; have hcz48_0 := bc BK321 0 (.slice none 0 0); have hfz48_0 := blk_frozen BK321.out 0) | ((with_reducible refine gate_callee (f := 156) rfl ?_); refine gl (some 7) Try.func156 #[.pointer (some ⟨g, 0, none⟩), .int .i64 12] ?_; (with_reducible refine (spec_l1Below.calls g s0_0 t319 t320 12 t322 t323 t324 w0 _ ?side1 ?side2 A3.out).mono ?_); (case side1 => exact iw HI0.out); (case side2 => exact bv); rintro e w49 ⟨rfl, hi, hb, hk⟩; refine ⟨_, rfl, ?_⟩; replace BK315 := kk hk BK315 NB315_0; replace HO318 := am (Kd.R_mono (Kd.R_keep (IsS132.apart (show IsS132 w0 _ g s0_0 t319 t320 from (iw HI0.out)) (by (with_reducible repeat (first | apply Kd.R_alloc | apply Kd.R_drewN | apply Kd.R_drew)); exact (Kd.R_mono (Kd.R_far (p := ⟨gb321, 0, none⟩) (Kd.R_types HO318.out BK321.out (by decide)) (fun _ hk => hk.2) (.slice Ao45 t316.length co45)) (fun _ h_ => h_.1))) (by decide)) hk (fun _ h => h.2)) (fun _ h => h.1)); replace BK321 := am (KeepBut.blk hk (g' := gb321) (o := .cells #[.slice Ao45 t316.length co45] 26 (0, 0)) (by (with_reducible repeat (first | refine blk_drewN ?_ _ | refine blk_drew ?_ | refine blk_alloc ?_ _)); refine blk_put (cs := #[.slice none 0 0]) ?_ 0 _ rfl; (with_reducible repeat (first | refine blk_drewN ?_ _ | refine blk_drew ?_ | refine blk_alloc ?_ _)); exact BK321.out) NB321_0.out (by simp)); replace HK := am (KeepBut.trans (by repeat (first | (with_reducible first | exact HK.out | apply KeepBut.set_ | apply keep_drewN | apply keep_drew | apply keep_alloc | refine keep_far ?_ GW315.out _ | refine keep_far ?_ GW321.out _) | exact HK.out)) hk (.inl rfl)); replace HB := am (hb); replace HI0 := am (hi); clear hb hk hi) | ((with_reducible refine gate_dst (N := 27) rfl ?_); refine Kd.R_lit (Kd.int .i64) _ 3 ?hg (N := 27) ?hd (xs := ([0, 59, 4] : List Int)) (inner := [.int .i64 0, .int .i64 59, .int .i64 4]) (ok := fun _ => True) (okp := fun _ => True) ?hr ?hp (fun _ hk => hk) trivial (Below.refl _ _) (Nat.le_refl _) (by simp) ?_; (case hd => rfl); (case hg => rfl); (case hr => first | (go_simp; done) | (go_simp; rfl)); (case hp => exact (Reps.one (show Kd.M (Kd.int .i64) _ _ _ 0 [.int .i64 0] from rfl) (Reps.one (show Kd.M (Kd.int .i64) _ _ _ 59 [.int .i64 59] from rfl) (Reps.one (show Kd.M (Kd.int .i64) _ _ _ 4 [.int .i64 4] from rfl) (Reps.none _ _))))); intro v338 w50 ho51 hb hg_ hnew_; clear hg_ hnew_; (first | rw [← Ny337.out] at ho51 | (simp only [Int.reduceToNat] at ho51; rw [← Ny337.out] at ho51)); have HO339 := am (Kd.R_lower (Kd.R_new' ho51 (Kd.R_lt (ro HO318.out))) (keep_size (w := w) (g := g) (row := none) (by repeat (first | (with_reducible first | exact HK.out | apply KeepBut.set_ | apply keep_drewN | apply keep_drew | apply keep_alloc | refine keep_far ?_ GW315.out _ | refine keep_far ?_ GW321.out _) | exact HK.out)))); replace HO318 := am (Kd.R_elder' (ro HO318.out) (Kd.R_base ho51) hb); replace BK315 := kb BK315 hb; replace BK321 := kb BK321 hb; replace HK := am (KeepBut.trans (by repeat (first | (with_reducible first | exact HK.out | apply KeepBut.set_ | apply keep_drewN | apply keep_drew | apply keep_alloc | refine keep_far ?_ GW315.out _ | refine keep_far ?_ GW321.out _) | exact HK.out)) (KeepBut.of_below hb g none) (.inl rfl)); replace HB := am (below_step bv hb); replace HI0 := am (IsS132.below (iw HI0.out) hb); clear hb ho51; obtain ⟨Ao52, co52, eo52⟩ := Kd.R_slice HO339.out; subst eo52) | ((with_reducible refine gate_callee (f := 150) rfl ?_); refine gl (some 28) Try.func150 #[.pointer (some ⟨g, 0, none⟩), .slice Ao52 y337.length co52] ?_; (with_reducible refine (spec_l1PickInt.calls g s0_0 t323 t324 _ _ y337 t340 t341 t342 w0 _ ?side1 ?side2 ?side3 ?side4 ?side5 A41.out).mono ?_); (case side1 => exact iw HI0.out); (case side2 => exact bv); (case side3 => exact co (Kd.R_reads' HO339.out).2.2); (case side4 => exact (Kd.R_reads' HO339.out).2.1); (case side5 => exact far_slice (IsS132.own_ne HI0.out HO339.out (by decide))); rintro e w53 ⟨rfl, hi, hb, hk⟩; refine ⟨_, rfl, ?_⟩; replace BK315 := kk hk BK315 NB315_0; replace HO318 := am (Kd.R_mono (Kd.R_keep (IsS132.apart (show IsS132 w0 _ g s0_0 t323 t324 from (iw HI0.out)) (ro HO318.out) (by decide)) hk (fun _ h => h.2)) (fun _ h => h.1)); replace BK321 := kk hk BK321 NB321_0; replace HO339 := am (Kd.R_mono (Kd.R_keep (IsS132.apart (show IsS132 w0 _ g s0_0 t323 t324 from (iw HI0.out)) (ro HO339.out) (by decide)) hk (fun _ h => h.2)) (fun _ h => h.1)); replace HK := am (KeepBut.trans (by repeat (first | (with_reducible first | exact HK.out | apply KeepBut.set_ | apply keep_drewN | apply keep_drew | apply keep_alloc | refine keep_far ?_ GW315.out _ | refine keep_far ?_ GW321.out _) | exact HK.out)) hk (.inl rfl)); replace HB := am (hb); replace HI0 := am (hi); clear hb hk hi) | ((with_reducible refine gate_dst (N := 29) rfl ?_); refine Kd.R_lit (Kd.int .i64) _ 3 ?hg (N := 29) ?hd (xs := ([t340, 60] : List Int)) (inner := [.int .i64 t340, .int .i64 60]) (ok := fun _ => True) (okp := fun _ => True) ?hr ?hp (fun _ hk => hk) trivial (Below.refl _ _) (Nat.le_refl _) (by simp) ?_; (case hd => rfl); (case hg => rfl); (case hr => first | (go_simp; done) | (go_simp; rfl)); (case hp => exact (Reps.one (show Kd.M (Kd.int .i64) _ _ _ t340 [.int .i64 t340] from rfl) (Reps.one (show Kd.M (Kd.int .i64) _ _ _ 60 [.int .i64 60] from rfl) (Reps.none _ _)))); intro v344 w54 ho55 hb hg_ hnew_; clear hg_ hnew_; (first | rw [← Ny343.out] at ho55 | (simp only [Int.reduceToNat] at ho55; rw [← Ny343.out] at ho55)); have HO345 := am (Kd.R_lower (Kd.R_new' (Kd.R_new' ho55 (Kd.R_lt (ro HO318.out))) (Kd.R_lt (ro HO339.out))) (keep_size (w := w) (g := g) (row := none) (by repeat (first | (with_reducible first | exact HK.out | apply KeepBut.set_ | apply keep_drewN | apply keep_drew | apply keep_alloc | refine keep_far ?_ GW315.out _ | refine keep_far ?_ GW321.out _) | exact HK.out)))); replace HO318 := am (Kd.R_elder' (ro HO318.out) (Kd.R_base ho55) hb); replace HO339 := am (Kd.R_elder' (ro HO339.out) (Kd.R_base ho55) hb); replace BK315 := kb BK315 hb; replace BK321 := kb BK321 hb; replace HK := am (KeepBut.trans (by repeat (first | (with_reducible first | exact HK.out | apply KeepBut.set_ | apply keep_drewN | apply keep_drew | apply keep_alloc | refine keep_far ?_ GW315.out _ | refine keep_far ?_ GW321.out _) | exact HK.out)) (KeepBut.of_below hb g none) (.inl rfl)); replace HB := am (below_step bv hb); replace HI0 := am (IsS132.below (iw HI0.out) hb); clear hb ho55; obtain ⟨Ao56, co56, eo56⟩ := Kd.R_slice HO345.out; subst eo56; have hcz57_0 := bc BK321 0 (.slice Ao45 t316.length co45); have hfz57_0 := blk_frozen BK321.out 0; have hnb58 := NB315_0.out; have hnc58 := NB0_315.out; have hcz59_0 := bc BK315 0 (.slice none 0 0); have hfz59_0 := blk_frozen BK315.out 0))
    refine bodyPost_ret (results_cell_row rfl _ _ gb315 26 #[.slice Ao56 y343.length co56] (0, 0) _ rfl (by (with_reducible repeat (first | refine blk_drewN ?_ _ | refine blk_drew ?_ | refine blk_alloc ?_ _)); refine blk_put (cs := #[.slice none 0 0]) ?_ 0 _ rfl; (with_reducible repeat (first | refine blk_drewN ?_ _ | refine blk_drew ?_ | refine blk_alloc ?_ _)); refine blk_far ?_ NB315_321.out _; (with_reducible repeat (first | refine blk_drewN ?_ _ | refine blk_drew ?_ | refine blk_alloc ?_ _)); exact BK315.out) Try.underlying26 rfl (by kernel_rfl)) rfl ?_
    exact ⟨_, re, Kd.Q_of_R (by (with_reducible repeat (first | apply Kd.R_alloc | apply Kd.R_drewN | apply Kd.R_drew)); exact Kd.R_mono (Kd.R_far (p := ⟨gb315, 0, none⟩) (Kd.R_far (p := ⟨gb321, 0, none⟩) (Kd.R_types (Kd.R_types HO345.out BK321.out (by decide)) BK315.out (by decide)) (fun _ hk => by first | exact hk.1.2 | simp_all) (.slice Ao56 y343.length co56)) (fun _ hk => hk.2) (.slice Ao56 y343.length co56)) (fun _ hk => trivial)), (iw HI0.out), bv, by repeat (first | (with_reducible first | exact HK.out | apply KeepBut.set_ | apply keep_drewN | apply keep_drew | apply keep_alloc | refine keep_far ?_ GW315.out _ | refine keep_far ?_ GW321.out _) | exact HK.out)⟩
   ·rw [if_neg c40] at H
    have c40b0 : (t322 == 2) = false := beq_eq_false_iff_ne.mpr c40
    have c40b1 : (t322 != 2) = true := bne_iff_ne.mpr c40
    simp only [Option.some.injEq, Prod.mk.injEq] at H
    obtain ⟨rfl, rfl, rfl⟩ := H
    go_enter Try.func130, Try.ntmps130
    go_wp2_with (first | ((with_reducible refine gate_dst (N := 2) rfl ?_); refine bx 2 #[.slice none 0 0] 26 ?_; intro gb315 hg w60 hbox hb; replace HB := am (below_step bv hb); have BK315 := am (hbox); have GW315 := am ((by rw [hg]; exact (keep_size (w := w) (g := g) (row := none) (by repeat (first | (with_reducible first | exact HK.out | apply KeepBut.set_ | apply keep_drewN | apply keep_drew | apply keep_alloc) | exact HK.out))) : w.heap.size ≤ gb315)); have GE315 := am ((Nat.le_trans HW0.out (by rw [hg]; exact (keep_size (w := w) (g := g) (row := none) (by repeat (first | (with_reducible first | exact HK.out | apply KeepBut.set_ | apply keep_drewN | apply keep_drew | apply keep_alloc) | exact HK.out))) : w.heap.size ≤ gb315) : w0.heap.size ≤ gb315)); replace HK := am (KeepBut.trans (by repeat (first | (with_reducible first | exact HK.out | apply KeepBut.set_ | apply keep_drewN | apply keep_drew | apply keep_alloc) | exact HK.out)) (KeepBut.of_below hb g none) (.inl rfl)); have NB0_315 := am ((by rw [hg]; exact Nat.ne_of_lt (IsS132.lt (show IsS132 w0 _ g s0_0 s0_1 s0_2 from (iw HI0.out))) : g ≠ gb315)); have NB315_0 := ns NB0_315; replace HI0 := am (IsS132.below (iw HI0.out) hb); clear hb hbox hg) | ((with_reducible refine gate_callee (f := 213) rfl ?_); refine gl (some 5) Try.func213 #[.pointer (some ⟨g, 0, none⟩)] ?_; (with_reducible refine (spec_l3Draw.calls k g s0_0 s0_1 s0_2 t316 t319 t320 w0 _ ?side1 ?side2 A2.out).mono ?_); (case side1 => exact iw HI0.out); (case side2 => exact bv); rintro e w61 ⟨v317, rfl, ho0, hi, hb, hk⟩; refine ⟨_, rfl, ?_⟩; replace BK315 := kk hk BK315 NB315_0; have HO318 := am (Kd.R_lower ho0 (keep_size (w := w) (g := g) (row := none) (by repeat (first | (with_reducible first | exact HK.out | apply KeepBut.set_ | apply keep_drewN | apply keep_drew | apply keep_alloc | refine keep_far ?_ GW315.out _) | exact HK.out)))); replace HK := am (KeepBut.trans (by repeat (first | (with_reducible first | exact HK.out | apply KeepBut.set_ | apply keep_drewN | apply keep_drew | apply keep_alloc | refine keep_far ?_ GW315.out _) | exact HK.out)) hk (.inl rfl)); replace HB := am (hb); replace HI0 := am (hi); clear hb hk hi ho0) | ((with_reducible refine gate_dst (N := 3) rfl ?_); refine bx 3 #[.slice none 0 0] 26 ?_; intro gb321 hg w62 hbox hb; replace HO318 := am (Kd.R_below (ro HO318.out) hb); replace HB := am (below_step bv hb); have BK321 := am (hbox); have GW321 := am ((by rw [hg]; exact (keep_size (w := w) (g := g) (row := none) (by repeat (first | (with_reducible first | exact HK.out | apply KeepBut.set_ | apply keep_drewN | apply keep_drew | apply keep_alloc | refine keep_far ?_ GW315.out _) | exact HK.out))) : w.heap.size ≤ gb321)); have GE321 := am ((Nat.le_trans HW0.out (by rw [hg]; exact (keep_size (w := w) (g := g) (row := none) (by repeat (first | (with_reducible first | exact HK.out | apply KeepBut.set_ | apply keep_drewN | apply keep_drew | apply keep_alloc | refine keep_far ?_ GW315.out _) | exact HK.out))) : w.heap.size ≤ gb321) : w0.heap.size ≤ gb321)); replace HK := am (KeepBut.trans (by repeat (first | (with_reducible first | exact HK.out | apply KeepBut.set_ | apply keep_drewN | apply keep_drew | apply keep_alloc | refine keep_far ?_ GW315.out _) | exact HK.out)) (KeepBut.of_below hb g none) (.inl rfl)); have NB315_321 := nl hg BK315; have NB321_315 := ns NB315_321; replace BK315 := kb BK315 hb; have NB0_321 := am ((by rw [hg]; exact Nat.ne_of_lt (IsS132.lt (show IsS132 w0 _ g s0_0 t319 t320 from (iw HI0.out))) : g ≠ gb321)); have NB321_0 := ns NB0_321; replace HI0 := am (IsS132.below (iw HI0.out) hb); clear hb hbox hg; obtain ⟨Ao63, co63, eo63⟩ := Kd.R_slice HO318.out; subst eo63; have hnb64 := NB321_315.out; have hnc64 := NB315_321.out; have hnb65 := NB321_0.out; have hnc65 := NB0_321.out; have hcz66_0 := bc BK321 0 (.slice none 0 0); have hfz66_0 := blk_frozen BK321.out 0) | ((with_reducible refine gate_callee (f := 156) rfl ?_); refine gl (some 7) Try.func156 #[.pointer (some ⟨g, 0, none⟩), .int .i64 12] ?_; (with_reducible refine (spec_l1Below.calls g s0_0 t319 t320 12 t322 t323 t324 w0 _ ?side1 ?side2 A3.out).mono ?_); (case side1 => exact iw HI0.out); (case side2 => exact bv); rintro e w67 ⟨rfl, hi, hb, hk⟩; refine ⟨_, rfl, ?_⟩; replace BK315 := kk hk BK315 NB315_0; replace HO318 := am (Kd.R_mono (Kd.R_keep (IsS132.apart (show IsS132 w0 _ g s0_0 t319 t320 from (iw HI0.out)) (by (with_reducible repeat (first | apply Kd.R_alloc | apply Kd.R_drewN | apply Kd.R_drew)); exact (Kd.R_mono (Kd.R_far (p := ⟨gb321, 0, none⟩) (Kd.R_types HO318.out BK321.out (by decide)) (fun _ hk => hk.2) (.slice Ao63 t316.length co63)) (fun _ h_ => h_.1))) (by decide)) hk (fun _ h => h.2)) (fun _ h => h.1)); replace BK321 := am (KeepBut.blk hk (g' := gb321) (o := .cells #[.slice Ao63 t316.length co63] 26 (0, 0)) (by (with_reducible repeat (first | refine blk_drewN ?_ _ | refine blk_drew ?_ | refine blk_alloc ?_ _)); refine blk_put (cs := #[.slice none 0 0]) ?_ 0 _ rfl; (with_reducible repeat (first | refine blk_drewN ?_ _ | refine blk_drew ?_ | refine blk_alloc ?_ _)); exact BK321.out) NB321_0.out (by simp)); replace HK := am (KeepBut.trans (by repeat (first | (with_reducible first | exact HK.out | apply KeepBut.set_ | apply keep_drewN | apply keep_drew | apply keep_alloc | refine keep_far ?_ GW315.out _ | refine keep_far ?_ GW321.out _) | exact HK.out)) hk (.inl rfl)); replace HB := am (hb); replace HI0 := am (hi); clear hb hk hi; have hcz68_0 := bc BK321 0 (.slice Ao63 t316.length co63); have hfz68_0 := blk_frozen BK321.out 0; have hnb69 := NB315_0.out; have hnc69 := NB0_315.out; have hcz70_0 := bc BK315 0 (.slice none 0 0); have hfz70_0 := blk_frozen BK315.out 0))
    refine bodyPost_ret (results_cell_row rfl _ _ gb315 26 #[.slice Ao63 t316.length co63] (0, 0) _ rfl (by (with_reducible repeat (first | refine blk_drewN ?_ _ | refine blk_drew ?_ | refine blk_alloc ?_ _)); refine blk_put (cs := #[.slice none 0 0]) ?_ 0 _ rfl; (with_reducible repeat (first | refine blk_drewN ?_ _ | refine blk_drew ?_ | refine blk_alloc ?_ _)); exact BK315.out) Try.underlying26 rfl (by kernel_rfl)) rfl ?_
    exact ⟨_, re, Kd.Q_of_R (by (with_reducible repeat (first | apply Kd.R_alloc | apply Kd.R_drewN | apply Kd.R_drew)); exact Kd.R_mono (Kd.R_far (p := ⟨gb315, 0, none⟩) (Kd.R_types HO318.out BK315.out (by decide)) (fun _ hk => hk.2) (.slice Ao63 t316.length co63)) (fun _ hk => trivial)), (iw HI0.out), bv, by repeat (first | (with_reducible first | exact HK.out | apply KeepBut.set_ | apply keep_drewN | apply keep_drew | apply keep_alloc | refine keep_far ?_ GW315.out _ | refine keep_far ?_ GW321.out _) | exact HK.out)⟩


/-! ### spec_l1New: function 131 -/
def spec_l1New.l0 : Nat → List Int → Int → Int → Option (List Int × Int × Int)
 | 0, _, _, _ => none
 | k + 1, x0, x3, x4 => if x4 < (x0.length : Int) then (if x4 < 4000 then (if 0 ≤ x4 then (spec_l1New.l0 k x0 (Go.bits .and .i64 (wrap64 ((wrap64 ((wrap64 (x3 * 131)) + (wrap64 (rd x0 x4)))) + 7)) 1073741823) (wrap64 (x4 + 1))) else (none)) else (some (x0, 0, x3))) else (some (x0, 0, x3))
def spec_l1New.f (k : Nat) (l0 : List Int) : Option (List Int × Int × Int) := spec_l1New.l0 k l0 (wrap64 (26583 + (l0.length : Int))) 0
set_option maxHeartbeats 8000000 in
set_option maxRecDepth 100000 in
theorem spec_l1New.calls (k : Nat) (A0 : Option Addr) (c0 : Nat) (l0 : List Int) (r1 : List Int) (r2 : Int) (r3 : Int) (w0 w : World) (hB : Below w0.heap.size w0 w) (hr0 : Kd.C (Kd.int .u8) w0 A0 l0.length l0) (hc0 : l0.length ≤ c0) (h : spec_l1New.f k l0 = some (r1, r2, r3)) :
  Calls Try.prog 131 #[.slice A0 l0.length c0] w fun e w' => ∃ g_ : Nat, e = .returned (.pointer (some ⟨g_, 0, none⟩)) ∧ IsS132 w0 w' g_ r1 r2 r3 ∧ Below w0.heap.size w0 w' ∧ Below w.heap.size w w' := by
 have hu132 := Try.underlying132
 have HR0 := am hr0
 have HC0 := am hc0
 clear hr0 hc0
 have HBW := am (Below.refl w.heap.size w)
 have HW0 := am hB.size
 have HB := am hB
 clear hB
 have H : (spec_l1New.l0 k l0 (wrap64 (26583 + (l0.length : Int))) 0) = some (r1, r2, r3) := h
 clear h
 have H' := am H
 clear H
 go_enter Try.func131, Try.ntmps131
 go_wp2
 go_loopg [3, 4] k (fun kq v3 v4 w' => ∃ (x3_1 : Int) (x4_1 : Int), v3 = .int .i64 x3_1 ∧ v4 = .int .i64 x4_1 ∧ Aside0 (spec_l1New.l0 kq l0 x3_1 x4_1 = some (r1, r2, r3)) ∧ Aside0 (kq ≤ k) ∧ Aside0 (Below w0.heap.size w0 w') ∧ Aside0 (Below w.heap.size w w'))
 case atStart => exact ⟨(wrap64 (26583 + (l0.length : Int))), (0), rr, rr, H', ⟨Nat.le_refl _⟩, ⟨bw⟩, ⟨by repeat (first | (with_reducible first | exact HBW.out | apply below_alloc | apply pw_below_drewN | apply below_drew1) | exact HBW.out)⟩⟩
 case round =>
  clear H'
  obtain ⟨x3_1, x4_1, rfl, rfl, HA, HK1, HB, HBW⟩ := hrel
  cases gk with
  | zero => exact absurd HA.out (by simp [spec_l1New.l0])
  | succ k1 =>
   have H := HA.out
   clear HA
   simp only [spec_l1New.l0] at H
   replace H := gi H; obtain ⟨c2b0, H⟩ | ⟨c2b0, H⟩ := H
   ·replace H := gi H; obtain ⟨c3b0, H⟩ | ⟨c3b0, H⟩ := H
    ·replace H := gd H; obtain ⟨c4b0, H⟩ := H
     have H' := am H
     clear H
     obtain ⟨⟨ad346, e346, hx346_0⟩, p346, q346⟩ := pq (Kd.at_int HR0.out x4_1)
     cases e346
     replace hx346_0 := pw_cell_below HB.out hx346_0
     go_wp2
     go_roundg k1
     case measure => have := HK1.out; omega
     case rel => exact ⟨(Go.bits .and .i64 (wrap64 ((wrap64 ((wrap64 (x3_1 * 131)) + (wrap64 (rd l0 x4_1)))) + 7)) 1073741823), (wrap64 (x4_1 + 1)), rr, rr, H', ⟨by have := HK1.out; omega⟩, ⟨bw⟩, ⟨by repeat (first | (with_reducible first | exact HBW.out | apply below_alloc | apply pw_below_drewN | apply below_drew1) | exact HBW.out)⟩⟩
    ·simp only [Option.some.injEq, Prod.mk.injEq] at H
     obtain ⟨rfl, rfl, rfl⟩ := H
     go_wp2_with (first | ((with_reducible refine gate_dst (N := 31) rfl ?_); refine bx 31 #[.slice A0 l0.length c0, .int .i64 0, .int .i64 x3_1] 132 ?_; intro gb347 hg w5 hbox hb; replace HB := am (below_step bw hb); have BK347 := am (hbox); have GW347 := am ((by rw [hg]; exact (below_size (by repeat (first | (with_reducible first | exact HBW.out | apply below_alloc | apply pw_below_drewN | apply below_drew1) | exact HBW.out))) : w.heap.size ≤ gb347)); have GE347 := am ((Nat.le_trans HW0.out (by rw [hg]; exact (below_size (by repeat (first | (with_reducible first | exact HBW.out | apply below_alloc | apply pw_below_drewN | apply below_drew1) | exact HBW.out))) : w.heap.size ≤ gb347) : w0.heap.size ≤ gb347)); replace HBW := am (below_step HBW.out hb); clear hb hbox hg))
     go_ret
     exact ⟨_, rfl, (show IsS132 w0 _ gb347 l0 0 x3_1 from ⟨_, _, bf BK347.out, GE347.out, HR0.out⟩), bw, by repeat (first | (with_reducible first | exact HBW.out | apply below_alloc | apply pw_below_drewN | apply below_drew1 | refine below_set ?_ GW347.out) | exact HBW.out)⟩
   ·simp only [Option.some.injEq, Prod.mk.injEq] at H
    obtain ⟨rfl, rfl, rfl⟩ := H
    go_wp2_with (first | ((with_reducible refine gate_dst (N := 31) rfl ?_); refine bx 31 #[.slice A0 l0.length c0, .int .i64 0, .int .i64 x3_1] 132 ?_; intro gb348 hg w6 hbox hb; replace HB := am (below_step bw hb); have BK348 := am (hbox); have GW348 := am ((by rw [hg]; exact (below_size (by repeat (first | (with_reducible first | exact HBW.out | apply below_alloc | apply pw_below_drewN | apply below_drew1) | exact HBW.out))) : w.heap.size ≤ gb348)); have GE348 := am ((Nat.le_trans HW0.out (by rw [hg]; exact (below_size (by repeat (first | (with_reducible first | exact HBW.out | apply below_alloc | apply pw_below_drewN | apply below_drew1) | exact HBW.out))) : w.heap.size ≤ gb348) : w0.heap.size ≤ gb348)); replace HBW := am (below_step HBW.out hb); clear hb hbox hg))
    go_ret
    exact ⟨_, rfl, (show IsS132 w0 _ gb348 l0 0 x3_1 from ⟨_, _, bf BK348.out, GE348.out, HR0.out⟩), bw, by repeat (first | (with_reducible first | exact HBW.out | apply below_alloc | apply pw_below_drewN | apply below_drew1 | refine below_set ?_ GW348.out) | exact HBW.out)⟩


/-! ### impl_within: function 139 -/
def impl_within.f (a0 : Int) (a1 : Int) (a2 : Int) : Option (Bool) := if a0 ≥ a1 then (some (decide (a0 ≤ a2))) else (some false)
set_option maxHeartbeats 8000000 in
set_option maxRecDepth 100000 in
theorem impl_within.calls (a0 : Int) (a1 : Int) (a2 : Int) (r : Bool) (w : World) (h : impl_within.f a0 a1 a2 = some r) :
  Calls Try.prog 139 #[.int .i64 a0, .int .i64 a1, .int .i64 a2] w fun e w' => e = .returned (.bool r) ∧ Drawn0 w w' := by
 have H : (if a0 ≥ a1 then (some (decide (a0 ≤ a2))) else (some false)) = some r := h
 clear h
 replace H := gj H; obtain ⟨c4, H⟩ | ⟨c4, H⟩ := H
 ·have c4b0 : decide (a1 ≤ a0) = true := decide_eq_true c4
  clear c4
  obtain rfl := Option.some.inj H
  go_enter Try.func139, Try.ntmps139
  go_wp2
  go_ret
  exact ⟨rr, dw⟩
 ·have c4b0 : decide (a1 ≤ a0) = false := decide_eq_false c4
  clear c4
  obtain rfl := Option.some.inj H
  go_enter Try.func139, Try.ntmps139
  go_wp2
  go_ret
  exact ⟨rr, dw⟩


/-! ### impl_allWithin: function 135 -/
def impl_allWithin.l0 : Nat → Int → Int → List Int → Int → Int → Option (Bool)
 | 0, _, _, _, _, _ => none
 | k + 1, x1, x2, x9, x10, x11 => if x11 < x10 then (if 0 ≤ x11 then (if x11 < (x9.length : Int) then ((impl_within.f (rd x9 x11) x1 x2).bind fun t367 => (if t367 = true then (impl_allWithin.l0 k x1 x2 x9 x10 (wrap64 (x11 + 1))) else (some false))) else (none)) else (none)) else (some true)
def impl_allWithin.f (k : Nat) (l0 : List Int) (a1 : Int) (a2 : Int) : Option (Bool) := impl_allWithin.l0 k a1 a2 l0 (l0.length : Int) 0
set_option maxHeartbeats 8000000 in
set_option maxRecDepth 100000 in
theorem impl_allWithin.calls (k : Nat) (A0 : Option Addr) (c0 : Nat) (l0 : List Int) (a1 : Int) (a2 : Int) (r : Bool) (w : World) (hr0 : Kd.C (Kd.int .i64) w A0 l0.length l0) (hc0 : l0.length ≤ c0) (h : impl_allWithin.f k l0 a1 a2 = some r) :
  Calls Try.prog 135 #[.slice A0 l0.length c0, .int .i64 a1, .int .i64 a2] w fun e w' => e = .returned (.bool r) ∧ Drawn0 w w' := by
 have HR0 := am hr0
 have HC0 := am hc0
 clear hr0 hc0
 have H : (impl_allWithin.l0 k a1 a2 l0 (l0.length : Int) 0) = some r := h
 clear h
 have H' := am H
 clear H
 go_enter Try.func135, Try.ntmps135
 go_wp2
 go_loopg [11] k (fun kq v11 w' => ∃ (x11_1 : Int), v11 = .int .i64 x11_1 ∧ Aside0 (impl_allWithin.l0 kq a1 a2 l0 (l0.length : Int) x11_1 = some r) ∧ Aside0 (kq ≤ k) ∧ Drawn0 w w')
 case atStart => exact ⟨(0), rr, H', ⟨Nat.le_refl _⟩, dw⟩
 case round =>
  clear H'
  obtain ⟨x11_1, rfl, HA, HK1, ⟨m1, rfl⟩⟩ := hrel
  cases gk with
  | zero => exact absurd HA.out (by simp [impl_allWithin.l0])
  | succ k1 =>
   have H := HA.out
   clear HA
   simp only [impl_allWithin.l0] at H
   replace H := gi H; obtain ⟨c4b0, H⟩ | ⟨c4b0, H⟩ := H
   ·replace H := gd H; obtain ⟨c5b0, H⟩ := H
    replace H := gd H; obtain ⟨c6b0, H⟩ := H
    replace H := ga H; obtain ⟨t367, A7, H⟩ := H
    replace H := gb H; obtain ⟨rfl, H⟩ | ⟨rfl, H⟩ := H
    ·have H' := am H
     clear H
     obtain ⟨⟨ad366, e366, hx366_0⟩, p366, q366⟩ := pq (Kd.at_int HR0.out x11_1)
     cases e366
     go_wp2_with (first | ((with_reducible refine gate_callee (f := 139) rfl ?_); refine gl (some 18) Try.func139 #[.int .i64 (rd l0 x11_1), .int .i64 a1, .int .i64 a2] ?_; (with_reducible refine (impl_within.calls (rd l0 x11_1) a1 a2 true _ A7.out).mono ?_); rintro e w' ⟨rfl, ⟨nd, rfl⟩⟩; refine ⟨_, rfl, ?_⟩))
     go_roundg k1
     case measure => have := HK1.out; omega
     case rel => exact ⟨(wrap64 (x11_1 + 1)), rr, H', ⟨by have := HK1.out; omega⟩, dw⟩
    ·obtain rfl := Option.some.inj H
     obtain ⟨⟨ad366, e366, hx366_0⟩, p366, q366⟩ := pq (Kd.at_int HR0.out x11_1)
     cases e366
     go_wp2_with (first | ((with_reducible refine gate_callee (f := 139) rfl ?_); refine gl (some 18) Try.func139 #[.int .i64 (rd l0 x11_1), .int .i64 a1, .int .i64 a2] ?_; (with_reducible refine (impl_within.calls (rd l0 x11_1) a1 a2 false _ A7.out).mono ?_); rintro e w' ⟨rfl, ⟨nd, rfl⟩⟩; refine ⟨_, rfl, ?_⟩))
     go_ret
     exact ⟨rr, dw⟩
   ·obtain rfl := Option.some.inj H
    go_wp2
    go_ret
    exact ⟨rr, dw⟩

end Go.Proofs.Ytkfplkdchkmgbaa.C
