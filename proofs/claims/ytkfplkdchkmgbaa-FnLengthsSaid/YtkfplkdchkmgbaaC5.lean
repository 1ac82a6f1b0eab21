/- Contracts of functions of the program: spec_l3Draw. -/
import Derived.Test.YtkfplkdchkmgbaaC0
import Derived.Test.YtkfplkdchkmgbaaC1
import Derived.Test.YtkfplkdchkmgbaaC3
import Derived.Test.YtkfplkdchkmgbaaC4
namespace Go.Proofs.Ytkfplkdchkmgbaa.C
open Go.RowKit Go.Proofs.YtkfplkdchkmgbaaW.PrintWords Go.Proofs.YtkfplkdchkmgbaaW.PrintLast Go.Proofs.YtkfplkdchkmgbaaW.PrintMore
attribute [local go_sem] max2_int min2_int max_two min_two max_three min_three max_four min_four
set_option linter.unusedVariables false
set_option linter.unusedSimpArgs false

/-! ### spec_l3Draw: function 213 -/
mutual
def spec_l3Draw.l0 : Nat → Int → List Int → Int → Int → Option (List Int × Int × Int)
 | 0, _, _, _, _ => none
 | k + 1, x5, x1000, x1001, x1002 => if x5 < 4 then ((spec_l1Below.f x1000 x1001 x1002 8).bind fun bt294 => ((spec_l1Below.f x1000 bt294.2.1 bt294.2.2 4).bind fun bt300 => (spec_l3Draw.l1 k x5 (([wrap64 (2 + bt294.1)] : List Int)) (wrap64 (1 + bt300.1)) 0 x1000 bt300.2.1 bt300.2.2))) else ((spec_l3List.f x1000 x1001 x1002).bind fun bt284 => ((spec_FromGens.f k bt284.1).bind fun bt289 => (some (bt289.1, bt284.2.1, bt284.2.2))))
def spec_l3Draw.l1 : Nat → Int → List Int → Int → Int → List Int → Int → Int → Option (List Int × Int × Int)
 | 0, _, _, _, _, _, _, _ => none
 | k + 1, x5, x6, x7, x8, x1000, x1001, x1002 => if x8 < x7 then (if 0 < (x6.length : Int) then ((spec_l1Below.f x1000 x1001 x1002 12).bind fun bt304 => (if x6.length < 17592186044416 then (spec_l3Draw.l1 k x5 (x6 ++ [wrap64 ((wrap64 ((rd x6 0) + 1)) + bt304.1)]) x7 (wrap64 (x8 + 1)) x1000 bt304.2.1 bt304.2.2) else (none))) else (none)) else ((spec_FromGens.f k x6).bind fun bt310 => (if bt310.2 = true then (some (bt310.1, x1001, x1002)) else (spec_l3Draw.l0 k (wrap64 (x5 + 1)) x1000 x1001 x1002)))
end
def spec_l3Draw.f (k : Nat) (s0_0 : List Int) (s0_1 : Int) (s0_2 : Int) : Option (List Int × Int × Int) := (spec_l1Once.f s0_0 s0_1 s0_2 4).bind fun bt271 => (if bt271.1 = true then ((spec_l3List.f s0_0 bt271.2.1 bt271.2.2).bind fun bt274 => ((spec_FromGens.f k bt274.1).bind fun bt279 => (some (bt279.1, bt274.2.1, bt274.2.2)))) else (spec_l3Draw.l0 k 0 s0_0 bt271.2.1 bt271.2.2))
def spec_l3Draw.T12 : Bool × List (List Nat × List Nat) := (true, [([], []), ([], []), ([1], [1]), ([2], [2]), ([3], [3]), ([], []), ([5], [5]), ([4, 6], [4, 6]), ([7], [7]), ([0, 8, 6], [0, 8]), ([9, 9, 0, 1, 2, 3, 4, 5, 6, 7, 8, 9], [0, 1, 9])])
def spec_l3Draw.B12 : List Nat := [0, 0, 2, 6, 14, 0, 32, 126, 254, 511, 1023]
theorem spec_l3Draw.tab12 : rtab .any (opsOf Try.f213 12) = spec_l3Draw.T12 := by kernel_rfl
theorem spec_l3Draw.bits12 : waitsOk spec_l3Draw.T12.2 spec_l3Draw.B12 = true := by kernel_rfl
set_option maxHeartbeats 8000000 in
set_option maxRecDepth 100000 in
theorem spec_l3Draw.calls (k : Nat) (g : Nat) (s0_0 : List Int) (s0_1 : Int) (s0_2 : Int) (r1 : List Int) (r2 : Int) (r3 : Int) (w0 w : World) (hI : IsS132 w0 w g s0_0 s0_1 s0_2) (hB : Below w0.heap.size w0 w) (h : spec_l3Draw.f k s0_0 s0_1 s0_2 = some (r1, r2, r3)) :
  Calls Try.prog 213 #[.pointer (some ⟨g, 0, none⟩)] w fun e w' => ∃ v0_ : Value, e = .returned (.agg #[v0_]) ∧ Kd.R (Kd.int .i64) 3 w' w.heap.size (fun _ => True) v0_ r1 ∧ IsS132 w0 w' g s0_0 r2 r3 ∧ Below w0.heap.size w0 w' ∧ KeepBut w w' g none := by
 have hu26 := Try.underlying26
 have HI0 := am hI
 have HK := am (KeepBut.refl w g none)
 have HL := am hB.size
 clear hI
 have HW0 := am hB.size
 have HB := am hB
 clear hB
 have H : ((spec_l1Once.f s0_0 s0_1 s0_2 4).bind fun bt271 => (if bt271.1 = true then ((spec_l3List.f s0_0 bt271.2.1 bt271.2.2).bind fun bt274 => ((spec_FromGens.f k bt274.1).bind fun bt279 => (some (bt279.1, bt274.2.1, bt274.2.2)))) else (spec_l3Draw.l0 k 0 s0_0 bt271.2.1 bt271.2.2))) = some (r1, r2, r3) := h
 clear h
 replace H := ga H; obtain ⟨⟨t271, t272, t273⟩, A2, H⟩ := H
 replace H : (if t271 = true then ((spec_l3List.f s0_0 t272 t273).bind fun bt274 => ((spec_FromGens.f k bt274.1).bind fun bt279 => (some (bt279.1, bt274.2.1, bt274.2.2)))) else (spec_l3Draw.l0 k 0 s0_0 t272 t273)) = some (r1, r2, r3) := H
 replace H := gb H; obtain ⟨rfl, H⟩ | ⟨rfl, H⟩ := H
 ·replace H := ga H; obtain ⟨⟨t274, t277, t278⟩, A4, H⟩ := H
  replace H : ((spec_FromGens.f k t274).bind fun bt279 => (some (bt279.1, t277, t278))) = some (r1, r2, r3) := H
  replace H := ga H; obtain ⟨⟨t279, t282⟩, A5, H⟩ := H
  replace H : (some (t279, t277, t278)) = some (r1, r2, r3) := H
  simp only [Option.some.injEq, Prod.mk.injEq] at H
  obtain ⟨rfl, rfl, rfl⟩ := H
  go_enter Try.func213, Try.ntmps213
  go_wp2_with (first | ((with_reducible refine gate_dst (N := 2) rfl ?_); refine bx 2 #[.slice none 0 0] 26 ?_; intro gb270 hg w6 hbox hb; replace HB := am (below_step bv hb); have BK270 := am (hbox); have GW270 := am ((by rw [hg]; exact (keep_size (w := w) (g := g) (row := none) (by repeat (first | (with_reducible first | exact HK.out | apply KeepBut.set_ | apply keep_drewN | apply keep_drew | apply keep_alloc) | exact HK.out))) : w.heap.size ≤ gb270)); have GE270 := am ((Nat.le_trans HW0.out (by rw [hg]; exact (keep_size (w := w) (g := g) (row := none) (by repeat (first | (with_reducible first | exact HK.out | apply KeepBut.set_ | apply keep_drewN | apply keep_drew | apply keep_alloc) | exact HK.out))) : w.heap.size ≤ gb270) : w0.heap.size ≤ gb270)); replace HK := am (KeepBut.trans (by repeat (first | (with_reducible first | exact HK.out | apply KeepBut.set_ | apply keep_drewN | apply keep_drew | apply keep_alloc) | exact HK.out)) (KeepBut.of_below hb g none) (.inl rfl)); have NB0_270 := am ((by rw [hg]; exact Nat.ne_of_lt (IsS132.lt (show IsS132 w0 _ g s0_0 s0_1 s0_2 from (iw HI0.out))) : g ≠ gb270)); have NB270_0 := ns NB0_270; replace HI0 := am (IsS132.below (iw HI0.out) hb); clear hb hbox hg) | ((with_reducible refine gate_callee (f := 163) rfl ?_); refine gl (some 14) Try.func163 #[.pointer (some ⟨g, 0, none⟩), .int .i64 4] ?_; (with_reducible refine (spec_l1Once.calls g s0_0 s0_1 s0_2 4 true t272 t273 w0 _ ?side1 ?side2 A2.out).mono ?_); (case side1 => exact iw HI0.out); (case side2 => exact bv); rintro e w7 ⟨rfl, hi, hb, hk⟩; refine ⟨_, rfl, ?_⟩; replace BK270 := kk hk BK270 NB270_0; replace HK := am (KeepBut.trans (by repeat (first | (with_reducible first | exact HK.out | apply KeepBut.set_ | apply keep_drewN | apply keep_drew | apply keep_alloc | refine keep_far ?_ GW270.out _) | exact HK.out)) hk (.inl rfl)); replace HB := am (hb); replace HI0 := am (hi); clear hb hk hi) | ((with_reducible refine gate_callee (f := 233) rfl ?_); refine gl (some 17) Try.func233 #[.pointer (some ⟨g, 0, none⟩)] ?_; (with_reducible refine (spec_l3List.calls g s0_0 t272 t273 t274 t277 t278 w0 _ ?side1 ?side2 A4.out).mono ?_); (case side1 => exact iw HI0.out); (case side2 => exact bv); rintro e w8 ⟨v275, rfl, ho0, hi, hb, hk⟩; refine ⟨_, rfl, ?_⟩; replace BK270 := kk hk BK270 NB270_0; have HO276 := am (Kd.R_lower ho0 (keep_size (w := w) (g := g) (row := none) (by repeat (first | (with_reducible first | exact HK.out | apply KeepBut.set_ | apply keep_drewN | apply keep_drew | apply keep_alloc | refine keep_far ?_ GW270.out _) | exact HK.out)))); replace HK := am (KeepBut.trans (by repeat (first | (with_reducible first | exact HK.out | apply KeepBut.set_ | apply keep_drewN | apply keep_drew | apply keep_alloc | refine keep_far ?_ GW270.out _) | exact HK.out)) hk (.inl rfl)); replace HB := am (hb); replace HI0 := am (hi); clear hb hk hi ho0; obtain ⟨Ao9, co9, eo9⟩ := Kd.R_slice HO276.out; subst eo9) | ((with_reducible refine gate_callee (f := 206) rfl ?_); refine gl (some 18) Try.func206 #[.slice Ao9 t274.length co9] ?_; (with_reducible refine (spec_FromGens.calls k _ _ t274 t279 t282 _ ?side1 ?side2 A5.out).mono ?_); (case side1 => exact co (Kd.R_reads' HO276.out).2.2); (case side2 => exact (Kd.R_reads' HO276.out).2.1); rintro e w10 ⟨v280, rfl, ho0, hb⟩; refine ⟨_, rfl, ?_⟩; have HO281 := am (Kd.R_lower (Kd.R_new' ho0 (Kd.R_lt (ro HO276.out))) (keep_size (w := w) (g := g) (row := none) (by repeat (first | (with_reducible first | exact HK.out | apply KeepBut.set_ | apply keep_drewN | apply keep_drew | apply keep_alloc | refine keep_far ?_ GW270.out _) | exact HK.out)))); replace HO276 := am (Kd.R_elder' (ro HO276.out) (Kd.R_base ho0) hb); replace BK270 := kb BK270 hb; replace HK := am (KeepBut.trans (by repeat (first | (with_reducible first | exact HK.out | apply KeepBut.set_ | apply keep_drewN | apply keep_drew | apply keep_alloc | refine keep_far ?_ GW270.out _) | exact HK.out)) (KeepBut.of_below hb g none) (.inl rfl)); replace HB := am (below_step bv hb); replace HI0 := am (IsS132.below (iw HI0.out) hb); clear hb ho0) | ((with_reducible refine gate_dst (N := 3) rfl ?_); refine bx 3 #[.slice none 0 0] 26 ?_; intro gb283 hg w11 hbox hb; replace HO276 := am (Kd.R_below (ro HO276.out) hb); replace HO281 := am (Kd.R_below (ro HO281.out) hb); replace HB := am (below_step bv hb); have BK283 := am (hbox); have GW283 := am ((by rw [hg]; exact (keep_size (w := w) (g := g) (row := none) (by repeat (first | (with_reducible first | exact HK.out | apply KeepBut.set_ | apply keep_drewN | apply keep_drew | apply keep_alloc | refine keep_far ?_ GW270.out _) | exact HK.out))) : w.heap.size ≤ gb283)); have GE283 := am ((Nat.le_trans HW0.out (by rw [hg]; exact (keep_size (w := w) (g := g) (row := none) (by repeat (first | (with_reducible first | exact HK.out | apply KeepBut.set_ | apply keep_drewN | apply keep_drew | apply keep_alloc | refine keep_far ?_ GW270.out _) | exact HK.out))) : w.heap.size ≤ gb283) : w0.heap.size ≤ gb283)); replace HK := am (KeepBut.trans (by repeat (first | (with_reducible first | exact HK.out | apply KeepBut.set_ | apply keep_drewN | apply keep_drew | apply keep_alloc | refine keep_far ?_ GW270.out _) | exact HK.out)) (KeepBut.of_below hb g none) (.inl rfl)); have NB270_283 := nl hg BK270; have NB283_270 := ns NB270_283; replace BK270 := kb BK270 hb; have NB0_283 := am ((by rw [hg]; exact Nat.ne_of_lt (IsS132.lt (show IsS132 w0 _ g s0_0 t277 t278 from (iw HI0.out))) : g ≠ gb283)); have NB283_0 := ns NB0_283; replace HI0 := am (IsS132.below (iw HI0.out) hb); clear hb hbox hg; obtain ⟨Ao12, co12, eo12⟩ := Kd.R_slice HO281.out; subst eo12; have hnb13 := NB283_270.out; have hnc13 := NB270_283.out; have hnb14 := NB283_0.out; have hnc14 := NB0_283.out; have hcz15_0 := bc BK283 0 (.slice none 0 0); have hfz15_0 := blk_frozen BK283.out 0; have hnb16 := NB270_0.out; have hnc16 := NB0_270.out; have hcz17_0 := bc BK270 0 (.slice none 0 0); have hfz17_0 := blk_frozen BK270.out 0))
  refine bodyPost_ret (results_cell_row rfl _ _ gb270 26 #[.slice Ao12 t279.length co12] (0, 0) _ rfl (by (with_reducible repeat (first | refine blk_drewN ?_ _ | refine blk_drew ?_ | refine blk_alloc ?_ _)); refine blk_put (cs := #[.slice none 0 0]) ?_ 0 _ rfl; (with_reducible repeat (first | refine blk_drewN ?_ _ | refine blk_drew ?_ | refine blk_alloc ?_ _)); refine blk_far ?_ NB270_283.out _; (with_reducible repeat (first | refine blk_drewN ?_ _ | refine blk_drew ?_ | refine blk_alloc ?_ _)); exact BK270.out) Try.underlying26 rfl (by kernel_rfl)) rfl ?_
  exact ⟨_, re, by (with_reducible repeat (first | apply Kd.R_alloc | apply Kd.R_drewN | apply Kd.R_drew)); exact Kd.R_mono (Kd.R_far (p := ⟨gb270, 0, none⟩) (Kd.R_far (p := ⟨gb283, 0, none⟩) (Kd.R_types (Kd.R_types HO281.out BK283.out (by decide)) BK270.out (by decide)) (fun _ hk => by first | exact hk.1.2 | simp_all) (.slice Ao12 t279.length co12)) (fun _ hk => hk.2) (.slice Ao12 t279.length co12)) (fun _ hk => trivial), (iw HI0.out), bv, by repeat (first | (with_reducible first | exact HK.out | apply KeepBut.set_ | apply keep_drewN | apply keep_drew | apply keep_alloc | refine keep_far ?_ GW270.out _ | refine keep_far ?_ GW283.out _) | exact HK.out)⟩
 ·have H' := am H
  clear H
  go_enter Try.func213, Try.ntmps213
  go_wp2_with (first | ((with_reducible refine gate_dst (N := 2) rfl ?_); refine bx 2 #[.slice none 0 0] 26 ?_; intro gb270 hg w18 hbox hb; replace HB := am (below_step bv hb); have BK270 := am (hbox); have GW270 := am ((by rw [hg]; exact (keep_size (w := w) (g := g) (row := none) (by repeat (first | (with_reducible first | exact HK.out | apply KeepBut.set_ | apply keep_drewN | apply keep_drew | apply keep_alloc) | exact HK.out))) : w.heap.size ≤ gb270)); have GE270 := am ((Nat.le_trans HW0.out (by rw [hg]; exact (keep_size (w := w) (g := g) (row := none) (by repeat (first | (with_reducible first | exact HK.out | apply KeepBut.set_ | apply keep_drewN | apply keep_drew | apply keep_alloc) | exact HK.out))) : w.heap.size ≤ gb270) : w0.heap.size ≤ gb270)); replace HK := am (KeepBut.trans (by repeat (first | (with_reducible first | exact HK.out | apply KeepBut.set_ | apply keep_drewN | apply keep_drew | apply keep_alloc) | exact HK.out)) (KeepBut.of_below hb g none) (.inl rfl)); have NB0_270 := am ((by rw [hg]; exact Nat.ne_of_lt (IsS132.lt (show IsS132 w0 _ g s0_0 s0_1 s0_2 from (iw HI0.out))) : g ≠ gb270)); have NB270_0 := ns NB0_270; replace HI0 := am (IsS132.below (iw HI0.out) hb); clear hb hbox hg) | ((with_reducible refine gate_callee (f := 163) rfl ?_); refine gl (some 14) Try.func163 #[.pointer (some ⟨g, 0, none⟩), .int .i64 4] ?_; (with_reducible refine (spec_l1Once.calls g s0_0 s0_1 s0_2 4 false t272 t273 w0 _ ?side1 ?side2 A2.out).mono ?_); (case side1 => exact iw HI0.out); (case side2 => exact bv); rintro e w19 ⟨rfl, hi, hb, hk⟩; refine ⟨_, rfl, ?_⟩; replace BK270 := kk hk BK270 NB270_0; replace HK := am (KeepBut.trans (by repeat (first | (with_reducible first | exact HK.out | apply KeepBut.set_ | apply keep_drewN | apply keep_drew | apply keep_alloc | refine keep_far ?_ GW270.out _) | exact HK.out)) hk (.inl rfl)); replace HB := am (hb); replace HI0 := am (hi); clear hb hk hi))
  go_loopg [5] k (fun kq v5 w' => ∃ (x5_1 : Int) (x1001_1 : Int) (x1002_1 : Int), v5 = .int .i64 x5_1 ∧ Aside0 (spec_l3Draw.l0 kq x5_1 s0_0 x1001_1 x1002_1 = some (r1, r2, r3)) ∧ Aside0 (kq ≤ k) ∧ Aside0 (w'.heap[gb270]? = some (.cells #[(.slice none 0 0)] 26 (0, 0))) ∧ Aside0 (IsS132 w0 w' g s0_0 x1001_1 x1002_1) ∧ Aside0 (KeepBut w w' g none) ∧ Aside0 (Below w0.heap.size w0 w'))
  case atStart => exact ⟨(0), (t272), (t273), rr, H', ⟨Nat.le_refl _⟩, ⟨bo BK270.out⟩, ⟨(iw HI0.out)⟩, ⟨by repeat (first | (with_reducible first | exact HK.out | apply KeepBut.set_ | apply keep_drewN | apply keep_drew | apply keep_alloc | refine keep_far ?_ GW270.out _) | exact HK.out)⟩, ⟨bv⟩⟩
  case round =>
   clear H'
   try clear hcz15_0; try clear hcz17_0; try clear hfz15_0; try clear hfz17_0
   obtain ⟨x5_1, x1001_1, x1002_1, rfl, HA, HK1, BK270, HI0, HK, HB⟩ := hrel
   cases gk with
   | zero => exact absurd HA.out (by simp [spec_l3Draw.l0])
   | succ k1 =>
    have H := HA.out
    clear HA
    simp only [spec_l3Draw.l0] at H
    replace H := gi H; obtain ⟨c20b0, H⟩ | ⟨c20b0, H⟩ := H
    ·replace H := ga H; obtain ⟨⟨t294, t295, t296⟩, A21, H⟩ := H
     replace H : ((spec_l1Below.f s0_0 t295 t296 4).bind fun bt300 => (spec_l3Draw.l1 k1 x5_1 (([wrap64 (2 + t294)] : List Int)) (wrap64 (1 + bt300.1)) 0 s0_0 bt300.2.1 bt300.2.2)) = some (r1, r2, r3) := H
     obtain ⟨y297, hy297⟩ : ∃ y_ : List Int, y_ = (([wrap64 (2 + t294)] : List Int)) := ⟨_, rfl⟩
     replace H : ((spec_l1Below.f s0_0 t295 t296 4).bind fun bt300 => (spec_l3Draw.l1 k1 x5_1 y297 (wrap64 (1 + bt300.1)) 0 s0_0 bt300.2.1 bt300.2.2)) = some (r1, r2, r3) := by first | (rw [hy297]; with_reducible exact H) | (have H2_ := (Option.bind_some _ _).symm.trans H; rw [hy297]; with_reducible exact H2_) | (have H2_ := (Option.bind_some _ _).symm.trans H; with_reducible exact H2_) | with_reducible exact H | (rw [hy297]; exact H) | exact H
     have Ny297 := am hy297
     clear hy297
     replace H := ga H; obtain ⟨⟨t300, t301, t302⟩, A22, H⟩ := H
     replace H : (spec_l3Draw.l1 k1 x5_1 y297 (wrap64 (1 + t300)) 0 s0_0 t301 t302) = some (r1, r2, r3) := H
     have H' := am H
     clear H
     go_wp2_with (first | ((with_reducible refine gate_callee (f := 156) rfl ?_); refine gl (some 27) Try.func156 #[.pointer (some ⟨g, 0, none⟩), .int .i64 8] ?_; (with_reducible refine (spec_l1Below.calls g s0_0 x1001_1 x1002_1 8 t294 t295 t296 w0 _ ?side1 ?side2 A21.out).mono ?_); (case side1 => exact iw HI0.out); (case side2 => exact bv); rintro e w23 ⟨rfl, hi, hb, hk⟩; refine ⟨_, rfl, ?_⟩; replace BK270 := kk hk BK270 NB270_0; replace HK := am (KeepBut.trans (by repeat (first | (with_reducible first | exact HK.out | apply KeepBut.set_ | apply keep_drewN | apply keep_drew | apply keep_alloc | refine keep_far ?_ GW270.out _) | exact HK.out)) hk (.inl rfl)); replace HB := am (hb); replace HI0 := am (hi); clear hb hk hi) | ((with_reducible refine gate_dst (N := 29) rfl ?_); refine Kd.R_lit (Kd.int .i64) _ 3 ?hg (N := 29) ?hd (xs := ([wrap64 (2 + t294)] : List Int)) (inner := [.int .i64 (wrap64 (2 + t294))]) (ok := fun _ => True) (okp := fun _ => True) ?hr ?hp (fun _ hk => hk) trivial (Below.refl _ _) (Nat.le_refl _) (by simp) ?_; (case hd => rfl); (case hg => rfl); (case hr => first | (go_simp; done) | (go_simp; rfl)); (case hp => exact (Reps.one (show Kd.M (Kd.int .i64) _ _ _ (wrap64 (2 + t294)) [.int .i64 (wrap64 (2 + t294))] from rfl) (Reps.none _ _))); intro v298 w24 ho25 hb hg_ hnew_; clear hg_ hnew_; (first | rw [← Ny297.out] at ho25 | (simp only [Int.reduceToNat] at ho25; rw [← Ny297.out] at ho25)); have HO299 := am (Kd.R_lower ho25 (keep_size (w := w) (g := g) (row := none) (by repeat (first | (with_reducible first | exact HK.out | apply KeepBut.set_ | apply keep_drewN | apply keep_drew | apply keep_alloc | refine keep_far ?_ GW270.out _) | exact HK.out)))); replace BK270 := kb BK270 hb; replace HK := am (KeepBut.trans (by repeat (first | (with_reducible first | exact HK.out | apply KeepBut.set_ | apply keep_drewN | apply keep_drew | apply keep_alloc | refine keep_far ?_ GW270.out _) | exact HK.out)) (KeepBut.of_below hb g none) (.inl rfl)); replace HB := am (below_step bv hb); replace HI0 := am (IsS132.below (iw HI0.out) hb); clear hb ho25) | ((with_reducible refine gate_callee (f := 156) rfl ?_); refine gl (some 31) Try.func156 #[.pointer (some ⟨g, 0, none⟩), .int .i64 4] ?_; (with_reducible refine (spec_l1Below.calls g s0_0 t295 t296 4 t300 t301 t302 w0 _ ?side1 ?side2 A22.out).mono ?_); (case side1 => exact iw HI0.out); (case side2 => exact bv); rintro e w26 ⟨rfl, hi, hb, hk⟩; refine ⟨_, rfl, ?_⟩; replace BK270 := kk hk BK270 NB270_0; replace HO299 := am (Kd.R_mono (Kd.R_keep (IsS132.apart (show IsS132 w0 _ g s0_0 t295 t296 from (iw HI0.out)) (ro HO299.out) (by decide)) hk (fun _ h => h.2)) (fun _ h => h.1)); replace HK := am (KeepBut.trans (by repeat (first | (with_reducible first | exact HK.out | apply KeepBut.set_ | apply keep_drewN | apply keep_drew | apply keep_alloc | refine keep_far ?_ GW270.out _) | exact HK.out)) hk (.inl rfl)); replace HB := am (hb); replace HI0 := am (hi); clear hb hk hi))
     go_loopg [6, 8] k1 (fun kq v6 v8 w' => ∃ (x6_2 : List Int) (x8_2 : Int) (x1001_2 : Int) (x1002_2 : Int), v8 = .int .i64 x8_2 ∧ Aside0 (spec_l3Draw.l1 kq x5_1 x6_2 (wrap64 (1 + t300)) x8_2 s0_0 x1001_2 x1002_2 = some (r1, r2, r3)) ∧ Aside0 (kq ≤ k1) ∧ Aside0 (Kd.R (Kd.int .i64) 3 w' w.heap.size (fun _ => True) v6 x6_2) ∧ Aside0 (w'.heap[gb270]? = some (.cells #[(.slice none 0 0)] 26 (0, 0))) ∧ Aside0 (IsS132 w0 w' g s0_0 x1001_2 x1002_2) ∧ Aside0 (KeepBut w w' g none) ∧ Aside0 (Below w0.heap.size w0 w'))
     case atStart => exact ⟨(y297), (0), (t301), (t302), rr, H', ⟨Nat.le_refl _⟩, ⟨ro HO299.out⟩, ⟨bo BK270.out⟩, ⟨(iw HI0.out)⟩, ⟨by repeat (first | (with_reducible first | exact HK.out | apply KeepBut.set_ | apply keep_drewN | apply keep_drew | apply keep_alloc | refine keep_far ?_ GW270.out _) | exact HK.out)⟩, ⟨bv⟩⟩
     case round =>
      clear H'
      try clear c20b0; try clear hcz15_0; try clear hcz17_0; try clear hfz15_0; try clear hfz17_0
      obtain ⟨x6_2, x8_2, x1001_2, x1002_2, rfl, HA, HK2, HO_6, BK270, HI0, HK, HB⟩ := hrel
      cases gk with
      | zero => exact absurd HA.out (by simp [spec_l3Draw.l1])
      | succ k2 =>
       have H := HA.out
       clear HA
       simp only [spec_l3Draw.l1] at H
       replace H := gi H; obtain ⟨c27b0, H⟩ | ⟨c27b0, H⟩ := H
       ·replace H := gp H; obtain ⟨c28, H⟩ := H
        have c28b0 : decide (0 < (x6_2.length : Int)) = true := decide_eq_true c28
        have c28b1 : decide (0 < x6_2.length) = true := decide_eq_true (by omega)
        clear c28
        replace H := ga H; obtain ⟨⟨t304, t305, t306⟩, A29, H⟩ := H
        replace H : (if x6_2.length < 17592186044416 then (spec_l3Draw.l1 k2 x5_1 (x6_2 ++ [wrap64 ((wrap64 ((rd x6_2 0) + 1)) + t304)]) (wrap64 (1 + t300)) (wrap64 (x8_2 + 1)) s0_0 t305 t306) else (none)) = some (r1, r2, r3) := H
        by_cases c30 : x6_2.length < 17592186044416
        rotate_left
        ·rw [if_neg c30] at H
         exact absurd H (by simp)
        rw [if_pos c30] at H
        have LMc30 := am c30
        clear c30
        obtain ⟨y307, hy307⟩ : ∃ y_ : List Int, y_ = (x6_2 ++ [wrap64 ((wrap64 ((rd x6_2 0) + 1)) + t304)]) := ⟨_, rfl⟩
        replace H : (spec_l3Draw.l1 k2 x5_1 y307 (wrap64 (1 + t300)) (wrap64 (x8_2 + 1)) s0_0 t305 t306) = some (r1, r2, r3) := by first | (rw [hy307]; with_reducible exact H) | (have H2_ := (Option.bind_some _ _).symm.trans H; rw [hy307]; with_reducible exact H2_) | (have H2_ := (Option.bind_some _ _).symm.trans H; with_reducible exact H2_) | with_reducible exact H | (rw [hy307]; exact H) | exact H
        have Ny307 := am hy307
        clear hy307
        have H' := am H
        clear H
        try go_wp2
        replace HO_6 := am (Kd.R_drew HO_6.out)
        replace BK270 := am (blk_drew BK270.out)
        replace HI0 := am (IsS132.drew HI0.out)
        replace HK := am (keep_drew HK.out)
        replace HB := am (below_drew1 HB.out)
        obtain ⟨Ao32, co32, eo32⟩ := Kd.R_slice HO_6.out
        (first | subst eo32 | (injection eo32 with f1_ f2_ f3_; have f4_ := f1_.symm; have f5_ := f3_.symm; clear f1_ f2_ f3_; subst f4_; subst f5_))
        have p303 : 0 ≤ (0 : Int) := (by omega)
        have q303 : 0 < (x6_2.length : Int) := of_decide_eq_true (by first | (with_reducible assumption) | assumption)
        obtain ⟨ad303, e303, hx303_0⟩ := Kd.at_int (Kd.R_reads' HO_6.out).2.2 0 p303 q303
        cases e303
        have qi303 : (0 < x6_2.length) = True := eq_true (by omega)
        (try rw [show ((0 : Int)).toNat = 0 from rfl] at hx303_0)
        (try rw [Addr.add_zero'] at hx303_0)
        replace p303 := eq_true p303
        replace q303 := eq_true q303
        refine start_ (n := 11) (S := fun w' => w'.cell? ad303 = some (.int .i64 (rd x6_2 0))) (ds := [8, 9]) (yz 11 0) (by kernel_rfl) rfl rfl (hx303_0) (fun hHeld => ?_); refine with_tabW spec_l3Draw.tab12 spec_l3Draw.bits12 (fun HT_ HW_ => ?_)
        generalize wr.drew = w31 at HO_6 BK270 HI0 HK HB hx303_0 hHeld ⊢
        refine pa 0 (some 38) (yz 11 1) HT_ ?_
        refine pa 1 (some 39) (yz 11 3) HT_ ?_
        refine pa 2 (some 40) (yz 11 7) HT_ ?_
        refine pa 5 (some 43) (yz 11 39) HT_ ?_
        refine take_ (i := 3) (N := some 41) (v := ?_) (a' := ?_) (yz 11 47) rfl rfl (take_ofW HT_.out HW_.out (by kernel_rfl)) (fun _ _ _ h => h) (Or.inl ⟨by rfl, ?_⟩) hHeld ?_ ?_
        rotate_left
        ·intro w' s0
         go_simp
         with_reducible rfl
        rotate_left
        ·simp only [Act.put, qa, qb, qc, i64_w, i32_w]
         rfl
        refine pa 4 (some 42) (yz 11 63) HT_ ?_
        refine oa 6 (some 44) (yz 11 127) HT_ (fun K hK => ?_)
        refine gm Try.func156 #[.pointer (some ⟨g, 0, none⟩), .int .i64 12] ?_
        with_reducible refine (spec_l1Below.calls g s0_0 x1001_2 x1002_2 12 t304 t305 t306 w0 _ ?side1 ?side2 A29.out).mono ?_
        (case side1 => exact iw HI0.out)
        (case side2 => exact bv)
        rintro e w33 ⟨rfl, hi, hb, hk⟩
        have HS0_ := keep_cell hk (hHeld) (by first | (rw [add_block]; exact Kd.own_blk (IsS132.own_ne HI0.out HO_6.out (by decide))) | (show (Addr.add _ _).block ≠ _; rw [add_block]; exact Kd.own_blk (IsS132.own_ne HI0.out HO_6.out (by decide))) | exact Kd.own_blk (IsS132.own_ne HI0.out HO_6.out (by decide)))
        refine ⟨_, rfl, ?_⟩
        replace HO_6 := am (Kd.R_mono (Kd.R_keep (IsS132.apart (show IsS132 w0 _ g s0_0 x1001_2 x1002_2 from (iw HI0.out)) (ro HO_6.out) (by decide)) hk (fun _ h => h.2)) (fun _ h => h.1))
        replace BK270 := kk hk BK270 NB270_0
        replace HK := am (KeepBut.trans (by repeat (first | (with_reducible first | exact HK.out | apply KeepBut.set_ | apply keep_drewN | apply keep_drew | apply keep_alloc | refine keep_far ?_ GW270.out _) | exact HK.out)) hk (.inl rfl))
        replace HB := am (hb)
        replace HI0 := am (hi)
        clear hb hk hi
        refine hK.out _ _ (HS0_) (fun hHeld => ?_)
        clear hK K
        refine norm_ (a' := ?_) ?_ ?_
        rotate_left
        ·show Act.put _ (some 44) _ = _
         simp only [Act.put, qa, qb, qc, i64_w, i32_w]
         rfl
        refine pa 7 (some 45) (yz 11 255) HT_ ?_
        refine last_ (i := 8) (N := some 46) (yz 11 511) rfl rfl (one_of HT_.out (by kernel_rfl)) (by decide) (fun K hK => ?_)
        refine value_ (w1 := ?_) (v := ?_) (by rfl) rfl ?_ ?_
        rotate_left 2
        ·go_simp
         constructor
         ·rfl
         ·rfl
        refine hK.out _ _ ?_
        clear hK K
        refine norm_ (a' := ?_) ?_ ?_
        rotate_left
        ·show Act.put _ (some 46) _ = _
         simp only [Act.put, qa, qb, qc, i64_w, i32_w]
         rfl
        refine last_ (i := 9) (N := some 47) (yz 11 1023) rfl rfl (one_of HT_.out (by kernel_rfl)) (by decide) (fun K hK => ?_)
        refine Kd.R_append_step (Kd.int .i64) w.heap.size (by rfl) (.tmp 38) (.tmp 46) 24 3 (.int .i64 0) 8 rfl Try.underlying24 info3 rfl (by decide) (by omega) (.slice (some ad303) x6_2.length co32) x6_2 (wrap64 ((wrap64 ((rd x6_2 0) + 1)) + t304)) [.int .i64 (wrap64 ((wrap64 ((rd x6_2 0) + 1)) + t304))] (fun _ => True) (fun _ => False) rfl rfl ?aP (fun _ hk => hk.elim) ?aF ?aO (Below.refl _ _) ?aS ?aL ?_
        (case aP => exact rfl)
        (case aF => exact (fun _ _ => trivial))
        (case aO => exact (ro HO_6.out))
        (case aS => exact (keep_size (w := w) (g := g) (row := none) (by repeat (first | (with_reducible first | exact HK.out | apply KeepBut.set_ | apply keep_drewN | apply keep_drew | apply keep_alloc | refine keep_far ?_ GW270.out _) | exact HK.out))))
        (case aL => have := LMc30.out; omega)
        intro v308 w34 ho hb hg hat
        rw [← Ny307.out] at ho
        replace BK270 := am (blk_grown (g := gb270) (o := .cells #[.slice none 0 0] 26 (0, 0)) (bo BK270.out) hg (Kd.R_ne HO_6.out BK270.out (by decide)))
        replace HB := am (below_weaken bv HL.out hb)
        replace HI0 := am (IsS132.grown (iw HI0.out) hg (IsS132.own_ne HI0.out HO_6.out (by decide)))
        replace HK := am (KeepBut.trans (by repeat (first | (with_reducible first | exact HK.out | apply KeepBut.set_ | apply keep_drewN | apply keep_drew | apply keep_alloc | refine keep_far ?_ GW270.out _) | exact HK.out)) (KeepBut.of_grown hg g) (Kd.R_base2 HO_6.out))
        have HO309 := am (ho)
        clear HO_6 ho hb hg hat
        refine hK.out _ _ ?_
        clear hK K
        refine norm_ (a' := ?_) ?_ ?_
        rotate_left
        ·show Act.put _ (some 47) _ = _
         simp only [Act.put, qa, qb, qc, i64_w, i32_w]
         rfl
        refine pa 10 (some 6) (yz 11 2047) HT_ ?_
        refine done_ (done_of HT_.out (by kernel_rfl)) ?_
        try go_wp2
        go_roundg k2
        case measure => have := HK1.out; have := HK2.out; omega
        case rel => exact ⟨(y307), (wrap64 (x8_2 + 1)), (t305), (t306), rr, H', ⟨by have := HK1.out; have := HK2.out; omega⟩, ⟨ro HO309.out⟩, ⟨bo BK270.out⟩, ⟨(iw HI0.out)⟩, ⟨by repeat (first | (with_reducible first | exact HK.out | apply KeepBut.set_ | apply keep_drewN | apply keep_drew | apply keep_alloc | refine keep_far ?_ GW270.out _) | exact HK.out)⟩, ⟨bv⟩⟩
       ·replace H := ga H; obtain ⟨⟨t310, t313⟩, A35, H⟩ := H
        replace H : (if t313 = true then (some (t310, x1001_2, x1002_2)) else (spec_l3Draw.l0 k2 (wrap64 (x5_1 + 1)) s0_0 x1001_2 x1002_2)) = some (r1, r2, r3) := H
        replace H := gb H; obtain ⟨rfl, H⟩ | ⟨rfl, H⟩ := H
        ·simp only [Option.some.injEq, Prod.mk.injEq] at H
         obtain ⟨rfl, rfl, rfl⟩ := H
         obtain ⟨Ao37, co37, eo37⟩ := Kd.R_slice HO_6.out
         subst eo37
         go_wp2_with (first | ((with_reducible refine gate_callee (f := 206) rfl ?_); refine gl (some 50) Try.func206 #[.slice Ao37 x6_2.length co37] ?_; (with_reducible refine (spec_FromGens.calls k2 _ _ x6_2 t310 true _ ?side1 ?side2 A35.out).mono ?_); (case side1 => exact co (Kd.R_reads' HO_6.out).2.2); (case side2 => exact (Kd.R_reads' HO_6.out).2.1); rintro e w38 ⟨v311, rfl, ho0, hb⟩; refine ⟨_, rfl, ?_⟩; have HO312 := am (Kd.R_lower (Kd.R_new' ho0 (Kd.R_lt (ro HO_6.out))) (keep_size (w := w) (g := g) (row := none) (by repeat (first | (with_reducible first | exact HK.out | apply KeepBut.set_ | apply keep_drewN | apply keep_drew | apply keep_alloc | refine keep_far ?_ GW270.out _) | exact HK.out)))); replace HO_6 := am (Kd.R_elder' (ro HO_6.out) (Kd.R_base ho0) hb); replace BK270 := kb BK270 hb; replace HK := am (KeepBut.trans (by repeat (first | (with_reducible first | exact HK.out | apply KeepBut.set_ | apply keep_drewN | apply keep_drew | apply keep_alloc | refine keep_far ?_ GW270.out _) | exact HK.out)) (KeepBut.of_below hb g none) (.inl rfl)); replace HB := am (below_step bv hb); replace HI0 := am (IsS132.below (iw HI0.out) hb); clear hb ho0) | ((with_reducible refine gate_dst (N := 9) rfl ?_); refine bx 9 #[.slice none 0 0] 26 ?_; intro gb314 hg w39 hbox hb; replace HO_6 := am (Kd.R_below (ro HO_6.out) hb); replace HO312 := am (Kd.R_below (ro HO312.out) hb); replace HB := am (below_step bv hb); have BK314 := am (hbox); have GW314 := am ((by rw [hg]; exact (keep_size (w := w) (g := g) (row := none) (by repeat (first | (with_reducible first | exact HK.out | apply KeepBut.set_ | apply keep_drewN | apply keep_drew | apply keep_alloc | refine keep_far ?_ GW270.out _) | exact HK.out))) : w.heap.size ≤ gb314)); have GE314 := am ((Nat.le_trans HW0.out (by rw [hg]; exact (keep_size (w := w) (g := g) (row := none) (by repeat (first | (with_reducible first | exact HK.out | apply KeepBut.set_ | apply keep_drewN | apply keep_drew | apply keep_alloc | refine keep_far ?_ GW270.out _) | exact HK.out))) : w.heap.size ≤ gb314) : w0.heap.size ≤ gb314)); replace HK := am (KeepBut.trans (by repeat (first | (with_reducible first | exact HK.out | apply KeepBut.set_ | apply keep_drewN | apply keep_drew | apply keep_alloc | refine keep_far ?_ GW270.out _) | exact HK.out)) (KeepBut.of_below hb g none) (.inl rfl)); have NB270_314 := nl hg BK270; have NB314_270 := ns NB270_314; replace BK270 := kb BK270 hb; have NB0_314 := am ((by rw [hg]; exact Nat.ne_of_lt (IsS132.lt (show IsS132 w0 _ g s0_0 x1001_2 x1002_2 from (iw HI0.out))) : g ≠ gb314)); have NB314_0 := ns NB0_314; replace HI0 := am (IsS132.below (iw HI0.out) hb); clear hb hbox hg; obtain ⟨Ao40, co40, eo40⟩ := Kd.R_slice HO312.out; subst eo40; have hnb41 := NB314_270.out; have hnc41 := NB270_314.out; have hnb42 := NB314_0.out; have hnc42 := NB0_314.out; have hcz43_0 := bc BK314 0 (.slice none 0 0); have hfz43_0 := blk_frozen BK314.out 0; have hnb44 := NB270_0.out; have hnc44 := NB0_270.out; have hcz45_0 := bc BK270 0 (.slice none 0 0); have hfz45_0 := blk_frozen BK270.out 0))
         refine bodyPost_ret (results_cell_row rfl _ _ gb270 26 #[.slice Ao40 t310.length co40] (0, 0) _ rfl (by (with_reducible repeat (first | refine blk_drewN ?_ _ | refine blk_drew ?_ | refine blk_alloc ?_ _)); refine blk_put (cs := #[.slice none 0 0]) ?_ 0 _ rfl; (with_reducible repeat (first | refine blk_drewN ?_ _ | refine blk_drew ?_ | refine blk_alloc ?_ _)); refine blk_far ?_ NB270_314.out _; (with_reducible repeat (first | refine blk_drewN ?_ _ | refine blk_drew ?_ | refine blk_alloc ?_ _)); exact BK270.out) Try.underlying26 rfl (by kernel_rfl)) rfl ?_
         exact ⟨_, re, by (with_reducible repeat (first | apply Kd.R_alloc | apply Kd.R_drewN | apply Kd.R_drew)); exact Kd.R_mono (Kd.R_far (p := ⟨gb270, 0, none⟩) (Kd.R_far (p := ⟨gb314, 0, none⟩) (Kd.R_types (Kd.R_types HO312.out BK314.out (by decide)) BK270.out (by decide)) (fun _ hk => by first | exact hk.1.2 | simp_all) (.slice Ao40 t310.length co40)) (fun _ hk => hk.2) (.slice Ao40 t310.length co40)) (fun _ hk => trivial), (iw HI0.out), bv, by repeat (first | (with_reducible first | exact HK.out | apply KeepBut.set_ | apply keep_drewN | apply keep_drew | apply keep_alloc | refine keep_far ?_ GW270.out _ | refine keep_far ?_ GW314.out _) | exact HK.out)⟩
        ·have H' := am H
         clear H
         obtain ⟨Ao46, co46, eo46⟩ := Kd.R_slice HO_6.out
         subst eo46
         go_wp2_with (first | ((with_reducible refine gate_callee (f := 206) rfl ?_); refine gl (some 50) Try.func206 #[.slice Ao46 x6_2.length co46] ?_; (with_reducible refine (spec_FromGens.calls k2 _ _ x6_2 t310 false _ ?side1 ?side2 A35.out).mono ?_); (case side1 => exact co (Kd.R_reads' HO_6.out).2.2); (case side2 => exact (Kd.R_reads' HO_6.out).2.1); rintro e w47 ⟨v311, rfl, ho0, hb⟩; refine ⟨_, rfl, ?_⟩; have HO312 := am (Kd.R_lower (Kd.R_new' ho0 (Kd.R_lt (ro HO_6.out))) (keep_size (w := w) (g := g) (row := none) (by repeat (first | (with_reducible first | exact HK.out | apply KeepBut.set_ | apply keep_drewN | apply keep_drew | apply keep_alloc | refine keep_far ?_ GW270.out _) | exact HK.out)))); replace HO_6 := am (Kd.R_elder' (ro HO_6.out) (Kd.R_base ho0) hb); replace BK270 := kb BK270 hb; replace HK := am (KeepBut.trans (by repeat (first | (with_reducible first | exact HK.out | apply KeepBut.set_ | apply keep_drewN | apply keep_drew | apply keep_alloc | refine keep_far ?_ GW270.out _) | exact HK.out)) (KeepBut.of_below hb g none) (.inl rfl)); replace HB := am (below_step bv hb); replace HI0 := am (IsS132.below (iw HI0.out) hb); clear hb ho0) | ((with_reducible refine gate_dst (N := 9) rfl ?_); refine bx 9 #[.slice none 0 0] 26 ?_; intro gb314 hg w48 hbox hb; replace HO_6 := am (Kd.R_below (ro HO_6.out) hb); replace HO312 := am (Kd.R_below (ro HO312.out) hb); replace HB := am (below_step bv hb); have BK314 := am (hbox); have GW314 := am ((by rw [hg]; exact (keep_size (w := w) (g := g) (row := none) (by repeat (first | (with_reducible first | exact HK.out | apply KeepBut.set_ | apply keep_drewN | apply keep_drew | apply keep_alloc | refine keep_far ?_ GW270.out _) | exact HK.out))) : w.heap.size ≤ gb314)); have GE314 := am ((Nat.le_trans HW0.out (by rw [hg]; exact (keep_size (w := w) (g := g) (row := none) (by repeat (first | (with_reducible first | exact HK.out | apply KeepBut.set_ | apply keep_drewN | apply keep_drew | apply keep_alloc | refine keep_far ?_ GW270.out _) | exact HK.out))) : w.heap.size ≤ gb314) : w0.heap.size ≤ gb314)); replace HK := am (KeepBut.trans (by repeat (first | (with_reducible first | exact HK.out | apply KeepBut.set_ | apply keep_drewN | apply keep_drew | apply keep_alloc | refine keep_far ?_ GW270.out _) | exact HK.out)) (KeepBut.of_below hb g none) (.inl rfl)); have NB270_314 := nl hg BK270; have NB314_270 := ns NB270_314; replace BK270 := kb BK270 hb; have NB0_314 := am ((by rw [hg]; exact Nat.ne_of_lt (IsS132.lt (show IsS132 w0 _ g s0_0 x1001_2 x1002_2 from (iw HI0.out))) : g ≠ gb314)); have NB314_0 := ns NB0_314; replace HI0 := am (IsS132.below (iw HI0.out) hb); clear hb hbox hg; obtain ⟨Ao49, co49, eo49⟩ := Kd.R_slice HO312.out; subst eo49; have hnb50 := NB314_270.out; have hnc50 := NB270_314.out; have hnb51 := NB314_0.out; have hnc51 := NB0_314.out; have hcz52_0 := bc BK314 0 (.slice none 0 0); have hfz52_0 := blk_frozen BK314.out 0))
         go_roundg k2
         case measure => have := HK1.out; have := HK2.out; omega
         case rel => exact ⟨(wrap64 (x5_1 + 1)), (x1001_2), (x1002_2), rr, H', ⟨by have := HK1.out; have := HK2.out; omega⟩, ⟨bf BK270.out⟩, ⟨(iw HI0.out)⟩, ⟨by repeat (first | (with_reducible first | exact HK.out | apply KeepBut.set_ | apply keep_drewN | apply keep_drew | apply keep_alloc | refine keep_far ?_ GW270.out _ | refine keep_far ?_ GW314.out _) | exact HK.out)⟩, ⟨bv⟩⟩
    ·replace H := ga H; obtain ⟨⟨t284, t287, t288⟩, A53, H⟩ := H
     replace H : ((spec_FromGens.f k1 t284).bind fun bt289 => (some (bt289.1, t287, t288))) = some (r1, r2, r3) := H
     replace H := ga H; obtain ⟨⟨t289, t292⟩, A54, H⟩ := H
     replace H : (some (t289, t287, t288)) = some (r1, r2, r3) := H
     simp only [Option.some.injEq, Prod.mk.injEq] at H
     obtain ⟨rfl, rfl, rfl⟩ := H
     go_wp2_with (first | ((with_reducible refine gate_callee (f := 233) rfl ?_); refine gl (some 57) Try.func233 #[.pointer (some ⟨g, 0, none⟩)] ?_; (with_reducible refine (spec_l3List.calls g s0_0 x1001_1 x1002_1 t284 t287 t288 w0 _ ?side1 ?side2 A53.out).mono ?_); (case side1 => exact iw HI0.out); (case side2 => exact bv); rintro e w55 ⟨v285, rfl, ho0, hi, hb, hk⟩; refine ⟨_, rfl, ?_⟩; replace BK270 := kk hk BK270 NB270_0; have HO286 := am (Kd.R_lower ho0 (keep_size (w := w) (g := g) (row := none) (by repeat (first | (with_reducible first | exact HK.out | apply KeepBut.set_ | apply keep_drewN | apply keep_drew | apply keep_alloc | refine keep_far ?_ GW270.out _) | exact HK.out)))); replace HK := am (KeepBut.trans (by repeat (first | (with_reducible first | exact HK.out | apply KeepBut.set_ | apply keep_drewN | apply keep_drew | apply keep_alloc | refine keep_far ?_ GW270.out _) | exact HK.out)) hk (.inl rfl)); replace HB := am (hb); replace HI0 := am (hi); clear hb hk hi ho0; obtain ⟨Ao56, co56, eo56⟩ := Kd.R_slice HO286.out; subst eo56) | ((with_reducible refine gate_callee (f := 206) rfl ?_); refine gl (some 58) Try.func206 #[.slice Ao56 t284.length co56] ?_; (with_reducible refine (spec_FromGens.calls k1 _ _ t284 t289 t292 _ ?side1 ?side2 A54.out).mono ?_); (case side1 => exact co (Kd.R_reads' HO286.out).2.2); (case side2 => exact (Kd.R_reads' HO286.out).2.1); rintro e w57 ⟨v290, rfl, ho0, hb⟩; refine ⟨_, rfl, ?_⟩; have HO291 := am (Kd.R_lower (Kd.R_new' ho0 (Kd.R_lt (ro HO286.out))) (keep_size (w := w) (g := g) (row := none) (by repeat (first | (with_reducible first | exact HK.out | apply KeepBut.set_ | apply keep_drewN | apply keep_drew | apply keep_alloc | refine keep_far ?_ GW270.out _) | exact HK.out)))); replace HO286 := am (Kd.R_elder' (ro HO286.out) (Kd.R_base ho0) hb); replace BK270 := kb BK270 hb; replace HK := am (KeepBut.trans (by repeat (first | (with_reducible first | exact HK.out | apply KeepBut.set_ | apply keep_drewN | apply keep_drew | apply keep_alloc | refine keep_far ?_ GW270.out _) | exact HK.out)) (KeepBut.of_below hb g none) (.inl rfl)); replace HB := am (below_step bv hb); replace HI0 := am (IsS132.below (iw HI0.out) hb); clear hb ho0) | ((with_reducible refine gate_dst (N := 11) rfl ?_); refine bx 11 #[.slice none 0 0] 26 ?_; intro gb293 hg w58 hbox hb; replace HO286 := am (Kd.R_below (ro HO286.out) hb); replace HO291 := am (Kd.R_below (ro HO291.out) hb); replace HB := am (below_step bv hb); have BK293 := am (hbox); have GW293 := am ((by rw [hg]; exact (keep_size (w := w) (g := g) (row := none) (by repeat (first | (with_reducible first | exact HK.out | apply KeepBut.set_ | apply keep_drewN | apply keep_drew | apply keep_alloc | refine keep_far ?_ GW270.out _) | exact HK.out))) : w.heap.size ≤ gb293)); have GE293 := am ((Nat.le_trans HW0.out (by rw [hg]; exact (keep_size (w := w) (g := g) (row := none) (by repeat (first | (with_reducible first | exact HK.out | apply KeepBut.set_ | apply keep_drewN | apply keep_drew | apply keep_alloc | refine keep_far ?_ GW270.out _) | exact HK.out))) : w.heap.size ≤ gb293) : w0.heap.size ≤ gb293)); replace HK := am (KeepBut.trans (by repeat (first | (with_reducible first | exact HK.out | apply KeepBut.set_ | apply keep_drewN | apply keep_drew | apply keep_alloc | refine keep_far ?_ GW270.out _) | exact HK.out)) (KeepBut.of_below hb g none) (.inl rfl)); have NB270_293 := nl hg BK270; have NB293_270 := ns NB270_293; replace BK270 := kb BK270 hb; have NB0_293 := am ((by rw [hg]; exact Nat.ne_of_lt (IsS132.lt (show IsS132 w0 _ g s0_0 t287 t288 from (iw HI0.out))) : g ≠ gb293)); have NB293_0 := ns NB0_293; replace HI0 := am (IsS132.below (iw HI0.out) hb); clear hb hbox hg; obtain ⟨Ao59, co59, eo59⟩ := Kd.R_slice HO291.out; subst eo59; have hnb60 := NB293_270.out; have hnc60 := NB270_293.out; have hnb61 := NB293_0.out; have hnc61 := NB0_293.out; have hcz62_0 := bc BK293 0 (.slice none 0 0); have hfz62_0 := blk_frozen BK293.out 0; have hnb63 := NB270_0.out; have hnc63 := NB0_270.out; have hcz64_0 := bc BK270 0 (.slice none 0 0); have hfz64_0 := blk_frozen BK270.out 0))
     refine bodyPost_ret (results_cell_row rfl _ _ gb270 26 #[.slice Ao59 t289.length co59] (0, 0) _ rfl (by (with_reducible repeat (first | refine blk_drewN ?_ _ | refine blk_drew ?_ | refine blk_alloc ?_ _)); refine blk_put (cs := #[.slice none 0 0]) ?_ 0 _ rfl; (with_reducible repeat (first | refine blk_drewN ?_ _ | refine blk_drew ?_ | refine blk_alloc ?_ _)); refine blk_far ?_ NB270_293.out _; (with_reducible repeat (first | refine blk_drewN ?_ _ | refine blk_drew ?_ | refine blk_alloc ?_ _)); exact BK270.out) Try.underlying26 rfl (by kernel_rfl)) rfl ?_
     exact ⟨_, re, by (with_reducible repeat (first | apply Kd.R_alloc | apply Kd.R_drewN | apply Kd.R_drew)); exact Kd.R_mono (Kd.R_far (p := ⟨gb270, 0, none⟩) (Kd.R_far (p := ⟨gb293, 0, none⟩) (Kd.R_types (Kd.R_types HO291.out BK293.out (by decide)) BK270.out (by decide)) (fun _ hk => by first | exact hk.1.2 | simp_all) (.slice Ao59 t289.length co59)) (fun _ hk => hk.2) (.slice Ao59 t289.length co59)) (fun _ hk => trivial), (iw HI0.out), bv, by repeat (first | (with_reducible first | exact HK.out | apply KeepBut.set_ | apply keep_drewN | apply keep_drew | apply keep_alloc | refine keep_far ?_ GW270.out _ | refine keep_far ?_ GW293.out _) | exact HK.out)⟩

end Go.Proofs.Ytkfplkdchkmgbaa.C
