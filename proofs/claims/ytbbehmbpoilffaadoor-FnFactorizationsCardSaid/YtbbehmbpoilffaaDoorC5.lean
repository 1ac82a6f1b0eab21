/- Contracts of functions of the program: spec_l3Draw. -/
import Derived.Test.YtbbehmbpoilffaaDoorC0
import Derived.Test.YtbbehmbpoilffaaDoorC1
import Derived.Test.YtbbehmbpoilffaaDoorC3
import Derived.Test.YtbbehmbpoilffaaDoorC4
namespace Go.Proofs.YtbbehmbpoilffaaDoor.C
open Go.RowKit Go.Proofs.YtbbehmbpoilffaaDoorW.PrintWords Go.Proofs.YtbbehmbpoilffaaDoorW.PrintLast Go.Proofs.YtbbehmbpoilffaaDoorW.PrintMore
attribute [local go_sem] max2_int min2_int max_two min_two max_three min_three max_four min_four
set_option linter.unusedVariables false
set_option linter.unusedSimpArgs false

/-! ### spec_l3Draw: function 47 -/
mutual
def spec_l3Draw.l0 : Nat → Int → List Int → Int → Int → Option (List Int × Int × Int)
 | 0, _, _, _, _ => none
 | k + 1, x5, x1000, x1001, x1002 => if x5 < 4 then ((spec_l1Below.f x1000 x1001 x1002 8).bind fun bt292 => ((spec_l1Below.f x1000 bt292.2.1 bt292.2.2 4).bind fun bt298 => (spec_l3Draw.l1 k x5 (([wrap64 (2 + bt292.1)] : List Int)) (wrap64 (1 + bt298.1)) 0 x1000 bt298.2.1 bt298.2.2))) else ((spec_l3List.f x1000 x1001 x1002).bind fun bt282 => ((spec_FromGens.f k bt282.1).bind fun bt287 => (some (bt287.1, bt282.2.1, bt282.2.2))))
def spec_l3Draw.l1 : Nat → Int → List Int → Int → Int → List Int → Int → Int → Option (List Int × Int × Int)
 | 0, _, _, _, _, _, _, _ => none
 | k + 1, x5, x6, x7, x8, x1000, x1001, x1002 => if x8 < x7 then (if 0 < (x6.length : Int) then ((spec_l1Below.f x1000 x1001 x1002 12).bind fun bt302 => (if x6.length < 17592186044416 then (spec_l3Draw.l1 k x5 (x6 ++ [wrap64 ((wrap64 ((rd x6 0) + 1)) + bt302.1)]) x7 (wrap64 (x8 + 1)) x1000 bt302.2.1 bt302.2.2) else (none))) else (none)) else ((spec_FromGens.f k x6).bind fun bt308 => (if bt308.2 = true then (some (bt308.1, x1001, x1002)) else (spec_l3Draw.l0 k (wrap64 (x5 + 1)) x1000 x1001 x1002)))
end
def spec_l3Draw.f (k : Nat) (s0_0 : List Int) (s0_1 : Int) (s0_2 : Int) : Option (List Int × Int × Int) := (spec_l1Once.f s0_0 s0_1 s0_2 4).bind fun bt269 => (if bt269.1 = true then ((spec_l3List.f s0_0 bt269.2.1 bt269.2.2).bind fun bt272 => ((spec_FromGens.f k bt272.1).bind fun bt277 => (some (bt277.1, bt272.2.1, bt272.2.2)))) else (spec_l3Draw.l0 k 0 s0_0 bt269.2.1 bt269.2.2))
def spec_l3Draw.T12 : Bool × List (List Nat × List Nat) := (true, [([], []), ([], []), ([1], [1]), ([2], [2]), ([3], [3]), ([], []), ([5], [5]), ([4, 6], [4, 6]), ([7], [7]), ([0, 8, 6], [0, 8]), ([9, 9, 0, 1, 2, 3, 4, 5, 6, 7, 8, 9], [0, 1, 9])])
def spec_l3Draw.B12 : List Nat := [0, 0, 2, 6, 14, 0, 32, 126, 254, 511, 1023]
theorem spec_l3Draw.tab12 : rtab .any (opsOf Tryd.f47 12) = spec_l3Draw.T12 := by kernel_rfl
theorem spec_l3Draw.bits12 : waitsOk spec_l3Draw.T12.2 spec_l3Draw.B12 = true := by kernel_rfl
set_option maxHeartbeats 8000000 in
set_option maxRecDepth 100000 in
theorem spec_l3Draw.calls (k : Nat) (g : Nat) (s0_0 : List Int) (s0_1 : Int) (s0_2 : Int) (r1 : List Int) (r2 : Int) (r3 : Int) (w0 w : World) (hI : IsS63 w0 w g s0_0 s0_1 s0_2) (hB : Below w0.heap.size w0 w) (h : spec_l3Draw.f k s0_0 s0_1 s0_2 = some (r1, r2, r3)) :
  Calls Tryd.prog 47 #[.pointer (some ⟨g, 0, none⟩)] w fun e w' => ∃ v0_ : Value, e = .returned (.agg #[v0_]) ∧ Kd.R (Kd.int .i64) 3 w' w.heap.size (fun _ => True) v0_ r1 ∧ IsS63 w0 w' g s0_0 r2 r3 ∧ Below w0.heap.size w0 w' ∧ KeepBut w w' g none := by
 have hu26 := Tryd.underlying26
 have HI0 := am hI
 have HK := am (KeepBut.refl w g none)
 have HL := am hB.size
 clear hI
 have HW0 := am hB.size
 have HB := am hB
 clear hB
 have H : ((spec_l1Once.f s0_0 s0_1 s0_2 4).bind fun bt269 => (if bt269.1 = true then ((spec_l3List.f s0_0 bt269.2.1 bt269.2.2).bind fun bt272 => ((spec_FromGens.f k bt272.1).bind fun bt277 => (some (bt277.1, bt272.2.1, bt272.2.2)))) else (spec_l3Draw.l0 k 0 s0_0 bt269.2.1 bt269.2.2))) = some (r1, r2, r3) := h
 clear h
 replace H := ga H; obtain ⟨⟨t269, t270, t271⟩, A2, H⟩ := H
 replace H : (if t269 = true then ((spec_l3List.f s0_0 t270 t271).bind fun bt272 => ((spec_FromGens.f k bt272.1).bind fun bt277 => (some (bt277.1, bt272.2.1, bt272.2.2)))) else (spec_l3Draw.l0 k 0 s0_0 t270 t271)) = some (r1, r2, r3) := H
 replace H := gb H; obtain ⟨rfl, H⟩ | ⟨rfl, H⟩ := H
 ·replace H := ga H; obtain ⟨⟨t272, t275, t276⟩, A4, H⟩ := H
  replace H : ((spec_FromGens.f k t272).bind fun bt277 => (some (bt277.1, t275, t276))) = some (r1, r2, r3) := H
  replace H := ga H; obtain ⟨⟨t277, t280⟩, A5, H⟩ := H
  replace H : (some (t277, t275, t276)) = some (r1, r2, r3) := H
  simp only [Option.some.injEq, Prod.mk.injEq] at H
  obtain ⟨rfl, rfl, rfl⟩ := H
  go_enter Tryd.func47, Tryd.ntmps47
  go_wp2_with (first | ((with_reducible refine gate_dst (N := 2) rfl ?_); refine bx 2 #[.slice none 0 0] 26 ?_; intro gb268 hg w6 hbox hb; replace HB := am (below_step bv hb); have BK268 := am (hbox); have GW268 := am ((by rw [hg]; exact (keep_size (w := w) (g := g) (row := none) (by repeat (first | (with_reducible first | exact HK.out | apply KeepBut.set_ | apply keep_drewN | apply keep_drew | apply keep_alloc) | exact HK.out))) : w.heap.size ≤ gb268)); have GE268 := am ((Nat.le_trans HW0.out (by rw [hg]; exact (keep_size (w := w) (g := g) (row := none) (by repeat (first | (with_reducible first | exact HK.out | apply KeepBut.set_ | apply keep_drewN | apply keep_drew | apply keep_alloc) | exact HK.out))) : w.heap.size ≤ gb268) : w0.heap.size ≤ gb268)); replace HK := am (KeepBut.trans (by repeat (first | (with_reducible first | exact HK.out | apply KeepBut.set_ | apply keep_drewN | apply keep_drew | apply keep_alloc) | exact HK.out)) (KeepBut.of_below hb g none) (.inl rfl)); have NB0_268 := am ((by rw [hg]; exact Nat.ne_of_lt (IsS63.lt (show IsS63 w0 _ g s0_0 s0_1 s0_2 from (iw HI0.out))) : g ≠ gb268)); have NB268_0 := ns NB0_268; replace HI0 := am (IsS63.below (iw HI0.out) hb); clear hb hbox hg) | ((with_reducible refine gate_callee (f := 48) rfl ?_); refine goesL_ (some 14) rfl rfl Tryd.func48 (by kernel_rfl) rfl #[.pointer (some ⟨g, 0, none⟩), .int .i64 4] rfl (by (try simp only [List.map_toArray, List.map_cons, List.map_nil]); first | done | rfl | (simp only [List.length_drop, List.length_take]; rfl)) ?_; (with_reducible refine (spec_l1Once.calls g s0_0 s0_1 s0_2 4 true t270 t271 w0 _ ?side1 ?side2 A2.out).mono ?_); (case side1 => exact iw HI0.out); (case side2 => exact bv); rintro e w7 ⟨rfl, hi, hb, hk⟩; refine ⟨_, rfl, ?_⟩; replace BK268 := kk hk BK268 NB268_0; replace HK := am (KeepBut.trans (by repeat (first | (with_reducible first | exact HK.out | apply KeepBut.set_ | apply keep_drewN | apply keep_drew | apply keep_alloc | refine keep_far ?_ GW268.out _) | exact HK.out)) hk (.inl rfl)); replace HB := am (hb); replace HI0 := am (hi); clear hb hk hi) | ((with_reducible refine gate_callee (f := 60) rfl ?_); refine goesL_ (some 17) rfl rfl Tryd.func60 (by kernel_rfl) rfl #[.pointer (some ⟨g, 0, none⟩)] rfl (by (try simp only [List.map_toArray, List.map_cons, List.map_nil]); first | done | rfl | (simp only [List.length_drop, List.length_take]; rfl)) ?_; (with_reducible refine (spec_l3List.calls g s0_0 t270 t271 t272 t275 t276 w0 _ ?side1 ?side2 A4.out).mono ?_); (case side1 => exact iw HI0.out); (case side2 => exact bv); rintro e w8 ⟨v273, rfl, ho0, hi, hb, hk⟩; refine ⟨_, rfl, ?_⟩; replace BK268 := kk hk BK268 NB268_0; have HO274 := am (Kd.R_lower ho0 (keep_size (w := w) (g := g) (row := none) (by repeat (first | (with_reducible first | exact HK.out | apply KeepBut.set_ | apply keep_drewN | apply keep_drew | apply keep_alloc | refine keep_far ?_ GW268.out _) | exact HK.out)))); replace HK := am (KeepBut.trans (by repeat (first | (with_reducible first | exact HK.out | apply KeepBut.set_ | apply keep_drewN | apply keep_drew | apply keep_alloc | refine keep_far ?_ GW268.out _) | exact HK.out)) hk (.inl rfl)); replace HB := am (hb); replace HI0 := am (hi); clear hb hk hi ho0; obtain ⟨Ao9, co9, eo9⟩ := Kd.R_slice HO274.out; subst eo9) | ((with_reducible refine gate_callee (f := 59) rfl ?_); refine goesL_ (some 18) rfl rfl Tryd.func59 (by kernel_rfl) rfl #[.slice Ao9 t272.length co9] rfl (by (try simp only [List.map_toArray, List.map_cons, List.map_nil]); first | done | rfl | (simp only [List.length_drop, List.length_take]; rfl)) ?_; (with_reducible refine (spec_FromGens.calls k _ _ t272 t277 t280 _ ?side1 ?side2 A5.out).mono ?_); (case side1 => exact co (Kd.R_reads' HO274.out).2.2); (case side2 => exact (Kd.R_reads' HO274.out).2.1); rintro e w10 ⟨v278, rfl, ho0, hb⟩; refine ⟨_, rfl, ?_⟩; have HO279 := am (Kd.R_lower (Kd.R_new' ho0 (Kd.R_lt (ro HO274.out))) (keep_size (w := w) (g := g) (row := none) (by repeat (first | (with_reducible first | exact HK.out | apply KeepBut.set_ | apply keep_drewN | apply keep_drew | apply keep_alloc | refine keep_far ?_ GW268.out _) | exact HK.out)))); replace HO274 := am (Kd.R_elder' (ro HO274.out) (Kd.R_base ho0) hb); replace BK268 := kb BK268 hb; replace HK := am (KeepBut.trans (by repeat (first | (with_reducible first | exact HK.out | apply KeepBut.set_ | apply keep_drewN | apply keep_drew | apply keep_alloc | refine keep_far ?_ GW268.out _) | exact HK.out)) (KeepBut.of_below hb g none) (.inl rfl)); replace HB := am (below_step bv hb); replace HI0 := am (IsS63.below (iw HI0.out) hb); clear hb ho0) | ((with_reducible refine gate_dst (N := 3) rfl ?_); refine bx 3 #[.slice none 0 0] 26 ?_; intro gb281 hg w11 hbox hb; replace HO274 := rK HO274 hb; replace HO279 := rK HO279 hb; replace HB := am (below_step bv hb); have BK281 := am (hbox); have GW281 := am ((by rw [hg]; exact (keep_size (w := w) (g := g) (row := none) (by repeat (first | (with_reducible first | exact HK.out | apply KeepBut.set_ | apply keep_drewN | apply keep_drew | apply keep_alloc | refine keep_far ?_ GW268.out _) | exact HK.out))) : w.heap.size ≤ gb281)); have GE281 := am ((Nat.le_trans HW0.out (by rw [hg]; exact (keep_size (w := w) (g := g) (row := none) (by repeat (first | (with_reducible first | exact HK.out | apply KeepBut.set_ | apply keep_drewN | apply keep_drew | apply keep_alloc | refine keep_far ?_ GW268.out _) | exact HK.out))) : w.heap.size ≤ gb281) : w0.heap.size ≤ gb281)); replace HK := am (KeepBut.trans (by repeat (first | (with_reducible first | exact HK.out | apply KeepBut.set_ | apply keep_drewN | apply keep_drew | apply keep_alloc | refine keep_far ?_ GW268.out _) | exact HK.out)) (KeepBut.of_below hb g none) (.inl rfl)); have NB268_281 := nl hg BK268; have NB281_268 := ns NB268_281; replace BK268 := kb BK268 hb; have NB0_281 := am ((by rw [hg]; exact Nat.ne_of_lt (IsS63.lt (show IsS63 w0 _ g s0_0 t275 t276 from (iw HI0.out))) : g ≠ gb281)); have NB281_0 := ns NB0_281; replace HI0 := am (IsS63.below (iw HI0.out) hb); clear hb hbox hg; obtain ⟨Ao12, co12, eo12⟩ := Kd.R_slice HO279.out; subst eo12; have hnb13 := NB281_268.out; have hnc13 := NB268_281.out; have hnb14 := NB281_0.out; have hnc14 := NB0_281.out; have hcz15_0 := bc BK281 0 (.slice none 0 0); have hfz15_0 := blk_frozen BK281.out 0; have hnb16 := NB268_0.out; have hnc16 := NB0_268.out; have hcz17_0 := bc BK268 0 (.slice none 0 0); have hfz17_0 := blk_frozen BK268.out 0))
  refine bodyPost_ret (results_cell_row rfl _ _ gb268 26 #[.slice Ao12 t277.length co12] (0, 0) _ rfl (by (with_reducible repeat (first | refine blk_drewN ?_ _ | refine blk_drew ?_ | refine blk_alloc ?_ _)); refine blk_put (cs := #[.slice none 0 0]) ?_ 0 _ rfl; (with_reducible repeat (first | refine blk_drewN ?_ _ | refine blk_drew ?_ | refine blk_alloc ?_ _)); refine blk_far ?_ NB268_281.out _; (with_reducible repeat (first | refine blk_drewN ?_ _ | refine blk_drew ?_ | refine blk_alloc ?_ _)); exact BK268.out) Tryd.underlying26 rfl (by kernel_rfl)) rfl ?_
  exact ⟨_, re, by (with_reducible repeat (first | apply Kd.R_alloc | apply Kd.R_drewN | apply Kd.R_drew)); exact Kd.R_mono (Kd.R_far (p := ⟨gb268, 0, none⟩) (Kd.R_far (p := ⟨gb281, 0, none⟩) (Kd.R_types (Kd.R_types HO279.out BK281.out (by decide)) BK268.out (by decide)) (fun _ hk => by first | exact hk.1.2 | simp_all) (.slice Ao12 t277.length co12)) (fun _ hk => hk.2) (.slice Ao12 t277.length co12)) (fun _ hk => trivial), (iw HI0.out), bv, by repeat (first | (with_reducible first | exact HK.out | apply KeepBut.set_ | apply keep_drewN | apply keep_drew | apply keep_alloc | refine keep_far ?_ GW268.out _ | refine keep_far ?_ GW281.out _) | exact HK.out)⟩
 have H' := am H
 clear H
 go_enter Tryd.func47, Tryd.ntmps47
 go_wp2_with (first | ((with_reducible refine gate_dst (N := 2) rfl ?_); refine bx 2 #[.slice none 0 0] 26 ?_; intro gb268 hg w18 hbox hb; replace HB := am (below_step bv hb); have BK268 := am (hbox); have GW268 := am ((by rw [hg]; exact (keep_size (w := w) (g := g) (row := none) (by repeat (first | (with_reducible first | exact HK.out | apply KeepBut.set_ | apply keep_drewN | apply keep_drew | apply keep_alloc) | exact HK.out))) : w.heap.size ≤ gb268)); have GE268 := am ((Nat.le_trans HW0.out (by rw [hg]; exact (keep_size (w := w) (g := g) (row := none) (by repeat (first | (with_reducible first | exact HK.out | apply KeepBut.set_ | apply keep_drewN | apply keep_drew | apply keep_alloc) | exact HK.out))) : w.heap.size ≤ gb268) : w0.heap.size ≤ gb268)); replace HK := am (KeepBut.trans (by repeat (first | (with_reducible first | exact HK.out | apply KeepBut.set_ | apply keep_drewN | apply keep_drew | apply keep_alloc) | exact HK.out)) (KeepBut.of_below hb g none) (.inl rfl)); have NB0_268 := am ((by rw [hg]; exact Nat.ne_of_lt (IsS63.lt (show IsS63 w0 _ g s0_0 s0_1 s0_2 from (iw HI0.out))) : g ≠ gb268)); have NB268_0 := ns NB0_268; replace HI0 := am (IsS63.below (iw HI0.out) hb); clear hb hbox hg) | ((with_reducible refine gate_callee (f := 48) rfl ?_); refine goesL_ (some 14) rfl rfl Tryd.func48 (by kernel_rfl) rfl #[.pointer (some ⟨g, 0, none⟩), .int .i64 4] rfl (by (try simp only [List.map_toArray, List.map_cons, List.map_nil]); first | done | rfl | (simp only [List.length_drop, List.length_take]; rfl)) ?_; (with_reducible refine (spec_l1Once.calls g s0_0 s0_1 s0_2 4 false t270 t271 w0 _ ?side1 ?side2 A2.out).mono ?_); (case side1 => exact iw HI0.out); (case side2 => exact bv); rintro e w19 ⟨rfl, hi, hb, hk⟩; refine ⟨_, rfl, ?_⟩; replace BK268 := kk hk BK268 NB268_0; replace HK := am (KeepBut.trans (by repeat (first | (with_reducible first | exact HK.out | apply KeepBut.set_ | apply keep_drewN | apply keep_drew | apply keep_alloc | refine keep_far ?_ GW268.out _) | exact HK.out)) hk (.inl rfl)); replace HB := am (hb); replace HI0 := am (hi); clear hb hk hi))
 go_loopg [5] k (fun kq v5 w' => ∃ (x5_1 : Int) (x1001_1 : Int) (x1002_1 : Int), v5 = .int .i64 x5_1 ∧ Aside0 (spec_l3Draw.l0 kq x5_1 s0_0 x1001_1 x1002_1 = some (r1, r2, r3)) ∧ Aside0 (kq ≤ k) ∧ Aside0 (w'.heap[gb268]? = some (.cells #[(.slice none 0 0)] 26 (0, 0))) ∧ Aside0 (IsS63 w0 w' g s0_0 x1001_1 x1002_1) ∧ Aside0 (KeepBut w w' g none) ∧ Aside0 (Below w0.heap.size w0 w'))
 case atStart => exact ⟨(0), (t270), (t271), rr, H', ⟨Nat.le_refl _⟩, ⟨bo BK268.out⟩, ⟨(iw HI0.out)⟩, ⟨by repeat (first | (with_reducible first | exact HK.out | apply KeepBut.set_ | apply keep_drewN | apply keep_drew | apply keep_alloc | refine keep_far ?_ GW268.out _) | exact HK.out)⟩, ⟨bv⟩⟩
 case round =>
  clear H'
  try clear hcz15_0; try clear hcz17_0; try clear hfz15_0; try clear hfz17_0
  obtain ⟨x5_1, x1001_1, x1002_1, rfl, HA, HK1, BK268, HI0, HK, HB⟩ := hrel
  cases gk with
  | zero => exact absurd HA.out (by simp [spec_l3Draw.l0])
  | succ k1 =>
   have H := HA.out
   clear HA
   simp only [spec_l3Draw.l0] at H
   replace H := gi H; obtain ⟨c20b0, H⟩ | ⟨c20b0, H⟩ := H
   ·replace H := ga H; obtain ⟨⟨t292, t293, t294⟩, A21, H⟩ := H
    replace H : ((spec_l1Below.f s0_0 t293 t294 4).bind fun bt298 => (spec_l3Draw.l1 k1 x5_1 (([wrap64 (2 + t292)] : List Int)) (wrap64 (1 + bt298.1)) 0 s0_0 bt298.2.1 bt298.2.2)) = some (r1, r2, r3) := H
    obtain ⟨y295, hy295⟩ : ∃ y_ : List Int, y_ = (([wrap64 (2 + t292)] : List Int)) := ⟨_, rfl⟩
    replace H : ((spec_l1Below.f s0_0 t293 t294 4).bind fun bt298 => (spec_l3Draw.l1 k1 x5_1 y295 (wrap64 (1 + bt298.1)) 0 s0_0 bt298.2.1 bt298.2.2)) = some (r1, r2, r3) := by first | (rw [hy295]; with_reducible first | exact H | exact bs H) | (with_reducible first | exact bs H | exact H) | (rw [hy295]; exact H) | exact H
    have Ny295 := am hy295
    clear hy295
    replace H := ga H; obtain ⟨⟨t298, t299, t300⟩, A22, H⟩ := H
    replace H : (spec_l3Draw.l1 k1 x5_1 y295 (wrap64 (1 + t298)) 0 s0_0 t299 t300) = some (r1, r2, r3) := H
    have H' := am H
    clear H
    go_wp2_with (first | ((with_reducible refine gate_callee (f := 31) rfl ?_); refine goesL_ (some 27) rfl rfl Tryd.func31 (by kernel_rfl) rfl #[.pointer (some ⟨g, 0, none⟩), .int .i64 8] rfl (by (try simp only [List.map_toArray, List.map_cons, List.map_nil]); first | done | rfl | (simp only [List.length_drop, List.length_take]; rfl)) ?_; (with_reducible refine (spec_l1Below.calls g s0_0 x1001_1 x1002_1 8 t292 t293 t294 w0 _ ?side1 ?side2 A21.out).mono ?_); (case side1 => exact iw HI0.out); (case side2 => exact bv); rintro e w23 ⟨rfl, hi, hb, hk⟩; refine ⟨_, rfl, ?_⟩; replace BK268 := kk hk BK268 NB268_0; replace HK := am (KeepBut.trans (by repeat (first | (with_reducible first | exact HK.out | apply KeepBut.set_ | apply keep_drewN | apply keep_drew | apply keep_alloc | refine keep_far ?_ GW268.out _) | exact HK.out)) hk (.inl rfl)); replace HB := am (hb); replace HI0 := am (hi); clear hb hk hi) | ((with_reducible refine gate_dst (N := 29) rfl ?_); refine Kd.R_lit (Kd.int .i64) _ 3 ?hg (N := 29) ?hd (xs := ([wrap64 (2 + t292)] : List Int)) (inner := [.int .i64 (wrap64 (2 + t292))]) (ok := fun _ => True) (okp := fun _ => True) ?hr ?hp (fun _ hk => hk) trivial (Below.refl _ _) (Nat.le_refl _) (by simp) ?_; (case hd => rfl); (case hg => rfl); (case hr => first | (go_simp; done) | (go_simp; rfl)); (case hp => exact (Reps.one (show Kd.M (Kd.int .i64) _ _ _ (wrap64 (2 + t292)) [.int .i64 (wrap64 (2 + t292))] from rfl) (Reps.none _ _))); intro v296 w24 ho25 hb hg_ hnew_; clear hg_ hnew_; (first | rw [← Ny295.out] at ho25 | (simp only [Int.reduceToNat] at ho25; rw [← Ny295.out] at ho25)); have HO297 := am (Kd.R_lower ho25 (keep_size (w := w) (g := g) (row := none) (by repeat (first | (with_reducible first | exact HK.out | apply KeepBut.set_ | apply keep_drewN | apply keep_drew | apply keep_alloc | refine keep_far ?_ GW268.out _) | exact HK.out)))); replace BK268 := kb BK268 hb; replace HK := am (KeepBut.trans (by repeat (first | (with_reducible first | exact HK.out | apply KeepBut.set_ | apply keep_drewN | apply keep_drew | apply keep_alloc | refine keep_far ?_ GW268.out _) | exact HK.out)) (KeepBut.of_below hb g none) (.inl rfl)); replace HB := am (below_step bv hb); replace HI0 := am (IsS63.below (iw HI0.out) hb); clear hb ho25) | ((with_reducible refine gate_callee (f := 31) rfl ?_); refine goesL_ (some 31) rfl rfl Tryd.func31 (by kernel_rfl) rfl #[.pointer (some ⟨g, 0, none⟩), .int .i64 4] rfl (by (try simp only [List.map_toArray, List.map_cons, List.map_nil]); first | done | rfl | (simp only [List.length_drop, List.length_take]; rfl)) ?_; (with_reducible refine (spec_l1Below.calls g s0_0 t293 t294 4 t298 t299 t300 w0 _ ?side1 ?side2 A22.out).mono ?_); (case side1 => exact iw HI0.out); (case side2 => exact bv); rintro e w26 ⟨rfl, hi, hb, hk⟩; refine ⟨_, rfl, ?_⟩; replace BK268 := kk hk BK268 NB268_0; replace HO297 := am (Kd.R_mono (Kd.R_keep (IsS63.apart (show IsS63 w0 _ g s0_0 t293 t294 from (iw HI0.out)) (ro HO297.out) (by decide)) hk (fun _ h => h.2)) (fun _ h => h.1)); replace HK := am (KeepBut.trans (by repeat (first | (with_reducible first | exact HK.out | apply KeepBut.set_ | apply keep_drewN | apply keep_drew | apply keep_alloc | refine keep_far ?_ GW268.out _) | exact HK.out)) hk (.inl rfl)); replace HB := am (hb); replace HI0 := am (hi); clear hb hk hi))
    go_loopg [6, 8] k1 (fun kq v6 v8 w' => ∃ (x6_2 : List Int) (x8_2 : Int) (x1001_2 : Int) (x1002_2 : Int), v8 = .int .i64 x8_2 ∧ Aside0 (spec_l3Draw.l1 kq x5_1 x6_2 (wrap64 (1 + t298)) x8_2 s0_0 x1001_2 x1002_2 = some (r1, r2, r3)) ∧ Aside0 (kq ≤ k1) ∧ Aside0 (Kd.R (Kd.int .i64) 3 w' w.heap.size (fun _ => True) v6 x6_2) ∧ Aside0 (w'.heap[gb268]? = some (.cells #[(.slice none 0 0)] 26 (0, 0))) ∧ Aside0 (IsS63 w0 w' g s0_0 x1001_2 x1002_2) ∧ Aside0 (KeepBut w w' g none) ∧ Aside0 (Below w0.heap.size w0 w'))
    case atStart => exact ⟨(y295), (0), (t299), (t300), rr, H', ⟨Nat.le_refl _⟩, ⟨ro HO297.out⟩, ⟨bo BK268.out⟩, ⟨(iw HI0.out)⟩, ⟨by repeat (first | (with_reducible first | exact HK.out | apply KeepBut.set_ | apply keep_drewN | apply keep_drew | apply keep_alloc | refine keep_far ?_ GW268.out _) | exact HK.out)⟩, ⟨bv⟩⟩
    case round =>
     clear H'
     try clear c20b0; try clear hcz15_0; try clear hcz17_0; try clear hfz15_0; try clear hfz17_0
     obtain ⟨x6_2, x8_2, x1001_2, x1002_2, rfl, HA, HK2, HO_6, BK268, HI0, HK, HB⟩ := hrel
     cases gk with
     | zero => exact absurd HA.out (by simp [spec_l3Draw.l1])
     | succ k2 =>
      have H := HA.out
      clear HA
      simp only [spec_l3Draw.l1] at H
      replace H := gi H; obtain ⟨c27b0, H⟩ | ⟨c27b0, H⟩ := H
      ·replace H := gp H; obtain ⟨c28, H⟩ := H
       have c28b0 : decide (0 < (x6_2.length : Int)) = true := decide_eq_true c28
       have c28b1 : decide (0 < x6_2.length) = true := decide_eq_true (by omega)
       clear c28
       replace H := ga H; obtain ⟨⟨t302, t303, t304⟩, A29, H⟩ := H
       replace H : (if x6_2.length < 17592186044416 then (spec_l3Draw.l1 k2 x5_1 (x6_2 ++ [wrap64 ((wrap64 ((rd x6_2 0) + 1)) + t302)]) (wrap64 (1 + t298)) (wrap64 (x8_2 + 1)) s0_0 t303 t304) else (none)) = some (r1, r2, r3) := H
       by_cases c30 : x6_2.length < 17592186044416
       rotate_left
       ·rw [if_neg c30] at H
        exact absurd H (by simp)
       rw [if_pos c30] at H
       have LMc30 := am c30
       clear c30
       obtain ⟨y305, hy305⟩ : ∃ y_ : List Int, y_ = (x6_2 ++ [wrap64 ((wrap64 ((rd x6_2 0) + 1)) + t302)]) := ⟨_, rfl⟩
       replace H : (spec_l3Draw.l1 k2 x5_1 y305 (wrap64 (1 + t298)) (wrap64 (x8_2 + 1)) s0_0 t303 t304) = some (r1, r2, r3) := by first | (rw [hy305]; with_reducible first | exact H | exact bs H) | (with_reducible first | exact bs H | exact H) | (rw [hy305]; exact H) | exact H
       have Ny305 := am hy305
       clear hy305
       have H' := am H
       clear H
       try go_wp2
       replace HO_6 := am (Kd.R_drew HO_6.out)
       replace BK268 := bd BK268
       replace HI0 := am (IsS63.drew HI0.out)
       replace HK := am (keep_drew HK.out)
       replace HB := am (below_drew1 HB.out)
       obtain ⟨Ao32, co32, eo32⟩ := Kd.R_slice HO_6.out
       (first | subst eo32 | (injection eo32 with f1_ f2_ f3_; have f4_ := f1_.symm; have f5_ := f3_.symm; clear f1_ f2_ f3_; subst f4_; subst f5_))
       have p301 : 0 ≤ (0 : Int) := (by omega)
       have q301 : 0 < (x6_2.length : Int) := of_decide_eq_true (by first | (with_reducible assumption) | assumption)
       obtain ⟨ad301, e301, hx301_0⟩ := Kd.at_int (Kd.R_reads' HO_6.out).2.2 0 p301 q301
       cases e301
       have qi301 : (0 < x6_2.length) = True := eq_true (by omega)
       (try rw [show ((0 : Int)).toNat = 0 from rfl] at hx301_0)
       (try rw [Addr.add_zero'] at hx301_0)
       replace p301 := eq_true p301
       replace q301 := eq_true q301
       refine start_ (n := 11) (S := fun w' => w'.cell? ad301 = some (.int .i64 (rd x6_2 0))) (ds := [8, 9]) (yz 11 0) (by kernel_rfl) rfl rfl (hx301_0) (fun hHeld => ?_); refine with_tabW spec_l3Draw.tab12 spec_l3Draw.bits12 (fun HT_ HW_ => ?_)
       generalize wr.drew = w31 at HO_6 BK268 HI0 HK HB hx301_0 hHeld ⊢
       refine pa 0 (some 38) (yz 11 1) HT_ ?_
       refine pa 1 (some 39) (yz 11 3) HT_ ?_
       refine pa 2 (some 40) (yz 11 7) HT_ ?_
       refine pa 5 (some 43) (yz 11 39) HT_ ?_
       refine tK 3 (some 41) (yz 11 47) HT_ HW_ hHeld ?_
       refine pa 4 (some 42) (yz 11 63) HT_ ?_
       refine oa 6 (some 44) (yz 11 127) HT_ (fun K hK => ?_)
       refine goes_ Tryd.func31 (by kernel_rfl) rfl #[.pointer (some ⟨g, 0, none⟩), .int .i64 12] (by rfl) rfl rfl (by (try simp only [List.map_toArray, List.map_cons, List.map_nil]); first | done | rfl | (simp only [List.length_drop, List.length_take]; rfl)) ?_
       with_reducible refine (spec_l1Below.calls g s0_0 x1001_2 x1002_2 12 t302 t303 t304 w0 _ ?side1 ?side2 A29.out).mono ?_
       (case side1 => exact iw HI0.out)
       (case side2 => exact bv)
       rintro e w33 ⟨rfl, hi, hb, hk⟩
       have HS0_ := keep_cell hk (hHeld) (by first | (rw [add_block]; exact Kd.own_blk (IsS63.own_ne HI0.out HO_6.out (by decide))) | (show (Addr.add _ _).block ≠ _; rw [add_block]; exact Kd.own_blk (IsS63.own_ne HI0.out HO_6.out (by decide))) | exact Kd.own_blk (IsS63.own_ne HI0.out HO_6.out (by decide)))
       refine ⟨_, rfl, ?_⟩
       replace HO_6 := am (Kd.R_mono (Kd.R_keep (IsS63.apart (show IsS63 w0 _ g s0_0 x1001_2 x1002_2 from (iw HI0.out)) (ro HO_6.out) (by decide)) hk (fun _ h => h.2)) (fun _ h => h.1))
       replace BK268 := kk hk BK268 NB268_0
       replace HK := am (KeepBut.trans (by repeat (first | (with_reducible first | exact HK.out | apply KeepBut.set_ | apply keep_drewN | apply keep_drew | apply keep_alloc | refine keep_far ?_ GW268.out _) | exact HK.out)) hk (.inl rfl))
       replace HB := am (hb)
       replace HI0 := am (hi)
       clear hb hk hi
       refine hK.out _ _ (HS0_) (fun hHeld => ?_)
       clear hK K
       refine nm (some 44) ?_
       refine pa 7 (some 45) (yz 11 255) HT_ ?_
       refine last_ (i := 8) (N := some 46) (yz 11 511) rfl rfl (one_of HT_.out (by kernel_rfl)) (by decide) (fun K hK => ?_)
       refine value_ (w1 := ?_) (v := ?_) (by rfl) rfl ?_ ?_
       rotate_left 2
       ·go_simp
        constructor
        ·rfl
        rfl
       refine hK.out _ _ ?_
       clear hK K
       refine nm (some 46) ?_
       refine last_ (i := 9) (N := some 47) (yz 11 1023) rfl rfl (one_of HT_.out (by kernel_rfl)) (by decide) (fun K hK => ?_)
       refine Kd.R_append_step (Kd.int .i64) w.heap.size (by rfl) (.tmp 38) (.tmp 46) 24 3 (.int .i64 0) 8 rfl Tryd.underlying24 info3 rfl (by decide) (by omega) (.slice (some ad301) x6_2.length co32) x6_2 (wrap64 ((wrap64 ((rd x6_2 0) + 1)) + t302)) [.int .i64 (wrap64 ((wrap64 ((rd x6_2 0) + 1)) + t302))] (fun _ => True) (fun _ => False) rfl rfl ?aP (fun _ hk => hk.elim) ?aF ?aO (Below.refl _ _) ?aS ?aL ?_
       (case aP => exact rfl)
       (case aF => exact (fun _ _ => trivial))
       (case aO => exact (ro HO_6.out))
       (case aS => exact (keep_size (w := w) (g := g) (row := none) (by repeat (first | (with_reducible first | exact HK.out | apply KeepBut.set_ | apply keep_drewN | apply keep_drew | apply keep_alloc | refine keep_far ?_ GW268.out _) | exact HK.out))))
       (case aL => have := LMc30.out; omega)
       intro v306 w34 ho hb hg hat
       rw [← Ny305.out] at ho
       replace BK268 := am (blk_grown (g := gb268) (o := .cells #[.slice none 0 0] 26 (0, 0)) (bo BK268.out) hg (Kd.R_ne HO_6.out BK268.out (by decide)))
       replace HB := am (below_weaken bv HL.out hb)
       replace HI0 := am (IsS63.grown (iw HI0.out) hg (IsS63.own_ne HI0.out HO_6.out (by decide)))
       replace HK := am (KeepBut.trans (by repeat (first | (with_reducible first | exact HK.out | apply KeepBut.set_ | apply keep_drewN | apply keep_drew | apply keep_alloc | refine keep_far ?_ GW268.out _) | exact HK.out)) (KeepBut.of_grown hg g) (Kd.R_base2 HO_6.out))
       have HO307 := am (ho)
       clear HO_6 ho hb hg hat
       refine hK.out _ _ ?_
       clear hK K
       refine nm (some 47) ?_
       refine pa 10 (some 6) (yz 11 2047) HT_ ?_
       refine done_ (done_of HT_.out (by kernel_rfl)) ?_
       try go_wp2
       go_roundg k2
       case measure => have := HK1.out; have := HK2.out; omega
       case rel => exact ⟨(y305), (wrap64 (x8_2 + 1)), (t303), (t304), rr, H', ⟨by have := HK1.out; have := HK2.out; omega⟩, ⟨ro HO307.out⟩, ⟨bo BK268.out⟩, ⟨(iw HI0.out)⟩, ⟨by repeat (first | (with_reducible first | exact HK.out | apply KeepBut.set_ | apply keep_drewN | apply keep_drew | apply keep_alloc | refine keep_far ?_ GW268.out _) | exact HK.out)⟩, ⟨bv⟩⟩
      replace H := ga H; obtain ⟨⟨t308, t311⟩, A35, H⟩ := H
      replace H : (if t311 = true then (some (t308, x1001_2, x1002_2)) else (spec_l3Draw.l0 k2 (wrap64 (x5_1 + 1)) s0_0 x1001_2 x1002_2)) = some (r1, r2, r3) := H
      replace H := gb H; obtain ⟨rfl, H⟩ | ⟨rfl, H⟩ := H
      ·simp only [Option.some.injEq, Prod.mk.injEq] at H
       obtain ⟨rfl, rfl, rfl⟩ := H
       obtain ⟨Ao37, co37, eo37⟩ := Kd.R_slice HO_6.out
       subst eo37
       go_wp2_with (first | ((with_reducible refine gate_callee (f := 59) rfl ?_); refine goesL_ (some 50) rfl rfl Tryd.func59 (by kernel_rfl) rfl #[.slice Ao37 x6_2.length co37] rfl (by (try simp only [List.map_toArray, List.map_cons, List.map_nil]); first | done | rfl | (simp only [List.length_drop, List.length_take]; rfl)) ?_; (with_reducible refine (spec_FromGens.calls k2 _ _ x6_2 t308 true _ ?side1 ?side2 A35.out).mono ?_); (case side1 => exact co (Kd.R_reads' HO_6.out).2.2); (case side2 => exact (Kd.R_reads' HO_6.out).2.1); rintro e w38 ⟨v309, rfl, ho0, hb⟩; refine ⟨_, rfl, ?_⟩; have HO310 := am (Kd.R_lower (Kd.R_new' ho0 (Kd.R_lt (ro HO_6.out))) (keep_size (w := w) (g := g) (row := none) (by repeat (first | (with_reducible first | exact HK.out | apply KeepBut.set_ | apply keep_drewN | apply keep_drew | apply keep_alloc | refine keep_far ?_ GW268.out _) | exact HK.out)))); replace HO_6 := am (Kd.R_elder' (ro HO_6.out) (Kd.R_base ho0) hb); replace BK268 := kb BK268 hb; replace HK := am (KeepBut.trans (by repeat (first | (with_reducible first | exact HK.out | apply KeepBut.set_ | apply keep_drewN | apply keep_drew | apply keep_alloc | refine keep_far ?_ GW268.out _) | exact HK.out)) (KeepBut.of_below hb g none) (.inl rfl)); replace HB := am (below_step bv hb); replace HI0 := am (IsS63.below (iw HI0.out) hb); clear hb ho0) | ((with_reducible refine gate_dst (N := 9) rfl ?_); refine bx 9 #[.slice none 0 0] 26 ?_; intro gb312 hg w39 hbox hb; replace HO_6 := rK HO_6 hb; replace HO310 := rK HO310 hb; replace HB := am (below_step bv hb); have BK312 := am (hbox); have GW312 := am ((by rw [hg]; exact (keep_size (w := w) (g := g) (row := none) (by repeat (first | (with_reducible first | exact HK.out | apply KeepBut.set_ | apply keep_drewN | apply keep_drew | apply keep_alloc | refine keep_far ?_ GW268.out _) | exact HK.out))) : w.heap.size ≤ gb312)); have GE312 := am ((Nat.le_trans HW0.out (by rw [hg]; exact (keep_size (w := w) (g := g) (row := none) (by repeat (first | (with_reducible first | exact HK.out | apply KeepBut.set_ | apply keep_drewN | apply keep_drew | apply keep_alloc | refine keep_far ?_ GW268.out _) | exact HK.out))) : w.heap.size ≤ gb312) : w0.heap.size ≤ gb312)); replace HK := am (KeepBut.trans (by repeat (first | (with_reducible first | exact HK.out | apply KeepBut.set_ | apply keep_drewN | apply keep_drew | apply keep_alloc | refine keep_far ?_ GW268.out _) | exact HK.out)) (KeepBut.of_below hb g none) (.inl rfl)); have NB268_312 := nl hg BK268; have NB312_268 := ns NB268_312; replace BK268 := kb BK268 hb; have NB0_312 := am ((by rw [hg]; exact Nat.ne_of_lt (IsS63.lt (show IsS63 w0 _ g s0_0 x1001_2 x1002_2 from (iw HI0.out))) : g ≠ gb312)); have NB312_0 := ns NB0_312; replace HI0 := am (IsS63.below (iw HI0.out) hb); clear hb hbox hg; obtain ⟨Ao40, co40, eo40⟩ := Kd.R_slice HO310.out; subst eo40; have hnb41 := NB312_268.out; have hnc41 := NB268_312.out; have hnb42 := NB312_0.out; have hnc42 := NB0_312.out; have hcz43_0 := bc BK312 0 (.slice none 0 0); have hfz43_0 := blk_frozen BK312.out 0; have hnb44 := NB268_0.out; have hnc44 := NB0_268.out; have hcz45_0 := bc BK268 0 (.slice none 0 0); have hfz45_0 := blk_frozen BK268.out 0))
       refine bodyPost_ret (results_cell_row rfl _ _ gb268 26 #[.slice Ao40 t308.length co40] (0, 0) _ rfl (by (with_reducible repeat (first | refine blk_drewN ?_ _ | refine blk_drew ?_ | refine blk_alloc ?_ _)); refine blk_put (cs := #[.slice none 0 0]) ?_ 0 _ rfl; (with_reducible repeat (first | refine blk_drewN ?_ _ | refine blk_drew ?_ | refine blk_alloc ?_ _)); refine blk_far ?_ NB268_312.out _; (with_reducible repeat (first | refine blk_drewN ?_ _ | refine blk_drew ?_ | refine blk_alloc ?_ _)); exact BK268.out) Tryd.underlying26 rfl (by kernel_rfl)) rfl ?_
       exact ⟨_, re, by (with_reducible repeat (first | apply Kd.R_alloc | apply Kd.R_drewN | apply Kd.R_drew)); exact Kd.R_mono (Kd.R_far (p := ⟨gb268, 0, none⟩) (Kd.R_far (p := ⟨gb312, 0, none⟩) (Kd.R_types (Kd.R_types HO310.out BK312.out (by decide)) BK268.out (by decide)) (fun _ hk => by first | exact hk.1.2 | simp_all) (.slice Ao40 t308.length co40)) (fun _ hk => hk.2) (.slice Ao40 t308.length co40)) (fun _ hk => trivial), (iw HI0.out), bv, by repeat (first | (with_reducible first | exact HK.out | apply KeepBut.set_ | apply keep_drewN | apply keep_drew | apply keep_alloc | refine keep_far ?_ GW268.out _ | refine keep_far ?_ GW312.out _) | exact HK.out)⟩
      have H' := am H
      clear H
      obtain ⟨Ao46, co46, eo46⟩ := Kd.R_slice HO_6.out
      subst eo46
      go_wp2_with (first | ((with_reducible refine gate_callee (f := 59) rfl ?_); refine goesL_ (some 50) rfl rfl Tryd.func59 (by kernel_rfl) rfl #[.slice Ao46 x6_2.length co46] rfl (by (try simp only [List.map_toArray, List.map_cons, List.map_nil]); first | done | rfl | (simp only [List.length_drop, List.length_take]; rfl)) ?_; (with_reducible refine (spec_FromGens.calls k2 _ _ x6_2 t308 false _ ?side1 ?side2 A35.out).mono ?_); (case side1 => exact co (Kd.R_reads' HO_6.out).2.2); (case side2 => exact (Kd.R_reads' HO_6.out).2.1); rintro e w47 ⟨v309, rfl, ho0, hb⟩; refine ⟨_, rfl, ?_⟩; have HO310 := am (Kd.R_lower (Kd.R_new' ho0 (Kd.R_lt (ro HO_6.out))) (keep_size (w := w) (g := g) (row := none) (by repeat (first | (with_reducible first | exact HK.out | apply KeepBut.set_ | apply keep_drewN | apply keep_drew | apply keep_alloc | refine keep_far ?_ GW268.out _) | exact HK.out)))); replace HO_6 := am (Kd.R_elder' (ro HO_6.out) (Kd.R_base ho0) hb); replace BK268 := kb BK268 hb; replace HK := am (KeepBut.trans (by repeat (first | (with_reducible first | exact HK.out | apply KeepBut.set_ | apply keep_drewN | apply keep_drew | apply keep_alloc | refine keep_far ?_ GW268.out _) | exact HK.out)) (KeepBut.of_below hb g none) (.inl rfl)); replace HB := am (below_step bv hb); replace HI0 := am (IsS63.below (iw HI0.out) hb); clear hb ho0) | ((with_reducible refine gate_dst (N := 9) rfl ?_); refine bx 9 #[.slice none 0 0] 26 ?_; intro gb312 hg w48 hbox hb; replace HO_6 := rK HO_6 hb; replace HO310 := rK HO310 hb; replace HB := am (below_step bv hb); have BK312 := am (hbox); have GW312 := am ((by rw [hg]; exact (keep_size (w := w) (g := g) (row := none) (by repeat (first | (with_reducible first | exact HK.out | apply KeepBut.set_ | apply keep_drewN | apply keep_drew | apply keep_alloc | refine keep_far ?_ GW268.out _) | exact HK.out))) : w.heap.size ≤ gb312)); have GE312 := am ((Nat.le_trans HW0.out (by rw [hg]; exact (keep_size (w := w) (g := g) (row := none) (by repeat (first | (with_reducible first | exact HK.out | apply KeepBut.set_ | apply keep_drewN | apply keep_drew | apply keep_alloc | refine keep_far ?_ GW268.out _) | exact HK.out))) : w.heap.size ≤ gb312) : w0.heap.size ≤ gb312)); replace HK := am (KeepBut.trans (by repeat (first | (with_reducible first | exact HK.out | apply KeepBut.set_ | apply keep_drewN | apply keep_drew | apply keep_alloc | refine keep_far ?_ GW268.out _) | exact HK.out)) (KeepBut.of_below hb g none) (.inl rfl)); have NB268_312 := nl hg BK268; have NB312_268 := ns NB268_312; replace BK268 := kb BK268 hb; have NB0_312 := am ((by rw [hg]; exact Nat.ne_of_lt (IsS63.lt (show IsS63 w0 _ g s0_0 x1001_2 x1002_2 from (iw HI0.out))) : g ≠ gb312)); have NB312_0 := ns NB0_312; replace HI0 := am (IsS63.below (iw HI0.out) hb); clear hb hbox hg; obtain ⟨Ao49, co49, eo49⟩ := Kd.R_slice HO310.out; subst eo49; have hnb50 := NB312_268.out; have hnc50 := NB268_312.out; have hnb51 := NB312_0.out; have hnc51 := NB0_312.out; have hcz52_0 := bc BK312 0 (.slice none 0 0); have hfz52_0 := blk_frozen BK312.out 0))
      go_roundg k2
      case measure => have := HK1.out; have := HK2.out; omega
      case rel => exact ⟨(wrap64 (x5_1 + 1)), (x1001_2), (x1002_2), rr, H', ⟨by have := HK1.out; have := HK2.out; omega⟩, ⟨bf BK268.out⟩, ⟨(iw HI0.out)⟩, ⟨by repeat (first | (with_reducible first | exact HK.out | apply KeepBut.set_ | apply keep_drewN | apply keep_drew | apply keep_alloc | refine keep_far ?_ GW268.out _ | refine keep_far ?_ GW312.out _) | exact HK.out)⟩, ⟨bv⟩⟩
   replace H := ga H; obtain ⟨⟨t282, t285, t286⟩, A53, H⟩ := H
   replace H : ((spec_FromGens.f k1 t282).bind fun bt287 => (some (bt287.1, t285, t286))) = some (r1, r2, r3) := H
   replace H := ga H; obtain ⟨⟨t287, t290⟩, A54, H⟩ := H
   replace H : (some (t287, t285, t286)) = some (r1, r2, r3) := H
   simp only [Option.some.injEq, Prod.mk.injEq] at H
   obtain ⟨rfl, rfl, rfl⟩ := H
   go_wp2_with (first | ((with_reducible refine gate_callee (f := 60) rfl ?_); refine goesL_ (some 57) rfl rfl Tryd.func60 (by kernel_rfl) rfl #[.pointer (some ⟨g, 0, none⟩)] rfl (by (try simp only [List.map_toArray, List.map_cons, List.map_nil]); first | done | rfl | (simp only [List.length_drop, List.length_take]; rfl)) ?_; (with_reducible refine (spec_l3List.calls g s0_0 x1001_1 x1002_1 t282 t285 t286 w0 _ ?side1 ?side2 A53.out).mono ?_); (case side1 => exact iw HI0.out); (case side2 => exact bv); rintro e w55 ⟨v283, rfl, ho0, hi, hb, hk⟩; refine ⟨_, rfl, ?_⟩; replace BK268 := kk hk BK268 NB268_0; have HO284 := am (Kd.R_lower ho0 (keep_size (w := w) (g := g) (row := none) (by repeat (first | (with_reducible first | exact HK.out | apply KeepBut.set_ | apply keep_drewN | apply keep_drew | apply keep_alloc | refine keep_far ?_ GW268.out _) | exact HK.out)))); replace HK := am (KeepBut.trans (by repeat (first | (with_reducible first | exact HK.out | apply KeepBut.set_ | apply keep_drewN | apply keep_drew | apply keep_alloc | refine keep_far ?_ GW268.out _) | exact HK.out)) hk (.inl rfl)); replace HB := am (hb); replace HI0 := am (hi); clear hb hk hi ho0; obtain ⟨Ao56, co56, eo56⟩ := Kd.R_slice HO284.out; subst eo56) | ((with_reducible refine gate_callee (f := 59) rfl ?_); refine goesL_ (some 58) rfl rfl Tryd.func59 (by kernel_rfl) rfl #[.slice Ao56 t282.length co56] rfl (by (try simp only [List.map_toArray, List.map_cons, List.map_nil]); first | done | rfl | (simp only [List.length_drop, List.length_take]; rfl)) ?_; (with_reducible refine (spec_FromGens.calls k1 _ _ t282 t287 t290 _ ?side1 ?side2 A54.out).mono ?_); (case side1 => exact co (Kd.R_reads' HO284.out).2.2); (case side2 => exact (Kd.R_reads' HO284.out).2.1); rintro e w57 ⟨v288, rfl, ho0, hb⟩; refine ⟨_, rfl, ?_⟩; have HO289 := am (Kd.R_lower (Kd.R_new' ho0 (Kd.R_lt (ro HO284.out))) (keep_size (w := w) (g := g) (row := none) (by repeat (first | (with_reducible first | exact HK.out | apply KeepBut.set_ | apply keep_drewN | apply keep_drew | apply keep_alloc | refine keep_far ?_ GW268.out _) | exact HK.out)))); replace HO284 := am (Kd.R_elder' (ro HO284.out) (Kd.R_base ho0) hb); replace BK268 := kb BK268 hb; replace HK := am (KeepBut.trans (by repeat (first | (with_reducible first | exact HK.out | apply KeepBut.set_ | apply keep_drewN | apply keep_drew | apply keep_alloc | refine keep_far ?_ GW268.out _) | exact HK.out)) (KeepBut.of_below hb g none) (.inl rfl)); replace HB := am (below_step bv hb); replace HI0 := am (IsS63.below (iw HI0.out) hb); clear hb ho0) | ((with_reducible refine gate_dst (N := 11) rfl ?_); refine bx 11 #[.slice none 0 0] 26 ?_; intro gb291 hg w58 hbox hb; replace HO284 := rK HO284 hb; replace HO289 := rK HO289 hb; replace HB := am (below_step bv hb); have BK291 := am (hbox); have GW291 := am ((by rw [hg]; exact (keep_size (w := w) (g := g) (row := none) (by repeat (first | (with_reducible first | exact HK.out | apply KeepBut.set_ | apply keep_drewN | apply keep_drew | apply keep_alloc | refine keep_far ?_ GW268.out _) | exact HK.out))) : w.heap.size ≤ gb291)); have GE291 := am ((Nat.le_trans HW0.out (by rw [hg]; exact (keep_size (w := w) (g := g) (row := none) (by repeat (first | (with_reducible first | exact HK.out | apply KeepBut.set_ | apply keep_drewN | apply keep_drew | apply keep_alloc | refine keep_far ?_ GW268.out _) | exact HK.out))) : w.heap.size ≤ gb291) : w0.heap.size ≤ gb291)); replace HK := am (KeepBut.trans (by repeat (first | (with_reducible first | exact HK.out | apply KeepBut.set_ | apply keep_drewN | apply keep_drew | apply keep_alloc | refine keep_far ?_ GW268.out _) | exact HK.out)) (KeepBut.of_below hb g none) (.inl rfl)); have NB268_291 := nl hg BK268; have NB291_268 := ns NB268_291; replace BK268 := kb BK268 hb; have NB0_291 := am ((by rw [hg]; exact Nat.ne_of_lt (IsS63.lt (show IsS63 w0 _ g s0_0 t285 t286 from (iw HI0.out))) : g ≠ gb291)); have NB291_0 := ns NB0_291; replace HI0 := am (IsS63.below (iw HI0.out) hb); clear hb hbox hg; obtain ⟨Ao59, co59, eo59⟩ := Kd.R_slice HO289.out; subst eo59; have hnb60 := NB291_268.out; have hnc60 := NB268_291.out; have hnb61 := NB291_0.out; have hnc61 := NB0_291.out; have hcz62_0 := bc BK291 0 (.slice none 0 0); have hfz62_0 := blk_frozen BK291.out 0; have hnb63 := NB268_0.out; have hnc63 := NB0_268.out; have hcz64_0 := bc BK268 0 (.slice none 0 0); have hfz64_0 := blk_frozen BK268.out 0))
   refine bodyPost_ret (results_cell_row rfl _ _ gb268 26 #[.slice Ao59 t287.length co59] (0, 0) _ rfl (by (with_reducible repeat (first | refine blk_drewN ?_ _ | refine blk_drew ?_ | refine blk_alloc ?_ _)); refine blk_put (cs := #[.slice none 0 0]) ?_ 0 _ rfl; (with_reducible repeat (first | refine blk_drewN ?_ _ | refine blk_drew ?_ | refine blk_alloc ?_ _)); refine blk_far ?_ NB268_291.out _; (with_reducible repeat (first | refine blk_drewN ?_ _ | refine blk_drew ?_ | refine blk_alloc ?_ _)); exact BK268.out) Tryd.underlying26 rfl (by kernel_rfl)) rfl ?_
   exact ⟨_, re, by (with_reducible repeat (first | apply Kd.R_alloc | apply Kd.R_drewN | apply Kd.R_drew)); exact Kd.R_mono (Kd.R_far (p := ⟨gb268, 0, none⟩) (Kd.R_far (p := ⟨gb291, 0, none⟩) (Kd.R_types (Kd.R_types HO289.out BK291.out (by decide)) BK268.out (by decide)) (fun _ hk => by first | exact hk.1.2 | simp_all) (.slice Ao59 t287.length co59)) (fun _ hk => hk.2) (.slice Ao59 t287.length co59)) (fun _ hk => trivial), (iw HI0.out), bv, by repeat (first | (with_reducible first | exact HK.out | apply KeepBut.set_ | apply keep_drewN | apply keep_drew | apply keep_alloc | refine keep_far ?_ GW268.out _ | refine keep_far ?_ GW291.out _) | exact HK.out)⟩

end Go.Proofs.YtbbehmbpoilffaaDoor.C
