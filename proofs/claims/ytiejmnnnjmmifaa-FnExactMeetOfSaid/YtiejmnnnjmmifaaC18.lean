/- Contracts of functions of the program: laws_FnExactMeetOf. -/
import Derived.Test.YtiejmnnnjmmifaaC0
import Derived.Test.YtiejmnnnjmmifaaC1
import Derived.Test.YtiejmnnnjmmifaaC6
import Derived.Test.YtiejmnnnjmmifaaC15
import Derived.Test.YtiejmnnnjmmifaaC17
namespace Go.Proofs.Ytiejmnnnjmmifaa.C
open Go.RowKit Go.Proofs.YtiejmnnnjmmifaaW.PrintWords Go.Proofs.YtiejmnnnjmmifaaW.PrintLast Go.Proofs.YtiejmnnnjmmifaaW.PrintMore
attribute [local go_sem] max2_int min2_int max_two min_two max_three min_three max_four min_four
set_option linter.unusedVariables false
set_option linter.unusedSimpArgs false

/-! ### laws_FnExactMeetOf: function 14 -/
mutual
def laws_FnExactMeetOf.j0 : Nat → Bool → Bool → Bool → List Int → List Int → List Int → List Int → List Int → List Int → Option (Bool)
 | 0, _, _, _, _, _, _, _, _, _ => none
 | k + 1, x7, x11, x53, x895000, x896000, x909000, x913000, x917000, x922000 => if x53 = true then (some false) else ((laws_toSemigroup.f k x895000).bind fun t923 => ((laws_eqSemigroup.f k x913000 t923).bind fun t926 => (if t926 = true then ((laws_toSemigroup.f k x896000).bind fun t927 => ((laws_eqSemigroup.f k x917000 t927).bind fun t930 => (if t930 = true then ((laws_markSemigroup.f k x913000 1).bind fun bt931 => ((laws_markSemigroup.f k x917000 bt931.1).bind fun bt933 => (if bt933.1 < 0 then (laws_FnExactMeetOf.j1 k x7 true x895000 x896000 x909000 x922000) else ((laws_eqSemigroup.f k x922000 x909000).bind fun t935 => (if t935 = true then (laws_FnExactMeetOf.j1 k x7 (x11 != x7) x895000 x896000 x909000 x922000) else (laws_FnExactMeetOf.j1 k x7 true x895000 x896000 x909000 x922000)))))) else (some false)))) else (some false))))
def laws_FnExactMeetOf.j1 : Nat → Bool → Bool → List Int → List Int → List Int → List Int → Option (Bool)
 | 0, _, _, _, _, _, _ => none
 | k + 1, x7, x82, x895000, x896000, x909000, x922000 => if x82 = true then (some false) else ((laws_markSemigroup.f k x922000 1).bind fun bt936 => ((laws_heldSemigroup.f k bt936.2 1).bind fun t938 => (if t938 < 0 then (some false) else (if t938 = bt936.1 then ((laws_toSemigroup.f k x895000).bind fun t939 => ((laws_toSemigroup.f k x896000).bind fun t942 => ((impl_MeetOf.f k t939 t942).bind fun bt945 => ((laws_eqSemigroup.f k bt945.1 x909000).bind fun t950 => (if t950 = true then (laws_FnExactMeetOf.j2 k bt936.1 (bt945.2 != x7) bt936.2) else (laws_FnExactMeetOf.j2 k bt936.1 true bt936.2)))))) else (some false)))))
def laws_FnExactMeetOf.j2 : Nat → Int → Bool → List Int → Option (Bool)
 | 0, _, _, _ => none
 | k + 1, x13, x110, x922000 => if x110 = true then (some false) else ((laws_heldSemigroup.f k x922000 1).bind fun t951 => (if t951 < 0 then (some false) else (if t951 = x13 then (some true) else (some false))))
end
def laws_FnExactMeetOf.f (k : Nat) (l0_0 : List Int) (l1_0 : List Int) : Option (Bool) := (laws_szSemigroup.f l0_0 1048576).bind fun t896 => (if t896 < 0 then (some true) else ((laws_szSemigroup.f l1_0 t896).bind fun t897 => (if t897 < 0 then (some true) else ((laws_toSemigroup.f k l0_0).bind fun t898 => ((laws_toSemigroup.f k l1_0).bind fun t901 => ((spec_MeetOf.f k t898 t901).bind fun bt904 => ((laws_toSemigroup.f k l0_0).bind fun t909 => ((laws_toSemigroup.f k l1_0).bind fun t913 => ((impl_MeetOf.f k t909 t913).bind fun bt917 => ((laws_eqSemigroup.f k bt917.1 bt904.1).bind fun t922 => (if t922 = true then (laws_FnExactMeetOf.j0 k bt904.2 bt917.2 (bt917.2 != bt904.2) l0_0 l1_0 bt904.1 t909 t913 bt917.1) else (laws_FnExactMeetOf.j0 k bt904.2 bt917.2 true l0_0 l1_0 bt904.1 t909 t913 bt917.1))))))))))))
def laws_FnExactMeetOf.T8 : Bool × List (List Nat × List Nat) := (true, [([], []), ([0], [0]), ([], []), ([2, 1], [2]), ([1, 3, 3], [1, 3]), ([4], [4]), ([5], [5]), ([5], [5]), ([], []), ([8, 6, 4, 0, 1, 2, 3, 4, 5, 6, 8], [6, 8]), ([7, 9, 0, 1, 2, 3, 4, 5, 6, 7, 8, 9], [7])])
def laws_FnExactMeetOf.B8 : List Nat := [0, 1, 0, 7, 15, 31, 63, 63, 0, 383, 1023]
theorem laws_FnExactMeetOf.tab8 : rtab .any (opsOf Try.f14 8) = laws_FnExactMeetOf.T8 := by kernel_rfl
theorem laws_FnExactMeetOf.bits8 : waitsOk laws_FnExactMeetOf.T8.2 laws_FnExactMeetOf.B8 = true := by kernel_rfl
def laws_FnExactMeetOf.T31 : Bool × List (List Nat × List Nat) := (true, [([], []), ([0], [0]), ([], []), ([2, 1], [2]), ([1, 3, 3], [1, 3]), ([4], [4]), ([5], [5]), ([5], [5]), ([], []), ([8, 6, 4, 0, 1, 2, 3, 4, 5, 6, 8], [6, 8]), ([7, 9, 0, 1, 2, 3, 4, 5, 6, 7, 8, 9], [7])])
def laws_FnExactMeetOf.B31 : List Nat := [0, 1, 0, 7, 15, 31, 63, 63, 0, 383, 1023]
theorem laws_FnExactMeetOf.tab31 : rtab .any (opsOf Try.f14 31) = laws_FnExactMeetOf.T31 := by kernel_rfl
theorem laws_FnExactMeetOf.bits31 : waitsOk laws_FnExactMeetOf.T31.2 laws_FnExactMeetOf.B31 = true := by kernel_rfl
set_option maxHeartbeats 8000000 in
set_option maxRecDepth 100000 in
theorem laws_FnExactMeetOf.calls (k : Nat) (A0_0 : Option Addr) (c0_0 : Nat) (l0_0 : List Int) (A1_0 : Option Addr) (c1_0 : Nat) (l1_0 : List Int) (w : World) (hr0_0 : Kd.C (Kd.int .i64) w A0_0 l0_0.length l0_0) (hc0_0 : l0_0.length ≤ c0_0) (hr1_0 : Kd.C (Kd.int .i64) w A1_0 l1_0.length l1_0) (hc1_0 : l1_0.length ≤ c1_0) (h : laws_FnExactMeetOf.f k l0_0 l1_0 = some true) :
  Calls Try.prog 14 #[.agg #[.slice A0_0 l0_0.length c0_0], .agg #[.slice A1_0 l1_0.length c1_0]] w fun e w' => e = .returned (.bool true) ∧ Below w.heap.size w w' := by
 have hu24 := Try.underlying24
 have hu27 := Try.underlying27
 have HR0_0 := Aside0.mk hr0_0
 have HC0_0 := Aside0.mk hc0_0
 clear hr0_0 hc0_0
 have HR1_0 := Aside0.mk hr1_0
 have HC1_0 := Aside0.mk hc1_0
 clear hr1_0 hc1_0
 have HB := Aside0.mk (Below.refl w.heap.size w)
 have H : ((laws_szSemigroup.f l0_0 1048576).bind fun t896 => (if t896 < 0 then (some true) else ((laws_szSemigroup.f l1_0 t896).bind fun t897 => (if t897 < 0 then (some true) else ((laws_toSemigroup.f k l0_0).bind fun t898 => ((laws_toSemigroup.f k l1_0).bind fun t901 => ((spec_MeetOf.f k t898 t901).bind fun bt904 => ((laws_toSemigroup.f k l0_0).bind fun t909 => ((laws_toSemigroup.f k l1_0).bind fun t913 => ((impl_MeetOf.f k t909 t913).bind fun bt917 => ((laws_eqSemigroup.f k bt917.1 bt904.1).bind fun t922 => (if t922 = true then (laws_FnExactMeetOf.j0 k bt904.2 bt917.2 (bt917.2 != bt904.2) l0_0 l1_0 bt904.1 t909 t913 bt917.1) else (laws_FnExactMeetOf.j0 k bt904.2 bt917.2 true l0_0 l1_0 bt904.1 t909 t913 bt917.1))))))))))))) = some true := h
 clear h
 replace H := ga H; obtain ⟨t896, A3, H⟩ := H
 replace H := gi H; obtain ⟨c4b0, H⟩ | ⟨c4b0, H⟩ := H
 ·skip
  go_enter Try.func14, Try.ntmps14
  go_wp2_with (first | ((with_reducible refine gate_dst (N := 2) rfl ?_); refine bx 2 #[.slice A0_0 l0_0.length c0_0] 24 ?_; intro gb894 hg w5 hbox hb; have BK894 := Aside0.mk (hbox); have GW894 := Aside0.mk (gs hg : w.heap.size ≤ gb894); have GE894 := Aside0.mk (gs hg : w.heap.size ≤ gb894); replace HB := Aside0.mk (below_step bw hb); clear hb hbox hg) | ((with_reducible refine gate_dst (N := 3) rfl ?_); refine bx 3 #[.slice A1_0 l1_0.length c1_0] 24 ?_; intro gb895 hg w6 hbox hb; have BK895 := Aside0.mk (hbox); have GW895 := Aside0.mk (gs hg : w.heap.size ≤ gb895); have GE895 := Aside0.mk (gs hg : w.heap.size ≤ gb895); replace HB := Aside0.mk (below_step bw hb); have NB894_895 := Aside0.mk ((by rw [hg]; exact Nat.ne_of_lt (blk_lt (g := gb894) (o := .cells #[.slice A0_0 l0_0.length c0_0] 24 (0, 0)) (bo BK894.out)) : gb894 ≠ gb895)); have NB895_894 := Aside0.mk ((by rw [hg]; exact Nat.ne_of_gt (blk_lt (g := gb894) (o := .cells #[.slice A0_0 l0_0.length c0_0] 24 (0, 0)) (bo BK894.out)) : gb895 ≠ gb894)); replace BK894 := Aside0.mk (blk_below (g := gb894) (o := .cells #[.slice A0_0 l0_0.length c0_0] 24 (0, 0)) (bo BK894.out) hb); clear hb hbox hg; have hnb7 := NB894_895.out; have hnc7 := NB895_894.out; have hcz8_0 := bc BK894 0 (.slice A0_0 l0_0.length c0_0); have hfz8_0 := blk_frozen BK894.out 0) | ((with_reducible refine gate_callee (f := 15) rfl ?_); refine gl (some 19) Try.func15 #[.agg #[.slice A0_0 l0_0.length c0_0], .int .i64 1048576] ?_; (with_reducible refine (laws_szSemigroup.calls _ _ l0_0 1048576 t896 _ ?side1 ?side2 A3.out).mono ?_); (case side1 => exact co (Kd.C_below HR0_0.out HB.out)); (case side2 => exact HC0_0.out); rintro e w9 ⟨rfl, hb⟩; refine ⟨_, rfl, ?_⟩; replace BK894 := Aside0.mk (blk_below (g := gb894) (o := .cells #[.slice A0_0 l0_0.length c0_0] 24 (0, 0)) (bo BK894.out) hb); replace BK895 := Aside0.mk (blk_below (g := gb895) (o := .cells #[.slice A1_0 l1_0.length c1_0] 24 (0, 0)) (bo BK895.out) hb); replace HB := Aside0.mk (below_step bw hb); clear hb))
  go_ret
  exact ⟨re, bw⟩
 ·replace H := ga H; obtain ⟨t897, A10, H⟩ := H
  replace H := gi H; obtain ⟨c11b0, H⟩ | ⟨c11b0, H⟩ := H
  ·skip
   go_enter Try.func14, Try.ntmps14
   go_wp2_with (first | ((with_reducible refine gate_dst (N := 2) rfl ?_); refine bx 2 #[.slice A0_0 l0_0.length c0_0] 24 ?_; intro gb894 hg w12 hbox hb; have BK894 := Aside0.mk (hbox); have GW894 := Aside0.mk (gs hg : w.heap.size ≤ gb894); have GE894 := Aside0.mk (gs hg : w.heap.size ≤ gb894); replace HB := Aside0.mk (below_step bw hb); clear hb hbox hg) | ((with_reducible refine gate_dst (N := 3) rfl ?_); refine bx 3 #[.slice A1_0 l1_0.length c1_0] 24 ?_; intro gb895 hg w13 hbox hb; have BK895 := Aside0.mk (hbox); have GW895 := Aside0.mk (gs hg : w.heap.size ≤ gb895); have GE895 := Aside0.mk (gs hg : w.heap.size ≤ gb895); replace HB := Aside0.mk (below_step bw hb); have NB894_895 := Aside0.mk ((by rw [hg]; exact Nat.ne_of_lt (blk_lt (g := gb894) (o := .cells #[.slice A0_0 l0_0.length c0_0] 24 (0, 0)) (bo BK894.out)) : gb894 ≠ gb895)); have NB895_894 := Aside0.mk ((by rw [hg]; exact Nat.ne_of_gt (blk_lt (g := gb894) (o := .cells #[.slice A0_0 l0_0.length c0_0] 24 (0, 0)) (bo BK894.out)) : gb895 ≠ gb894)); replace BK894 := Aside0.mk (blk_below (g := gb894) (o := .cells #[.slice A0_0 l0_0.length c0_0] 24 (0, 0)) (bo BK894.out) hb); clear hb hbox hg; have hnb14 := NB894_895.out; have hnc14 := NB895_894.out; have hcz15_0 := bc BK894 0 (.slice A0_0 l0_0.length c0_0); have hfz15_0 := blk_frozen BK894.out 0) | ((with_reducible refine gate_callee (f := 15) rfl ?_); refine gl (some 19) Try.func15 #[.agg #[.slice A0_0 l0_0.length c0_0], .int .i64 1048576] ?_; (with_reducible refine (laws_szSemigroup.calls _ _ l0_0 1048576 t896 _ ?side1 ?side2 A3.out).mono ?_); (case side1 => exact co (Kd.C_below HR0_0.out HB.out)); (case side2 => exact HC0_0.out); rintro e w16 ⟨rfl, hb⟩; refine ⟨_, rfl, ?_⟩; replace BK894 := Aside0.mk (blk_below (g := gb894) (o := .cells #[.slice A0_0 l0_0.length c0_0] 24 (0, 0)) (bo BK894.out) hb); replace BK895 := Aside0.mk (blk_below (g := gb895) (o := .cells #[.slice A1_0 l1_0.length c1_0] 24 (0, 0)) (bo BK895.out) hb); replace HB := Aside0.mk (below_step bw hb); clear hb; have hcz17_0 := bc BK895 0 (.slice A1_0 l1_0.length c1_0); have hfz17_0 := blk_frozen BK895.out 0) | ((with_reducible refine gate_callee (f := 15) rfl ?_); refine gl (some 24) Try.func15 #[.agg #[.slice A1_0 l1_0.length c1_0], .int .i64 t896] ?_; (with_reducible refine (laws_szSemigroup.calls _ _ l1_0 t896 t897 _ ?side1 ?side2 A10.out).mono ?_); (case side1 => exact co (Kd.C_below HR1_0.out HB.out)); (case side2 => exact HC1_0.out); rintro e w18 ⟨rfl, hb⟩; refine ⟨_, rfl, ?_⟩; replace BK894 := Aside0.mk (blk_below (g := gb894) (o := .cells #[.slice A0_0 l0_0.length c0_0] 24 (0, 0)) (bo BK894.out) hb); replace BK895 := Aside0.mk (blk_below (g := gb895) (o := .cells #[.slice A1_0 l1_0.length c1_0] 24 (0, 0)) (bo BK895.out) hb); replace HB := Aside0.mk (below_step bw hb); clear hb))
   go_ret
   exact ⟨re, bw⟩
  ·replace H := ga H; obtain ⟨t898, A19, H⟩ := H
   replace H := ga H; obtain ⟨t901, A20, H⟩ := H
   replace H := ga H; obtain ⟨⟨t904, t907⟩, A21, H⟩ := H
   replace H : ((laws_toSemigroup.f k l0_0).bind fun t909 => ((laws_toSemigroup.f k l1_0).bind fun t913 => ((impl_MeetOf.f k t909 t913).bind fun bt917 => ((laws_eqSemigroup.f k bt917.1 t904).bind fun t922 => (if t922 = true then (laws_FnExactMeetOf.j0 k t907 bt917.2 (bt917.2 != t907) l0_0 l1_0 t904 t909 t913 bt917.1) else (laws_FnExactMeetOf.j0 k t907 bt917.2 true l0_0 l1_0 t904 t909 t913 bt917.1)))))) = some true := H
   replace H := ga H; obtain ⟨t909, A22, H⟩ := H
   replace H := ga H; obtain ⟨t913, A23, H⟩ := H
   replace H := ga H; obtain ⟨⟨t917, t920⟩, A24, H⟩ := H
   replace H : ((laws_eqSemigroup.f k t917 t904).bind fun t922 => (if t922 = true then (laws_FnExactMeetOf.j0 k t907 t920 (t920 != t907) l0_0 l1_0 t904 t909 t913 t917) else (laws_FnExactMeetOf.j0 k t907 t920 true l0_0 l1_0 t904 t909 t913 t917))) = some true := H
   have HC25 := Aside0.mk H
   clear H
   go_enter Try.func14, Try.ntmps14
   try go_wp2_with (first | ((with_reducible refine gate_dst (N := 2) rfl ?_); refine bx 2 #[.slice A0_0 l0_0.length c0_0] 24 ?_; intro gb894 hg w26 hbox hb; have BK894 := Aside0.mk (hbox); have GW894 := Aside0.mk (gs hg : w.heap.size ≤ gb894); have GE894 := Aside0.mk (gs hg : w.heap.size ≤ gb894); replace HB := Aside0.mk (below_step bw hb); clear hb hbox hg) | ((with_reducible refine gate_dst (N := 3) rfl ?_); refine bx 3 #[.slice A1_0 l1_0.length c1_0] 24 ?_; intro gb895 hg w27 hbox hb; have BK895 := Aside0.mk (hbox); have GW895 := Aside0.mk (gs hg : w.heap.size ≤ gb895); have GE895 := Aside0.mk (gs hg : w.heap.size ≤ gb895); replace HB := Aside0.mk (below_step bw hb); have NB894_895 := Aside0.mk ((by rw [hg]; exact Nat.ne_of_lt (blk_lt (g := gb894) (o := .cells #[.slice A0_0 l0_0.length c0_0] 24 (0, 0)) (bo BK894.out)) : gb894 ≠ gb895)); have NB895_894 := Aside0.mk ((by rw [hg]; exact Nat.ne_of_gt (blk_lt (g := gb894) (o := .cells #[.slice A0_0 l0_0.length c0_0] 24 (0, 0)) (bo BK894.out)) : gb895 ≠ gb894)); replace BK894 := Aside0.mk (blk_below (g := gb894) (o := .cells #[.slice A0_0 l0_0.length c0_0] 24 (0, 0)) (bo BK894.out) hb); clear hb hbox hg; have hnb28 := NB894_895.out; have hnc28 := NB895_894.out; have hcz29_0 := bc BK894 0 (.slice A0_0 l0_0.length c0_0); have hfz29_0 := blk_frozen BK894.out 0) | ((with_reducible refine gate_callee (f := 15) rfl ?_); refine gl (some 19) Try.func15 #[.agg #[.slice A0_0 l0_0.length c0_0], .int .i64 1048576] ?_; (with_reducible refine (laws_szSemigroup.calls _ _ l0_0 1048576 t896 _ ?side1 ?side2 A3.out).mono ?_); (case side1 => exact co (Kd.C_below HR0_0.out HB.out)); (case side2 => exact HC0_0.out); rintro e w30 ⟨rfl, hb⟩; refine ⟨_, rfl, ?_⟩; replace BK894 := Aside0.mk (blk_below (g := gb894) (o := .cells #[.slice A0_0 l0_0.length c0_0] 24 (0, 0)) (bo BK894.out) hb); replace BK895 := Aside0.mk (blk_below (g := gb895) (o := .cells #[.slice A1_0 l1_0.length c1_0] 24 (0, 0)) (bo BK895.out) hb); replace HB := Aside0.mk (below_step bw hb); clear hb; have hcz31_0 := bc BK895 0 (.slice A1_0 l1_0.length c1_0); have hfz31_0 := blk_frozen BK895.out 0) | ((with_reducible refine gate_callee (f := 15) rfl ?_); refine gl (some 24) Try.func15 #[.agg #[.slice A1_0 l1_0.length c1_0], .int .i64 t896] ?_; (with_reducible refine (laws_szSemigroup.calls _ _ l1_0 t896 t897 _ ?side1 ?side2 A10.out).mono ?_); (case side1 => exact co (Kd.C_below HR1_0.out HB.out)); (case side2 => exact HC1_0.out); rintro e w32 ⟨rfl, hb⟩; refine ⟨_, rfl, ?_⟩; replace BK894 := Aside0.mk (blk_below (g := gb894) (o := .cells #[.slice A0_0 l0_0.length c0_0] 24 (0, 0)) (bo BK894.out) hb); replace BK895 := Aside0.mk (blk_below (g := gb895) (o := .cells #[.slice A1_0 l1_0.length c1_0] 24 (0, 0)) (bo BK895.out) hb); replace HB := Aside0.mk (below_step bw hb); clear hb))
   replace BK894 := Aside0.mk (blk_drew BK894.out)
   replace BK895 := Aside0.mk (blk_drew BK895.out)
   replace HB := Aside0.mk (below_drew1 HB.out)
   refine start_ (n := 11) (S := fun w' => w'.cell? ⟨gb894, 0, none⟩ = some (.slice A0_0 l0_0.length c0_0) ∧ w'.cell? ⟨gb895, 0, none⟩ = some (.slice A1_0 l1_0.length c1_0)) (ds := []) #[Z,Z,Z,Z,Z,Z,Z,Z,Z,Z,Z] (by kernel_rfl) rfl rfl ⟨(blk_cell BK894.out 0).trans rfl, (blk_cell BK895.out 0).trans rfl⟩ (fun hHeld => ?_); refine with_tabW laws_FnExactMeetOf.tab8 laws_FnExactMeetOf.bits8 (fun HT_ HW_ => ?_)
   generalize w32.drew = w33 at BK894 BK895 HB hHeld ⊢
   refine take_ (i := 0) (N := some 28) (v := ?_) (a' := ?_) #[Y,Z,Z,Z,Z,Z,Z,Z,Z,Z,Z] rfl rfl (take_ofW HT_.out HW_.out (by kernel_rfl)) (fun _ _ _ h => h) (Or.inl ⟨by rfl, ?_⟩) hHeld ?_ ?_
   rotate_left
   ·rintro w' ⟨s0, s1⟩
    go_simp
    with_reducible rfl
   rotate_left
   ·simp only [Act.put, qa, qb, qc, i64_w, i32_w]
    rfl
   refine take_ (i := 2) (N := some 30) (v := ?_) (a' := ?_) #[Y,Z,Y,Z,Z,Z,Z,Z,Z,Z,Z] rfl rfl (take_ofW HT_.out HW_.out (by kernel_rfl)) (fun _ _ _ h => h) (Or.inl ⟨by rfl, ?_⟩) hHeld ?_ ?_
   rotate_left
   ·rintro w' ⟨s0, s1⟩
    go_simp
    with_reducible rfl
   rotate_left
   ·simp only [Act.put, qa, qb, qc, i64_w, i32_w]
    rfl
   refine join_ (σ := Value × Value × Value × Nat) 2 #[Y,Y,Y,Y,Y,Y,Y,Y,Y,Z,Z] (fun s_ => [(29, .agg #[s_.1]), (31, .agg #[s_.2.1]), (32, .tuple #[.agg #[s_.2.2.1], .bool t907]), (6, .pointer (some ⟨s_.2.2.2, 0, none⟩)), (27, .tuple #[.agg #[s_.2.2.1], .bool t907]), (33, .agg #[s_.2.2.1]), (34, .bool t907)]) (fun s_ w' => (w'.cell? ⟨gb894, 0, none⟩ = some (.slice A0_0 l0_0.length c0_0) ∧ w'.cell? ⟨gb895, 0, none⟩ = some (.slice A1_0 l1_0.length c1_0)) ∧ (Kd.R (Kd.int .i64) 3 w' w.heap.size (fun k_ => some k_ ≠ (s_.2.1 : Value).ownBlock ∧ some k_ ≠ (s_.2.2.1 : Value).ownBlock) s_.1 t898) ∧ (Kd.R (Kd.int .i64) 3 w' w.heap.size (fun k_ => some k_ ≠ (s_.1 : Value).ownBlock ∧ some k_ ≠ (s_.2.2.1 : Value).ownBlock) s_.2.1 t901) ∧ (Kd.R (Kd.int .i64) 3 w' w.heap.size (fun k_ => some k_ ≠ (s_.1 : Value).ownBlock ∧ some k_ ≠ (s_.2.1 : Value).ownBlock) s_.2.2.1 t904) ∧ (w'.heap[gb894]? = some (.cells #[.slice A0_0 l0_0.length c0_0] 24 (0, 0))) ∧ (w'.heap[gb895]? = some (.cells #[.slice A1_0 l1_0.length c1_0] 24 (0, 0))) ∧ (w'.heap[s_.2.2.2]? = some (.cells #[.slice none 0 0] 27 (0, 0))) ∧ (w.heap.size ≤ s_.2.2.2) ∧ (w.heap.size ≤ s_.2.2.2) ∧ (gb894 ≠ s_.2.2.2) ∧ (s_.2.2.2 ≠ gb894) ∧ (gb895 ≠ s_.2.2.2) ∧ (s_.2.2.2 ≠ gb895) ∧ (Below w.heap.size w w')) ?_ ?_
   rotate_left
   ·intro hCont
    refine two_ (i := 1) (j := 8) (Ni := some 29) (Nj := some 6) #[Y,Y,Y,Z,Z,Z,Z,Z,Z,Z,Z] #[Y,Z,Y,Z,Z,Z,Z,Z,Y,Z,Z] rfl rfl rfl rfl (two_of HT_.out (by kernel_rfl)) (by decide) (by decide) (fun K hK => ?_) (fun K hK => ?_)
    ·skip
     refine gm Try.func17 #[.agg #[.slice A0_0 l0_0.length c0_0]] ?_
     with_reducible refine (laws_toSemigroup.calls k _ _ l0_0 t898 _ ?side1 ?side2 A19.out).mono ?_
     (case side1 => exact co (Kd.C_below HR0_0.out HB.out))
     (case side2 => exact HC0_0.out)
     rintro e w34 ⟨v899, rfl, ho0, hb⟩
     refine ⟨_, rfl, ?_⟩
     have HO900 := Aside0.mk (Kd.R_lower ho0 (below_size bw))
     replace BK894 := Aside0.mk (blk_below (g := gb894) (o := .cells #[.slice A0_0 l0_0.length c0_0] 24 (0, 0)) (bo BK894.out) hb)
     replace BK895 := Aside0.mk (blk_below (g := gb895) (o := .cells #[.slice A1_0 l1_0.length c1_0] 24 (0, 0)) (bo BK895.out) hb)
     replace HB := Aside0.mk (below_step bw hb)
     clear hb ho0
     refine hK.out _ _ ⟨(blk_cell BK894.out 0).trans rfl, (blk_cell BK895.out 0).trans rfl⟩ (fun hHeld => ?_)
     clear hK K
     refine norm_ (a' := ?_) ?_ ?_
     rotate_left
     ·show Act.put _ (some 29) _ = _
      simp only [Act.put, qa, qb, qc, i64_w, i32_w]
      rfl
     refine two_ (i := 3) (j := 8) (Ni := some 31) (Nj := some 6) #[Y,Y,Y,Y,Z,Z,Z,Z,Z,Z,Z] #[Y,Y,Y,Z,Z,Z,Z,Z,Y,Z,Z] rfl rfl rfl rfl (two_of HT_.out (by kernel_rfl)) (by decide) (by decide) (fun K hK => ?_) (fun K hK => ?_)
     ·skip
      refine gm Try.func17 #[.agg #[.slice A1_0 l1_0.length c1_0]] ?_
      with_reducible refine (laws_toSemigroup.calls k _ _ l1_0 t901 _ ?side1 ?side2 A20.out).mono ?_
      (case side1 => exact co (Kd.C_below HR1_0.out HB.out))
      (case side2 => exact HC1_0.out)
      rintro e w35 ⟨v902, rfl, ho0, hb⟩
      refine ⟨_, rfl, ?_⟩
      have HO903 := Aside0.mk (Kd.R_lower (Kd.R_new' ho0 (Kd.R_lt (ro HO900.out))) (below_size bw))
      replace HO900 := Aside0.mk (Kd.R_elder' (ro HO900.out) (Kd.R_base ho0) hb)
      replace BK894 := Aside0.mk (blk_below (g := gb894) (o := .cells #[.slice A0_0 l0_0.length c0_0] 24 (0, 0)) (bo BK894.out) hb)
      replace BK895 := Aside0.mk (blk_below (g := gb895) (o := .cells #[.slice A1_0 l1_0.length c1_0] 24 (0, 0)) (bo BK895.out) hb)
      replace HB := Aside0.mk (below_step bw hb)
      clear hb ho0
      obtain ⟨Ao36, co36, eo36⟩ := Kd.R_slice HO900.out
      (first | subst eo36 | (injection eo36 with f1_ f2_ f3_; have f4_ := f1_.symm; have f5_ := f3_.symm; clear f1_ f2_ f3_; subst f4_; subst f5_))
      obtain ⟨Ao37, co37, eo37⟩ := Kd.R_slice HO903.out
      (first | subst eo37 | (injection eo37 with f1_ f2_ f3_; have f4_ := f1_.symm; have f5_ := f3_.symm; clear f1_ f2_ f3_; subst f4_; subst f5_))
      refine hK.out _ _ ⟨(blk_cell BK894.out 0).trans rfl, (blk_cell BK895.out 0).trans rfl⟩ (fun hHeld => ?_)
      clear hK K
      refine norm_ (a' := ?_) ?_ ?_
      rotate_left
      ·show Act.put _ (some 31) _ = _
       simp only [Act.put, qa, qb, qc, i64_w, i32_w]
       rfl
      refine two_ (i := 4) (j := 8) (Ni := some 32) (Nj := some 6) #[Y,Y,Y,Y,Y,Z,Z,Z,Z,Z,Z] #[Y,Y,Y,Y,Z,Z,Z,Z,Y,Z,Z] rfl rfl rfl rfl (two_of HT_.out (by kernel_rfl)) (by decide) (by decide) (fun K hK => ?_) (fun K hK => ?_)
      ·skip
       refine gm Try.func45 #[.agg #[.slice Ao36 t898.length co36], .agg #[.slice Ao37 t901.length co37]] ?_
       with_reducible refine (spec_MeetOf.calls k _ _ t898 _ _ t901 t904 t907 _ ?side1 ?side2 ?side3 ?side4 A21.out).mono ?_
       (case side1 => exact co (Kd.R_reads' HO900.out).2.2)
       (case side2 => exact (Kd.R_reads' HO900.out).2.1)
       (case side3 => exact co (Kd.R_reads' HO903.out).2.2)
       (case side4 => exact (Kd.R_reads' HO903.out).2.1)
       rintro e w38 ⟨v905, rfl, ho0, hb⟩
       refine ⟨_, rfl, ?_⟩
       have HO906 := Aside0.mk (Kd.R_lower (Kd.R_new' (Kd.R_new' ho0 (Kd.R_lt (ro HO900.out))) (Kd.R_lt (ro HO903.out))) (below_size bw))
       replace HO900 := Aside0.mk (Kd.R_elder' (ro HO900.out) (Kd.R_base ho0) hb)
       replace HO903 := Aside0.mk (Kd.R_elder' (ro HO903.out) (Kd.R_base ho0) hb)
       replace BK894 := Aside0.mk (blk_below (g := gb894) (o := .cells #[.slice A0_0 l0_0.length c0_0] 24 (0, 0)) (bo BK894.out) hb)
       replace BK895 := Aside0.mk (blk_below (g := gb895) (o := .cells #[.slice A1_0 l1_0.length c1_0] 24 (0, 0)) (bo BK895.out) hb)
       replace HB := Aside0.mk (below_step bw hb)
       clear hb ho0
       refine hK.out _ _ ⟨(blk_cell BK894.out 0).trans rfl, (blk_cell BK895.out 0).trans rfl⟩ (fun hHeld => ?_)
       clear hK K
       refine norm_ (a' := ?_) ?_ ?_
       rotate_left
       ·show Act.put _ (some 32) _ = _
        simp only [Act.put, qa, qb, qc, i64_w, i32_w]
        rfl
       refine pa 5 (some 27) #[Y,Y,Y,Y,Y,Y,Z,Z,Z,Z,Z] HT_ ?_
       refine pa 6 (some 33) #[Y,Y,Y,Y,Y,Y,Y,Z,Z,Z,Z] HT_ ?_
       refine pa 7 (some 34) #[Y,Y,Y,Y,Y,Y,Y,Y,Z,Z,Z] HT_ ?_
       refine oa 8 (some 6) #[Y,Y,Y,Y,Y,Y,Y,Y,Y,Z,Z] HT_ (fun K hK => ?_)
       refine box_step ?hg (N := 6) ?hd (cs := #[.slice none 0 0]) (t := 27) ?hr ?_; (case hd => rfl); (case hg => rfl); (case hr => first | (go_simp; done) | (go_simp; rfl))
       intro gb908 hg w39 hbox hb
       replace HO900 := Aside0.mk (Kd.R_below (ro HO900.out) hb)
       replace HO903 := Aside0.mk (Kd.R_below (ro HO903.out) hb)
       replace HO906 := Aside0.mk (Kd.R_below (ro HO906.out) hb)
       have BK908 := Aside0.mk (hbox)
       have GW908 := Aside0.mk (gs hg : w.heap.size ≤ gb908)
       have GE908 := Aside0.mk (gs hg : w.heap.size ≤ gb908)
       replace HB := Aside0.mk (below_step bw hb)
       have NB894_908 := Aside0.mk ((by rw [hg]; exact Nat.ne_of_lt (blk_lt (g := gb894) (o := .cells #[.slice A0_0 l0_0.length c0_0] 24 (0, 0)) (bo BK894.out)) : gb894 ≠ gb908))
       have NB908_894 := Aside0.mk ((by rw [hg]; exact Nat.ne_of_gt (blk_lt (g := gb894) (o := .cells #[.slice A0_0 l0_0.length c0_0] 24 (0, 0)) (bo BK894.out)) : gb908 ≠ gb894))
       replace BK894 := Aside0.mk (blk_below (g := gb894) (o := .cells #[.slice A0_0 l0_0.length c0_0] 24 (0, 0)) (bo BK894.out) hb)
       have NB895_908 := Aside0.mk ((by rw [hg]; exact Nat.ne_of_lt (blk_lt (g := gb895) (o := .cells #[.slice A1_0 l1_0.length c1_0] 24 (0, 0)) (bo BK895.out)) : gb895 ≠ gb908))
       have NB908_895 := Aside0.mk ((by rw [hg]; exact Nat.ne_of_gt (blk_lt (g := gb895) (o := .cells #[.slice A1_0 l1_0.length c1_0] 24 (0, 0)) (bo BK895.out)) : gb908 ≠ gb895))
       replace BK895 := Aside0.mk (blk_below (g := gb895) (o := .cells #[.slice A1_0 l1_0.length c1_0] 24 (0, 0)) (bo BK895.out) hb)
       clear hb hbox hg
       refine hK.out _ _ ⟨(blk_cell BK894.out 0).trans rfl, (blk_cell BK895.out 0).trans rfl⟩ (fun hHeld => ?_)
       clear hK K
       refine norm_ (a' := ?_) ?_ ?_
       rotate_left
       ·show Act.put _ (some 6) _ = _
        simp only [Act.put, qa, qb, qc, i64_w, i32_w]
        rfl
       exact norm_ (by simp only [putAll, Act.put, List.setIfInBounds_toArray, List.set_cons_zero, List.set_cons_succ]) (hCont (.slice Ao36 t898.length co36, .slice Ao37 t901.length co37, v905, gb908) _ ⟨hHeld, (by (with_reducible repeat (first | apply Kd.R_alloc | apply Kd.R_drewN | apply Kd.R_drew)); exact Kd.R_mono HO900.out (fun _ hk => by first | exact ⟨hk.1.2, hk.2⟩ | simp_all)), (by (with_reducible repeat (first | apply Kd.R_alloc | apply Kd.R_drewN | apply Kd.R_drew)); exact Kd.R_mono HO903.out (fun _ hk => by first | exact ⟨hk.1.2, hk.2⟩ | simp_all)), (by (with_reducible repeat (first | apply Kd.R_alloc | apply Kd.R_drewN | apply Kd.R_drew)); exact Kd.R_mono HO906.out (fun _ hk => by first | exact ⟨hk.1.2, hk.2⟩ | simp_all)), (bo BK894.out), (bo BK895.out), (bo BK908.out), GW908.out, GE908.out, NB894_908.out, NB908_894.out, NB895_908.out, NB908_895.out, bw⟩)
      ·skip
       refine box_step ?hg (N := 6) ?hd (cs := #[.slice none 0 0]) (t := 27) ?hr ?_; (case hd => rfl); (case hg => rfl); (case hr => first | (go_simp; done) | (go_simp; rfl))
       intro gb908 hg w36 hbox hb
       replace HO900 := Aside0.mk (Kd.R_below (ro HO900.out) hb)
       replace HO903 := Aside0.mk (Kd.R_below (ro HO903.out) hb)
       have BK908 := Aside0.mk (hbox)
       have GW908 := Aside0.mk (gs hg : w.heap.size ≤ gb908)
       have GE908 := Aside0.mk (gs hg : w.heap.size ≤ gb908)
       replace HB := Aside0.mk (below_step bw hb)
       have NB894_908 := Aside0.mk ((by rw [hg]; exact Nat.ne_of_lt (blk_lt (g := gb894) (o := .cells #[.slice A0_0 l0_0.length c0_0] 24 (0, 0)) (bo BK894.out)) : gb894 ≠ gb908))
       have NB908_894 := Aside0.mk ((by rw [hg]; exact Nat.ne_of_gt (blk_lt (g := gb894) (o := .cells #[.slice A0_0 l0_0.length c0_0] 24 (0, 0)) (bo BK894.out)) : gb908 ≠ gb894))
       replace BK894 := Aside0.mk (blk_below (g := gb894) (o := .cells #[.slice A0_0 l0_0.length c0_0] 24 (0, 0)) (bo BK894.out) hb)
       have NB895_908 := Aside0.mk ((by rw [hg]; exact Nat.ne_of_lt (blk_lt (g := gb895) (o := .cells #[.slice A1_0 l1_0.length c1_0] 24 (0, 0)) (bo BK895.out)) : gb895 ≠ gb908))
       have NB908_895 := Aside0.mk ((by rw [hg]; exact Nat.ne_of_gt (blk_lt (g := gb895) (o := .cells #[.slice A1_0 l1_0.length c1_0] 24 (0, 0)) (bo BK895.out)) : gb908 ≠ gb895))
       replace BK895 := Aside0.mk (blk_below (g := gb895) (o := .cells #[.slice A1_0 l1_0.length c1_0] 24 (0, 0)) (bo BK895.out) hb)
       clear hb hbox hg
       obtain ⟨Ao37, co37, eo37⟩ := Kd.R_slice HO900.out
       (first | subst eo37 | (injection eo37 with f1_ f2_ f3_; have f4_ := f1_.symm; have f5_ := f3_.symm; clear f1_ f2_ f3_; subst f4_; subst f5_))
       obtain ⟨Ao38, co38, eo38⟩ := Kd.R_slice HO903.out
       (first | subst eo38 | (injection eo38 with f1_ f2_ f3_; have f4_ := f1_.symm; have f5_ := f3_.symm; clear f1_ f2_ f3_; subst f4_; subst f5_))
       refine hK.out _ _ ⟨(blk_cell BK894.out 0).trans rfl, (blk_cell BK895.out 0).trans rfl⟩ (fun hHeld => ?_)
       clear hK K
       refine norm_ (a' := ?_) ?_ ?_
       rotate_left
       ·show Act.put _ (some 6) _ = _
        simp only [Act.put, qa, qb, qc, i64_w, i32_w]
        rfl
       refine oa 4 (some 32) #[Y,Y,Y,Y,Y,Z,Z,Z,Y,Z,Z] HT_ (fun K hK => ?_)
       refine gm Try.func45 #[.agg #[.slice Ao37 t898.length co37], .agg #[.slice Ao38 t901.length co38]] ?_
       with_reducible refine (spec_MeetOf.calls k _ _ t898 _ _ t901 t904 t907 _ ?side1 ?side2 ?side3 ?side4 A21.out).mono ?_
       (case side1 => exact co (Kd.R_reads' HO900.out).2.2)
       (case side2 => exact (Kd.R_reads' HO900.out).2.1)
       (case side3 => exact co (Kd.R_reads' HO903.out).2.2)
       (case side4 => exact (Kd.R_reads' HO903.out).2.1)
       rintro e w39 ⟨v905, rfl, ho0, hb⟩
       refine ⟨_, rfl, ?_⟩
       have HO906 := Aside0.mk (Kd.R_lower (Kd.R_new' (Kd.R_new' ho0 (Kd.R_lt (ro HO900.out))) (Kd.R_lt (ro HO903.out))) (below_size bw))
       replace HO900 := Aside0.mk (Kd.R_elder' (ro HO900.out) (Kd.R_base ho0) hb)
       replace HO903 := Aside0.mk (Kd.R_elder' (ro HO903.out) (Kd.R_base ho0) hb)
       replace BK894 := Aside0.mk (blk_below (g := gb894) (o := .cells #[.slice A0_0 l0_0.length c0_0] 24 (0, 0)) (bo BK894.out) hb)
       replace BK895 := Aside0.mk (blk_below (g := gb895) (o := .cells #[.slice A1_0 l1_0.length c1_0] 24 (0, 0)) (bo BK895.out) hb)
       replace BK908 := Aside0.mk (blk_below (g := gb908) (o := .cells #[.slice none 0 0] 27 (0, 0)) (bo BK908.out) hb)
       replace HB := Aside0.mk (below_step bw hb)
       clear hb ho0
       refine hK.out _ _ ⟨(blk_cell BK894.out 0).trans rfl, (blk_cell BK895.out 0).trans rfl⟩ (fun hHeld => ?_)
       clear hK K
       refine norm_ (a' := ?_) ?_ ?_
       rotate_left
       ·show Act.put _ (some 32) _ = _
        simp only [Act.put, qa, qb, qc, i64_w, i32_w]
        rfl
       refine pa 5 (some 27) #[Y,Y,Y,Y,Y,Y,Z,Z,Y,Z,Z] HT_ ?_
       refine pa 6 (some 33) #[Y,Y,Y,Y,Y,Y,Y,Z,Y,Z,Z] HT_ ?_
       refine pa 7 (some 34) #[Y,Y,Y,Y,Y,Y,Y,Y,Y,Z,Z] HT_ ?_
       exact norm_ (by simp only [putAll, Act.put, List.setIfInBounds_toArray, List.set_cons_zero, List.set_cons_succ]) (hCont (.slice Ao37 t898.length co37, .slice Ao38 t901.length co38, v905, gb908) _ ⟨hHeld, (by (with_reducible repeat (first | apply Kd.R_alloc | apply Kd.R_drewN | apply Kd.R_drew)); exact Kd.R_mono HO900.out (fun _ hk => by first | exact ⟨hk.1.2, hk.2⟩ | simp_all)), (by (with_reducible repeat (first | apply Kd.R_alloc | apply Kd.R_drewN | apply Kd.R_drew)); exact Kd.R_mono HO903.out (fun _ hk => by first | exact ⟨hk.1.2, hk.2⟩ | simp_all)), (by (with_reducible repeat (first | apply Kd.R_alloc | apply Kd.R_drewN | apply Kd.R_drew)); exact Kd.R_mono HO906.out (fun _ hk => by first | exact ⟨hk.1.2, hk.2⟩ | simp_all)), (bo BK894.out), (bo BK895.out), (bo BK908.out), GW908.out, GE908.out, NB894_908.out, NB908_894.out, NB895_908.out, NB908_895.out, bw⟩)
     ·skip
      refine box_step ?hg (N := 6) ?hd (cs := #[.slice none 0 0]) (t := 27) ?hr ?_; (case hd => rfl); (case hg => rfl); (case hr => first | (go_simp; done) | (go_simp; rfl))
      intro gb908 hg w35 hbox hb
      replace HO900 := Aside0.mk (Kd.R_below (ro HO900.out) hb)
      have BK908 := Aside0.mk (hbox)
      have GW908 := Aside0.mk (gs hg : w.heap.size ≤ gb908)
      have GE908 := Aside0.mk (gs hg : w.heap.size ≤ gb908)
      replace HB := Aside0.mk (below_step bw hb)
      have NB894_908 := Aside0.mk ((by rw [hg]; exact Nat.ne_of_lt (blk_lt (g := gb894) (o := .cells #[.slice A0_0 l0_0.length c0_0] 24 (0, 0)) (bo BK894.out)) : gb894 ≠ gb908))
      have NB908_894 := Aside0.mk ((by rw [hg]; exact Nat.ne_of_gt (blk_lt (g := gb894) (o := .cells #[.slice A0_0 l0_0.length c0_0] 24 (0, 0)) (bo BK894.out)) : gb908 ≠ gb894))
      replace BK894 := Aside0.mk (blk_below (g := gb894) (o := .cells #[.slice A0_0 l0_0.length c0_0] 24 (0, 0)) (bo BK894.out) hb)
      have NB895_908 := Aside0.mk ((by rw [hg]; exact Nat.ne_of_lt (blk_lt (g := gb895) (o := .cells #[.slice A1_0 l1_0.length c1_0] 24 (0, 0)) (bo BK895.out)) : gb895 ≠ gb908))
      have NB908_895 := Aside0.mk ((by rw [hg]; exact Nat.ne_of_gt (blk_lt (g := gb895) (o := .cells #[.slice A1_0 l1_0.length c1_0] 24 (0, 0)) (bo BK895.out)) : gb908 ≠ gb895))
      replace BK895 := Aside0.mk (blk_below (g := gb895) (o := .cells #[.slice A1_0 l1_0.length c1_0] 24 (0, 0)) (bo BK895.out) hb)
      clear hb hbox hg
      refine hK.out _ _ ⟨(blk_cell BK894.out 0).trans rfl, (blk_cell BK895.out 0).trans rfl⟩ (fun hHeld => ?_)
      clear hK K
      refine norm_ (a' := ?_) ?_ ?_
      rotate_left
      ·show Act.put _ (some 6) _ = _
       simp only [Act.put, qa, qb, qc, i64_w, i32_w]
       rfl
      refine oa 3 (some 31) #[Y,Y,Y,Y,Z,Z,Z,Z,Y,Z,Z] HT_ (fun K hK => ?_)
      refine gm Try.func17 #[.agg #[.slice A1_0 l1_0.length c1_0]] ?_
      with_reducible refine (laws_toSemigroup.calls k _ _ l1_0 t901 _ ?side1 ?side2 A20.out).mono ?_
      (case side1 => exact co (Kd.C_below HR1_0.out HB.out))
      (case side2 => exact HC1_0.out)
      rintro e w36 ⟨v902, rfl, ho0, hb⟩
      refine ⟨_, rfl, ?_⟩
      have HO903 := Aside0.mk (Kd.R_lower (Kd.R_new' ho0 (Kd.R_lt (ro HO900.out))) (below_size bw))
      replace HO900 := Aside0.mk (Kd.R_elder' (ro HO900.out) (Kd.R_base ho0) hb)
      replace BK894 := Aside0.mk (blk_below (g := gb894) (o := .cells #[.slice A0_0 l0_0.length c0_0] 24 (0, 0)) (bo BK894.out) hb)
      replace BK895 := Aside0.mk (blk_below (g := gb895) (o := .cells #[.slice A1_0 l1_0.length c1_0] 24 (0, 0)) (bo BK895.out) hb)
      replace BK908 := Aside0.mk (blk_below (g := gb908) (o := .cells #[.slice none 0 0] 27 (0, 0)) (bo BK908.out) hb)
      replace HB := Aside0.mk (below_step bw hb)
      clear hb ho0
      obtain ⟨Ao37, co37, eo37⟩ := Kd.R_slice HO900.out
      (first | subst eo37 | (injection eo37 with f1_ f2_ f3_; have f4_ := f1_.symm; have f5_ := f3_.symm; clear f1_ f2_ f3_; subst f4_; subst f5_))
      obtain ⟨Ao38, co38, eo38⟩ := Kd.R_slice HO903.out
      (first | subst eo38 | (injection eo38 with f1_ f2_ f3_; have f4_ := f1_.symm; have f5_ := f3_.symm; clear f1_ f2_ f3_; subst f4_; subst f5_))
      refine hK.out _ _ ⟨(blk_cell BK894.out 0).trans rfl, (blk_cell BK895.out 0).trans rfl⟩ (fun hHeld => ?_)
      clear hK K
      refine norm_ (a' := ?_) ?_ ?_
      rotate_left
      ·show Act.put _ (some 31) _ = _
       simp only [Act.put, qa, qb, qc, i64_w, i32_w]
       rfl
      refine oa 4 (some 32) #[Y,Y,Y,Y,Y,Z,Z,Z,Y,Z,Z] HT_ (fun K hK => ?_)
      refine gm Try.func45 #[.agg #[.slice Ao37 t898.length co37], .agg #[.slice Ao38 t901.length co38]] ?_
      with_reducible refine (spec_MeetOf.calls k _ _ t898 _ _ t901 t904 t907 _ ?side1 ?side2 ?side3 ?side4 A21.out).mono ?_
      (case side1 => exact co (Kd.R_reads' HO900.out).2.2)
      (case side2 => exact (Kd.R_reads' HO900.out).2.1)
      (case side3 => exact co (Kd.R_reads' HO903.out).2.2)
      (case side4 => exact (Kd.R_reads' HO903.out).2.1)
      rintro e w39 ⟨v905, rfl, ho0, hb⟩
      refine ⟨_, rfl, ?_⟩
      have HO906 := Aside0.mk (Kd.R_lower (Kd.R_new' (Kd.R_new' ho0 (Kd.R_lt (ro HO900.out))) (Kd.R_lt (ro HO903.out))) (below_size bw))
      replace HO900 := Aside0.mk (Kd.R_elder' (ro HO900.out) (Kd.R_base ho0) hb)
      replace HO903 := Aside0.mk (Kd.R_elder' (ro HO903.out) (Kd.R_base ho0) hb)
      replace BK894 := Aside0.mk (blk_below (g := gb894) (o := .cells #[.slice A0_0 l0_0.length c0_0] 24 (0, 0)) (bo BK894.out) hb)
      replace BK895 := Aside0.mk (blk_below (g := gb895) (o := .cells #[.slice A1_0 l1_0.length c1_0] 24 (0, 0)) (bo BK895.out) hb)
      replace BK908 := Aside0.mk (blk_below (g := gb908) (o := .cells #[.slice none 0 0] 27 (0, 0)) (bo BK908.out) hb)
      replace HB := Aside0.mk (below_step bw hb)
      clear hb ho0
      refine hK.out _ _ ⟨(blk_cell BK894.out 0).trans rfl, (blk_cell BK895.out 0).trans rfl⟩ (fun hHeld => ?_)
      clear hK K
      refine norm_ (a' := ?_) ?_ ?_
      rotate_left
      ·show Act.put _ (some 32) _ = _
       simp only [Act.put, qa, qb, qc, i64_w, i32_w]
       rfl
      refine pa 5 (some 27) #[Y,Y,Y,Y,Y,Y,Z,Z,Y,Z,Z] HT_ ?_
      refine pa 6 (some 33) #[Y,Y,Y,Y,Y,Y,Y,Z,Y,Z,Z] HT_ ?_
      refine pa 7 (some 34) #[Y,Y,Y,Y,Y,Y,Y,Y,Y,Z,Z] HT_ ?_
      exact norm_ (by simp only [putAll, Act.put, List.setIfInBounds_toArray, List.set_cons_zero, List.set_cons_succ]) (hCont (.slice Ao37 t898.length co37, .slice Ao38 t901.length co38, v905, gb908) _ ⟨hHeld, (by (with_reducible repeat (first | apply Kd.R_alloc | apply Kd.R_drewN | apply Kd.R_drew)); exact Kd.R_mono HO900.out (fun _ hk => by first | exact ⟨hk.1.2, hk.2⟩ | simp_all)), (by (with_reducible repeat (first | apply Kd.R_alloc | apply Kd.R_drewN | apply Kd.R_drew)); exact Kd.R_mono HO903.out (fun _ hk => by first | exact ⟨hk.1.2, hk.2⟩ | simp_all)), (by (with_reducible repeat (first | apply Kd.R_alloc | apply Kd.R_drewN | apply Kd.R_drew)); exact Kd.R_mono HO906.out (fun _ hk => by first | exact ⟨hk.1.2, hk.2⟩ | simp_all)), (bo BK894.out), (bo BK895.out), (bo BK908.out), GW908.out, GE908.out, NB894_908.out, NB908_894.out, NB895_908.out, NB908_895.out, bw⟩)
    ·skip
     refine box_step ?hg (N := 6) ?hd (cs := #[.slice none 0 0]) (t := 27) ?hr ?_; (case hd => rfl); (case hg => rfl); (case hr => first | (go_simp; done) | (go_simp; rfl))
     intro gb908 hg w34 hbox hb
     have BK908 := Aside0.mk (hbox)
     have GW908 := Aside0.mk (gs hg : w.heap.size ≤ gb908)
     have GE908 := Aside0.mk (gs hg : w.heap.size ≤ gb908)
     replace HB := Aside0.mk (below_step bw hb)
     have NB894_908 := Aside0.mk ((by rw [hg]; exact Nat.ne_of_lt (blk_lt (g := gb894) (o := .cells #[.slice A0_0 l0_0.length c0_0] 24 (0, 0)) (bo BK894.out)) : gb894 ≠ gb908))
     have NB908_894 := Aside0.mk ((by rw [hg]; exact Nat.ne_of_gt (blk_lt (g := gb894) (o := .cells #[.slice A0_0 l0_0.length c0_0] 24 (0, 0)) (bo BK894.out)) : gb908 ≠ gb894))
     replace BK894 := Aside0.mk (blk_below (g := gb894) (o := .cells #[.slice A0_0 l0_0.length c0_0] 24 (0, 0)) (bo BK894.out) hb)
     have NB895_908 := Aside0.mk ((by rw [hg]; exact Nat.ne_of_lt (blk_lt (g := gb895) (o := .cells #[.slice A1_0 l1_0.length c1_0] 24 (0, 0)) (bo BK895.out)) : gb895 ≠ gb908))
     have NB908_895 := Aside0.mk ((by rw [hg]; exact Nat.ne_of_gt (blk_lt (g := gb895) (o := .cells #[.slice A1_0 l1_0.length c1_0] 24 (0, 0)) (bo BK895.out)) : gb908 ≠ gb895))
     replace BK895 := Aside0.mk (blk_below (g := gb895) (o := .cells #[.slice A1_0 l1_0.length c1_0] 24 (0, 0)) (bo BK895.out) hb)
     clear hb hbox hg
     refine hK.out _ _ ⟨(blk_cell BK894.out 0).trans rfl, (blk_cell BK895.out 0).trans rfl⟩ (fun hHeld => ?_)
     clear hK K
     refine norm_ (a' := ?_) ?_ ?_
     rotate_left
     ·show Act.put _ (some 6) _ = _
      simp only [Act.put, qa, qb, qc, i64_w, i32_w]
      rfl
     refine oa 1 (some 29) #[Y,Y,Y,Z,Z,Z,Z,Z,Y,Z,Z] HT_ (fun K hK => ?_)
     refine gm Try.func17 #[.agg #[.slice A0_0 l0_0.length c0_0]] ?_
     with_reducible refine (laws_toSemigroup.calls k _ _ l0_0 t898 _ ?side1 ?side2 A19.out).mono ?_
     (case side1 => exact co (Kd.C_below HR0_0.out HB.out))
     (case side2 => exact HC0_0.out)
     rintro e w35 ⟨v899, rfl, ho0, hb⟩
     refine ⟨_, rfl, ?_⟩
     have HO900 := Aside0.mk (Kd.R_lower ho0 (below_size bw))
     replace BK894 := Aside0.mk (blk_below (g := gb894) (o := .cells #[.slice A0_0 l0_0.length c0_0] 24 (0, 0)) (bo BK894.out) hb)
     replace BK895 := Aside0.mk (blk_below (g := gb895) (o := .cells #[.slice A1_0 l1_0.length c1_0] 24 (0, 0)) (bo BK895.out) hb)
     replace BK908 := Aside0.mk (blk_below (g := gb908) (o := .cells #[.slice none 0 0] 27 (0, 0)) (bo BK908.out) hb)
     replace HB := Aside0.mk (below_step bw hb)
     clear hb ho0
     refine hK.out _ _ ⟨(blk_cell BK894.out 0).trans rfl, (blk_cell BK895.out 0).trans rfl⟩ (fun hHeld => ?_)
     clear hK K
     refine norm_ (a' := ?_) ?_ ?_
     rotate_left
     ·show Act.put _ (some 29) _ = _
      simp only [Act.put, qa, qb, qc, i64_w, i32_w]
      rfl
     refine oa 3 (some 31) #[Y,Y,Y,Y,Z,Z,Z,Z,Y,Z,Z] HT_ (fun K hK => ?_)
     refine gm Try.func17 #[.agg #[.slice A1_0 l1_0.length c1_0]] ?_
     with_reducible refine (laws_toSemigroup.calls k _ _ l1_0 t901 _ ?side1 ?side2 A20.out).mono ?_
     (case side1 => exact co (Kd.C_below HR1_0.out HB.out))
     (case side2 => exact HC1_0.out)
     rintro e w36 ⟨v902, rfl, ho0, hb⟩
     refine ⟨_, rfl, ?_⟩
     have HO903 := Aside0.mk (Kd.R_lower (Kd.R_new' ho0 (Kd.R_lt (ro HO900.out))) (below_size bw))
     replace HO900 := Aside0.mk (Kd.R_elder' (ro HO900.out) (Kd.R_base ho0) hb)
     replace BK894 := Aside0.mk (blk_below (g := gb894) (o := .cells #[.slice A0_0 l0_0.length c0_0] 24 (0, 0)) (bo BK894.out) hb)
     replace BK895 := Aside0.mk (blk_below (g := gb895) (o := .cells #[.slice A1_0 l1_0.length c1_0] 24 (0, 0)) (bo BK895.out) hb)
     replace BK908 := Aside0.mk (blk_below (g := gb908) (o := .cells #[.slice none 0 0] 27 (0, 0)) (bo BK908.out) hb)
     replace HB := Aside0.mk (below_step bw hb)
     clear hb ho0
     obtain ⟨Ao37, co37, eo37⟩ := Kd.R_slice HO900.out
     (first | subst eo37 | (injection eo37 with f1_ f2_ f3_; have f4_ := f1_.symm; have f5_ := f3_.symm; clear f1_ f2_ f3_; subst f4_; subst f5_))
     obtain ⟨Ao38, co38, eo38⟩ := Kd.R_slice HO903.out
     (first | subst eo38 | (injection eo38 with f1_ f2_ f3_; have f4_ := f1_.symm; have f5_ := f3_.symm; clear f1_ f2_ f3_; subst f4_; subst f5_))
     refine hK.out _ _ ⟨(blk_cell BK894.out 0).trans rfl, (blk_cell BK895.out 0).trans rfl⟩ (fun hHeld => ?_)
     clear hK K
     refine norm_ (a' := ?_) ?_ ?_
     rotate_left
     ·show Act.put _ (some 31) _ = _
      simp only [Act.put, qa, qb, qc, i64_w, i32_w]
      rfl
     refine oa 4 (some 32) #[Y,Y,Y,Y,Y,Z,Z,Z,Y,Z,Z] HT_ (fun K hK => ?_)
     refine gm Try.func45 #[.agg #[.slice Ao37 t898.length co37], .agg #[.slice Ao38 t901.length co38]] ?_
     with_reducible refine (spec_MeetOf.calls k _ _ t898 _ _ t901 t904 t907 _ ?side1 ?side2 ?side3 ?side4 A21.out).mono ?_
     (case side1 => exact co (Kd.R_reads' HO900.out).2.2)
     (case side2 => exact (Kd.R_reads' HO900.out).2.1)
     (case side3 => exact co (Kd.R_reads' HO903.out).2.2)
     (case side4 => exact (Kd.R_reads' HO903.out).2.1)
     rintro e w39 ⟨v905, rfl, ho0, hb⟩
     refine ⟨_, rfl, ?_⟩
     have HO906 := Aside0.mk (Kd.R_lower (Kd.R_new' (Kd.R_new' ho0 (Kd.R_lt (ro HO900.out))) (Kd.R_lt (ro HO903.out))) (below_size bw))
     replace HO900 := Aside0.mk (Kd.R_elder' (ro HO900.out) (Kd.R_base ho0) hb)
     replace HO903 := Aside0.mk (Kd.R_elder' (ro HO903.out) (Kd.R_base ho0) hb)
     replace BK894 := Aside0.mk (blk_below (g := gb894) (o := .cells #[.slice A0_0 l0_0.length c0_0] 24 (0, 0)) (bo BK894.out) hb)
     replace BK895 := Aside0.mk (blk_below (g := gb895) (o := .cells #[.slice A1_0 l1_0.length c1_0] 24 (0, 0)) (bo BK895.out) hb)
     replace BK908 := Aside0.mk (blk_below (g := gb908) (o := .cells #[.slice none 0 0] 27 (0, 0)) (bo BK908.out) hb)
     replace HB := Aside0.mk (below_step bw hb)
     clear hb ho0
     refine hK.out _ _ ⟨(blk_cell BK894.out 0).trans rfl, (blk_cell BK895.out 0).trans rfl⟩ (fun hHeld => ?_)
     clear hK K
     refine norm_ (a' := ?_) ?_ ?_
     rotate_left
     ·show Act.put _ (some 32) _ = _
      simp only [Act.put, qa, qb, qc, i64_w, i32_w]
      rfl
     refine pa 5 (some 27) #[Y,Y,Y,Y,Y,Y,Z,Z,Y,Z,Z] HT_ ?_
     refine pa 6 (some 33) #[Y,Y,Y,Y,Y,Y,Y,Z,Y,Z,Z] HT_ ?_
     refine pa 7 (some 34) #[Y,Y,Y,Y,Y,Y,Y,Y,Y,Z,Z] HT_ ?_
     exact norm_ (by simp only [putAll, Act.put, List.setIfInBounds_toArray, List.set_cons_zero, List.set_cons_succ]) (hCont (.slice Ao37 t898.length co37, .slice Ao38 t901.length co38, v905, gb908) _ ⟨hHeld, (by (with_reducible repeat (first | apply Kd.R_alloc | apply Kd.R_drewN | apply Kd.R_drew)); exact Kd.R_mono HO900.out (fun _ hk => by first | exact ⟨hk.1.2, hk.2⟩ | simp_all)), (by (with_reducible repeat (first | apply Kd.R_alloc | apply Kd.R_drewN | apply Kd.R_drew)); exact Kd.R_mono HO903.out (fun _ hk => by first | exact ⟨hk.1.2, hk.2⟩ | simp_all)), (by (with_reducible repeat (first | apply Kd.R_alloc | apply Kd.R_drewN | apply Kd.R_drew)); exact Kd.R_mono HO906.out (fun _ hk => by first | exact ⟨hk.1.2, hk.2⟩ | simp_all)), (bo BK894.out), (bo BK895.out), (bo BK908.out), GW908.out, GE908.out, NB894_908.out, NB908_894.out, NB895_908.out, NB908_895.out, bw⟩)
   rintro ⟨v899, v902, v905, gb908⟩ w40 ⟨hS_, h0_, h1_, h2_, h3_, h4_, h5_, h6_, h7_, h8_, h9_, h10_, h11_, h12_⟩
   have n0_ : Aside0 (Kd.R (Kd.int .i64) 3 w40 w.heap.size (fun k_ => some k_ ≠ (v902 : Value).ownBlock ∧ some k_ ≠ (v905 : Value).ownBlock) v899 t898) := ⟨h0_⟩
   have n1_ : Aside0 (Kd.R (Kd.int .i64) 3 w40 w.heap.size (fun k_ => some k_ ≠ (v899 : Value).ownBlock ∧ some k_ ≠ (v905 : Value).ownBlock) v902 t901) := ⟨h1_⟩
   have n2_ : Aside0 (Kd.R (Kd.int .i64) 3 w40 w.heap.size (fun k_ => some k_ ≠ (v899 : Value).ownBlock ∧ some k_ ≠ (v902 : Value).ownBlock) v905 t904) := ⟨h2_⟩
   have n3_ : Aside0 (w40.heap[gb894]? = some (.cells #[.slice A0_0 l0_0.length c0_0] 24 (0, 0))) := ⟨h3_⟩
   have n4_ : Aside0 (w40.heap[gb895]? = some (.cells #[.slice A1_0 l1_0.length c1_0] 24 (0, 0))) := ⟨h4_⟩
   have n5_ : Aside0 (w40.heap[gb908]? = some (.cells #[.slice none 0 0] 27 (0, 0))) := ⟨h5_⟩
   have n6_ : Aside0 (w.heap.size ≤ gb908) := ⟨h6_⟩
   have n7_ : Aside0 (w.heap.size ≤ gb908) := ⟨h7_⟩
   have n8_ : Aside0 (gb894 ≠ gb908) := ⟨h8_⟩
   have n9_ : Aside0 (gb908 ≠ gb894) := ⟨h9_⟩
   have n10_ : Aside0 (gb895 ≠ gb908) := ⟨h10_⟩
   have n11_ : Aside0 (gb908 ≠ gb895) := ⟨h11_⟩
   have n12_ : Aside0 (Below w.heap.size w w40) := ⟨h12_⟩
   clear BK894
   clear BK895
   clear HB
   clear h0_ h1_ h2_ h3_ h4_ h5_ h6_ h7_ h8_ h9_ h10_ h11_ h12_
   have HO900 := n0_
   have HO903 := n1_
   have HO906 := n2_
   have BK894 := n3_
   have BK895 := n4_
   have BK908 := n5_
   have GW908 := n6_
   have GE908 := n7_
   have NB894_908 := n8_
   have NB908_894 := n9_
   have NB895_908 := n10_
   have NB908_895 := n11_
   have HB := n12_
   clear n0_ n1_ n2_ n3_ n4_ n5_ n6_ n7_ n8_ n9_ n10_ n11_ n12_
   have hHeld : w40.cell? ⟨gb894, 0, none⟩ = some (.slice A0_0 l0_0.length c0_0) ∧ w40.cell? ⟨gb895, 0, none⟩ = some (.slice A1_0 l1_0.length c1_0) := hS_
   obtain ⟨Ao41, co41, eo41⟩ := Kd.R_slice HO906.out
   (first | subst eo41 | (injection eo41 with f1_ f2_ f3_; have f4_ := f1_.symm; have f5_ := f3_.symm; clear f1_ f2_ f3_; subst f4_; subst f5_))
   refine norm_ (a' := ?_) ?_ ?_
   rotate_left
   ·simp only [putAll, Act.put, List.setIfInBounds_toArray, List.set_cons_zero, List.set_cons_succ]
    rfl
   refine oa 9 none #[Y,Y,Y,Y,Y,Y,Y,Y,Y,Y,Z] HT_ (fun K hK => ?_)
   have hs42 := bc BK908 0 (.slice none 0 0)
   have hfs42 := blk_frozen BK908.out 0
   have hns42_0 := NB894_908.out
   have hns42_1 := NB895_908.out
   have hms42_0 := NB908_894.out
   have hms42_1 := NB908_895.out
   refine skip_ (w1 := ?_) (by rfl) rfl ?_ ?_
   rotate_left
   ·go_simp
    rfl
   refine hK.out _ _ ⟨((cell_far (p := ⟨gb908, _, none⟩) NB894_908.out _).trans (hHeld.1)), ((cell_far (p := ⟨gb908, _, none⟩) NB895_908.out _).trans (hHeld.2))⟩ (fun hHeld => ?_)
   clear hK K
   refine pa 10 (some 7) #[Y,Y,Y,Y,Y,Y,Y,Y,Y,Y,Y] HT_ ?_
   refine done_ (done_of HT_.out (by kernel_rfl)) ?_
   have hnb43 := NB894_908.out
   have hnc43 := NB908_894.out
   have hcz44_0 := bc BK894 0 (.slice A0_0 l0_0.length c0_0)
   have hfz44_0 := blk_frozen BK894.out 0
   go_upto_region 12 with (first | ((with_reducible refine gate_callee (f := 17) rfl ?_); refine gl (some 36) Try.func17 #[.agg #[.slice A0_0 l0_0.length c0_0]] ?_; (with_reducible refine (laws_toSemigroup.calls k _ _ l0_0 t909 _ ?side1 ?side2 A22.out).mono ?_); (case side1 => exact Kd.C_below HR0_0.out bw); (case side2 => exact HC0_0.out); rintro e w45 ⟨v910, rfl, ho0, hb⟩; refine ⟨_, rfl, ?_⟩; have HO911 := Aside0.mk (Kd.R_lower (Kd.R_new' (Kd.R_new' (Kd.R_new' ho0 (Kd.R_lt (by (with_reducible repeat (first | apply Kd.R_alloc | apply Kd.R_drewN | apply Kd.R_drew)); exact (Kd.R_mono (Kd.R_far (p := ⟨gb908, 0, none⟩) (Kd.R_types HO900.out BK908.out (by decide)) (fun _ hk => hk.2) (.slice Ao41 t904.length co41)) (fun _ h_ => h_.1))))) (Kd.R_lt (by (with_reducible repeat (first | apply Kd.R_alloc | apply Kd.R_drewN | apply Kd.R_drew)); exact (Kd.R_mono (Kd.R_far (p := ⟨gb908, 0, none⟩) (Kd.R_types HO903.out BK908.out (by decide)) (fun _ hk => hk.2) (.slice Ao41 t904.length co41)) (fun _ h_ => h_.1))))) (Kd.R_lt (by (with_reducible repeat (first | apply Kd.R_alloc | apply Kd.R_drewN | apply Kd.R_drew)); exact (Kd.R_mono (Kd.R_far (p := ⟨gb908, 0, none⟩) (Kd.R_types HO906.out BK908.out (by decide)) (fun _ hk => hk.2) (.slice Ao41 t904.length co41)) (fun _ h_ => h_.1))))) (below_size bw)); replace HO900 := Aside0.mk (Kd.R_elder' (by (with_reducible repeat (first | apply Kd.R_alloc | apply Kd.R_drewN | apply Kd.R_drew)); exact (Kd.R_mono (Kd.R_far (p := ⟨gb908, 0, none⟩) (Kd.R_types HO900.out BK908.out (by decide)) (fun _ hk => hk.2) (.slice Ao41 t904.length co41)) (fun _ h_ => h_.1))) (Kd.R_base ho0) hb); replace HO903 := Aside0.mk (Kd.R_elder' (by (with_reducible repeat (first | apply Kd.R_alloc | apply Kd.R_drewN | apply Kd.R_drew)); exact (Kd.R_mono (Kd.R_far (p := ⟨gb908, 0, none⟩) (Kd.R_types HO903.out BK908.out (by decide)) (fun _ hk => hk.2) (.slice Ao41 t904.length co41)) (fun _ h_ => h_.1))) (Kd.R_base ho0) hb); replace HO906 := Aside0.mk (Kd.R_elder' (by (with_reducible repeat (first | apply Kd.R_alloc | apply Kd.R_drewN | apply Kd.R_drew)); exact (Kd.R_mono (Kd.R_far (p := ⟨gb908, 0, none⟩) (Kd.R_types HO906.out BK908.out (by decide)) (fun _ hk => hk.2) (.slice Ao41 t904.length co41)) (fun _ h_ => h_.1))) (Kd.R_base ho0) hb); replace BK894 := Aside0.mk (blk_below (g := gb894) (o := .cells #[.slice A0_0 l0_0.length c0_0] 24 (0, 0)) (by (with_reducible repeat (first | refine blk_drewN ?_ _ | refine blk_drew ?_ | refine blk_alloc ?_ _)); refine blk_far ?_ NB894_908.out _; (with_reducible repeat (first | refine blk_drewN ?_ _ | refine blk_drew ?_ | refine blk_alloc ?_ _)); exact BK894.out) hb); replace BK895 := Aside0.mk (blk_below (g := gb895) (o := .cells #[.slice A1_0 l1_0.length c1_0] 24 (0, 0)) (by (with_reducible repeat (first | refine blk_drewN ?_ _ | refine blk_drew ?_ | refine blk_alloc ?_ _)); refine blk_far ?_ NB895_908.out _; (with_reducible repeat (first | refine blk_drewN ?_ _ | refine blk_drew ?_ | refine blk_alloc ?_ _)); exact BK895.out) hb); replace BK908 := Aside0.mk (blk_below (g := gb908) (o := .cells #[.slice Ao41 t904.length co41] 27 (0, 0)) (by (with_reducible repeat (first | refine blk_drewN ?_ _ | refine blk_drew ?_ | refine blk_alloc ?_ _)); refine blk_put (cs := #[.slice none 0 0]) ?_ 0 _ rfl; (with_reducible repeat (first | refine blk_drewN ?_ _ | refine blk_drew ?_ | refine blk_alloc ?_ _)); exact BK908.out) hb); replace HB := Aside0.mk (below_step bw hb); clear hb ho0) | ((with_reducible refine gate_dst (N := 8) rfl ?_); refine bx 8 #[.slice none 0 0] 27 ?_; intro gb912 hg w46 hbox hb; replace HO900 := Aside0.mk (Kd.R_below (ro HO900.out) hb); replace HO903 := Aside0.mk (Kd.R_below (ro HO903.out) hb); replace HO906 := Aside0.mk (Kd.R_below (ro HO906.out) hb); replace HO911 := Aside0.mk (Kd.R_below (ro HO911.out) hb); have BK912 := Aside0.mk (hbox); have GW912 := Aside0.mk (gs hg : w.heap.size ≤ gb912); have GE912 := Aside0.mk (gs hg : w.heap.size ≤ gb912); replace HB := Aside0.mk (below_step bw hb); have NB894_912 := Aside0.mk ((by rw [hg]; exact Nat.ne_of_lt (blk_lt (g := gb894) (o := .cells #[.slice A0_0 l0_0.length c0_0] 24 (0, 0)) (bo BK894.out)) : gb894 ≠ gb912)); have NB912_894 := Aside0.mk ((by rw [hg]; exact Nat.ne_of_gt (blk_lt (g := gb894) (o := .cells #[.slice A0_0 l0_0.length c0_0] 24 (0, 0)) (bo BK894.out)) : gb912 ≠ gb894)); replace BK894 := Aside0.mk (blk_below (g := gb894) (o := .cells #[.slice A0_0 l0_0.length c0_0] 24 (0, 0)) (bo BK894.out) hb); have NB895_912 := Aside0.mk ((by rw [hg]; exact Nat.ne_of_lt (blk_lt (g := gb895) (o := .cells #[.slice A1_0 l1_0.length c1_0] 24 (0, 0)) (bo BK895.out)) : gb895 ≠ gb912)); have NB912_895 := Aside0.mk ((by rw [hg]; exact Nat.ne_of_gt (blk_lt (g := gb895) (o := .cells #[.slice A1_0 l1_0.length c1_0] 24 (0, 0)) (bo BK895.out)) : gb912 ≠ gb895)); replace BK895 := Aside0.mk (blk_below (g := gb895) (o := .cells #[.slice A1_0 l1_0.length c1_0] 24 (0, 0)) (bo BK895.out) hb); have NB908_912 := Aside0.mk ((by rw [hg]; exact Nat.ne_of_lt (blk_lt (g := gb908) (o := .cells #[.slice Ao41 t904.length co41] 27 (0, 0)) (bo BK908.out)) : gb908 ≠ gb912)); have NB912_908 := Aside0.mk ((by rw [hg]; exact Nat.ne_of_gt (blk_lt (g := gb908) (o := .cells #[.slice Ao41 t904.length co41] 27 (0, 0)) (bo BK908.out)) : gb912 ≠ gb908)); replace BK908 := Aside0.mk (blk_below (g := gb908) (o := .cells #[.slice Ao41 t904.length co41] 27 (0, 0)) (bo BK908.out) hb); clear hb hbox hg; obtain ⟨Ao47, co47, eo47⟩ := Kd.R_slice HO911.out; subst eo47; have hnb48 := NB912_894.out; have hnc48 := NB894_912.out; have hnb49 := NB912_895.out; have hnc49 := NB895_912.out; have hnb50 := NB912_908.out; have hnc50 := NB908_912.out; have hcz51_0 := bc BK912 0 (.slice none 0 0); have hfz51_0 := blk_frozen BK912.out 0; have hnb52 := NB895_908.out; have hnc52 := NB908_895.out; have hcz53_0 := bc BK895 0 (.slice A1_0 l1_0.length c1_0); have hfz53_0 := blk_frozen BK895.out 0) | ((with_reducible refine gate_callee (f := 17) rfl ?_); refine gl (some 38) Try.func17 #[.agg #[.slice A1_0 l1_0.length c1_0]] ?_; (with_reducible refine (laws_toSemigroup.calls k _ _ l1_0 t913 _ ?side1 ?side2 A23.out).mono ?_); (case side1 => exact Kd.C_below HR1_0.out bw); (case side2 => exact HC1_0.out); rintro e w54 ⟨v914, rfl, ho0, hb⟩; refine ⟨_, rfl, ?_⟩; have HO915 := Aside0.mk (Kd.R_lower (Kd.R_new' (Kd.R_new' (Kd.R_new' (Kd.R_new' ho0 (Kd.R_lt (by (with_reducible repeat (first | apply Kd.R_alloc | apply Kd.R_drewN | apply Kd.R_drew)); exact (Kd.R_mono (Kd.R_far (p := ⟨gb912, 0, none⟩) (Kd.R_types HO900.out BK912.out (by decide)) (fun _ hk => hk.2) (.slice Ao47 t909.length co47)) (fun _ h_ => h_.1))))) (Kd.R_lt (by (with_reducible repeat (first | apply Kd.R_alloc | apply Kd.R_drewN | apply Kd.R_drew)); exact (Kd.R_mono (Kd.R_far (p := ⟨gb912, 0, none⟩) (Kd.R_types HO903.out BK912.out (by decide)) (fun _ hk => hk.2) (.slice Ao47 t909.length co47)) (fun _ h_ => h_.1))))) (Kd.R_lt (by (with_reducible repeat (first | apply Kd.R_alloc | apply Kd.R_drewN | apply Kd.R_drew)); exact (Kd.R_mono (Kd.R_far (p := ⟨gb912, 0, none⟩) (Kd.R_types HO906.out BK912.out (by decide)) (fun _ hk => hk.2) (.slice Ao47 t909.length co47)) (fun _ h_ => h_.1))))) (Kd.R_lt (by (with_reducible repeat (first | apply Kd.R_alloc | apply Kd.R_drewN | apply Kd.R_drew)); exact (Kd.R_mono (Kd.R_far (p := ⟨gb912, 0, none⟩) (Kd.R_types HO911.out BK912.out (by decide)) (fun _ hk => hk.2) (.slice Ao47 t909.length co47)) (fun _ h_ => h_.1))))) (below_size bw)); replace HO900 := Aside0.mk (Kd.R_elder' (by (with_reducible repeat (first | apply Kd.R_alloc | apply Kd.R_drewN | apply Kd.R_drew)); exact (Kd.R_mono (Kd.R_far (p := ⟨gb912, 0, none⟩) (Kd.R_types HO900.out BK912.out (by decide)) (fun _ hk => hk.2) (.slice Ao47 t909.length co47)) (fun _ h_ => h_.1))) (Kd.R_base ho0) hb); replace HO903 := Aside0.mk (Kd.R_elder' (by (with_reducible repeat (first | apply Kd.R_alloc | apply Kd.R_drewN | apply Kd.R_drew)); exact (Kd.R_mono (Kd.R_far (p := ⟨gb912, 0, none⟩) (Kd.R_types HO903.out BK912.out (by decide)) (fun _ hk => hk.2) (.slice Ao47 t909.length co47)) (fun _ h_ => h_.1))) (Kd.R_base ho0) hb); replace HO906 := Aside0.mk (Kd.R_elder' (by (with_reducible repeat (first | apply Kd.R_alloc | apply Kd.R_drewN | apply Kd.R_drew)); exact (Kd.R_mono (Kd.R_far (p := ⟨gb912, 0, none⟩) (Kd.R_types HO906.out BK912.out (by decide)) (fun _ hk => hk.2) (.slice Ao47 t909.length co47)) (fun _ h_ => h_.1))) (Kd.R_base ho0) hb); replace HO911 := Aside0.mk (Kd.R_elder' (by (with_reducible repeat (first | apply Kd.R_alloc | apply Kd.R_drewN | apply Kd.R_drew)); exact (Kd.R_mono (Kd.R_far (p := ⟨gb912, 0, none⟩) (Kd.R_types HO911.out BK912.out (by decide)) (fun _ hk => hk.2) (.slice Ao47 t909.length co47)) (fun _ h_ => h_.1))) (Kd.R_base ho0) hb); replace BK894 := Aside0.mk (blk_below (g := gb894) (o := .cells #[.slice A0_0 l0_0.length c0_0] 24 (0, 0)) (by (with_reducible repeat (first | refine blk_drewN ?_ _ | refine blk_drew ?_ | refine blk_alloc ?_ _)); refine blk_far ?_ NB894_912.out _; (with_reducible repeat (first | refine blk_drewN ?_ _ | refine blk_drew ?_ | refine blk_alloc ?_ _)); exact BK894.out) hb); replace BK895 := Aside0.mk (blk_below (g := gb895) (o := .cells #[.slice A1_0 l1_0.length c1_0] 24 (0, 0)) (by (with_reducible repeat (first | refine blk_drewN ?_ _ | refine blk_drew ?_ | refine blk_alloc ?_ _)); refine blk_far ?_ NB895_912.out _; (with_reducible repeat (first | refine blk_drewN ?_ _ | refine blk_drew ?_ | refine blk_alloc ?_ _)); exact BK895.out) hb); replace BK908 := Aside0.mk (blk_below (g := gb908) (o := .cells #[.slice Ao41 t904.length co41] 27 (0, 0)) (by (with_reducible repeat (first | refine blk_drewN ?_ _ | refine blk_drew ?_ | refine blk_alloc ?_ _)); refine blk_far ?_ NB908_912.out _; (with_reducible repeat (first | refine blk_drewN ?_ _ | refine blk_drew ?_ | refine blk_alloc ?_ _)); exact BK908.out) hb); replace BK912 := Aside0.mk (blk_below (g := gb912) (o := .cells #[.slice Ao47 t909.length co47] 27 (0, 0)) (by (with_reducible repeat (first | refine blk_drewN ?_ _ | refine blk_drew ?_ | refine blk_alloc ?_ _)); refine blk_put (cs := #[.slice none 0 0]) ?_ 0 _ rfl; (with_reducible repeat (first | refine blk_drewN ?_ _ | refine blk_drew ?_ | refine blk_alloc ?_ _)); exact BK912.out) hb); replace HB := Aside0.mk (below_step bw hb); clear hb ho0) | ((with_reducible refine gate_dst (N := 9) rfl ?_); refine bx 9 #[.slice none 0 0] 27 ?_; intro gb916 hg w55 hbox hb; replace HO900 := Aside0.mk (Kd.R_below (ro HO900.out) hb); replace HO903 := Aside0.mk (Kd.R_below (ro HO903.out) hb); replace HO906 := Aside0.mk (Kd.R_below (ro HO906.out) hb); replace HO911 := Aside0.mk (Kd.R_below (ro HO911.out) hb); replace HO915 := Aside0.mk (Kd.R_below (ro HO915.out) hb); have BK916 := Aside0.mk (hbox); have GW916 := Aside0.mk (gs hg : w.heap.size ≤ gb916); have GE916 := Aside0.mk (gs hg : w.heap.size ≤ gb916); replace HB := Aside0.mk (below_step bw hb); have NB894_916 := Aside0.mk ((by rw [hg]; exact Nat.ne_of_lt (blk_lt (g := gb894) (o := .cells #[.slice A0_0 l0_0.length c0_0] 24 (0, 0)) (bo BK894.out)) : gb894 ≠ gb916)); have NB916_894 := Aside0.mk ((by rw [hg]; exact Nat.ne_of_gt (blk_lt (g := gb894) (o := .cells #[.slice A0_0 l0_0.length c0_0] 24 (0, 0)) (bo BK894.out)) : gb916 ≠ gb894)); replace BK894 := Aside0.mk (blk_below (g := gb894) (o := .cells #[.slice A0_0 l0_0.length c0_0] 24 (0, 0)) (bo BK894.out) hb); have NB895_916 := Aside0.mk ((by rw [hg]; exact Nat.ne_of_lt (blk_lt (g := gb895) (o := .cells #[.slice A1_0 l1_0.length c1_0] 24 (0, 0)) (bo BK895.out)) : gb895 ≠ gb916)); have NB916_895 := Aside0.mk ((by rw [hg]; exact Nat.ne_of_gt (blk_lt (g := gb895) (o := .cells #[.slice A1_0 l1_0.length c1_0] 24 (0, 0)) (bo BK895.out)) : gb916 ≠ gb895)); replace BK895 := Aside0.mk (blk_below (g := gb895) (o := .cells #[.slice A1_0 l1_0.length c1_0] 24 (0, 0)) (bo BK895.out) hb); have NB908_916 := Aside0.mk ((by rw [hg]; exact Nat.ne_of_lt (blk_lt (g := gb908) (o := .cells #[.slice Ao41 t904.length co41] 27 (0, 0)) (bo BK908.out)) : gb908 ≠ gb916)); have NB916_908 := Aside0.mk ((by rw [hg]; exact Nat.ne_of_gt (blk_lt (g := gb908) (o := .cells #[.slice Ao41 t904.length co41] 27 (0, 0)) (bo BK908.out)) : gb916 ≠ gb908)); replace BK908 := Aside0.mk (blk_below (g := gb908) (o := .cells #[.slice Ao41 t904.length co41] 27 (0, 0)) (bo BK908.out) hb); have NB912_916 := Aside0.mk ((by rw [hg]; exact Nat.ne_of_lt (blk_lt (g := gb912) (o := .cells #[.slice Ao47 t909.length co47] 27 (0, 0)) (bo BK912.out)) : gb912 ≠ gb916)); have NB916_912 := Aside0.mk ((by rw [hg]; exact Nat.ne_of_gt (blk_lt (g := gb912) (o := .cells #[.slice Ao47 t909.length co47] 27 (0, 0)) (bo BK912.out)) : gb916 ≠ gb912)); replace BK912 := Aside0.mk (blk_below (g := gb912) (o := .cells #[.slice Ao47 t909.length co47] 27 (0, 0)) (bo BK912.out) hb); clear hb hbox hg; obtain ⟨Ao56, co56, eo56⟩ := Kd.R_slice HO915.out; subst eo56; have hnb57 := NB916_894.out; have hnc57 := NB894_916.out; have hnb58 := NB916_895.out; have hnc58 := NB895_916.out; have hnb59 := NB916_908.out; have hnc59 := NB908_916.out; have hnb60 := NB916_912.out; have hnc60 := NB912_916.out; have hcz61_0 := bc BK916 0 (.slice none 0 0); have hfz61_0 := blk_frozen BK916.out 0; have hcz62_0 := bc BK912 0 (.slice Ao47 t909.length co47); have hfz62_0 := blk_frozen BK912.out 0) | ((with_reducible refine gate_callee (f := 46) rfl ?_); refine gl (some 42) Try.func46 #[.agg #[.slice Ao47 t909.length co47], .agg #[.slice Ao56 t913.length co56]] ?_; (with_reducible refine (impl_MeetOf.calls k _ _ t909 _ _ t913 t917 t920 _ ?side1 ?side2 ?side3 ?side4 A24.out).mono ?_); (case side1 => refine (Kd.R_reads' (e := 3) (base := w.heap.size) (ok := fun k_ => ((((True ∧ some k_ ≠ (v899 : Value).ownBlock) ∧ some k_ ≠ (v902 : Value).ownBlock) ∧ some k_ ≠ (.slice Ao41 t904.length co41 : Value).ownBlock) ∧ some k_ ≠ (.slice Ao56 t913.length co56 : Value).ownBlock)) (n := t909.length) (c := co47) ?_).2.2; exact (by (with_reducible repeat (first | apply Kd.R_alloc | apply Kd.R_drewN | apply Kd.R_drew)); exact (Kd.R_mono (Kd.R_far (p := ⟨gb916, 0, none⟩) (Kd.R_types HO911.out BK916.out (by decide)) (fun _ hk => hk.2) (.slice Ao56 t913.length co56)) (fun _ h_ => h_.1)))); (case side2 => exact (Kd.R_reads' HO911.out).2.1); (case side3 => refine (Kd.R_reads' (e := 3) (base := w.heap.size) (ok := fun k_ => ((((True ∧ some k_ ≠ (v899 : Value).ownBlock) ∧ some k_ ≠ (v902 : Value).ownBlock) ∧ some k_ ≠ (.slice Ao41 t904.length co41 : Value).ownBlock) ∧ some k_ ≠ (.slice Ao47 t909.length co47 : Value).ownBlock)) (n := t913.length) (c := co56) ?_).2.2; exact (by (with_reducible repeat (first | apply Kd.R_alloc | apply Kd.R_drewN | apply Kd.R_drew)); exact (Kd.R_mono (Kd.R_far (p := ⟨gb916, 0, none⟩) (Kd.R_types HO915.out BK916.out (by decide)) (fun _ hk => hk.2) (.slice Ao56 t913.length co56)) (fun _ h_ => h_.1)))); (case side4 => exact (Kd.R_reads' HO915.out).2.1); rintro e w63 ⟨v918, rfl, ho0, hb⟩; refine ⟨_, rfl, ?_⟩; have HO919 := Aside0.mk (Kd.R_lower (Kd.R_new' (Kd.R_new' (Kd.R_new' (Kd.R_new' (Kd.R_new' ho0 (Kd.R_lt (by (with_reducible repeat (first | apply Kd.R_alloc | apply Kd.R_drewN | apply Kd.R_drew)); exact (Kd.R_mono (Kd.R_far (p := ⟨gb916, 0, none⟩) (Kd.R_types HO900.out BK916.out (by decide)) (fun _ hk => hk.2) (.slice Ao56 t913.length co56)) (fun _ h_ => h_.1))))) (Kd.R_lt (by (with_reducible repeat (first | apply Kd.R_alloc | apply Kd.R_drewN | apply Kd.R_drew)); exact (Kd.R_mono (Kd.R_far (p := ⟨gb916, 0, none⟩) (Kd.R_types HO903.out BK916.out (by decide)) (fun _ hk => hk.2) (.slice Ao56 t913.length co56)) (fun _ h_ => h_.1))))) (Kd.R_lt (by (with_reducible repeat (first | apply Kd.R_alloc | apply Kd.R_drewN | apply Kd.R_drew)); exact (Kd.R_mono (Kd.R_far (p := ⟨gb916, 0, none⟩) (Kd.R_types HO906.out BK916.out (by decide)) (fun _ hk => hk.2) (.slice Ao56 t913.length co56)) (fun _ h_ => h_.1))))) (Kd.R_lt (by (with_reducible repeat (first | apply Kd.R_alloc | apply Kd.R_drewN | apply Kd.R_drew)); exact (Kd.R_mono (Kd.R_far (p := ⟨gb916, 0, none⟩) (Kd.R_types HO911.out BK916.out (by decide)) (fun _ hk => hk.2) (.slice Ao56 t913.length co56)) (fun _ h_ => h_.1))))) (Kd.R_lt (by (with_reducible repeat (first | apply Kd.R_alloc | apply Kd.R_drewN | apply Kd.R_drew)); exact (Kd.R_mono (Kd.R_far (p := ⟨gb916, 0, none⟩) (Kd.R_types HO915.out BK916.out (by decide)) (fun _ hk => hk.2) (.slice Ao56 t913.length co56)) (fun _ h_ => h_.1))))) (below_size bw)); replace HO900 := Aside0.mk (Kd.R_elder' (by (with_reducible repeat (first | apply Kd.R_alloc | apply Kd.R_drewN | apply Kd.R_drew)); exact (Kd.R_mono (Kd.R_far (p := ⟨gb916, 0, none⟩) (Kd.R_types HO900.out BK916.out (by decide)) (fun _ hk => hk.2) (.slice Ao56 t913.length co56)) (fun _ h_ => h_.1))) (Kd.R_base ho0) hb); replace HO903 := Aside0.mk (Kd.R_elder' (by (with_reducible repeat (first | apply Kd.R_alloc | apply Kd.R_drewN | apply Kd.R_drew)); exact (Kd.R_mono (Kd.R_far (p := ⟨gb916, 0, none⟩) (Kd.R_types HO903.out BK916.out (by decide)) (fun _ hk => hk.2) (.slice Ao56 t913.length co56)) (fun _ h_ => h_.1))) (Kd.R_base ho0) hb); replace HO906 := Aside0.mk (Kd.R_elder' (by (with_reducible repeat (first | apply Kd.R_alloc | apply Kd.R_drewN | apply Kd.R_drew)); exact (Kd.R_mono (Kd.R_far (p := ⟨gb916, 0, none⟩) (Kd.R_types HO906.out BK916.out (by decide)) (fun _ hk => hk.2) (.slice Ao56 t913.length co56)) (fun _ h_ => h_.1))) (Kd.R_base ho0) hb); replace HO911 := Aside0.mk (Kd.R_elder' (by (with_reducible repeat (first | apply Kd.R_alloc | apply Kd.R_drewN | apply Kd.R_drew)); exact (Kd.R_mono (Kd.R_far (p := ⟨gb916, 0, none⟩) (Kd.R_types HO911.out BK916.out (by decide)) (fun _ hk => hk.2) (.slice Ao56 t913.length co56)) (fun _ h_ => h_.1))) (Kd.R_base ho0) hb); replace HO915 := Aside0.mk (Kd.R_elder' (by (with_reducible repeat (first | apply Kd.R_alloc | apply Kd.R_drewN | apply Kd.R_drew)); exact (Kd.R_mono (Kd.R_far (p := ⟨gb916, 0, none⟩) (Kd.R_types HO915.out BK916.out (by decide)) (fun _ hk => hk.2) (.slice Ao56 t913.length co56)) (fun _ h_ => h_.1))) (Kd.R_base ho0) hb); replace BK894 := Aside0.mk (blk_below (g := gb894) (o := .cells #[.slice A0_0 l0_0.length c0_0] 24 (0, 0)) (by (with_reducible repeat (first | refine blk_drewN ?_ _ | refine blk_drew ?_ | refine blk_alloc ?_ _)); refine blk_far ?_ NB894_916.out _; (with_reducible repeat (first | refine blk_drewN ?_ _ | refine blk_drew ?_ | refine blk_alloc ?_ _)); exact BK894.out) hb); replace BK895 := Aside0.mk (blk_below (g := gb895) (o := .cells #[.slice A1_0 l1_0.length c1_0] 24 (0, 0)) (by (with_reducible repeat (first | refine blk_drewN ?_ _ | refine blk_drew ?_ | refine blk_alloc ?_ _)); refine blk_far ?_ NB895_916.out _; (with_reducible repeat (first | refine blk_drewN ?_ _ | refine blk_drew ?_ | refine blk_alloc ?_ _)); exact BK895.out) hb); replace BK908 := Aside0.mk (blk_below (g := gb908) (o := .cells #[.slice Ao41 t904.length co41] 27 (0, 0)) (by (with_reducible repeat (first | refine blk_drewN ?_ _ | refine blk_drew ?_ | refine blk_alloc ?_ _)); refine blk_far ?_ NB908_916.out _; (with_reducible repeat (first | refine blk_drewN ?_ _ | refine blk_drew ?_ | refine blk_alloc ?_ _)); exact BK908.out) hb); replace BK912 := Aside0.mk (blk_below (g := gb912) (o := .cells #[.slice Ao47 t909.length co47] 27 (0, 0)) (by (with_reducible repeat (first | refine blk_drewN ?_ _ | refine blk_drew ?_ | refine blk_alloc ?_ _)); refine blk_far ?_ NB912_916.out _; (with_reducible repeat (first | refine blk_drewN ?_ _ | refine blk_drew ?_ | refine blk_alloc ?_ _)); exact BK912.out) hb); replace BK916 := Aside0.mk (blk_below (g := gb916) (o := .cells #[.slice Ao56 t913.length co56] 27 (0, 0)) (by (with_reducible repeat (first | refine blk_drewN ?_ _ | refine blk_drew ?_ | refine blk_alloc ?_ _)); refine blk_put (cs := #[.slice none 0 0]) ?_ 0 _ rfl; (with_reducible repeat (first | refine blk_drewN ?_ _ | refine blk_drew ?_ | refine blk_alloc ?_ _)); exact BK916.out) hb); replace HB := Aside0.mk (below_step bw hb); clear hb ho0) | ((with_reducible refine gate_dst (N := 10) rfl ?_); refine bx 10 #[.slice none 0 0] 27 ?_; intro gb921 hg w64 hbox hb; replace HO900 := Aside0.mk (Kd.R_below (ro HO900.out) hb); replace HO903 := Aside0.mk (Kd.R_below (ro HO903.out) hb); replace HO906 := Aside0.mk (Kd.R_below (ro HO906.out) hb); replace HO911 := Aside0.mk (Kd.R_below (ro HO911.out) hb); replace HO915 := Aside0.mk (Kd.R_below (ro HO915.out) hb); replace HO919 := Aside0.mk (Kd.R_below (ro HO919.out) hb); have BK921 := Aside0.mk (hbox); have GW921 := Aside0.mk (gs hg : w.heap.size ≤ gb921); have GE921 := Aside0.mk (gs hg : w.heap.size ≤ gb921); replace HB := Aside0.mk (below_step bw hb); have NB894_921 := Aside0.mk ((by rw [hg]; exact Nat.ne_of_lt (blk_lt (g := gb894) (o := .cells #[.slice A0_0 l0_0.length c0_0] 24 (0, 0)) (bo BK894.out)) : gb894 ≠ gb921)); have NB921_894 := Aside0.mk ((by rw [hg]; exact Nat.ne_of_gt (blk_lt (g := gb894) (o := .cells #[.slice A0_0 l0_0.length c0_0] 24 (0, 0)) (bo BK894.out)) : gb921 ≠ gb894)); replace BK894 := Aside0.mk (blk_below (g := gb894) (o := .cells #[.slice A0_0 l0_0.length c0_0] 24 (0, 0)) (bo BK894.out) hb); have NB895_921 := Aside0.mk ((by rw [hg]; exact Nat.ne_of_lt (blk_lt (g := gb895) (o := .cells #[.slice A1_0 l1_0.length c1_0] 24 (0, 0)) (bo BK895.out)) : gb895 ≠ gb921)); have NB921_895 := Aside0.mk ((by rw [hg]; exact Nat.ne_of_gt (blk_lt (g := gb895) (o := .cells #[.slice A1_0 l1_0.length c1_0] 24 (0, 0)) (bo BK895.out)) : gb921 ≠ gb895)); replace BK895 := Aside0.mk (blk_below (g := gb895) (o := .cells #[.slice A1_0 l1_0.length c1_0] 24 (0, 0)) (bo BK895.out) hb); have NB908_921 := Aside0.mk ((by rw [hg]; exact Nat.ne_of_lt (blk_lt (g := gb908) (o := .cells #[.slice Ao41 t904.length co41] 27 (0, 0)) (bo BK908.out)) : gb908 ≠ gb921)); have NB921_908 := Aside0.mk ((by rw [hg]; exact Nat.ne_of_gt (blk_lt (g := gb908) (o := .cells #[.slice Ao41 t904.length co41] 27 (0, 0)) (bo BK908.out)) : gb921 ≠ gb908)); replace BK908 := Aside0.mk (blk_below (g := gb908) (o := .cells #[.slice Ao41 t904.length co41] 27 (0, 0)) (bo BK908.out) hb); have NB912_921 := Aside0.mk ((by rw [hg]; exact Nat.ne_of_lt (blk_lt (g := gb912) (o := .cells #[.slice Ao47 t909.length co47] 27 (0, 0)) (bo BK912.out)) : gb912 ≠ gb921)); have NB921_912 := Aside0.mk ((by rw [hg]; exact Nat.ne_of_gt (blk_lt (g := gb912) (o := .cells #[.slice Ao47 t909.length co47] 27 (0, 0)) (bo BK912.out)) : gb921 ≠ gb912)); replace BK912 := Aside0.mk (blk_below (g := gb912) (o := .cells #[.slice Ao47 t909.length co47] 27 (0, 0)) (bo BK912.out) hb); have NB916_921 := Aside0.mk ((by rw [hg]; exact Nat.ne_of_lt (blk_lt (g := gb916) (o := .cells #[.slice Ao56 t913.length co56] 27 (0, 0)) (bo BK916.out)) : gb916 ≠ gb921)); have NB921_916 := Aside0.mk ((by rw [hg]; exact Nat.ne_of_gt (blk_lt (g := gb916) (o := .cells #[.slice Ao56 t913.length co56] 27 (0, 0)) (bo BK916.out)) : gb921 ≠ gb916)); replace BK916 := Aside0.mk (blk_below (g := gb916) (o := .cells #[.slice Ao56 t913.length co56] 27 (0, 0)) (bo BK916.out) hb); clear hb hbox hg; obtain ⟨Ao65, co65, eo65⟩ := Kd.R_slice HO919.out; subst eo65; have hnb66 := NB921_894.out; have hnc66 := NB894_921.out; have hnb67 := NB921_895.out; have hnc67 := NB895_921.out; have hnb68 := NB921_908.out; have hnc68 := NB908_921.out; have hnb69 := NB921_912.out; have hnc69 := NB912_921.out; have hnb70 := NB921_916.out; have hnc70 := NB916_921.out; have hcz71_0 := bc BK921 0 (.slice none 0 0); have hfz71_0 := blk_frozen BK921.out 0))
   (try simp only [Act.put, List.setIfInBounds_toArray, List.set_cons_zero, List.set_cons_succ])
   go_cut [53] (fun v53 wc => ∃ (kq : Nat) (x53_24 : Bool), v53 = .bool x53_24 ∧ Aside0 (laws_FnExactMeetOf.j0 kq t907 t920 x53_24 l0_0 l1_0 t904 t909 t913 t917 = some true) ∧ Aside0 (kq ≤ k) ∧ Aside0 (Kd.R (Kd.int .i64) 3 wc w.heap.size (fun k_ => some k_ ≠ ((.slice Ao47 t909.length co47) : Value).ownBlock ∧ some k_ ≠ ((.slice Ao56 t913.length co56) : Value).ownBlock ∧ some k_ ≠ ((.slice Ao65 t917.length co65) : Value).ownBlock) (.slice Ao41 t904.length co41) t904) ∧ Aside0 (Kd.R (Kd.int .i64) 3 wc w.heap.size (fun k_ => some k_ ≠ ((.slice Ao41 t904.length co41) : Value).ownBlock ∧ some k_ ≠ ((.slice Ao56 t913.length co56) : Value).ownBlock ∧ some k_ ≠ ((.slice Ao65 t917.length co65) : Value).ownBlock) (.slice Ao47 t909.length co47) t909) ∧ Aside0 (Kd.R (Kd.int .i64) 3 wc w.heap.size (fun k_ => some k_ ≠ ((.slice Ao41 t904.length co41) : Value).ownBlock ∧ some k_ ≠ ((.slice Ao47 t909.length co47) : Value).ownBlock ∧ some k_ ≠ ((.slice Ao65 t917.length co65) : Value).ownBlock) (.slice Ao56 t913.length co56) t913) ∧ Aside0 (Kd.R (Kd.int .i64) 3 wc w.heap.size (fun k_ => some k_ ≠ ((.slice Ao41 t904.length co41) : Value).ownBlock ∧ some k_ ≠ ((.slice Ao47 t909.length co47) : Value).ownBlock ∧ some k_ ≠ ((.slice Ao56 t913.length co56) : Value).ownBlock) (.slice Ao65 t917.length co65) t917) ∧ Aside0 (wc.heap[gb894]? = some (.cells #[(.slice A0_0 l0_0.length c0_0)] 24 (0, 0))) ∧ Aside0 (wc.heap[gb895]? = some (.cells #[(.slice A1_0 l1_0.length c1_0)] 24 (0, 0))) ∧ Aside0 (wc.heap[gb908]? = some (.cells #[(.slice Ao41 t904.length co41)] 27 (0, 0))) ∧ Aside0 (wc.heap[gb912]? = some (.cells #[(.slice Ao47 t909.length co47)] 27 (0, 0))) ∧ Aside0 (wc.heap[gb916]? = some (.cells #[(.slice Ao56 t913.length co56)] 27 (0, 0))) ∧ Aside0 (wc.heap[gb921]? = some (.cells #[(.slice Ao65 t917.length co65)] 27 (0, 0))) ∧ Aside0 (Below w.heap.size w wc))
   case first =>
    have H := HC25.out
    clear HC25
    replace H := ga H; obtain ⟨t922, A72, H⟩ := H
    replace H := gb H; obtain ⟨rfl, H⟩ | ⟨rfl, H⟩ := H
    ·have H' := Aside0.mk H
     clear H
     have hnb74 := NB921_894.out
     have hnc74 := NB894_921.out
     have hnb75 := NB921_895.out
     have hnc75 := NB895_921.out
     have hnb76 := NB921_908.out
     have hnc76 := NB908_921.out
     have hnb77 := NB921_912.out
     have hnc77 := NB912_921.out
     have hnb78 := NB921_916.out
     have hnc78 := NB916_921.out
     have hcz79_0 := bc BK921 0 (.slice none 0 0)
     have hfz79_0 := blk_frozen BK921.out 0
     have hnb80 := NB908_894.out
     have hnc80 := NB894_908.out
     have hnb81 := NB908_895.out
     have hnc81 := NB895_908.out
     have hnb82 := NB908_912.out
     have hnc82 := NB912_908.out
     have hnb83 := NB908_916.out
     have hnc83 := NB916_908.out
     have hcz84_0 := bc BK908 0 (.slice Ao41 t904.length co41)
     have hfz84_0 := blk_frozen BK908.out 0
     go_wp2_with (first | ((with_reducible refine gate_callee (f := 21) rfl ?_); refine gl (some 47) Try.func21 #[.agg #[.slice Ao65 t917.length co65], .agg #[.slice Ao41 t904.length co41]] ?_; (with_reducible refine (laws_eqSemigroup.calls k _ _ t917 _ _ t904 true _ ?side1 ?side2 ?side3 ?side4 A72.out).mono ?_); (case side1 => refine (Kd.R_reads' (e := 3) (base := w.heap.size) (ok := fun k_ => (((((True ∧ some k_ ≠ (v899 : Value).ownBlock) ∧ some k_ ≠ (v902 : Value).ownBlock) ∧ some k_ ≠ (.slice Ao41 t904.length co41 : Value).ownBlock) ∧ some k_ ≠ (.slice Ao47 t909.length co47 : Value).ownBlock) ∧ some k_ ≠ (.slice Ao56 t913.length co56 : Value).ownBlock)) (n := t917.length) (c := co65) ?_).2.2; exact (by (with_reducible repeat (first | apply Kd.R_alloc | apply Kd.R_drewN | apply Kd.R_drew)); exact (Kd.R_mono (Kd.R_far (p := ⟨gb921, 0, none⟩) (Kd.R_types HO919.out BK921.out (by decide)) (fun _ hk => hk.2) (.slice Ao65 t917.length co65)) (fun _ h_ => h_.1)))); (case side2 => exact (Kd.R_reads' HO919.out).2.1); (case side3 => refine (Kd.R_reads' (e := 3) (base := w.heap.size) (ok := fun k_ => ((((some k_ ≠ (v899 : Value).ownBlock ∧ some k_ ≠ (v902 : Value).ownBlock) ∧ some k_ ≠ (.slice Ao47 t909.length co47 : Value).ownBlock) ∧ some k_ ≠ (.slice Ao56 t913.length co56 : Value).ownBlock) ∧ some k_ ≠ (.slice Ao65 t917.length co65 : Value).ownBlock)) (n := t904.length) (c := co41) ?_).2.2; exact (by (with_reducible repeat (first | apply Kd.R_alloc | apply Kd.R_drewN | apply Kd.R_drew)); exact (Kd.R_mono (Kd.R_far (p := ⟨gb921, 0, none⟩) (Kd.R_types HO906.out BK921.out (by decide)) (fun _ hk => hk.2) (.slice Ao65 t917.length co65)) (fun _ h_ => h_.1)))); (case side4 => exact (Kd.R_reads' HO906.out).2.1); rintro e w85 ⟨rfl, hb⟩; refine ⟨_, rfl, ?_⟩; replace HO900 := Aside0.mk (Kd.R_below (by (with_reducible repeat (first | apply Kd.R_alloc | apply Kd.R_drewN | apply Kd.R_drew)); exact (Kd.R_mono (Kd.R_far (p := ⟨gb921, 0, none⟩) (Kd.R_types HO900.out BK921.out (by decide)) (fun _ hk => hk.2) (.slice Ao65 t917.length co65)) (fun _ h_ => h_.1))) hb); replace HO903 := Aside0.mk (Kd.R_below (by (with_reducible repeat (first | apply Kd.R_alloc | apply Kd.R_drewN | apply Kd.R_drew)); exact (Kd.R_mono (Kd.R_far (p := ⟨gb921, 0, none⟩) (Kd.R_types HO903.out BK921.out (by decide)) (fun _ hk => hk.2) (.slice Ao65 t917.length co65)) (fun _ h_ => h_.1))) hb); replace HO906 := Aside0.mk (Kd.R_below (by (with_reducible repeat (first | apply Kd.R_alloc | apply Kd.R_drewN | apply Kd.R_drew)); exact (Kd.R_mono (Kd.R_far (p := ⟨gb921, 0, none⟩) (Kd.R_types HO906.out BK921.out (by decide)) (fun _ hk => hk.2) (.slice Ao65 t917.length co65)) (fun _ h_ => h_.1))) hb); replace HO911 := Aside0.mk (Kd.R_below (by (with_reducible repeat (first | apply Kd.R_alloc | apply Kd.R_drewN | apply Kd.R_drew)); exact (Kd.R_mono (Kd.R_far (p := ⟨gb921, 0, none⟩) (Kd.R_types HO911.out BK921.out (by decide)) (fun _ hk => hk.2) (.slice Ao65 t917.length co65)) (fun _ h_ => h_.1))) hb); replace HO915 := Aside0.mk (Kd.R_below (by (with_reducible repeat (first | apply Kd.R_alloc | apply Kd.R_drewN | apply Kd.R_drew)); exact (Kd.R_mono (Kd.R_far (p := ⟨gb921, 0, none⟩) (Kd.R_types HO915.out BK921.out (by decide)) (fun _ hk => hk.2) (.slice Ao65 t917.length co65)) (fun _ h_ => h_.1))) hb); replace HO919 := Aside0.mk (Kd.R_below (by (with_reducible repeat (first | apply Kd.R_alloc | apply Kd.R_drewN | apply Kd.R_drew)); exact (Kd.R_mono (Kd.R_far (p := ⟨gb921, 0, none⟩) (Kd.R_types HO919.out BK921.out (by decide)) (fun _ hk => hk.2) (.slice Ao65 t917.length co65)) (fun _ h_ => h_.1))) hb); replace BK894 := Aside0.mk (blk_below (g := gb894) (o := .cells #[.slice A0_0 l0_0.length c0_0] 24 (0, 0)) (by (with_reducible repeat (first | refine blk_drewN ?_ _ | refine blk_drew ?_ | refine blk_alloc ?_ _)); refine blk_far ?_ NB894_921.out _; (with_reducible repeat (first | refine blk_drewN ?_ _ | refine blk_drew ?_ | refine blk_alloc ?_ _)); exact BK894.out) hb); replace BK895 := Aside0.mk (blk_below (g := gb895) (o := .cells #[.slice A1_0 l1_0.length c1_0] 24 (0, 0)) (by (with_reducible repeat (first | refine blk_drewN ?_ _ | refine blk_drew ?_ | refine blk_alloc ?_ _)); refine blk_far ?_ NB895_921.out _; (with_reducible repeat (first | refine blk_drewN ?_ _ | refine blk_drew ?_ | refine blk_alloc ?_ _)); exact BK895.out) hb); replace BK908 := Aside0.mk (blk_below (g := gb908) (o := .cells #[.slice Ao41 t904.length co41] 27 (0, 0)) (by (with_reducible repeat (first | refine blk_drewN ?_ _ | refine blk_drew ?_ | refine blk_alloc ?_ _)); refine blk_far ?_ NB908_921.out _; (with_reducible repeat (first | refine blk_drewN ?_ _ | refine blk_drew ?_ | refine blk_alloc ?_ _)); exact BK908.out) hb); replace BK912 := Aside0.mk (blk_below (g := gb912) (o := .cells #[.slice Ao47 t909.length co47] 27 (0, 0)) (by (with_reducible repeat (first | refine blk_drewN ?_ _ | refine blk_drew ?_ | refine blk_alloc ?_ _)); refine blk_far ?_ NB912_921.out _; (with_reducible repeat (first | refine blk_drewN ?_ _ | refine blk_drew ?_ | refine blk_alloc ?_ _)); exact BK912.out) hb); replace BK916 := Aside0.mk (blk_below (g := gb916) (o := .cells #[.slice Ao56 t913.length co56] 27 (0, 0)) (by (with_reducible repeat (first | refine blk_drewN ?_ _ | refine blk_drew ?_ | refine blk_alloc ?_ _)); refine blk_far ?_ NB916_921.out _; (with_reducible repeat (first | refine blk_drewN ?_ _ | refine blk_drew ?_ | refine blk_alloc ?_ _)); exact BK916.out) hb); replace BK921 := Aside0.mk (blk_below (g := gb921) (o := .cells #[.slice Ao65 t917.length co65] 27 (0, 0)) (by (with_reducible repeat (first | refine blk_drewN ?_ _ | refine blk_drew ?_ | refine blk_alloc ?_ _)); refine blk_put (cs := #[.slice none 0 0]) ?_ 0 _ rfl; (with_reducible repeat (first | refine blk_drewN ?_ _ | refine blk_drew ?_ | refine blk_alloc ?_ _)); exact BK921.out) hb); replace HB := Aside0.mk (below_step bw hb); clear hb))
     go_meet
     case rel => exact ⟨_, ((t920 != t907)), rr, H', ⟨om⟩, ⟨by (with_reducible repeat (first | apply Kd.R_alloc | apply Kd.R_drewN | apply Kd.R_drew)); exact Kd.R_mono HO906.out (fun _ hk => ⟨hk.1.1.2, ⟨hk.1.2, hk.2⟩⟩)⟩, ⟨by (with_reducible repeat (first | apply Kd.R_alloc | apply Kd.R_drewN | apply Kd.R_drew)); exact Kd.R_mono HO911.out (fun _ hk => ⟨hk.1.1.2, ⟨hk.1.2, hk.2⟩⟩)⟩, ⟨by (with_reducible repeat (first | apply Kd.R_alloc | apply Kd.R_drewN | apply Kd.R_drew)); exact Kd.R_mono HO915.out (fun _ hk => ⟨hk.1.1.2, ⟨hk.1.2, hk.2⟩⟩)⟩, ⟨by (with_reducible repeat (first | apply Kd.R_alloc | apply Kd.R_drewN | apply Kd.R_drew)); exact Kd.R_mono HO919.out (fun _ hk => ⟨hk.1.1.2, ⟨hk.1.2, hk.2⟩⟩)⟩, ⟨bo BK894.out⟩, ⟨bo BK895.out⟩, ⟨bo BK908.out⟩, ⟨bo BK912.out⟩, ⟨bo BK916.out⟩, ⟨bo BK921.out⟩, ⟨bw⟩⟩
    ·have H' := Aside0.mk H
     clear H
     have hnb86 := NB921_894.out
     have hnc86 := NB894_921.out
     have hnb87 := NB921_895.out
     have hnc87 := NB895_921.out
     have hnb88 := NB921_908.out
     have hnc88 := NB908_921.out
     have hnb89 := NB921_912.out
     have hnc89 := NB912_921.out
     have hnb90 := NB921_916.out
     have hnc90 := NB916_921.out
     have hcz91_0 := bc BK921 0 (.slice none 0 0)
     have hfz91_0 := blk_frozen BK921.out 0
     have hnb92 := NB908_894.out
     have hnc92 := NB894_908.out
     have hnb93 := NB908_895.out
     have hnc93 := NB895_908.out
     have hnb94 := NB908_912.out
     have hnc94 := NB912_908.out
     have hnb95 := NB908_916.out
     have hnc95 := NB916_908.out
     have hcz96_0 := bc BK908 0 (.slice Ao41 t904.length co41)
     have hfz96_0 := blk_frozen BK908.out 0
     go_wp2_with (first | ((with_reducible refine gate_callee (f := 21) rfl ?_); refine gl (some 47) Try.func21 #[.agg #[.slice Ao65 t917.length co65], .agg #[.slice Ao41 t904.length co41]] ?_; (with_reducible refine (laws_eqSemigroup.calls k _ _ t917 _ _ t904 false _ ?side1 ?side2 ?side3 ?side4 A72.out).mono ?_); (case side1 => refine (Kd.R_reads' (e := 3) (base := w.heap.size) (ok := fun k_ => (((((True ∧ some k_ ≠ (v899 : Value).ownBlock) ∧ some k_ ≠ (v902 : Value).ownBlock) ∧ some k_ ≠ (.slice Ao41 t904.length co41 : Value).ownBlock) ∧ some k_ ≠ (.slice Ao47 t909.length co47 : Value).ownBlock) ∧ some k_ ≠ (.slice Ao56 t913.length co56 : Value).ownBlock)) (n := t917.length) (c := co65) ?_).2.2; exact (by (with_reducible repeat (first | apply Kd.R_alloc | apply Kd.R_drewN | apply Kd.R_drew)); exact (Kd.R_mono (Kd.R_far (p := ⟨gb921, 0, none⟩) (Kd.R_types HO919.out BK921.out (by decide)) (fun _ hk => hk.2) (.slice Ao65 t917.length co65)) (fun _ h_ => h_.1)))); (case side2 => exact (Kd.R_reads' HO919.out).2.1); (case side3 => refine (Kd.R_reads' (e := 3) (base := w.heap.size) (ok := fun k_ => ((((some k_ ≠ (v899 : Value).ownBlock ∧ some k_ ≠ (v902 : Value).ownBlock) ∧ some k_ ≠ (.slice Ao47 t909.length co47 : Value).ownBlock) ∧ some k_ ≠ (.slice Ao56 t913.length co56 : Value).ownBlock) ∧ some k_ ≠ (.slice Ao65 t917.length co65 : Value).ownBlock)) (n := t904.length) (c := co41) ?_).2.2; exact (by (with_reducible repeat (first | apply Kd.R_alloc | apply Kd.R_drewN | apply Kd.R_drew)); exact (Kd.R_mono (Kd.R_far (p := ⟨gb921, 0, none⟩) (Kd.R_types HO906.out BK921.out (by decide)) (fun _ hk => hk.2) (.slice Ao65 t917.length co65)) (fun _ h_ => h_.1)))); (case side4 => exact (Kd.R_reads' HO906.out).2.1); rintro e w97 ⟨rfl, hb⟩; refine ⟨_, rfl, ?_⟩; replace HO900 := Aside0.mk (Kd.R_below (by (with_reducible repeat (first | apply Kd.R_alloc | apply Kd.R_drewN | apply Kd.R_drew)); exact (Kd.R_mono (Kd.R_far (p := ⟨gb921, 0, none⟩) (Kd.R_types HO900.out BK921.out (by decide)) (fun _ hk => hk.2) (.slice Ao65 t917.length co65)) (fun _ h_ => h_.1))) hb); replace HO903 := Aside0.mk (Kd.R_below (by (with_reducible repeat (first | apply Kd.R_alloc | apply Kd.R_drewN | apply Kd.R_drew)); exact (Kd.R_mono (Kd.R_far (p := ⟨gb921, 0, none⟩) (Kd.R_types HO903.out BK921.out (by decide)) (fun _ hk => hk.2) (.slice Ao65 t917.length co65)) (fun _ h_ => h_.1))) hb); replace HO906 := Aside0.mk (Kd.R_below (by (with_reducible repeat (first | apply Kd.R_alloc | apply Kd.R_drewN | apply Kd.R_drew)); exact (Kd.R_mono (Kd.R_far (p := ⟨gb921, 0, none⟩) (Kd.R_types HO906.out BK921.out (by decide)) (fun _ hk => hk.2) (.slice Ao65 t917.length co65)) (fun _ h_ => h_.1))) hb); replace HO911 := Aside0.mk (Kd.R_below (by (with_reducible repeat (first | apply Kd.R_alloc | apply Kd.R_drewN | apply Kd.R_drew)); exact (Kd.R_mono (Kd.R_far (p := ⟨gb921, 0, none⟩) (Kd.R_types HO911.out BK921.out (by decide)) (fun _ hk => hk.2) (.slice Ao65 t917.length co65)) (fun _ h_ => h_.1))) hb); replace HO915 := Aside0.mk (Kd.R_below (by (with_reducible repeat (first | apply Kd.R_alloc | apply Kd.R_drewN | apply Kd.R_drew)); exact (Kd.R_mono (Kd.R_far (p := ⟨gb921, 0, none⟩) (Kd.R_types HO915.out BK921.out (by decide)) (fun _ hk => hk.2) (.slice Ao65 t917.length co65)) (fun _ h_ => h_.1))) hb); replace HO919 := Aside0.mk (Kd.R_below (by (with_reducible repeat (first | apply Kd.R_alloc | apply Kd.R_drewN | apply Kd.R_drew)); exact (Kd.R_mono (Kd.R_far (p := ⟨gb921, 0, none⟩) (Kd.R_types HO919.out BK921.out (by decide)) (fun _ hk => hk.2) (.slice Ao65 t917.length co65)) (fun _ h_ => h_.1))) hb); replace BK894 := Aside0.mk (blk_below (g := gb894) (o := .cells #[.slice A0_0 l0_0.length c0_0] 24 (0, 0)) (by (with_reducible repeat (first | refine blk_drewN ?_ _ | refine blk_drew ?_ | refine blk_alloc ?_ _)); refine blk_far ?_ NB894_921.out _; (with_reducible repeat (first | refine blk_drewN ?_ _ | refine blk_drew ?_ | refine blk_alloc ?_ _)); exact BK894.out) hb); replace BK895 := Aside0.mk (blk_below (g := gb895) (o := .cells #[.slice A1_0 l1_0.length c1_0] 24 (0, 0)) (by (with_reducible repeat (first | refine blk_drewN ?_ _ | refine blk_drew ?_ | refine blk_alloc ?_ _)); refine blk_far ?_ NB895_921.out _; (with_reducible repeat (first | refine blk_drewN ?_ _ | refine blk_drew ?_ | refine blk_alloc ?_ _)); exact BK895.out) hb); replace BK908 := Aside0.mk (blk_below (g := gb908) (o := .cells #[.slice Ao41 t904.length co41] 27 (0, 0)) (by (with_reducible repeat (first | refine blk_drewN ?_ _ | refine blk_drew ?_ | refine blk_alloc ?_ _)); refine blk_far ?_ NB908_921.out _; (with_reducible repeat (first | refine blk_drewN ?_ _ | refine blk_drew ?_ | refine blk_alloc ?_ _)); exact BK908.out) hb); replace BK912 := Aside0.mk (blk_below (g := gb912) (o := .cells #[.slice Ao47 t909.length co47] 27 (0, 0)) (by (with_reducible repeat (first | refine blk_drewN ?_ _ | refine blk_drew ?_ | refine blk_alloc ?_ _)); refine blk_far ?_ NB912_921.out _; (with_reducible repeat (first | refine blk_drewN ?_ _ | refine blk_drew ?_ | refine blk_alloc ?_ _)); exact BK912.out) hb); replace BK916 := Aside0.mk (blk_below (g := gb916) (o := .cells #[.slice Ao56 t913.length co56] 27 (0, 0)) (by (with_reducible repeat (first | refine blk_drewN ?_ _ | refine blk_drew ?_ | refine blk_alloc ?_ _)); refine blk_far ?_ NB916_921.out _; (with_reducible repeat (first | refine blk_drewN ?_ _ | refine blk_drew ?_ | refine blk_alloc ?_ _)); exact BK916.out) hb); replace BK921 := Aside0.mk (blk_below (g := gb921) (o := .cells #[.slice Ao65 t917.length co65] 27 (0, 0)) (by (with_reducible repeat (first | refine blk_drewN ?_ _ | refine blk_drew ?_ | refine blk_alloc ?_ _)); refine blk_put (cs := #[.slice none 0 0]) ?_ 0 _ rfl; (with_reducible repeat (first | refine blk_drewN ?_ _ | refine blk_drew ?_ | refine blk_alloc ?_ _)); exact BK921.out) hb); replace HB := Aside0.mk (below_step bw hb); clear hb))
     go_meet
     case rel => exact ⟨_, (true), rr, H', ⟨om⟩, ⟨by (with_reducible repeat (first | apply Kd.R_alloc | apply Kd.R_drewN | apply Kd.R_drew)); exact Kd.R_mono HO906.out (fun _ hk => ⟨hk.1.1.2, ⟨hk.1.2, hk.2⟩⟩)⟩, ⟨by (with_reducible repeat (first | apply Kd.R_alloc | apply Kd.R_drewN | apply Kd.R_drew)); exact Kd.R_mono HO911.out (fun _ hk => ⟨hk.1.1.2, ⟨hk.1.2, hk.2⟩⟩)⟩, ⟨by (with_reducible repeat (first | apply Kd.R_alloc | apply Kd.R_drewN | apply Kd.R_drew)); exact Kd.R_mono HO915.out (fun _ hk => ⟨hk.1.1.2, ⟨hk.1.2, hk.2⟩⟩)⟩, ⟨by (with_reducible repeat (first | apply Kd.R_alloc | apply Kd.R_drewN | apply Kd.R_drew)); exact Kd.R_mono HO919.out (fun _ hk => ⟨hk.1.1.2, ⟨hk.1.2, hk.2⟩⟩)⟩, ⟨bo BK894.out⟩, ⟨bo BK895.out⟩, ⟨bo BK908.out⟩, ⟨bo BK912.out⟩, ⟨bo BK916.out⟩, ⟨bo BK921.out⟩, ⟨bw⟩⟩
   case rest =>
    clear HC25
    try clear hcz44_0; try clear hcz51_0; try clear hcz53_0; try clear hcz61_0; try clear hcz62_0; try clear hcz71_0; try clear hcz79_0; try clear hcz84_0; try clear hcz91_0; try clear hcz96_0; try clear hfz44_0; try clear hfz51_0; try clear hfz53_0; try clear hfz61_0; try clear hfz62_0; try clear hfz71_0; try clear hfz79_0; try clear hfz84_0; try clear hfz91_0; try clear hfz96_0
    obtain ⟨kq, x53_24, rfl, HA, HJ24, HO_909000, HO_913000, HO_917000, HO_922000, BK894, BK895, BK908, BK912, BK916, BK921, HB⟩ := hcut
    cases kq with
    | zero => exact absurd HA.out (by simp [laws_FnExactMeetOf.j0])
    | succ kj24 =>
     have H := HA.out
     clear HA
     simp only [laws_FnExactMeetOf.j0] at H
     replace H := gb H; obtain ⟨rfl, H⟩ | ⟨rfl, H⟩ := H
     ·exact absurd (Option.some.inj H) (by decide)
     ·replace H := ga H; obtain ⟨t923, A99, H⟩ := H
      replace H := ga H; obtain ⟨t926, A100, H⟩ := H
      replace H := gb H; obtain ⟨rfl, H⟩ | ⟨rfl, H⟩ := H
      ·replace H := ga H; obtain ⟨t927, A102, H⟩ := H
       replace H := ga H; obtain ⟨t930, A103, H⟩ := H
       replace H := gb H; obtain ⟨rfl, H⟩ | ⟨rfl, H⟩ := H
       ·replace H := ga H; obtain ⟨⟨t931, t932⟩, A105, H⟩ := H
        replace H : ((laws_markSemigroup.f kj24 t913 t931).bind fun bt933 => (if bt933.1 < 0 then (laws_FnExactMeetOf.j1 kj24 t907 true l0_0 l1_0 t904 t917) else ((laws_eqSemigroup.f kj24 t917 t904).bind fun t935 => (if t935 = true then (laws_FnExactMeetOf.j1 kj24 t907 (t920 != t907) l0_0 l1_0 t904 t917) else (laws_FnExactMeetOf.j1 kj24 t907 true l0_0 l1_0 t904 t917))))) = some true := H
        replace H := ga H; obtain ⟨⟨t933, t934⟩, A106, H⟩ := H
        replace H : (if t933 < 0 then (laws_FnExactMeetOf.j1 kj24 t907 true l0_0 l1_0 t904 t917) else ((laws_eqSemigroup.f kj24 t917 t904).bind fun t935 => (if t935 = true then (laws_FnExactMeetOf.j1 kj24 t907 (t920 != t907) l0_0 l1_0 t904 t917) else (laws_FnExactMeetOf.j1 kj24 t907 true l0_0 l1_0 t904 t917)))) = some true := H
        have HC107 := Aside0.mk H
        clear H
        try go_wp2
        replace HO_909000 := Aside0.mk (Kd.R_drew HO_909000.out)
        replace HO_913000 := Aside0.mk (Kd.R_drew HO_913000.out)
        replace HO_917000 := Aside0.mk (Kd.R_drew HO_917000.out)
        replace HO_922000 := Aside0.mk (Kd.R_drew HO_922000.out)
        replace BK894 := Aside0.mk (blk_drew BK894.out)
        replace BK895 := Aside0.mk (blk_drew BK895.out)
        replace BK908 := Aside0.mk (blk_drew BK908.out)
        replace BK912 := Aside0.mk (blk_drew BK912.out)
        replace BK916 := Aside0.mk (blk_drew BK916.out)
        replace BK921 := Aside0.mk (blk_drew BK921.out)
        replace HB := Aside0.mk (below_drew1 HB.out)
        refine start_ (n := 5) (S := fun w' => w'.cell? ⟨gb912, 0, none⟩ = some (.slice Ao47 t909.length co47) ∧ w'.cell? ⟨gb894, 0, none⟩ = some (.slice A0_0 l0_0.length c0_0)) (ds := []) #[Z,Z,Z,Z,Z] (by kernel_rfl) rfl rfl ⟨(blk_cell BK912.out 0).trans rfl, (blk_cell BK894.out 0).trans rfl⟩ (fun hHeld => ?_)
        generalize wc.drew = w108 at HO_909000 HO_913000 HO_917000 HO_922000 BK894 BK895 BK908 BK912 BK916 BK921 HB hHeld ⊢
        refine take_ (i := 0) (N := some 54) (v := ?_) (a' := ?_) #[Y,Z,Z,Z,Z] rfl rfl (by kernel_rfl) (fun _ _ _ h => h) (Or.inl ⟨by rfl, ?_⟩) hHeld ?_ ?_
        rotate_left
        ·rintro w' ⟨s0, s1⟩
         go_simp
         with_reducible rfl
        rotate_left
        ·simp only [Act.put, qa, qb, qc, i64_w, i32_w]
         rfl
        refine take_ (i := 1) (N := some 55) (v := ?_) (a' := ?_) #[Y,Y,Z,Z,Z] rfl rfl (by kernel_rfl) (fun _ _ _ h => h) (Or.inl ⟨by rfl, ?_⟩) hHeld ?_ ?_
        rotate_left
        ·rintro w' ⟨s0, s1⟩
         go_simp
         with_reducible rfl
        rotate_left
        ·simp only [Act.put, qa, qb, qc, i64_w, i32_w]
         rfl
        refine one_ (i := 2) (N := some 56) #[Y,Y,Y,Z,Z] rfl rfl (by kernel_rfl) (by decide) (fun K hK => ?_)
        refine gm Try.func17 #[.agg #[.slice A0_0 l0_0.length c0_0]] ?_
        with_reducible refine (laws_toSemigroup.calls kj24 _ _ l0_0 t923 _ ?side1 ?side2 A99.out).mono ?_
        (case side1 => exact co (Kd.C_below HR0_0.out HB.out))
        (case side2 => exact HC0_0.out)
        rintro e w109 ⟨v924, rfl, ho0, hb⟩
        refine ⟨_, rfl, ?_⟩
        have HO925 := Aside0.mk (Kd.R_lower (Kd.R_new' (Kd.R_new' (Kd.R_new' (Kd.R_new' ho0 (Kd.R_lt (ro HO_909000.out))) (Kd.R_lt (ro HO_913000.out))) (Kd.R_lt (ro HO_917000.out))) (Kd.R_lt (ro HO_922000.out))) (below_size bw))
        replace HO_909000 := Aside0.mk (Kd.R_elder' (ro HO_909000.out) (Kd.R_base ho0) hb)
        replace HO_913000 := Aside0.mk (Kd.R_elder' (ro HO_913000.out) (Kd.R_base ho0) hb)
        replace HO_917000 := Aside0.mk (Kd.R_elder' (ro HO_917000.out) (Kd.R_base ho0) hb)
        replace HO_922000 := Aside0.mk (Kd.R_elder' (ro HO_922000.out) (Kd.R_base ho0) hb)
        replace BK894 := Aside0.mk (blk_below (g := gb894) (o := .cells #[.slice A0_0 l0_0.length c0_0] 24 (0, 0)) (bo BK894.out) hb)
        replace BK895 := Aside0.mk (blk_below (g := gb895) (o := .cells #[.slice A1_0 l1_0.length c1_0] 24 (0, 0)) (bo BK895.out) hb)
        replace BK908 := Aside0.mk (blk_below (g := gb908) (o := .cells #[.slice Ao41 t904.length co41] 27 (0, 0)) (bo BK908.out) hb)
        replace BK912 := Aside0.mk (blk_below (g := gb912) (o := .cells #[.slice Ao47 t909.length co47] 27 (0, 0)) (bo BK912.out) hb)
        replace BK916 := Aside0.mk (blk_below (g := gb916) (o := .cells #[.slice Ao56 t913.length co56] 27 (0, 0)) (bo BK916.out) hb)
        replace BK921 := Aside0.mk (blk_below (g := gb921) (o := .cells #[.slice Ao65 t917.length co65] 27 (0, 0)) (bo BK921.out) hb)
        replace HB := Aside0.mk (below_step bw hb)
        clear hb ho0
        obtain ⟨Ao110, co110, eo110⟩ := Kd.R_slice HO925.out
        (first | subst eo110 | (injection eo110 with f1_ f2_ f3_; have f4_ := f1_.symm; have f5_ := f3_.symm; clear f1_ f2_ f3_; subst f4_; subst f5_))
        refine hK.out _ _ ⟨(blk_cell BK912.out 0).trans rfl, (blk_cell BK894.out 0).trans rfl⟩ (fun hHeld => ?_)
        clear hK K
        refine norm_ (a' := ?_) ?_ ?_
        rotate_left
        ·show Act.put _ (some 56) _ = _
         simp only [Act.put, qa, qb, qc, i64_w, i32_w]
         rfl
        refine one_ (i := 3) (N := some 57) #[Y,Y,Y,Y,Z] rfl rfl (by kernel_rfl) (by decide) (fun K hK => ?_)
        refine gm Try.func21 #[.agg #[.slice Ao47 t909.length co47], .agg #[.slice Ao110 t923.length co110]] ?_
        with_reducible refine (laws_eqSemigroup.calls kj24 _ _ t909 _ _ t923 true _ ?side1 ?side2 ?side3 ?side4 A100.out).mono ?_
        (case side1 => exact co (Kd.R_reads' HO_913000.out).2.2)
        (case side2 => exact (Kd.R_reads' HO_913000.out).2.1)
        (case side3 => exact co (Kd.R_reads' HO925.out).2.2)
        (case side4 => exact (Kd.R_reads' HO925.out).2.1)
        rintro e w111 ⟨rfl, hb⟩
        refine ⟨_, rfl, ?_⟩
        replace HO_909000 := Aside0.mk (Kd.R_below (ro HO_909000.out) hb)
        replace HO_913000 := Aside0.mk (Kd.R_below (ro HO_913000.out) hb)
        replace HO_917000 := Aside0.mk (Kd.R_below (ro HO_917000.out) hb)
        replace HO_922000 := Aside0.mk (Kd.R_below (ro HO_922000.out) hb)
        replace HO925 := Aside0.mk (Kd.R_below (ro HO925.out) hb)
        replace BK894 := Aside0.mk (blk_below (g := gb894) (o := .cells #[.slice A0_0 l0_0.length c0_0] 24 (0, 0)) (bo BK894.out) hb)
        replace BK895 := Aside0.mk (blk_below (g := gb895) (o := .cells #[.slice A1_0 l1_0.length c1_0] 24 (0, 0)) (bo BK895.out) hb)
        replace BK908 := Aside0.mk (blk_below (g := gb908) (o := .cells #[.slice Ao41 t904.length co41] 27 (0, 0)) (bo BK908.out) hb)
        replace BK912 := Aside0.mk (blk_below (g := gb912) (o := .cells #[.slice Ao47 t909.length co47] 27 (0, 0)) (bo BK912.out) hb)
        replace BK916 := Aside0.mk (blk_below (g := gb916) (o := .cells #[.slice Ao56 t913.length co56] 27 (0, 0)) (bo BK916.out) hb)
        replace BK921 := Aside0.mk (blk_below (g := gb921) (o := .cells #[.slice Ao65 t917.length co65] 27 (0, 0)) (bo BK921.out) hb)
        replace HB := Aside0.mk (below_step bw hb)
        clear hb
        refine hK.out _ _ ⟨(blk_cell BK912.out 0).trans rfl, (blk_cell BK894.out 0).trans rfl⟩ (fun hHeld => ?_)
        clear hK K
        refine norm_ (a' := ?_) ?_ ?_
        rotate_left
        ·show Act.put _ (some 57) _ = _
         simp only [Act.put, qa, qb, qc, i64_w, i32_w]
         rfl
        refine pure_ (i := 4) (N := some 58) (v := ?_) (a' := ?_) #[Y,Y,Y,Y,Y] rfl rfl (by kernel_rfl) (fun _ _ _ h => h) (Or.inl ⟨by rfl, ?_⟩) ?_ ?_
        rotate_left
        ·intro w'
         go_simp
         with_reducible rfl
        rotate_left
        ·simp only [Act.put, qa, qb, qc, i64_w, i32_w]
         rfl
        refine done_ (by kernel_rfl) ?_
        try go_wp2
        replace HO_909000 := Aside0.mk (Kd.R_drew HO_909000.out)
        replace HO_913000 := Aside0.mk (Kd.R_drew HO_913000.out)
        replace HO_917000 := Aside0.mk (Kd.R_drew HO_917000.out)
        replace HO_922000 := Aside0.mk (Kd.R_drew HO_922000.out)
        replace HO925 := Aside0.mk (Kd.R_drew HO925.out)
        replace BK894 := Aside0.mk (blk_drew BK894.out)
        replace BK895 := Aside0.mk (blk_drew BK895.out)
        replace BK908 := Aside0.mk (blk_drew BK908.out)
        replace BK912 := Aside0.mk (blk_drew BK912.out)
        replace BK916 := Aside0.mk (blk_drew BK916.out)
        replace BK921 := Aside0.mk (blk_drew BK921.out)
        replace HB := Aside0.mk (below_drew1 HB.out)
        refine start_ (n := 5) (S := fun w' => w'.cell? ⟨gb916, 0, none⟩ = some (.slice Ao56 t913.length co56) ∧ w'.cell? ⟨gb895, 0, none⟩ = some (.slice A1_0 l1_0.length c1_0)) (ds := []) #[Z,Z,Z,Z,Z] (by kernel_rfl) rfl rfl ⟨(blk_cell BK916.out 0).trans rfl, (blk_cell BK895.out 0).trans rfl⟩ (fun hHeld => ?_)
        generalize w111.drew = w112 at HO_909000 HO_913000 HO_917000 HO_922000 HO925 BK894 BK895 BK908 BK912 BK916 BK921 HB hHeld ⊢
        refine take_ (i := 0) (N := some 59) (v := ?_) (a' := ?_) #[Y,Z,Z,Z,Z] rfl rfl (by kernel_rfl) (fun _ _ _ h => h) (Or.inl ⟨by rfl, ?_⟩) hHeld ?_ ?_
        rotate_left
        ·rintro w' ⟨s0, s1⟩
         go_simp
         with_reducible rfl
        rotate_left
        ·simp only [Act.put, qa, qb, qc, i64_w, i32_w]
         rfl
        refine take_ (i := 1) (N := some 60) (v := ?_) (a' := ?_) #[Y,Y,Z,Z,Z] rfl rfl (by kernel_rfl) (fun _ _ _ h => h) (Or.inl ⟨by rfl, ?_⟩) hHeld ?_ ?_
        rotate_left
        ·rintro w' ⟨s0, s1⟩
         go_simp
         with_reducible rfl
        rotate_left
        ·simp only [Act.put, qa, qb, qc, i64_w, i32_w]
         rfl
        refine one_ (i := 2) (N := some 61) #[Y,Y,Y,Z,Z] rfl rfl (by kernel_rfl) (by decide) (fun K hK => ?_)
        refine gm Try.func17 #[.agg #[.slice A1_0 l1_0.length c1_0]] ?_
        with_reducible refine (laws_toSemigroup.calls kj24 _ _ l1_0 t927 _ ?side1 ?side2 A102.out).mono ?_
        (case side1 => exact co (Kd.C_below HR1_0.out HB.out))
        (case side2 => exact HC1_0.out)
        rintro e w113 ⟨v928, rfl, ho0, hb⟩
        refine ⟨_, rfl, ?_⟩
        have HO929 := Aside0.mk (Kd.R_lower (Kd.R_new' (Kd.R_new' (Kd.R_new' (Kd.R_new' (Kd.R_new' ho0 (Kd.R_lt (ro HO_909000.out))) (Kd.R_lt (ro HO_913000.out))) (Kd.R_lt (ro HO_917000.out))) (Kd.R_lt (ro HO_922000.out))) (Kd.R_lt (ro HO925.out))) (below_size bw))
        replace HO_909000 := Aside0.mk (Kd.R_elder' (ro HO_909000.out) (Kd.R_base ho0) hb)
        replace HO_913000 := Aside0.mk (Kd.R_elder' (ro HO_913000.out) (Kd.R_base ho0) hb)
        replace HO_917000 := Aside0.mk (Kd.R_elder' (ro HO_917000.out) (Kd.R_base ho0) hb)
        replace HO_922000 := Aside0.mk (Kd.R_elder' (ro HO_922000.out) (Kd.R_base ho0) hb)
        replace HO925 := Aside0.mk (Kd.R_elder' (ro HO925.out) (Kd.R_base ho0) hb)
        replace BK894 := Aside0.mk (blk_below (g := gb894) (o := .cells #[.slice A0_0 l0_0.length c0_0] 24 (0, 0)) (bo BK894.out) hb)
        replace BK895 := Aside0.mk (blk_below (g := gb895) (o := .cells #[.slice A1_0 l1_0.length c1_0] 24 (0, 0)) (bo BK895.out) hb)
        replace BK908 := Aside0.mk (blk_below (g := gb908) (o := .cells #[.slice Ao41 t904.length co41] 27 (0, 0)) (bo BK908.out) hb)
        replace BK912 := Aside0.mk (blk_below (g := gb912) (o := .cells #[.slice Ao47 t909.length co47] 27 (0, 0)) (bo BK912.out) hb)
        replace BK916 := Aside0.mk (blk_below (g := gb916) (o := .cells #[.slice Ao56 t913.length co56] 27 (0, 0)) (bo BK916.out) hb)
        replace BK921 := Aside0.mk (blk_below (g := gb921) (o := .cells #[.slice Ao65 t917.length co65] 27 (0, 0)) (bo BK921.out) hb)
        replace HB := Aside0.mk (below_step bw hb)
        clear hb ho0
        obtain ⟨Ao114, co114, eo114⟩ := Kd.R_slice HO929.out
        (first | subst eo114 | (injection eo114 with f1_ f2_ f3_; have f4_ := f1_.symm; have f5_ := f3_.symm; clear f1_ f2_ f3_; subst f4_; subst f5_))
        refine hK.out _ _ ⟨(blk_cell BK916.out 0).trans rfl, (blk_cell BK895.out 0).trans rfl⟩ (fun hHeld => ?_)
        clear hK K
        refine norm_ (a' := ?_) ?_ ?_
        rotate_left
        ·show Act.put _ (some 61) _ = _
         simp only [Act.put, qa, qb, qc, i64_w, i32_w]
         rfl
        refine one_ (i := 3) (N := some 62) #[Y,Y,Y,Y,Z] rfl rfl (by kernel_rfl) (by decide) (fun K hK => ?_)
        refine gm Try.func21 #[.agg #[.slice Ao56 t913.length co56], .agg #[.slice Ao114 t927.length co114]] ?_
        with_reducible refine (laws_eqSemigroup.calls kj24 _ _ t913 _ _ t927 true _ ?side1 ?side2 ?side3 ?side4 A103.out).mono ?_
        (case side1 => exact co (Kd.R_reads' HO_917000.out).2.2)
        (case side2 => exact (Kd.R_reads' HO_917000.out).2.1)
        (case side3 => exact co (Kd.R_reads' HO929.out).2.2)
        (case side4 => exact (Kd.R_reads' HO929.out).2.1)
        rintro e w115 ⟨rfl, hb⟩
        refine ⟨_, rfl, ?_⟩
        replace HO_909000 := Aside0.mk (Kd.R_below (ro HO_909000.out) hb)
        replace HO_913000 := Aside0.mk (Kd.R_below (ro HO_913000.out) hb)
        replace HO_917000 := Aside0.mk (Kd.R_below (ro HO_917000.out) hb)
        replace HO_922000 := Aside0.mk (Kd.R_below (ro HO_922000.out) hb)
        replace HO925 := Aside0.mk (Kd.R_below (ro HO925.out) hb)
        replace HO929 := Aside0.mk (Kd.R_below (ro HO929.out) hb)
        replace BK894 := Aside0.mk (blk_below (g := gb894) (o := .cells #[.slice A0_0 l0_0.length c0_0] 24 (0, 0)) (bo BK894.out) hb)
        replace BK895 := Aside0.mk (blk_below (g := gb895) (o := .cells #[.slice A1_0 l1_0.length c1_0] 24 (0, 0)) (bo BK895.out) hb)
        replace BK908 := Aside0.mk (blk_below (g := gb908) (o := .cells #[.slice Ao41 t904.length co41] 27 (0, 0)) (bo BK908.out) hb)
        replace BK912 := Aside0.mk (blk_below (g := gb912) (o := .cells #[.slice Ao47 t909.length co47] 27 (0, 0)) (bo BK912.out) hb)
        replace BK916 := Aside0.mk (blk_below (g := gb916) (o := .cells #[.slice Ao56 t913.length co56] 27 (0, 0)) (bo BK916.out) hb)
        replace BK921 := Aside0.mk (blk_below (g := gb921) (o := .cells #[.slice Ao65 t917.length co65] 27 (0, 0)) (bo BK921.out) hb)
        replace HB := Aside0.mk (below_step bw hb)
        clear hb
        refine hK.out _ _ ⟨(blk_cell BK916.out 0).trans rfl, (blk_cell BK895.out 0).trans rfl⟩ (fun hHeld => ?_)
        clear hK K
        refine norm_ (a' := ?_) ?_ ?_
        rotate_left
        ·show Act.put _ (some 62) _ = _
         simp only [Act.put, qa, qb, qc, i64_w, i32_w]
         rfl
        refine pure_ (i := 4) (N := some 63) (v := ?_) (a' := ?_) #[Y,Y,Y,Y,Y] rfl rfl (by kernel_rfl) (fun _ _ _ h => h) (Or.inl ⟨by rfl, ?_⟩) ?_ ?_
        rotate_left
        ·intro w'
         go_simp
         with_reducible rfl
        rotate_left
        ·simp only [Act.put, qa, qb, qc, i64_w, i32_w]
         rfl
        refine done_ (by kernel_rfl) ?_
        have hnb116 := NB912_894.out
        have hnc116 := NB894_912.out
        have hnb117 := NB912_895.out
        have hnc117 := NB895_912.out
        have hnb118 := NB912_908.out
        have hnc118 := NB908_912.out
        have hnb119 := NB912_916.out
        have hnc119 := NB916_912.out
        have hnb120 := NB912_921.out
        have hnc120 := NB921_912.out
        have hcz121_0 := bc BK912 0 (.slice Ao47 t909.length co47)
        have hfz121_0 := blk_frozen BK912.out 0
        go_upto_region 21 with (first | ((with_reducible refine gate_callee (f := 22) rfl ?_); refine gl (some 66) Try.func22 #[.agg #[.slice Ao47 t909.length co47], .int .i64 1] ?_; (with_reducible refine (laws_markSemigroup.calls kj24 (fun k_ => some k_ = (.slice Ao47 t909.length co47 : Value).ownBlock) (.slice Ao47 t909.length co47) t909 1 t931 t932 w _ ?side1 ?side2 A105.out).mono ?_); (case side1 => repeat (first | (with_reducible first | exact HB.out | apply below_alloc | apply pw_below_drewN | apply below_drew1 | refine below_set ?_ GE894.out | refine below_set ?_ GE895.out | refine below_set ?_ GE908.out | refine below_set ?_ GE912.out | refine below_set ?_ GE916.out | refine below_set ?_ GE921.out) | exact HB.out)); (case side2 => exact Kd.R_tight rfl HO_913000.out); rintro e w122 ⟨rfl, hy0, hb, hkp⟩; refine ⟨_, rfl, ?_⟩; replace HO_909000 := Aside0.mk (Kd.R_mono (ok' := fun k_ => some k_ ≠ (.slice Ao47 t909.length co47 : Value).ownBlock ∧ some k_ ≠ (.slice Ao56 t913.length co56 : Value).ownBlock ∧ some k_ ≠ (.slice Ao65 t917.length co65 : Value).ownBlock ∧ some k_ ≠ (.slice Ao110 t923.length co110 : Value).ownBlock ∧ some k_ ≠ (.slice Ao114 t927.length co114 : Value).ownBlock) (Kd.R_keptB (HO_909000.out) hkp (fun k_ hk_ hs_ => by first | exact (hk_.1.1.1) hs_ | simp_all)) (fun k_ hk_ => by first | exact ⟨hk_.1.1.1.1, hk_.1.1.1.2.1, hk_.1.1.1.2.2, hk_.1.1.2, hk_.1.2⟩ | simp_all)); replace HO_917000 := Aside0.mk (Kd.R_mono (ok' := fun k_ => some k_ ≠ (.slice Ao41 t904.length co41 : Value).ownBlock ∧ some k_ ≠ (.slice Ao47 t909.length co47 : Value).ownBlock ∧ some k_ ≠ (.slice Ao65 t917.length co65 : Value).ownBlock ∧ some k_ ≠ (.slice Ao110 t923.length co110 : Value).ownBlock ∧ some k_ ≠ (.slice Ao114 t927.length co114 : Value).ownBlock) (Kd.R_keptB (HO_917000.out) hkp (fun k_ hk_ hs_ => by first | exact (hk_.1.1.2.1) hs_ | simp_all)) (fun k_ hk_ => by first | exact ⟨hk_.1.1.1.1, hk_.1.1.1.2.1, hk_.1.1.1.2.2, hk_.1.1.2, hk_.1.2⟩ | simp_all)); replace HO_922000 := Aside0.mk (Kd.R_mono (ok' := fun k_ => some k_ ≠ (.slice Ao41 t904.length co41 : Value).ownBlock ∧ some k_ ≠ (.slice Ao47 t909.length co47 : Value).ownBlock ∧ some k_ ≠ (.slice Ao56 t913.length co56 : Value).ownBlock ∧ some k_ ≠ (.slice Ao110 t923.length co110 : Value).ownBlock ∧ some k_ ≠ (.slice Ao114 t927.length co114 : Value).ownBlock) (Kd.R_keptB (HO_922000.out) hkp (fun k_ hk_ hs_ => by first | exact (hk_.1.1.2.1) hs_ | simp_all)) (fun k_ hk_ => by first | exact ⟨hk_.1.1.1.1, hk_.1.1.1.2.1, hk_.1.1.1.2.2, hk_.1.1.2, hk_.1.2⟩ | simp_all)); replace BK894 := Aside0.mk (blk_kept (bo BK894.out) hkp (fun hs_ => (fun e_ => (Kd.R_ne HO_913000.out BK894.out (by decide)) e_) hs_)); replace BK895 := Aside0.mk (blk_kept (bo BK895.out) hkp (fun hs_ => (fun e_ => (Kd.R_ne HO_913000.out BK895.out (by decide)) e_) hs_)); replace BK908 := Aside0.mk (blk_kept (bo BK908.out) hkp (fun hs_ => (fun e_ => (Kd.R_ne HO_913000.out BK908.out (by decide)) e_) hs_)); replace BK912 := Aside0.mk (blk_kept (bo BK912.out) hkp (fun hs_ => (fun e_ => (Kd.R_ne HO_913000.out BK912.out (by decide)) e_) hs_)); replace BK916 := Aside0.mk (blk_kept (bo BK916.out) hkp (fun hs_ => (fun e_ => (Kd.R_ne HO_913000.out BK916.out (by decide)) e_) hs_)); replace BK921 := Aside0.mk (blk_kept (bo BK921.out) hkp (fun hs_ => (fun e_ => (Kd.R_ne HO_913000.out BK921.out (by decide)) e_) hs_)); replace HO_913000 := Aside0.mk (Kd.R_reok rfl hy0 (fun k_ e_ => HO_913000.out.1 k_ e_)); replace HO925 := Aside0.mk (Kd.R_mono (ok' := fun k_ => some k_ ≠ (.slice Ao41 t904.length co41 : Value).ownBlock ∧ some k_ ≠ (.slice Ao47 t909.length co47 : Value).ownBlock ∧ some k_ ≠ (.slice Ao56 t913.length co56 : Value).ownBlock ∧ some k_ ≠ (.slice Ao65 t917.length co65 : Value).ownBlock ∧ some k_ ≠ (.slice Ao114 t927.length co114 : Value).ownBlock) (Kd.R_keptB (HO925.out) hkp (fun k_ hk_ hs_ => by first | exact (hk_.1.1.1.2) hs_ | simp_all)) (fun k_ hk_ => by first | exact ⟨hk_.1.1.1.1.1.2, hk_.1.1.1.1.2, hk_.1.1.1.2, hk_.1.1.2, hk_.1.2⟩ | simp_all)); replace HO929 := Aside0.mk (Kd.R_mono (ok' := fun k_ => some k_ ≠ (.slice Ao41 t904.length co41 : Value).ownBlock ∧ some k_ ≠ (.slice Ao47 t909.length co47 : Value).ownBlock ∧ some k_ ≠ (.slice Ao56 t913.length co56 : Value).ownBlock ∧ some k_ ≠ (.slice Ao65 t917.length co65 : Value).ownBlock ∧ some k_ ≠ (.slice Ao110 t923.length co110 : Value).ownBlock) (Kd.R_keptB (HO929.out) hkp (fun k_ hk_ hs_ => by first | exact (hk_.1.1.1.2) hs_ | simp_all)) (fun k_ hk_ => by first | exact ⟨hk_.1.1.1.1.1.2, hk_.1.1.1.1.2, hk_.1.1.1.2, hk_.1.1.2, hk_.1.2⟩ | simp_all)); replace HB := Aside0.mk (hb); clear hb hkp hy0; have hnb123 := NB916_894.out; have hnc123 := NB894_916.out; have hnb124 := NB916_895.out; have hnc124 := NB895_916.out; have hnb125 := NB916_908.out; have hnc125 := NB908_916.out; have hnb126 := NB916_921.out; have hnc126 := NB921_916.out; have hcz127_0 := bc BK916 0 (.slice Ao56 t913.length co56); have hfz127_0 := blk_frozen BK916.out 0) | ((with_reducible refine gate_callee (f := 22) rfl ?_); refine gl (some 69) Try.func22 #[.agg #[.slice Ao56 t913.length co56], .int .i64 t931] ?_; (with_reducible refine (laws_markSemigroup.calls kj24 (fun k_ => some k_ = (.slice Ao56 t913.length co56 : Value).ownBlock) (.slice Ao56 t913.length co56) t913 t931 t933 t934 w _ ?side1 ?side2 A106.out).mono ?_); (case side1 => repeat (first | (with_reducible first | exact HB.out | apply below_alloc | apply pw_below_drewN | apply below_drew1 | refine below_set ?_ GE894.out | refine below_set ?_ GE895.out | refine below_set ?_ GE908.out | refine below_set ?_ GE912.out | refine below_set ?_ GE916.out | refine below_set ?_ GE921.out) | exact HB.out)); (case side2 => exact Kd.R_tight rfl HO_917000.out); rintro e w128 ⟨rfl, hy0, hb, hkp⟩; refine ⟨_, rfl, ?_⟩; replace HO_909000 := Aside0.mk (Kd.R_mono (ok' := fun k_ => some k_ ≠ (.slice Ao47 t909.length co47 : Value).ownBlock ∧ some k_ ≠ (.slice Ao56 t913.length co56 : Value).ownBlock ∧ some k_ ≠ (.slice Ao65 t917.length co65 : Value).ownBlock ∧ some k_ ≠ (.slice Ao110 t923.length co110 : Value).ownBlock ∧ some k_ ≠ (.slice Ao114 t927.length co114 : Value).ownBlock) (Kd.R_keptB (HO_909000.out) hkp (fun k_ hk_ hs_ => by first | exact (hk_.2.1) hs_ | simp_all)) (fun k_ hk_ => by first | exact ⟨hk_.1.1, hk_.1.2.1, hk_.1.2.2.1, hk_.1.2.2.2.1, hk_.1.2.2.2.2⟩ | simp_all)); replace HO_913000 := Aside0.mk (Kd.R_mono (ok' := fun k_ => some k_ ≠ (.slice Ao41 t904.length co41 : Value).ownBlock ∧ some k_ ≠ (.slice Ao56 t913.length co56 : Value).ownBlock ∧ some k_ ≠ (.slice Ao65 t917.length co65 : Value).ownBlock ∧ some k_ ≠ (.slice Ao110 t923.length co110 : Value).ownBlock ∧ some k_ ≠ (.slice Ao114 t927.length co114 : Value).ownBlock) (Kd.R_keptB (HO_913000.out) hkp (fun k_ hk_ hs_ => by first | exact (hk_.1.1.2.1) hs_ | simp_all)) (fun k_ hk_ => by first | exact ⟨hk_.1.1.1.1, hk_.1.1.1.2.1, hk_.1.1.1.2.2, hk_.1.1.2, hk_.1.2⟩ | simp_all)); replace HO_922000 := Aside0.mk (Kd.R_mono (ok' := fun k_ => some k_ ≠ (.slice Ao41 t904.length co41 : Value).ownBlock ∧ some k_ ≠ (.slice Ao47 t909.length co47 : Value).ownBlock ∧ some k_ ≠ (.slice Ao56 t913.length co56 : Value).ownBlock ∧ some k_ ≠ (.slice Ao110 t923.length co110 : Value).ownBlock ∧ some k_ ≠ (.slice Ao114 t927.length co114 : Value).ownBlock) (Kd.R_keptB (HO_922000.out) hkp (fun k_ hk_ hs_ => by first | exact (hk_.2.2.1) hs_ | simp_all)) (fun k_ hk_ => by first | exact ⟨hk_.1.1, hk_.1.2.1, hk_.1.2.2.1, hk_.1.2.2.2.1, hk_.1.2.2.2.2⟩ | simp_all)); replace BK894 := Aside0.mk (blk_kept (bo BK894.out) hkp (fun hs_ => (fun e_ => (Kd.R_ne HO_917000.out BK894.out (by decide)) e_) hs_)); replace BK895 := Aside0.mk (blk_kept (bo BK895.out) hkp (fun hs_ => (fun e_ => (Kd.R_ne HO_917000.out BK895.out (by decide)) e_) hs_)); replace BK908 := Aside0.mk (blk_kept (bo BK908.out) hkp (fun hs_ => (fun e_ => (Kd.R_ne HO_917000.out BK908.out (by decide)) e_) hs_)); replace BK912 := Aside0.mk (blk_kept (bo BK912.out) hkp (fun hs_ => (fun e_ => (Kd.R_ne HO_917000.out BK912.out (by decide)) e_) hs_)); replace BK916 := Aside0.mk (blk_kept (bo BK916.out) hkp (fun hs_ => (fun e_ => (Kd.R_ne HO_917000.out BK916.out (by decide)) e_) hs_)); replace BK921 := Aside0.mk (blk_kept (bo BK921.out) hkp (fun hs_ => (fun e_ => (Kd.R_ne HO_917000.out BK921.out (by decide)) e_) hs_)); replace HO_917000 := Aside0.mk (Kd.R_reok rfl hy0 (fun k_ e_ => HO_917000.out.1 k_ e_)); replace HO925 := Aside0.mk (Kd.R_mono (ok' := fun k_ => some k_ ≠ (.slice Ao41 t904.length co41 : Value).ownBlock ∧ some k_ ≠ (.slice Ao47 t909.length co47 : Value).ownBlock ∧ some k_ ≠ (.slice Ao56 t913.length co56 : Value).ownBlock ∧ some k_ ≠ (.slice Ao65 t917.length co65 : Value).ownBlock ∧ some k_ ≠ (.slice Ao114 t927.length co114 : Value).ownBlock) (Kd.R_keptB (HO925.out) hkp (fun k_ hk_ hs_ => by first | exact (hk_.2.2.1) hs_ | simp_all)) (fun k_ hk_ => by first | exact ⟨hk_.1.1, hk_.1.2.1, hk_.1.2.2.1, hk_.1.2.2.2.1, hk_.1.2.2.2.2⟩ | simp_all)); replace HO929 := Aside0.mk (Kd.R_mono (ok' := fun k_ => some k_ ≠ (.slice Ao41 t904.length co41 : Value).ownBlock ∧ some k_ ≠ (.slice Ao47 t909.length co47 : Value).ownBlock ∧ some k_ ≠ (.slice Ao56 t913.length co56 : Value).ownBlock ∧ some k_ ≠ (.slice Ao65 t917.length co65 : Value).ownBlock ∧ some k_ ≠ (.slice Ao110 t923.length co110 : Value).ownBlock) (Kd.R_keptB (HO929.out) hkp (fun k_ hk_ hs_ => by first | exact (hk_.2.2.1) hs_ | simp_all)) (fun k_ hk_ => by first | exact ⟨hk_.1.1, hk_.1.2.1, hk_.1.2.2.1, hk_.1.2.2.2.1, hk_.1.2.2.2.2⟩ | simp_all)); replace HB := Aside0.mk (hb); clear hb hkp hy0))
        (try simp only [Act.put, List.setIfInBounds_toArray, List.set_cons_zero, List.set_cons_succ])
        go_cut [82] (fun v82 wc => ∃ (kq : Nat) (x82_106 : Bool), v82 = .bool x82_106 ∧ Aside0 (laws_FnExactMeetOf.j1 kq t907 x82_106 l0_0 l1_0 t904 t917 = some true) ∧ Aside0 (kq ≤ kj24) ∧ Aside0 (Kd.R (Kd.int .i64) 3 wc w.heap.size (fun k_ => some k_ ≠ ((.slice Ao47 t909.length co47) : Value).ownBlock ∧ some k_ ≠ ((.slice Ao56 t913.length co56) : Value).ownBlock ∧ some k_ ≠ ((.slice Ao65 t917.length co65) : Value).ownBlock) (.slice Ao41 t904.length co41) t904) ∧ Aside0 (Kd.R (Kd.int .i64) 3 wc w.heap.size (fun k_ => some k_ ≠ ((.slice Ao41 t904.length co41) : Value).ownBlock ∧ some k_ ≠ ((.slice Ao56 t913.length co56) : Value).ownBlock ∧ some k_ ≠ ((.slice Ao65 t917.length co65) : Value).ownBlock) (.slice Ao47 t909.length co47) t932) ∧ Aside0 (Kd.R (Kd.int .i64) 3 wc w.heap.size (fun k_ => some k_ ≠ ((.slice Ao41 t904.length co41) : Value).ownBlock ∧ some k_ ≠ ((.slice Ao47 t909.length co47) : Value).ownBlock ∧ some k_ ≠ ((.slice Ao65 t917.length co65) : Value).ownBlock) (.slice Ao56 t913.length co56) t934) ∧ Aside0 (Kd.R (Kd.int .i64) 3 wc w.heap.size (fun k_ => some k_ ≠ ((.slice Ao41 t904.length co41) : Value).ownBlock ∧ some k_ ≠ ((.slice Ao47 t909.length co47) : Value).ownBlock ∧ some k_ ≠ ((.slice Ao56 t913.length co56) : Value).ownBlock) (.slice Ao65 t917.length co65) t917) ∧ Aside0 (wc.heap[gb894]? = some (.cells #[(.slice A0_0 l0_0.length c0_0)] 24 (0, 0))) ∧ Aside0 (wc.heap[gb895]? = some (.cells #[(.slice A1_0 l1_0.length c1_0)] 24 (0, 0))) ∧ Aside0 (wc.heap[gb908]? = some (.cells #[(.slice Ao41 t904.length co41)] 27 (0, 0))) ∧ Aside0 (wc.heap[gb912]? = some (.cells #[(.slice Ao47 t909.length co47)] 27 (0, 0))) ∧ Aside0 (wc.heap[gb916]? = some (.cells #[(.slice Ao56 t913.length co56)] 27 (0, 0))) ∧ Aside0 (wc.heap[gb921]? = some (.cells #[(.slice Ao65 t917.length co65)] 27 (0, 0))) ∧ Aside0 (Below w.heap.size w wc))
        case first =>
         have H := HC107.out
         clear HC107
         replace H := gi H; obtain ⟨c129b0, H⟩ | ⟨c129b0, H⟩ := H
         ·(first | rw [c129b0] | (simp only [i64_w, i32_w]; rw [c129b0]) | skip)
          have H' := Aside0.mk H
          clear H
          go_wp2
          go_meet
          case rel => exact ⟨_, (true), rr, H', ⟨by have := HJ24.out; first | omega | exact Nat.le_refl _⟩, ⟨by (with_reducible repeat (first | apply Kd.R_alloc | apply Kd.R_drewN | apply Kd.R_drew)); exact Kd.R_mono HO_909000.out (fun _ hk => ⟨hk.1, ⟨hk.2.1, hk.2.2.1⟩⟩)⟩, ⟨by (with_reducible repeat (first | apply Kd.R_alloc | apply Kd.R_drewN | apply Kd.R_drew)); exact Kd.R_mono HO_913000.out (fun _ hk => ⟨hk.1, ⟨hk.2.1, hk.2.2.1⟩⟩)⟩, ⟨by (with_reducible repeat (first | apply Kd.R_alloc | apply Kd.R_drewN | apply Kd.R_drew)); exact Kd.R_mono HO_917000.out (fun _ hk => ⟨hk.1, ⟨hk.2.1, hk.2.2.1⟩⟩)⟩, ⟨by (with_reducible repeat (first | apply Kd.R_alloc | apply Kd.R_drewN | apply Kd.R_drew)); exact Kd.R_mono HO_922000.out (fun _ hk => ⟨hk.1, ⟨hk.2.1, hk.2.2.1⟩⟩)⟩, ⟨bo BK894.out⟩, ⟨bo BK895.out⟩, ⟨bo BK908.out⟩, ⟨bo BK912.out⟩, ⟨bo BK916.out⟩, ⟨bo BK921.out⟩, ⟨bw⟩⟩
         ·(first | rw [c129b0] | (simp only [i64_w, i32_w]; rw [c129b0]) | skip)
          replace H := ga H; obtain ⟨t935, A130, H⟩ := H
          replace H := gb H; obtain ⟨rfl, H⟩ | ⟨rfl, H⟩ := H
          ·have H' := Aside0.mk H
           clear H
           have hnb132 := NB921_894.out
           have hnc132 := NB894_921.out
           have hnb133 := NB921_895.out
           have hnc133 := NB895_921.out
           have hnb134 := NB921_908.out
           have hnc134 := NB908_921.out
           have hnb135 := NB921_912.out
           have hnc135 := NB912_921.out
           have hnb136 := NB921_916.out
           have hnc136 := NB916_921.out
           have hcz137_0 := bc BK921 0 (.slice Ao65 t917.length co65)
           have hfz137_0 := blk_frozen BK921.out 0
           have hnb138 := NB908_894.out
           have hnc138 := NB894_908.out
           have hnb139 := NB908_895.out
           have hnc139 := NB895_908.out
           have hnb140 := NB908_912.out
           have hnc140 := NB912_908.out
           have hnb141 := NB908_916.out
           have hnc141 := NB916_908.out
           have hcz142_0 := bc BK908 0 (.slice Ao41 t904.length co41)
           have hfz142_0 := blk_frozen BK908.out 0
           go_wp2_with (first | (go_at_call 21; (with_reducible refine (laws_eqSemigroup.calls kj24 _ _ t917 _ _ t904 true _ ?side1 ?side2 ?side3 ?side4 A130.out).mono ?_); (case side1 => exact co (Kd.R_reads' HO_922000.out).2.2); (case side2 => exact (Kd.R_reads' HO_922000.out).2.1); (case side3 => exact co (Kd.R_reads' HO_909000.out).2.2); (case side4 => exact (Kd.R_reads' HO_909000.out).2.1); rintro e w143 ⟨rfl, hb⟩; replace HO_909000 := Aside0.mk (Kd.R_below (ro HO_909000.out) hb); replace HO_913000 := Aside0.mk (Kd.R_below (ro HO_913000.out) hb); replace HO_917000 := Aside0.mk (Kd.R_below (ro HO_917000.out) hb); replace HO_922000 := Aside0.mk (Kd.R_below (ro HO_922000.out) hb); replace HO925 := Aside0.mk (Kd.R_below (ro HO925.out) hb); replace HO929 := Aside0.mk (Kd.R_below (ro HO929.out) hb); replace BK894 := Aside0.mk (blk_below (g := gb894) (o := .cells #[.slice A0_0 l0_0.length c0_0] 24 (0, 0)) (bo BK894.out) hb); replace BK895 := Aside0.mk (blk_below (g := gb895) (o := .cells #[.slice A1_0 l1_0.length c1_0] 24 (0, 0)) (bo BK895.out) hb); replace BK908 := Aside0.mk (blk_below (g := gb908) (o := .cells #[.slice Ao41 t904.length co41] 27 (0, 0)) (bo BK908.out) hb); replace BK912 := Aside0.mk (blk_below (g := gb912) (o := .cells #[.slice Ao47 t909.length co47] 27 (0, 0)) (bo BK912.out) hb); replace BK916 := Aside0.mk (blk_below (g := gb916) (o := .cells #[.slice Ao56 t913.length co56] 27 (0, 0)) (bo BK916.out) hb); replace BK921 := Aside0.mk (blk_below (g := gb921) (o := .cells #[.slice Ao65 t917.length co65] 27 (0, 0)) (bo BK921.out) hb); replace HB := Aside0.mk (below_step bw hb); clear hb))
           go_meet
           case rel => exact ⟨_, ((t920 != t907)), rr, H', ⟨by have := HJ24.out; first | omega | exact Nat.le_refl _⟩, ⟨by (with_reducible repeat (first | apply Kd.R_alloc | apply Kd.R_drewN | apply Kd.R_drew)); exact Kd.R_mono HO_909000.out (fun _ hk => ⟨hk.1, ⟨hk.2.1, hk.2.2.1⟩⟩)⟩, ⟨by (with_reducible repeat (first | apply Kd.R_alloc | apply Kd.R_drewN | apply Kd.R_drew)); exact Kd.R_mono HO_913000.out (fun _ hk => ⟨hk.1, ⟨hk.2.1, hk.2.2.1⟩⟩)⟩, ⟨by (with_reducible repeat (first | apply Kd.R_alloc | apply Kd.R_drewN | apply Kd.R_drew)); exact Kd.R_mono HO_917000.out (fun _ hk => ⟨hk.1, ⟨hk.2.1, hk.2.2.1⟩⟩)⟩, ⟨by (with_reducible repeat (first | apply Kd.R_alloc | apply Kd.R_drewN | apply Kd.R_drew)); exact Kd.R_mono HO_922000.out (fun _ hk => ⟨hk.1, ⟨hk.2.1, hk.2.2.1⟩⟩)⟩, ⟨bo BK894.out⟩, ⟨bo BK895.out⟩, ⟨bo BK908.out⟩, ⟨bo BK912.out⟩, ⟨bo BK916.out⟩, ⟨bo BK921.out⟩, ⟨bw⟩⟩
          ·have H' := Aside0.mk H
           clear H
           have hnb144 := NB921_894.out
           have hnc144 := NB894_921.out
           have hnb145 := NB921_895.out
           have hnc145 := NB895_921.out
           have hnb146 := NB921_908.out
           have hnc146 := NB908_921.out
           have hnb147 := NB921_912.out
           have hnc147 := NB912_921.out
           have hnb148 := NB921_916.out
           have hnc148 := NB916_921.out
           have hcz149_0 := bc BK921 0 (.slice Ao65 t917.length co65)
           have hfz149_0 := blk_frozen BK921.out 0
           have hnb150 := NB908_894.out
           have hnc150 := NB894_908.out
           have hnb151 := NB908_895.out
           have hnc151 := NB895_908.out
           have hnb152 := NB908_912.out
           have hnc152 := NB912_908.out
           have hnb153 := NB908_916.out
           have hnc153 := NB916_908.out
           have hcz154_0 := bc BK908 0 (.slice Ao41 t904.length co41)
           have hfz154_0 := blk_frozen BK908.out 0
           go_wp2_with (first | (go_at_call 21; (with_reducible refine (laws_eqSemigroup.calls kj24 _ _ t917 _ _ t904 false _ ?side1 ?side2 ?side3 ?side4 A130.out).mono ?_); (case side1 => exact co (Kd.R_reads' HO_922000.out).2.2); (case side2 => exact (Kd.R_reads' HO_922000.out).2.1); (case side3 => exact co (Kd.R_reads' HO_909000.out).2.2); (case side4 => exact (Kd.R_reads' HO_909000.out).2.1); rintro e w155 ⟨rfl, hb⟩; replace HO_909000 := Aside0.mk (Kd.R_below (ro HO_909000.out) hb); replace HO_913000 := Aside0.mk (Kd.R_below (ro HO_913000.out) hb); replace HO_917000 := Aside0.mk (Kd.R_below (ro HO_917000.out) hb); replace HO_922000 := Aside0.mk (Kd.R_below (ro HO_922000.out) hb); replace HO925 := Aside0.mk (Kd.R_below (ro HO925.out) hb); replace HO929 := Aside0.mk (Kd.R_below (ro HO929.out) hb); replace BK894 := Aside0.mk (blk_below (g := gb894) (o := .cells #[.slice A0_0 l0_0.length c0_0] 24 (0, 0)) (bo BK894.out) hb); replace BK895 := Aside0.mk (blk_below (g := gb895) (o := .cells #[.slice A1_0 l1_0.length c1_0] 24 (0, 0)) (bo BK895.out) hb); replace BK908 := Aside0.mk (blk_below (g := gb908) (o := .cells #[.slice Ao41 t904.length co41] 27 (0, 0)) (bo BK908.out) hb); replace BK912 := Aside0.mk (blk_below (g := gb912) (o := .cells #[.slice Ao47 t909.length co47] 27 (0, 0)) (bo BK912.out) hb); replace BK916 := Aside0.mk (blk_below (g := gb916) (o := .cells #[.slice Ao56 t913.length co56] 27 (0, 0)) (bo BK916.out) hb); replace BK921 := Aside0.mk (blk_below (g := gb921) (o := .cells #[.slice Ao65 t917.length co65] 27 (0, 0)) (bo BK921.out) hb); replace HB := Aside0.mk (below_step bw hb); clear hb))
           go_meet
           case rel => exact ⟨_, (true), rr, H', ⟨by have := HJ24.out; first | omega | exact Nat.le_refl _⟩, ⟨by (with_reducible repeat (first | apply Kd.R_alloc | apply Kd.R_drewN | apply Kd.R_drew)); exact Kd.R_mono HO_909000.out (fun _ hk => ⟨hk.1, ⟨hk.2.1, hk.2.2.1⟩⟩)⟩, ⟨by (with_reducible repeat (first | apply Kd.R_alloc | apply Kd.R_drewN | apply Kd.R_drew)); exact Kd.R_mono HO_913000.out (fun _ hk => ⟨hk.1, ⟨hk.2.1, hk.2.2.1⟩⟩)⟩, ⟨by (with_reducible repeat (first | apply Kd.R_alloc | apply Kd.R_drewN | apply Kd.R_drew)); exact Kd.R_mono HO_917000.out (fun _ hk => ⟨hk.1, ⟨hk.2.1, hk.2.2.1⟩⟩)⟩, ⟨by (with_reducible repeat (first | apply Kd.R_alloc | apply Kd.R_drewN | apply Kd.R_drew)); exact Kd.R_mono HO_922000.out (fun _ hk => ⟨hk.1, ⟨hk.2.1, hk.2.2.1⟩⟩)⟩, ⟨bo BK894.out⟩, ⟨bo BK895.out⟩, ⟨bo BK908.out⟩, ⟨bo BK912.out⟩, ⟨bo BK916.out⟩, ⟨bo BK921.out⟩, ⟨bw⟩⟩
        case rest =>
         clear HC107
         try clear c129b0; try clear hcz121_0; try clear hcz127_0; try clear hcz137_0; try clear hcz142_0; try clear hcz149_0; try clear hcz154_0; try clear hcz44_0; try clear hcz51_0; try clear hcz53_0; try clear hcz61_0; try clear hcz62_0; try clear hcz71_0; try clear hcz79_0; try clear hcz84_0; try clear hcz91_0; try clear hcz96_0; try clear hfz121_0; try clear hfz127_0; try clear hfz137_0; try clear hfz142_0; try clear hfz149_0; try clear hfz154_0; try clear hfz44_0; try clear hfz51_0; try clear hfz53_0; try clear hfz61_0; try clear hfz62_0; try clear hfz71_0; try clear hfz79_0; try clear hfz84_0; try clear hfz91_0; try clear hfz96_0
         obtain ⟨kq, x82_106, rfl, HA, HJ106, HO_909000, HO_913000, HO_917000, HO_922000, BK894, BK895, BK908, BK912, BK916, BK921, HB⟩ := hcut
         have hl913000_106 := (Kd.R_reads' HO_913000.out).1
         rw [hl913000_106] at HO_913000
         (try simp only [hl913000_106])
         (try simp only [hl913000_106] at BK894)
         (try simp only [hl913000_106] at BK895)
         (try simp only [hl913000_106] at BK908)
         (try simp only [hl913000_106] at BK912)
         (try simp only [hl913000_106] at BK916)
         (try simp only [hl913000_106] at BK921)
         (try simp only [hl913000_106] at HO_909000)
         (try simp only [hl913000_106] at HO_917000)
         (try simp only [hl913000_106] at HO_922000)
         have hl917000_106 := (Kd.R_reads' HO_917000.out).1
         rw [hl917000_106] at HO_917000
         (try simp only [hl917000_106])
         (try simp only [hl917000_106] at BK894)
         (try simp only [hl917000_106] at BK895)
         (try simp only [hl917000_106] at BK908)
         (try simp only [hl917000_106] at BK912)
         (try simp only [hl917000_106] at BK916)
         (try simp only [hl917000_106] at BK921)
         (try simp only [hl917000_106] at HO_909000)
         (try simp only [hl917000_106] at HO_913000)
         (try simp only [hl917000_106] at HO_922000)
         cases kq with
         | zero => exact absurd HA.out (by simp [laws_FnExactMeetOf.j1])
         | succ kj106 =>
          have H := HA.out
          clear HA
          simp only [laws_FnExactMeetOf.j1] at H
          replace H := gb H; obtain ⟨rfl, H⟩ | ⟨rfl, H⟩ := H
          ·exact absurd (Option.some.inj H) (by decide)
          ·replace H := ga H; obtain ⟨⟨t936, t937⟩, A157, H⟩ := H
           replace H : ((laws_heldSemigroup.f kj106 t937 1).bind fun t938 => (if t938 < 0 then (some false) else (if t938 = t936 then ((laws_toSemigroup.f kj106 l0_0).bind fun t939 => ((laws_toSemigroup.f kj106 l1_0).bind fun t942 => ((impl_MeetOf.f kj106 t939 t942).bind fun bt945 => ((laws_eqSemigroup.f kj106 bt945.1 t904).bind fun t950 => (if t950 = true then (laws_FnExactMeetOf.j2 kj106 t936 (bt945.2 != t907) t937) else (laws_FnExactMeetOf.j2 kj106 t936 true t937)))))) else (some false)))) = some true := H
           replace H := ga H; obtain ⟨t938, A158, H⟩ := H
           replace H := gi H; obtain ⟨c159b0, H⟩ | ⟨c159b0, H⟩ := H
           ·exact absurd (Option.some.inj H) (by decide)
           ·by_cases c169 : t938 = t936
            ·rw [if_pos c169] at H
             have c169b0 : (t938 == t936) = true := beq_iff_eq.mpr c169
             have c169b1 : (t938 != t936) = false := bne_eq_false_iff_eq.mpr c169
             clear c169
             replace H := ga H; obtain ⟨t939, A170, H⟩ := H
             replace H := ga H; obtain ⟨t942, A171, H⟩ := H
             replace H := ga H; obtain ⟨⟨t945, t948⟩, A172, H⟩ := H
             replace H : ((laws_eqSemigroup.f kj106 t945 t904).bind fun t950 => (if t950 = true then (laws_FnExactMeetOf.j2 kj106 t936 (t948 != t907) t937) else (laws_FnExactMeetOf.j2 kj106 t936 true t937))) = some true := H
             have HC173 := Aside0.mk H
             clear H
             have hnb174 := NB921_894.out
             have hnc174 := NB894_921.out
             have hnb175 := NB921_895.out
             have hnc175 := NB895_921.out
             have hnb176 := NB921_908.out
             have hnc176 := NB908_921.out
             have hnb177 := NB921_912.out
             have hnc177 := NB912_921.out
             have hnb178 := NB921_916.out
             have hnc178 := NB916_921.out
             have hcz179_0 := bc BK921 0 (.slice Ao65 t917.length co65)
             have hfz179_0 := blk_frozen BK921.out 0
             try go_wp2_with (first | ((with_reducible refine gate_callee (f := 22) rfl ?_); refine gl (some 85) Try.func22 #[.agg #[.slice Ao65 t917.length co65], .int .i64 1] ?_; (with_reducible refine (laws_markSemigroup.calls kj106 (fun k_ => some k_ = (.slice Ao65 t917.length co65 : Value).ownBlock) (.slice Ao65 t917.length co65) t917 1 t936 t937 w _ ?side1 ?side2 A157.out).mono ?_); (case side1 => repeat (first | (with_reducible first | exact HB.out | apply below_alloc | apply pw_below_drewN | apply below_drew1 | refine below_set ?_ GE894.out | refine below_set ?_ GE895.out | refine below_set ?_ GE908.out | refine below_set ?_ GE912.out | refine below_set ?_ GE916.out | refine below_set ?_ GE921.out) | exact HB.out)); (case side2 => exact Kd.R_tight rfl HO_922000.out); rintro e w180 ⟨rfl, hy0, hb, hkp⟩; refine ⟨_, rfl, ?_⟩; replace HO_909000 := Aside0.mk (Kd.R_mono (ok' := fun k_ => some k_ ≠ (.slice Ao47 t932.length co47 : Value).ownBlock ∧ some k_ ≠ (.slice Ao56 t934.length co56 : Value).ownBlock ∧ some k_ ≠ (.slice Ao65 t917.length co65 : Value).ownBlock) (Kd.R_keptB (HO_909000.out) hkp (fun k_ hk_ hs_ => by first | exact (hk_.2.2) hs_ | simp_all)) (fun k_ hk_ => by first | exact ⟨hk_.1.1, hk_.1.2.1, hk_.1.2.2⟩ | simp_all)); replace HO_913000 := Aside0.mk (Kd.R_mono (ok' := fun k_ => some k_ ≠ (.slice Ao41 t904.length co41 : Value).ownBlock ∧ some k_ ≠ (.slice Ao56 t934.length co56 : Value).ownBlock ∧ some k_ ≠ (.slice Ao65 t917.length co65 : Value).ownBlock) (Kd.R_keptB (HO_913000.out) hkp (fun k_ hk_ hs_ => by first | exact (hk_.2.2) hs_ | simp_all)) (fun k_ hk_ => by first | exact ⟨hk_.1.1, hk_.1.2.1, hk_.1.2.2⟩ | simp_all)); replace HO_917000 := Aside0.mk (Kd.R_mono (ok' := fun k_ => some k_ ≠ (.slice Ao41 t904.length co41 : Value).ownBlock ∧ some k_ ≠ (.slice Ao47 t932.length co47 : Value).ownBlock ∧ some k_ ≠ (.slice Ao65 t917.length co65 : Value).ownBlock) (Kd.R_keptB (HO_917000.out) hkp (fun k_ hk_ hs_ => by first | exact (hk_.2.2) hs_ | simp_all)) (fun k_ hk_ => by first | exact ⟨hk_.1.1, hk_.1.2.1, hk_.1.2.2⟩ | simp_all)); replace BK894 := Aside0.mk (blk_kept (bo BK894.out) hkp (fun hs_ => (fun e_ => (Kd.R_ne HO_922000.out BK894.out (by decide)) e_) hs_)); replace BK895 := Aside0.mk (blk_kept (bo BK895.out) hkp (fun hs_ => (fun e_ => (Kd.R_ne HO_922000.out BK895.out (by decide)) e_) hs_)); replace BK908 := Aside0.mk (blk_kept (bo BK908.out) hkp (fun hs_ => (fun e_ => (Kd.R_ne HO_922000.out BK908.out (by decide)) e_) hs_)); replace BK912 := Aside0.mk (blk_kept (bo BK912.out) hkp (fun hs_ => (fun e_ => (Kd.R_ne HO_922000.out BK912.out (by decide)) e_) hs_)); replace BK916 := Aside0.mk (blk_kept (bo BK916.out) hkp (fun hs_ => (fun e_ => (Kd.R_ne HO_922000.out BK916.out (by decide)) e_) hs_)); replace BK921 := Aside0.mk (blk_kept (bo BK921.out) hkp (fun hs_ => (fun e_ => (Kd.R_ne HO_922000.out BK921.out (by decide)) e_) hs_)); replace HO_922000 := Aside0.mk (Kd.R_reok rfl hy0 (fun k_ e_ => HO_922000.out.1 k_ e_)); replace HB := Aside0.mk (hb); clear hb hkp hy0; have hcz181_0 := bc BK921 0 (.slice Ao65 t917.length co65); have hfz181_0 := blk_frozen BK921.out 0) | ((with_reducible refine gate_callee (f := 47) rfl ?_); refine goesL_ (some 88) rfl rfl Try.func47 (by kernel_rfl) rfl #[.agg #[.slice Ao65 t937.length co65], .int .i64 1] rfl (by (try simp only [List.map_toArray, List.map_cons, List.map_nil]); first | done | (rw [show t937.length = t917.length from (Kd.R_reads' HO_922000.out).1.symm] <;> rfl) | rfl | (simp only [List.length_drop, List.length_take]; rfl)) ?_; (with_reducible refine (laws_heldSemigroup.calls kj106 _ _ t937 1 t938 _ ?side1 ?side2 A158.out).mono ?_); (case side1 => exact co (Kd.R_reads' HO_922000.out).2.2); (case side2 => rw [show t937.length = t917.length from (Kd.R_reads' HO_922000.out).1.symm]; exact (Kd.R_reads' HO_922000.out).2.1); rintro e w182 ⟨rfl, hb⟩; refine ⟨_, rfl, ?_⟩; replace HO_909000 := Aside0.mk (Kd.R_below (ro HO_909000.out) hb); replace HO_913000 := Aside0.mk (Kd.R_below (ro HO_913000.out) hb); replace HO_917000 := Aside0.mk (Kd.R_below (ro HO_917000.out) hb); replace HO_922000 := Aside0.mk (Kd.R_below (ro HO_922000.out) hb); replace BK894 := Aside0.mk (blk_below (g := gb894) (o := .cells #[.slice A0_0 l0_0.length c0_0] 24 (0, 0)) (bo BK894.out) hb); replace BK895 := Aside0.mk (blk_below (g := gb895) (o := .cells #[.slice A1_0 l1_0.length c1_0] 24 (0, 0)) (bo BK895.out) hb); replace BK908 := Aside0.mk (blk_below (g := gb908) (o := .cells #[.slice Ao41 t904.length co41] 27 (0, 0)) (bo BK908.out) hb); replace BK912 := Aside0.mk (blk_below (g := gb912) (o := .cells #[.slice Ao47 t932.length co47] 27 (0, 0)) (bo BK912.out) hb); replace BK916 := Aside0.mk (blk_below (g := gb916) (o := .cells #[.slice Ao56 t934.length co56] 27 (0, 0)) (bo BK916.out) hb); replace BK921 := Aside0.mk (blk_below (g := gb921) (o := .cells #[.slice Ao65 t917.length co65] 27 (0, 0)) (bo BK921.out) hb); replace HB := Aside0.mk (below_step bw hb); clear hb))
             replace HO_909000 := Aside0.mk (Kd.R_drew HO_909000.out)
             replace HO_913000 := Aside0.mk (Kd.R_drew HO_913000.out)
             replace HO_917000 := Aside0.mk (Kd.R_drew HO_917000.out)
             replace HO_922000 := Aside0.mk (Kd.R_drew HO_922000.out)
             replace BK894 := Aside0.mk (blk_drew BK894.out)
             replace BK895 := Aside0.mk (blk_drew BK895.out)
             replace BK908 := Aside0.mk (blk_drew BK908.out)
             replace BK912 := Aside0.mk (blk_drew BK912.out)
             replace BK916 := Aside0.mk (blk_drew BK916.out)
             replace BK921 := Aside0.mk (blk_drew BK921.out)
             replace HB := Aside0.mk (below_drew1 HB.out)
             refine start_ (n := 11) (S := fun w' => w'.cell? ⟨gb894, 0, none⟩ = some (.slice A0_0 l0_0.length c0_0) ∧ w'.cell? ⟨gb895, 0, none⟩ = some (.slice A1_0 l1_0.length c1_0)) (ds := []) #[Z,Z,Z,Z,Z,Z,Z,Z,Z,Z,Z] (by kernel_rfl) rfl rfl ⟨(blk_cell BK894.out 0).trans rfl, (blk_cell BK895.out 0).trans rfl⟩ (fun hHeld => ?_); refine with_tabW laws_FnExactMeetOf.tab31 laws_FnExactMeetOf.bits31 (fun HT_ HW_ => ?_)
             generalize w182.drew = w183 at HO_909000 HO_913000 HO_917000 HO_922000 BK894 BK895 BK908 BK912 BK916 BK921 HB hHeld ⊢
             refine take_ (i := 0) (N := some 95) (v := ?_) (a' := ?_) #[Y,Z,Z,Z,Z,Z,Z,Z,Z,Z,Z] rfl rfl (take_ofW HT_.out HW_.out (by kernel_rfl)) (fun _ _ _ h => h) (Or.inl ⟨by rfl, ?_⟩) hHeld ?_ ?_
             rotate_left
             ·rintro w' ⟨s0, s1⟩
              go_simp
              with_reducible rfl
             rotate_left
             ·simp only [Act.put, qa, qb, qc, i64_w, i32_w]
              rfl
             refine take_ (i := 2) (N := some 97) (v := ?_) (a' := ?_) #[Y,Z,Y,Z,Z,Z,Z,Z,Z,Z,Z] rfl rfl (take_ofW HT_.out HW_.out (by kernel_rfl)) (fun _ _ _ h => h) (Or.inl ⟨by rfl, ?_⟩) hHeld ?_ ?_
             rotate_left
             ·rintro w' ⟨s0, s1⟩
              go_simp
              with_reducible rfl
             rotate_left
             ·simp only [Act.put, qa, qb, qc, i64_w, i32_w]
              rfl
             refine join_ (σ := Value × Value × Value × Nat) 2 #[Y,Y,Y,Y,Y,Y,Y,Y,Y,Z,Z] (fun s_ => [(96, .agg #[s_.1]), (98, .agg #[s_.2.1]), (99, .tuple #[.agg #[s_.2.2.1], .bool t948]), (15, .pointer (some ⟨s_.2.2.2, 0, none⟩)), (94, .tuple #[.agg #[s_.2.2.1], .bool t948]), (100, .agg #[s_.2.2.1]), (101, .bool t948)]) (fun s_ w' => (w'.cell? ⟨gb894, 0, none⟩ = some (.slice A0_0 l0_0.length c0_0) ∧ w'.cell? ⟨gb895, 0, none⟩ = some (.slice A1_0 l1_0.length c1_0)) ∧ (Kd.R (Kd.int .i64) 3 w' w.heap.size (fun k_ => some k_ ≠ (s_.2.1 : Value).ownBlock ∧ some k_ ≠ (s_.2.2.1 : Value).ownBlock ∧ some k_ ≠ (.slice Ao41 t904.length co41 : Value).ownBlock ∧ some k_ ≠ (.slice Ao47 t932.length co47 : Value).ownBlock ∧ some k_ ≠ (.slice Ao56 t934.length co56 : Value).ownBlock ∧ some k_ ≠ (.slice Ao65 t917.length co65 : Value).ownBlock) s_.1 t939) ∧ (Kd.R (Kd.int .i64) 3 w' w.heap.size (fun k_ => some k_ ≠ (s_.1 : Value).ownBlock ∧ some k_ ≠ (s_.2.2.1 : Value).ownBlock ∧ some k_ ≠ (.slice Ao41 t904.length co41 : Value).ownBlock ∧ some k_ ≠ (.slice Ao47 t932.length co47 : Value).ownBlock ∧ some k_ ≠ (.slice Ao56 t934.length co56 : Value).ownBlock ∧ some k_ ≠ (.slice Ao65 t917.length co65 : Value).ownBlock) s_.2.1 t942) ∧ (Kd.R (Kd.int .i64) 3 w' w.heap.size (fun k_ => some k_ ≠ (s_.1 : Value).ownBlock ∧ some k_ ≠ (s_.2.1 : Value).ownBlock ∧ some k_ ≠ (.slice Ao41 t904.length co41 : Value).ownBlock ∧ some k_ ≠ (.slice Ao47 t932.length co47 : Value).ownBlock ∧ some k_ ≠ (.slice Ao56 t934.length co56 : Value).ownBlock ∧ some k_ ≠ (.slice Ao65 t917.length co65 : Value).ownBlock) s_.2.2.1 t945) ∧ (Kd.R (Kd.int .i64) 3 w' w.heap.size (fun k_ => some k_ ≠ (s_.1 : Value).ownBlock ∧ some k_ ≠ (s_.2.1 : Value).ownBlock ∧ some k_ ≠ (s_.2.2.1 : Value).ownBlock ∧ some k_ ≠ (.slice Ao47 t932.length co47 : Value).ownBlock ∧ some k_ ≠ (.slice Ao56 t934.length co56 : Value).ownBlock ∧ some k_ ≠ (.slice Ao65 t917.length co65 : Value).ownBlock) (.slice Ao41 t904.length co41) t904) ∧ (Kd.R (Kd.int .i64) 3 w' w.heap.size (fun k_ => some k_ ≠ (s_.1 : Value).ownBlock ∧ some k_ ≠ (s_.2.1 : Value).ownBlock ∧ some k_ ≠ (s_.2.2.1 : Value).ownBlock ∧ some k_ ≠ (.slice Ao41 t904.length co41 : Value).ownBlock ∧ some k_ ≠ (.slice Ao56 t934.length co56 : Value).ownBlock ∧ some k_ ≠ (.slice Ao65 t917.length co65 : Value).ownBlock) (.slice Ao47 t932.length co47) t932) ∧ (Kd.R (Kd.int .i64) 3 w' w.heap.size (fun k_ => some k_ ≠ (s_.1 : Value).ownBlock ∧ some k_ ≠ (s_.2.1 : Value).ownBlock ∧ some k_ ≠ (s_.2.2.1 : Value).ownBlock ∧ some k_ ≠ (.slice Ao41 t904.length co41 : Value).ownBlock ∧ some k_ ≠ (.slice Ao47 t932.length co47 : Value).ownBlock ∧ some k_ ≠ (.slice Ao65 t917.length co65 : Value).ownBlock) (.slice Ao56 t934.length co56) t934) ∧ (Kd.R (Kd.int .i64) 3 w' w.heap.size (fun k_ => some k_ ≠ (s_.1 : Value).ownBlock ∧ some k_ ≠ (s_.2.1 : Value).ownBlock ∧ some k_ ≠ (s_.2.2.1 : Value).ownBlock ∧ some k_ ≠ (.slice Ao41 t904.length co41 : Value).ownBlock ∧ some k_ ≠ (.slice Ao47 t932.length co47 : Value).ownBlock ∧ some k_ ≠ (.slice Ao56 t934.length co56 : Value).ownBlock) (.slice Ao65 t917.length co65) t937) ∧ (w'.heap[gb894]? = some (.cells #[.slice A0_0 l0_0.length c0_0] 24 (0, 0))) ∧ (w'.heap[gb895]? = some (.cells #[.slice A1_0 l1_0.length c1_0] 24 (0, 0))) ∧ (w'.heap[gb908]? = some (.cells #[.slice Ao41 t904.length co41] 27 (0, 0))) ∧ (w'.heap[gb912]? = some (.cells #[.slice Ao47 t932.length co47] 27 (0, 0))) ∧ (w'.heap[gb916]? = some (.cells #[.slice Ao56 t934.length co56] 27 (0, 0))) ∧ (w'.heap[gb921]? = some (.cells #[.slice Ao65 t917.length co65] 27 (0, 0))) ∧ (w'.heap[s_.2.2.2]? = some (.cells #[.slice none 0 0] 27 (0, 0))) ∧ (w.heap.size ≤ s_.2.2.2) ∧ (w.heap.size ≤ s_.2.2.2) ∧ (gb894 ≠ s_.2.2.2) ∧ (s_.2.2.2 ≠ gb894) ∧ (gb895 ≠ s_.2.2.2) ∧ (s_.2.2.2 ≠ gb895) ∧ (gb908 ≠ s_.2.2.2) ∧ (s_.2.2.2 ≠ gb908) ∧ (gb912 ≠ s_.2.2.2) ∧ (s_.2.2.2 ≠ gb912) ∧ (gb916 ≠ s_.2.2.2) ∧ (s_.2.2.2 ≠ gb916) ∧ (gb921 ≠ s_.2.2.2) ∧ (s_.2.2.2 ≠ gb921) ∧ (Below w.heap.size w w')) ?_ ?_
             rotate_left
             ·intro hCont
              refine two_ (i := 1) (j := 8) (Ni := some 96) (Nj := some 15) #[Y,Y,Y,Z,Z,Z,Z,Z,Z,Z,Z] #[Y,Z,Y,Z,Z,Z,Z,Z,Y,Z,Z] rfl rfl rfl rfl (two_of HT_.out (by kernel_rfl)) (by decide) (by decide) (fun K hK => ?_) (fun K hK => ?_)
              ·skip
               refine gm Try.func17 #[.agg #[.slice A0_0 l0_0.length c0_0]] ?_
               with_reducible refine (laws_toSemigroup.calls kj106 _ _ l0_0 t939 _ ?side1 ?side2 A170.out).mono ?_
               (case side1 => exact co (Kd.C_below HR0_0.out HB.out))
               (case side2 => exact HC0_0.out)
               rintro e w184 ⟨v940, rfl, ho0, hb⟩
               refine ⟨_, rfl, ?_⟩
               have HO941 := Aside0.mk (Kd.R_lower (Kd.R_new' (Kd.R_new' (Kd.R_new' (Kd.R_new' ho0 (Kd.R_lt (ro HO_909000.out))) (Kd.R_lt (ro HO_913000.out))) (Kd.R_lt (ro HO_917000.out))) (Kd.R_lt (ro HO_922000.out))) (below_size bw))
               replace HO_909000 := Aside0.mk (Kd.R_elder' (ro HO_909000.out) (Kd.R_base ho0) hb)
               replace HO_913000 := Aside0.mk (Kd.R_elder' (ro HO_913000.out) (Kd.R_base ho0) hb)
               replace HO_917000 := Aside0.mk (Kd.R_elder' (ro HO_917000.out) (Kd.R_base ho0) hb)
               replace HO_922000 := Aside0.mk (Kd.R_elder' (ro HO_922000.out) (Kd.R_base ho0) hb)
               replace BK894 := Aside0.mk (blk_below (g := gb894) (o := .cells #[.slice A0_0 l0_0.length c0_0] 24 (0, 0)) (bo BK894.out) hb)
               replace BK895 := Aside0.mk (blk_below (g := gb895) (o := .cells #[.slice A1_0 l1_0.length c1_0] 24 (0, 0)) (bo BK895.out) hb)
               replace BK908 := Aside0.mk (blk_below (g := gb908) (o := .cells #[.slice Ao41 t904.length co41] 27 (0, 0)) (bo BK908.out) hb)
               replace BK912 := Aside0.mk (blk_below (g := gb912) (o := .cells #[.slice Ao47 t932.length co47] 27 (0, 0)) (bo BK912.out) hb)
               replace BK916 := Aside0.mk (blk_below (g := gb916) (o := .cells #[.slice Ao56 t934.length co56] 27 (0, 0)) (bo BK916.out) hb)
               replace BK921 := Aside0.mk (blk_below (g := gb921) (o := .cells #[.slice Ao65 t917.length co65] 27 (0, 0)) (bo BK921.out) hb)
               replace HB := Aside0.mk (below_step bw hb)
               clear hb ho0
               refine hK.out _ _ ⟨(blk_cell BK894.out 0).trans rfl, (blk_cell BK895.out 0).trans rfl⟩ (fun hHeld => ?_)
               clear hK K
               refine norm_ (a' := ?_) ?_ ?_
               rotate_left
               ·show Act.put _ (some 96) _ = _
                simp only [Act.put, qa, qb, qc, i64_w, i32_w]
                rfl
               refine two_ (i := 3) (j := 8) (Ni := some 98) (Nj := some 15) #[Y,Y,Y,Y,Z,Z,Z,Z,Z,Z,Z] #[Y,Y,Y,Z,Z,Z,Z,Z,Y,Z,Z] rfl rfl rfl rfl (two_of HT_.out (by kernel_rfl)) (by decide) (by decide) (fun K hK => ?_) (fun K hK => ?_)
               ·skip
                refine gm Try.func17 #[.agg #[.slice A1_0 l1_0.length c1_0]] ?_
                with_reducible refine (laws_toSemigroup.calls kj106 _ _ l1_0 t942 _ ?side1 ?side2 A171.out).mono ?_
                (case side1 => exact co (Kd.C_below HR1_0.out HB.out))
                (case side2 => exact HC1_0.out)
                rintro e w185 ⟨v943, rfl, ho0, hb⟩
                refine ⟨_, rfl, ?_⟩
                have HO944 := Aside0.mk (Kd.R_lower (Kd.R_new' (Kd.R_new' (Kd.R_new' (Kd.R_new' (Kd.R_new' ho0 (Kd.R_lt (ro HO_909000.out))) (Kd.R_lt (ro HO_913000.out))) (Kd.R_lt (ro HO_917000.out))) (Kd.R_lt (ro HO_922000.out))) (Kd.R_lt (ro HO941.out))) (below_size bw))
                replace HO_909000 := Aside0.mk (Kd.R_elder' (ro HO_909000.out) (Kd.R_base ho0) hb)
                replace HO_913000 := Aside0.mk (Kd.R_elder' (ro HO_913000.out) (Kd.R_base ho0) hb)
                replace HO_917000 := Aside0.mk (Kd.R_elder' (ro HO_917000.out) (Kd.R_base ho0) hb)
                replace HO_922000 := Aside0.mk (Kd.R_elder' (ro HO_922000.out) (Kd.R_base ho0) hb)
                replace HO941 := Aside0.mk (Kd.R_elder' (ro HO941.out) (Kd.R_base ho0) hb)
                replace BK894 := Aside0.mk (blk_below (g := gb894) (o := .cells #[.slice A0_0 l0_0.length c0_0] 24 (0, 0)) (bo BK894.out) hb)
                replace BK895 := Aside0.mk (blk_below (g := gb895) (o := .cells #[.slice A1_0 l1_0.length c1_0] 24 (0, 0)) (bo BK895.out) hb)
                replace BK908 := Aside0.mk (blk_below (g := gb908) (o := .cells #[.slice Ao41 t904.length co41] 27 (0, 0)) (bo BK908.out) hb)
                replace BK912 := Aside0.mk (blk_below (g := gb912) (o := .cells #[.slice Ao47 t932.length co47] 27 (0, 0)) (bo BK912.out) hb)
                replace BK916 := Aside0.mk (blk_below (g := gb916) (o := .cells #[.slice Ao56 t934.length co56] 27 (0, 0)) (bo BK916.out) hb)
                replace BK921 := Aside0.mk (blk_below (g := gb921) (o := .cells #[.slice Ao65 t917.length co65] 27 (0, 0)) (bo BK921.out) hb)
                replace HB := Aside0.mk (below_step bw hb)
                clear hb ho0
                obtain ⟨Ao186, co186, eo186⟩ := Kd.R_slice HO941.out
                (first | subst eo186 | (injection eo186 with f1_ f2_ f3_; have f4_ := f1_.symm; have f5_ := f3_.symm; clear f1_ f2_ f3_; subst f4_; subst f5_))
                obtain ⟨Ao187, co187, eo187⟩ := Kd.R_slice HO944.out
                (first | subst eo187 | (injection eo187 with f1_ f2_ f3_; have f4_ := f1_.symm; have f5_ := f3_.symm; clear f1_ f2_ f3_; subst f4_; subst f5_))
                refine hK.out _ _ ⟨(blk_cell BK894.out 0).trans rfl, (blk_cell BK895.out 0).trans rfl⟩ (fun hHeld => ?_)
                clear hK K
                refine norm_ (a' := ?_) ?_ ?_
                rotate_left
                ·show Act.put _ (some 98) _ = _
                 simp only [Act.put, qa, qb, qc, i64_w, i32_w]
                 rfl
                refine two_ (i := 4) (j := 8) (Ni := some 99) (Nj := some 15) #[Y,Y,Y,Y,Y,Z,Z,Z,Z,Z,Z] #[Y,Y,Y,Y,Z,Z,Z,Z,Y,Z,Z] rfl rfl rfl rfl (two_of HT_.out (by kernel_rfl)) (by decide) (by decide) (fun K hK => ?_) (fun K hK => ?_)
                ·skip
                 refine gm Try.func46 #[.agg #[.slice Ao186 t939.length co186], .agg #[.slice Ao187 t942.length co187]] ?_
                 with_reducible refine (impl_MeetOf.calls kj106 _ _ t939 _ _ t942 t945 t948 _ ?side1 ?side2 ?side3 ?side4 A172.out).mono ?_
                 (case side1 => exact co (Kd.R_reads' HO941.out).2.2)
                 (case side2 => exact (Kd.R_reads' HO941.out).2.1)
                 (case side3 => exact co (Kd.R_reads' HO944.out).2.2)
                 (case side4 => exact (Kd.R_reads' HO944.out).2.1)
                 rintro e w188 ⟨v946, rfl, ho0, hb⟩
                 refine ⟨_, rfl, ?_⟩
                 have HO947 := Aside0.mk (Kd.R_lower (Kd.R_new' (Kd.R_new' (Kd.R_new' (Kd.R_new' (Kd.R_new' (Kd.R_new' ho0 (Kd.R_lt (ro HO_909000.out))) (Kd.R_lt (ro HO_913000.out))) (Kd.R_lt (ro HO_917000.out))) (Kd.R_lt (ro HO_922000.out))) (Kd.R_lt (ro HO941.out))) (Kd.R_lt (ro HO944.out))) (below_size bw))
                 replace HO_909000 := Aside0.mk (Kd.R_elder' (ro HO_909000.out) (Kd.R_base ho0) hb)
                 replace HO_913000 := Aside0.mk (Kd.R_elder' (ro HO_913000.out) (Kd.R_base ho0) hb)
                 replace HO_917000 := Aside0.mk (Kd.R_elder' (ro HO_917000.out) (Kd.R_base ho0) hb)
                 replace HO_922000 := Aside0.mk (Kd.R_elder' (ro HO_922000.out) (Kd.R_base ho0) hb)
                 replace HO941 := Aside0.mk (Kd.R_elder' (ro HO941.out) (Kd.R_base ho0) hb)
                 replace HO944 := Aside0.mk (Kd.R_elder' (ro HO944.out) (Kd.R_base ho0) hb)
                 replace BK894 := Aside0.mk (blk_below (g := gb894) (o := .cells #[.slice A0_0 l0_0.length c0_0] 24 (0, 0)) (bo BK894.out) hb)
                 replace BK895 := Aside0.mk (blk_below (g := gb895) (o := .cells #[.slice A1_0 l1_0.length c1_0] 24 (0, 0)) (bo BK895.out) hb)
                 replace BK908 := Aside0.mk (blk_below (g := gb908) (o := .cells #[.slice Ao41 t904.length co41] 27 (0, 0)) (bo BK908.out) hb)
                 replace BK912 := Aside0.mk (blk_below (g := gb912) (o := .cells #[.slice Ao47 t932.length co47] 27 (0, 0)) (bo BK912.out) hb)
                 replace BK916 := Aside0.mk (blk_below (g := gb916) (o := .cells #[.slice Ao56 t934.length co56] 27 (0, 0)) (bo BK916.out) hb)
                 replace BK921 := Aside0.mk (blk_below (g := gb921) (o := .cells #[.slice Ao65 t917.length co65] 27 (0, 0)) (bo BK921.out) hb)
                 replace HB := Aside0.mk (below_step bw hb)
                 clear hb ho0
                 refine hK.out _ _ ⟨(blk_cell BK894.out 0).trans rfl, (blk_cell BK895.out 0).trans rfl⟩ (fun hHeld => ?_)
                 clear hK K
                 refine norm_ (a' := ?_) ?_ ?_
                 rotate_left
                 ·show Act.put _ (some 99) _ = _
                  simp only [Act.put, qa, qb, qc, i64_w, i32_w]
                  rfl
                 refine pa 5 (some 94) #[Y,Y,Y,Y,Y,Y,Z,Z,Z,Z,Z] HT_ ?_
                 refine pa 6 (some 100) #[Y,Y,Y,Y,Y,Y,Y,Z,Z,Z,Z] HT_ ?_
                 refine pa 7 (some 101) #[Y,Y,Y,Y,Y,Y,Y,Y,Z,Z,Z] HT_ ?_
                 refine oa 8 (some 15) #[Y,Y,Y,Y,Y,Y,Y,Y,Y,Z,Z] HT_ (fun K hK => ?_)
                 refine box_step ?hg (N := 15) ?hd (cs := #[.slice none 0 0]) (t := 27) ?hr ?_; (case hd => rfl); (case hg => rfl); (case hr => first | (go_simp; done) | (go_simp; rfl))
                 intro gb949 hg w189 hbox hb
                 replace HO_909000 := Aside0.mk (Kd.R_below (ro HO_909000.out) hb)
                 replace HO_913000 := Aside0.mk (Kd.R_below (ro HO_913000.out) hb)
                 replace HO_917000 := Aside0.mk (Kd.R_below (ro HO_917000.out) hb)
                 replace HO_922000 := Aside0.mk (Kd.R_below (ro HO_922000.out) hb)
                 replace HO941 := Aside0.mk (Kd.R_below (ro HO941.out) hb)
                 replace HO944 := Aside0.mk (Kd.R_below (ro HO944.out) hb)
                 replace HO947 := Aside0.mk (Kd.R_below (ro HO947.out) hb)
                 have BK949 := Aside0.mk (hbox)
                 have GW949 := Aside0.mk (gs hg : w.heap.size ≤ gb949)
                 have GE949 := Aside0.mk (gs hg : w.heap.size ≤ gb949)
                 replace HB := Aside0.mk (below_step bw hb)
                 have NB894_949 := Aside0.mk ((by rw [hg]; exact Nat.ne_of_lt (blk_lt (g := gb894) (o := .cells #[.slice A0_0 l0_0.length c0_0] 24 (0, 0)) (bo BK894.out)) : gb894 ≠ gb949))
                 have NB949_894 := Aside0.mk ((by rw [hg]; exact Nat.ne_of_gt (blk_lt (g := gb894) (o := .cells #[.slice A0_0 l0_0.length c0_0] 24 (0, 0)) (bo BK894.out)) : gb949 ≠ gb894))
                 replace BK894 := Aside0.mk (blk_below (g := gb894) (o := .cells #[.slice A0_0 l0_0.length c0_0] 24 (0, 0)) (bo BK894.out) hb)
                 have NB895_949 := Aside0.mk ((by rw [hg]; exact Nat.ne_of_lt (blk_lt (g := gb895) (o := .cells #[.slice A1_0 l1_0.length c1_0] 24 (0, 0)) (bo BK895.out)) : gb895 ≠ gb949))
                 have NB949_895 := Aside0.mk ((by rw [hg]; exact Nat.ne_of_gt (blk_lt (g := gb895) (o := .cells #[.slice A1_0 l1_0.length c1_0] 24 (0, 0)) (bo BK895.out)) : gb949 ≠ gb895))
                 replace BK895 := Aside0.mk (blk_below (g := gb895) (o := .cells #[.slice A1_0 l1_0.length c1_0] 24 (0, 0)) (bo BK895.out) hb)
                 have NB908_949 := Aside0.mk ((by rw [hg]; exact Nat.ne_of_lt (blk_lt (g := gb908) (o := .cells #[.slice Ao41 t904.length co41] 27 (0, 0)) (bo BK908.out)) : gb908 ≠ gb949))
                 have NB949_908 := Aside0.mk ((by rw [hg]; exact Nat.ne_of_gt (blk_lt (g := gb908) (o := .cells #[.slice Ao41 t904.length co41] 27 (0, 0)) (bo BK908.out)) : gb949 ≠ gb908))
                 replace BK908 := Aside0.mk (blk_below (g := gb908) (o := .cells #[.slice Ao41 t904.length co41] 27 (0, 0)) (bo BK908.out) hb)
                 have NB912_949 := Aside0.mk ((by rw [hg]; exact Nat.ne_of_lt (blk_lt (g := gb912) (o := .cells #[.slice Ao47 t932.length co47] 27 (0, 0)) (bo BK912.out)) : gb912 ≠ gb949))
                 have NB949_912 := Aside0.mk ((by rw [hg]; exact Nat.ne_of_gt (blk_lt (g := gb912) (o := .cells #[.slice Ao47 t932.length co47] 27 (0, 0)) (bo BK912.out)) : gb949 ≠ gb912))
                 replace BK912 := Aside0.mk (blk_below (g := gb912) (o := .cells #[.slice Ao47 t932.length co47] 27 (0, 0)) (bo BK912.out) hb)
                 have NB916_949 := Aside0.mk ((by rw [hg]; exact Nat.ne_of_lt (blk_lt (g := gb916) (o := .cells #[.slice Ao56 t934.length co56] 27 (0, 0)) (bo BK916.out)) : gb916 ≠ gb949))
                 have NB949_916 := Aside0.mk ((by rw [hg]; exact Nat.ne_of_gt (blk_lt (g := gb916) (o := .cells #[.slice Ao56 t934.length co56] 27 (0, 0)) (bo BK916.out)) : gb949 ≠ gb916))
                 replace BK916 := Aside0.mk (blk_below (g := gb916) (o := .cells #[.slice Ao56 t934.length co56] 27 (0, 0)) (bo BK916.out) hb)
                 have NB921_949 := Aside0.mk ((by rw [hg]; exact Nat.ne_of_lt (blk_lt (g := gb921) (o := .cells #[.slice Ao65 t917.length co65] 27 (0, 0)) (bo BK921.out)) : gb921 ≠ gb949))
                 have NB949_921 := Aside0.mk ((by rw [hg]; exact Nat.ne_of_gt (blk_lt (g := gb921) (o := .cells #[.slice Ao65 t917.length co65] 27 (0, 0)) (bo BK921.out)) : gb949 ≠ gb921))
                 replace BK921 := Aside0.mk (blk_below (g := gb921) (o := .cells #[.slice Ao65 t917.length co65] 27 (0, 0)) (bo BK921.out) hb)
                 clear hb hbox hg
                 refine hK.out _ _ ⟨(blk_cell BK894.out 0).trans rfl, (blk_cell BK895.out 0).trans rfl⟩ (fun hHeld => ?_)
                 clear hK K
                 refine norm_ (a' := ?_) ?_ ?_
                 rotate_left
                 ·show Act.put _ (some 15) _ = _
                  simp only [Act.put, qa, qb, qc, i64_w, i32_w]
                  rfl
                 exact norm_ (by simp only [putAll, Act.put, List.setIfInBounds_toArray, List.set_cons_zero, List.set_cons_succ]) (hCont (.slice Ao186 t939.length co186, .slice Ao187 t942.length co187, v946, gb949) _ ⟨hHeld, (by (with_reducible repeat (first | apply Kd.R_alloc | apply Kd.R_drewN | apply Kd.R_drew)); exact Kd.R_mono HO941.out (fun _ hk => ⟨hk.1.2, ⟨hk.2, ⟨hk.1.1.1.1.1.2, ⟨hk.1.1.1.1.2, ⟨hk.1.1.1.2, hk.1.1.2⟩⟩⟩⟩⟩)), (by (with_reducible repeat (first | apply Kd.R_alloc | apply Kd.R_drewN | apply Kd.R_drew)); exact Kd.R_mono HO944.out (fun _ hk => ⟨hk.1.2, ⟨hk.2, ⟨hk.1.1.1.1.1.2, ⟨hk.1.1.1.1.2, ⟨hk.1.1.1.2, hk.1.1.2⟩⟩⟩⟩⟩)), (by (with_reducible repeat (first | apply Kd.R_alloc | apply Kd.R_drewN | apply Kd.R_drew)); exact Kd.R_mono HO947.out (fun _ hk => ⟨hk.1.2, ⟨hk.2, ⟨hk.1.1.1.1.1.2, ⟨hk.1.1.1.1.2, ⟨hk.1.1.1.2, hk.1.1.2⟩⟩⟩⟩⟩)), (by (with_reducible repeat (first | apply Kd.R_alloc | apply Kd.R_drewN | apply Kd.R_drew)); exact Kd.R_mono HO_909000.out (fun _ hk => ⟨hk.1.1.2, ⟨hk.1.2, ⟨hk.2, ⟨hk.1.1.1.1, ⟨hk.1.1.1.2.1, hk.1.1.1.2.2⟩⟩⟩⟩⟩)), (by (with_reducible repeat (first | apply Kd.R_alloc | apply Kd.R_drewN | apply Kd.R_drew)); exact Kd.R_mono HO_913000.out (fun _ hk => ⟨hk.1.1.2, ⟨hk.1.2, ⟨hk.2, ⟨hk.1.1.1.1, ⟨hk.1.1.1.2.1, hk.1.1.1.2.2⟩⟩⟩⟩⟩)), (by (with_reducible repeat (first | apply Kd.R_alloc | apply Kd.R_drewN | apply Kd.R_drew)); exact Kd.R_mono HO_917000.out (fun _ hk => ⟨hk.1.1.2, ⟨hk.1.2, ⟨hk.2, ⟨hk.1.1.1.1, ⟨hk.1.1.1.2.1, hk.1.1.1.2.2⟩⟩⟩⟩⟩)), (by (with_reducible repeat (first | apply Kd.R_alloc | apply Kd.R_drewN | apply Kd.R_drew)); exact Kd.R_mono HO_922000.out (fun _ hk => ⟨hk.1.1.2, ⟨hk.1.2, ⟨hk.2, ⟨hk.1.1.1.1, ⟨hk.1.1.1.2.1, hk.1.1.1.2.2⟩⟩⟩⟩⟩)), (bo BK894.out), (bo BK895.out), (bo BK908.out), (bo BK912.out), (bo BK916.out), (bo BK921.out), (bo BK949.out), GW949.out, GE949.out, NB894_949.out, NB949_894.out, NB895_949.out, NB949_895.out, NB908_949.out, NB949_908.out, NB912_949.out, NB949_912.out, NB916_949.out, NB949_916.out, NB921_949.out, NB949_921.out, bw⟩)
                ·skip
                 refine box_step ?hg (N := 15) ?hd (cs := #[.slice none 0 0]) (t := 27) ?hr ?_; (case hd => rfl); (case hg => rfl); (case hr => first | (go_simp; done) | (go_simp; rfl))
                 intro gb949 hg w186 hbox hb
                 replace HO_909000 := Aside0.mk (Kd.R_below (ro HO_909000.out) hb)
                 replace HO_913000 := Aside0.mk (Kd.R_below (ro HO_913000.out) hb)
                 replace HO_917000 := Aside0.mk (Kd.R_below (ro HO_917000.out) hb)
                 replace HO_922000 := Aside0.mk (Kd.R_below (ro HO_922000.out) hb)
                 replace HO941 := Aside0.mk (Kd.R_below (ro HO941.out) hb)
                 replace HO944 := Aside0.mk (Kd.R_below (ro HO944.out) hb)
                 have BK949 := Aside0.mk (hbox)
                 have GW949 := Aside0.mk (gs hg : w.heap.size ≤ gb949)
                 have GE949 := Aside0.mk (gs hg : w.heap.size ≤ gb949)
                 replace HB := Aside0.mk (below_step bw hb)
                 have NB894_949 := Aside0.mk ((by rw [hg]; exact Nat.ne_of_lt (blk_lt (g := gb894) (o := .cells #[.slice A0_0 l0_0.length c0_0] 24 (0, 0)) (bo BK894.out)) : gb894 ≠ gb949))
                 have NB949_894 := Aside0.mk ((by rw [hg]; exact Nat.ne_of_gt (blk_lt (g := gb894) (o := .cells #[.slice A0_0 l0_0.length c0_0] 24 (0, 0)) (bo BK894.out)) : gb949 ≠ gb894))
                 replace BK894 := Aside0.mk (blk_below (g := gb894) (o := .cells #[.slice A0_0 l0_0.length c0_0] 24 (0, 0)) (bo BK894.out) hb)
                 have NB895_949 := Aside0.mk ((by rw [hg]; exact Nat.ne_of_lt (blk_lt (g := gb895) (o := .cells #[.slice A1_0 l1_0.length c1_0] 24 (0, 0)) (bo BK895.out)) : gb895 ≠ gb949))
                 have NB949_895 := Aside0.mk ((by rw [hg]; exact Nat.ne_of_gt (blk_lt (g := gb895) (o := .cells #[.slice A1_0 l1_0.length c1_0] 24 (0, 0)) (bo BK895.out)) : gb949 ≠ gb895))
                 replace BK895 := Aside0.mk (blk_below (g := gb895) (o := .cells #[.slice A1_0 l1_0.length c1_0] 24 (0, 0)) (bo BK895.out) hb)
                 have NB908_949 := Aside0.mk ((by rw [hg]; exact Nat.ne_of_lt (blk_lt (g := gb908) (o := .cells #[.slice Ao41 t904.length co41] 27 (0, 0)) (bo BK908.out)) : gb908 ≠ gb949))
                 have NB949_908 := Aside0.mk ((by rw [hg]; exact Nat.ne_of_gt (blk_lt (g := gb908) (o := .cells #[.slice Ao41 t904.length co41] 27 (0, 0)) (bo BK908.out)) : gb949 ≠ gb908))
                 replace BK908 := Aside0.mk (blk_below (g := gb908) (o := .cells #[.slice Ao41 t904.length co41] 27 (0, 0)) (bo BK908.out) hb)
                 have NB912_949 := Aside0.mk ((by rw [hg]; exact Nat.ne_of_lt (blk_lt (g := gb912) (o := .cells #[.slice Ao47 t932.length co47] 27 (0, 0)) (bo BK912.out)) : gb912 ≠ gb949))
                 have NB949_912 := Aside0.mk ((by rw [hg]; exact Nat.ne_of_gt (blk_lt (g := gb912) (o := .cells #[.slice Ao47 t932.length co47] 27 (0, 0)) (bo BK912.out)) : gb949 ≠ gb912))
                 replace BK912 := Aside0.mk (blk_below (g := gb912) (o := .cells #[.slice Ao47 t932.length co47] 27 (0, 0)) (bo BK912.out) hb)
                 have NB916_949 := Aside0.mk ((by rw [hg]; exact Nat.ne_of_lt (blk_lt (g := gb916) (o := .cells #[.slice Ao56 t934.length co56] 27 (0, 0)) (bo BK916.out)) : gb916 ≠ gb949))
                 have NB949_916 := Aside0.mk ((by rw [hg]; exact Nat.ne_of_gt (blk_lt (g := gb916) (o := .cells #[.slice Ao56 t934.length co56] 27 (0, 0)) (bo BK916.out)) : gb949 ≠ gb916))
                 replace BK916 := Aside0.mk (blk_below (g := gb916) (o := .cells #[.slice Ao56 t934.length co56] 27 (0, 0)) (bo BK916.out) hb)
                 have NB921_949 := Aside0.mk ((by rw [hg]; exact Nat.ne_of_lt (blk_lt (g := gb921) (o := .cells #[.slice Ao65 t917.length co65] 27 (0, 0)) (bo BK921.out)) : gb921 ≠ gb949))
                 have NB949_921 := Aside0.mk ((by rw [hg]; exact Nat.ne_of_gt (blk_lt (g := gb921) (o := .cells #[.slice Ao65 t917.length co65] 27 (0, 0)) (bo BK921.out)) : gb949 ≠ gb921))
                 replace BK921 := Aside0.mk (blk_below (g := gb921) (o := .cells #[.slice Ao65 t917.length co65] 27 (0, 0)) (bo BK921.out) hb)
                 clear hb hbox hg
                 obtain ⟨Ao187, co187, eo187⟩ := Kd.R_slice HO941.out
                 (first | subst eo187 | (injection eo187 with f1_ f2_ f3_; have f4_ := f1_.symm; have f5_ := f3_.symm; clear f1_ f2_ f3_; subst f4_; subst f5_))
                 obtain ⟨Ao188, co188, eo188⟩ := Kd.R_slice HO944.out
                 (first | subst eo188 | (injection eo188 with f1_ f2_ f3_; have f4_ := f1_.symm; have f5_ := f3_.symm; clear f1_ f2_ f3_; subst f4_; subst f5_))
                 refine hK.out _ _ ⟨(blk_cell BK894.out 0).trans rfl, (blk_cell BK895.out 0).trans rfl⟩ (fun hHeld => ?_)
                 clear hK K
                 refine norm_ (a' := ?_) ?_ ?_
                 rotate_left
                 ·show Act.put _ (some 15) _ = _
                  simp only [Act.put, qa, qb, qc, i64_w, i32_w]
                  rfl
                 refine oa 4 (some 99) #[Y,Y,Y,Y,Y,Z,Z,Z,Y,Z,Z] HT_ (fun K hK => ?_)
                 refine gm Try.func46 #[.agg #[.slice Ao187 t939.length co187], .agg #[.slice Ao188 t942.length co188]] ?_
                 with_reducible refine (impl_MeetOf.calls kj106 _ _ t939 _ _ t942 t945 t948 _ ?side1 ?side2 ?side3 ?side4 A172.out).mono ?_
                 (case side1 => exact co (Kd.R_reads' HO941.out).2.2)
                 (case side2 => exact (Kd.R_reads' HO941.out).2.1)
                 (case side3 => exact co (Kd.R_reads' HO944.out).2.2)
                 (case side4 => exact (Kd.R_reads' HO944.out).2.1)
                 rintro e w189 ⟨v946, rfl, ho0, hb⟩
                 refine ⟨_, rfl, ?_⟩
                 have HO947 := Aside0.mk (Kd.R_lower (Kd.R_new' (Kd.R_new' (Kd.R_new' (Kd.R_new' (Kd.R_new' (Kd.R_new' ho0 (Kd.R_lt (ro HO_909000.out))) (Kd.R_lt (ro HO_913000.out))) (Kd.R_lt (ro HO_917000.out))) (Kd.R_lt (ro HO_922000.out))) (Kd.R_lt (ro HO941.out))) (Kd.R_lt (ro HO944.out))) (below_size bw))
                 replace HO_909000 := Aside0.mk (Kd.R_elder' (ro HO_909000.out) (Kd.R_base ho0) hb)
                 replace HO_913000 := Aside0.mk (Kd.R_elder' (ro HO_913000.out) (Kd.R_base ho0) hb)
                 replace HO_917000 := Aside0.mk (Kd.R_elder' (ro HO_917000.out) (Kd.R_base ho0) hb)
                 replace HO_922000 := Aside0.mk (Kd.R_elder' (ro HO_922000.out) (Kd.R_base ho0) hb)
                 replace HO941 := Aside0.mk (Kd.R_elder' (ro HO941.out) (Kd.R_base ho0) hb)
                 replace HO944 := Aside0.mk (Kd.R_elder' (ro HO944.out) (Kd.R_base ho0) hb)
                 replace BK894 := Aside0.mk (blk_below (g := gb894) (o := .cells #[.slice A0_0 l0_0.length c0_0] 24 (0, 0)) (bo BK894.out) hb)
                 replace BK895 := Aside0.mk (blk_below (g := gb895) (o := .cells #[.slice A1_0 l1_0.length c1_0] 24 (0, 0)) (bo BK895.out) hb)
                 replace BK908 := Aside0.mk (blk_below (g := gb908) (o := .cells #[.slice Ao41 t904.length co41] 27 (0, 0)) (bo BK908.out) hb)
                 replace BK912 := Aside0.mk (blk_below (g := gb912) (o := .cells #[.slice Ao47 t932.length co47] 27 (0, 0)) (bo BK912.out) hb)
                 replace BK916 := Aside0.mk (blk_below (g := gb916) (o := .cells #[.slice Ao56 t934.length co56] 27 (0, 0)) (bo BK916.out) hb)
                 replace BK921 := Aside0.mk (blk_below (g := gb921) (o := .cells #[.slice Ao65 t917.length co65] 27 (0, 0)) (bo BK921.out) hb)
                 replace BK949 := Aside0.mk (blk_below (g := gb949) (o := .cells #[.slice none 0 0] 27 (0, 0)) (bo BK949.out) hb)
                 replace HB := Aside0.mk (below_step bw hb)
                 clear hb ho0
                 refine hK.out _ _ ⟨(blk_cell BK894.out 0).trans rfl, (blk_cell BK895.out 0).trans rfl⟩ (fun hHeld => ?_)
                 clear hK K
                 refine norm_ (a' := ?_) ?_ ?_
                 rotate_left
                 ·show Act.put _ (some 99) _ = _
                  simp only [Act.put, qa, qb, qc, i64_w, i32_w]
                  rfl
                 refine pa 5 (some 94) #[Y,Y,Y,Y,Y,Y,Z,Z,Y,Z,Z] HT_ ?_
                 refine pa 6 (some 100) #[Y,Y,Y,Y,Y,Y,Y,Z,Y,Z,Z] HT_ ?_
                 refine pa 7 (some 101) #[Y,Y,Y,Y,Y,Y,Y,Y,Y,Z,Z] HT_ ?_
                 exact norm_ (by simp only [putAll, Act.put, List.setIfInBounds_toArray, List.set_cons_zero, List.set_cons_succ]) (hCont (.slice Ao187 t939.length co187, .slice Ao188 t942.length co188, v946, gb949) _ ⟨hHeld, (by (with_reducible repeat (first | apply Kd.R_alloc | apply Kd.R_drewN | apply Kd.R_drew)); exact Kd.R_mono HO941.out (fun _ hk => ⟨hk.1.2, ⟨hk.2, ⟨hk.1.1.1.1.1.2, ⟨hk.1.1.1.1.2, ⟨hk.1.1.1.2, hk.1.1.2⟩⟩⟩⟩⟩)), (by (with_reducible repeat (first | apply Kd.R_alloc | apply Kd.R_drewN | apply Kd.R_drew)); exact Kd.R_mono HO944.out (fun _ hk => ⟨hk.1.2, ⟨hk.2, ⟨hk.1.1.1.1.1.2, ⟨hk.1.1.1.1.2, ⟨hk.1.1.1.2, hk.1.1.2⟩⟩⟩⟩⟩)), (by (with_reducible repeat (first | apply Kd.R_alloc | apply Kd.R_drewN | apply Kd.R_drew)); exact Kd.R_mono HO947.out (fun _ hk => ⟨hk.1.2, ⟨hk.2, ⟨hk.1.1.1.1.1.2, ⟨hk.1.1.1.1.2, ⟨hk.1.1.1.2, hk.1.1.2⟩⟩⟩⟩⟩)), (by (with_reducible repeat (first | apply Kd.R_alloc | apply Kd.R_drewN | apply Kd.R_drew)); exact Kd.R_mono HO_909000.out (fun _ hk => ⟨hk.1.1.2, ⟨hk.1.2, ⟨hk.2, ⟨hk.1.1.1.1, ⟨hk.1.1.1.2.1, hk.1.1.1.2.2⟩⟩⟩⟩⟩)), (by (with_reducible repeat (first | apply Kd.R_alloc | apply Kd.R_drewN | apply Kd.R_drew)); exact Kd.R_mono HO_913000.out (fun _ hk => ⟨hk.1.1.2, ⟨hk.1.2, ⟨hk.2, ⟨hk.1.1.1.1, ⟨hk.1.1.1.2.1, hk.1.1.1.2.2⟩⟩⟩⟩⟩)), (by (with_reducible repeat (first | apply Kd.R_alloc | apply Kd.R_drewN | apply Kd.R_drew)); exact Kd.R_mono HO_917000.out (fun _ hk => ⟨hk.1.1.2, ⟨hk.1.2, ⟨hk.2, ⟨hk.1.1.1.1, ⟨hk.1.1.1.2.1, hk.1.1.1.2.2⟩⟩⟩⟩⟩)), (by (with_reducible repeat (first | apply Kd.R_alloc | apply Kd.R_drewN | apply Kd.R_drew)); exact Kd.R_mono HO_922000.out (fun _ hk => ⟨hk.1.1.2, ⟨hk.1.2, ⟨hk.2, ⟨hk.1.1.1.1, ⟨hk.1.1.1.2.1, hk.1.1.1.2.2⟩⟩⟩⟩⟩)), (bo BK894.out), (bo BK895.out), (bo BK908.out), (bo BK912.out), (bo BK916.out), (bo BK921.out), (bo BK949.out), GW949.out, GE949.out, NB894_949.out, NB949_894.out, NB895_949.out, NB949_895.out, NB908_949.out, NB949_908.out, NB912_949.out, NB949_912.out, NB916_949.out, NB949_916.out, NB921_949.out, NB949_921.out, bw⟩)
               ·skip
                refine box_step ?hg (N := 15) ?hd (cs := #[.slice none 0 0]) (t := 27) ?hr ?_; (case hd => rfl); (case hg => rfl); (case hr => first | (go_simp; done) | (go_simp; rfl))
                intro gb949 hg w185 hbox hb
                replace HO_909000 := Aside0.mk (Kd.R_below (ro HO_909000.out) hb)
                replace HO_913000 := Aside0.mk (Kd.R_below (ro HO_913000.out) hb)
                replace HO_917000 := Aside0.mk (Kd.R_below (ro HO_917000.out) hb)
                replace HO_922000 := Aside0.mk (Kd.R_below (ro HO_922000.out) hb)
                replace HO941 := Aside0.mk (Kd.R_below (ro HO941.out) hb)
                have BK949 := Aside0.mk (hbox)
                have GW949 := Aside0.mk (gs hg : w.heap.size ≤ gb949)
                have GE949 := Aside0.mk (gs hg : w.heap.size ≤ gb949)
                replace HB := Aside0.mk (below_step bw hb)
                have NB894_949 := Aside0.mk ((by rw [hg]; exact Nat.ne_of_lt (blk_lt (g := gb894) (o := .cells #[.slice A0_0 l0_0.length c0_0] 24 (0, 0)) (bo BK894.out)) : gb894 ≠ gb949))
                have NB949_894 := Aside0.mk ((by rw [hg]; exact Nat.ne_of_gt (blk_lt (g := gb894) (o := .cells #[.slice A0_0 l0_0.length c0_0] 24 (0, 0)) (bo BK894.out)) : gb949 ≠ gb894))
                replace BK894 := Aside0.mk (blk_below (g := gb894) (o := .cells #[.slice A0_0 l0_0.length c0_0] 24 (0, 0)) (bo BK894.out) hb)
                have NB895_949 := Aside0.mk ((by rw [hg]; exact Nat.ne_of_lt (blk_lt (g := gb895) (o := .cells #[.slice A1_0 l1_0.length c1_0] 24 (0, 0)) (bo BK895.out)) : gb895 ≠ gb949))
                have NB949_895 := Aside0.mk ((by rw [hg]; exact Nat.ne_of_gt (blk_lt (g := gb895) (o := .cells #[.slice A1_0 l1_0.length c1_0] 24 (0, 0)) (bo BK895.out)) : gb949 ≠ gb895))
                replace BK895 := Aside0.mk (blk_below (g := gb895) (o := .cells #[.slice A1_0 l1_0.length c1_0] 24 (0, 0)) (bo BK895.out) hb)
                have NB908_949 := Aside0.mk ((by rw [hg]; exact Nat.ne_of_lt (blk_lt (g := gb908) (o := .cells #[.slice Ao41 t904.length co41] 27 (0, 0)) (bo BK908.out)) : gb908 ≠ gb949))
                have NB949_908 := Aside0.mk ((by rw [hg]; exact Nat.ne_of_gt (blk_lt (g := gb908) (o := .cells #[.slice Ao41 t904.length co41] 27 (0, 0)) (bo BK908.out)) : gb949 ≠ gb908))
                replace BK908 := Aside0.mk (blk_below (g := gb908) (o := .cells #[.slice Ao41 t904.length co41] 27 (0, 0)) (bo BK908.out) hb)
                have NB912_949 := Aside0.mk ((by rw [hg]; exact Nat.ne_of_lt (blk_lt (g := gb912) (o := .cells #[.slice Ao47 t932.length co47] 27 (0, 0)) (bo BK912.out)) : gb912 ≠ gb949))
                have NB949_912 := Aside0.mk ((by rw [hg]; exact Nat.ne_of_gt (blk_lt (g := gb912) (o := .cells #[.slice Ao47 t932.length co47] 27 (0, 0)) (bo BK912.out)) : gb949 ≠ gb912))
                replace BK912 := Aside0.mk (blk_below (g := gb912) (o := .cells #[.slice Ao47 t932.length co47] 27 (0, 0)) (bo BK912.out) hb)
                have NB916_949 := Aside0.mk ((by rw [hg]; exact Nat.ne_of_lt (blk_lt (g := gb916) (o := .cells #[.slice Ao56 t934.length co56] 27 (0, 0)) (bo BK916.out)) : gb916 ≠ gb949))
                have NB949_916 := Aside0.mk ((by rw [hg]; exact Nat.ne_of_gt (blk_lt (g := gb916) (o := .cells #[.slice Ao56 t934.length co56] 27 (0, 0)) (bo BK916.out)) : gb949 ≠ gb916))
                replace BK916 := Aside0.mk (blk_below (g := gb916) (o := .cells #[.slice Ao56 t934.length co56] 27 (0, 0)) (bo BK916.out) hb)
                have NB921_949 := Aside0.mk ((by rw [hg]; exact Nat.ne_of_lt (blk_lt (g := gb921) (o := .cells #[.slice Ao65 t917.length co65] 27 (0, 0)) (bo BK921.out)) : gb921 ≠ gb949))
                have NB949_921 := Aside0.mk ((by rw [hg]; exact Nat.ne_of_gt (blk_lt (g := gb921) (o := .cells #[.slice Ao65 t917.length co65] 27 (0, 0)) (bo BK921.out)) : gb949 ≠ gb921))
                replace BK921 := Aside0.mk (blk_below (g := gb921) (o := .cells #[.slice Ao65 t917.length co65] 27 (0, 0)) (bo BK921.out) hb)
                clear hb hbox hg
                refine hK.out _ _ ⟨(blk_cell BK894.out 0).trans rfl, (blk_cell BK895.out 0).trans rfl⟩ (fun hHeld => ?_)
                clear hK K
                refine norm_ (a' := ?_) ?_ ?_
                rotate_left
                ·show Act.put _ (some 15) _ = _
                 simp only [Act.put, qa, qb, qc, i64_w, i32_w]
                 rfl
                refine oa 3 (some 98) #[Y,Y,Y,Y,Z,Z,Z,Z,Y,Z,Z] HT_ (fun K hK => ?_)
                refine gm Try.func17 #[.agg #[.slice A1_0 l1_0.length c1_0]] ?_
                with_reducible refine (laws_toSemigroup.calls kj106 _ _ l1_0 t942 _ ?side1 ?side2 A171.out).mono ?_
                (case side1 => exact co (Kd.C_below HR1_0.out HB.out))
                (case side2 => exact HC1_0.out)
                rintro e w186 ⟨v943, rfl, ho0, hb⟩
                refine ⟨_, rfl, ?_⟩
                have HO944 := Aside0.mk (Kd.R_lower (Kd.R_new' (Kd.R_new' (Kd.R_new' (Kd.R_new' (Kd.R_new' ho0 (Kd.R_lt (ro HO_909000.out))) (Kd.R_lt (ro HO_913000.out))) (Kd.R_lt (ro HO_917000.out))) (Kd.R_lt (ro HO_922000.out))) (Kd.R_lt (ro HO941.out))) (below_size bw))
                replace HO_909000 := Aside0.mk (Kd.R_elder' (ro HO_909000.out) (Kd.R_base ho0) hb)
                replace HO_913000 := Aside0.mk (Kd.R_elder' (ro HO_913000.out) (Kd.R_base ho0) hb)
                replace HO_917000 := Aside0.mk (Kd.R_elder' (ro HO_917000.out) (Kd.R_base ho0) hb)
                replace HO_922000 := Aside0.mk (Kd.R_elder' (ro HO_922000.out) (Kd.R_base ho0) hb)
                replace HO941 := Aside0.mk (Kd.R_elder' (ro HO941.out) (Kd.R_base ho0) hb)
                replace BK894 := Aside0.mk (blk_below (g := gb894) (o := .cells #[.slice A0_0 l0_0.length c0_0] 24 (0, 0)) (bo BK894.out) hb)
                replace BK895 := Aside0.mk (blk_below (g := gb895) (o := .cells #[.slice A1_0 l1_0.length c1_0] 24 (0, 0)) (bo BK895.out) hb)
                replace BK908 := Aside0.mk (blk_below (g := gb908) (o := .cells #[.slice Ao41 t904.length co41] 27 (0, 0)) (bo BK908.out) hb)
                replace BK912 := Aside0.mk (blk_below (g := gb912) (o := .cells #[.slice Ao47 t932.length co47] 27 (0, 0)) (bo BK912.out) hb)
                replace BK916 := Aside0.mk (blk_below (g := gb916) (o := .cells #[.slice Ao56 t934.length co56] 27 (0, 0)) (bo BK916.out) hb)
                replace BK921 := Aside0.mk (blk_below (g := gb921) (o := .cells #[.slice Ao65 t917.length co65] 27 (0, 0)) (bo BK921.out) hb)
                replace BK949 := Aside0.mk (blk_below (g := gb949) (o := .cells #[.slice none 0 0] 27 (0, 0)) (bo BK949.out) hb)
                replace HB := Aside0.mk (below_step bw hb)
                clear hb ho0
                obtain ⟨Ao187, co187, eo187⟩ := Kd.R_slice HO941.out
                (first | subst eo187 | (injection eo187 with f1_ f2_ f3_; have f4_ := f1_.symm; have f5_ := f3_.symm; clear f1_ f2_ f3_; subst f4_; subst f5_))
                obtain ⟨Ao188, co188, eo188⟩ := Kd.R_slice HO944.out
                (first | subst eo188 | (injection eo188 with f1_ f2_ f3_; have f4_ := f1_.symm; have f5_ := f3_.symm; clear f1_ f2_ f3_; subst f4_; subst f5_))
                refine hK.out _ _ ⟨(blk_cell BK894.out 0).trans rfl, (blk_cell BK895.out 0).trans rfl⟩ (fun hHeld => ?_)
                clear hK K
                refine norm_ (a' := ?_) ?_ ?_
                rotate_left
                ·show Act.put _ (some 98) _ = _
                 simp only [Act.put, qa, qb, qc, i64_w, i32_w]
                 rfl
                refine oa 4 (some 99) #[Y,Y,Y,Y,Y,Z,Z,Z,Y,Z,Z] HT_ (fun K hK => ?_)
                refine gm Try.func46 #[.agg #[.slice Ao187 t939.length co187], .agg #[.slice Ao188 t942.length co188]] ?_
                with_reducible refine (impl_MeetOf.calls kj106 _ _ t939 _ _ t942 t945 t948 _ ?side1 ?side2 ?side3 ?side4 A172.out).mono ?_
                (case side1 => exact co (Kd.R_reads' HO941.out).2.2)
                (case side2 => exact (Kd.R_reads' HO941.out).2.1)
                (case side3 => exact co (Kd.R_reads' HO944.out).2.2)
                (case side4 => exact (Kd.R_reads' HO944.out).2.1)
                rintro e w189 ⟨v946, rfl, ho0, hb⟩
                refine ⟨_, rfl, ?_⟩
                have HO947 := Aside0.mk (Kd.R_lower (Kd.R_new' (Kd.R_new' (Kd.R_new' (Kd.R_new' (Kd.R_new' (Kd.R_new' ho0 (Kd.R_lt (ro HO_909000.out))) (Kd.R_lt (ro HO_913000.out))) (Kd.R_lt (ro HO_917000.out))) (Kd.R_lt (ro HO_922000.out))) (Kd.R_lt (ro HO941.out))) (Kd.R_lt (ro HO944.out))) (below_size bw))
                replace HO_909000 := Aside0.mk (Kd.R_elder' (ro HO_909000.out) (Kd.R_base ho0) hb)
                replace HO_913000 := Aside0.mk (Kd.R_elder' (ro HO_913000.out) (Kd.R_base ho0) hb)
                replace HO_917000 := Aside0.mk (Kd.R_elder' (ro HO_917000.out) (Kd.R_base ho0) hb)
                replace HO_922000 := Aside0.mk (Kd.R_elder' (ro HO_922000.out) (Kd.R_base ho0) hb)
                replace HO941 := Aside0.mk (Kd.R_elder' (ro HO941.out) (Kd.R_base ho0) hb)
                replace HO944 := Aside0.mk (Kd.R_elder' (ro HO944.out) (Kd.R_base ho0) hb)
                replace BK894 := Aside0.mk (blk_below (g := gb894) (o := .cells #[.slice A0_0 l0_0.length c0_0] 24 (0, 0)) (bo BK894.out) hb)
                replace BK895 := Aside0.mk (blk_below (g := gb895) (o := .cells #[.slice A1_0 l1_0.length c1_0] 24 (0, 0)) (bo BK895.out) hb)
                replace BK908 := Aside0.mk (blk_below (g := gb908) (o := .cells #[.slice Ao41 t904.length co41] 27 (0, 0)) (bo BK908.out) hb)
                replace BK912 := Aside0.mk (blk_below (g := gb912) (o := .cells #[.slice Ao47 t932.length co47] 27 (0, 0)) (bo BK912.out) hb)
                replace BK916 := Aside0.mk (blk_below (g := gb916) (o := .cells #[.slice Ao56 t934.length co56] 27 (0, 0)) (bo BK916.out) hb)
                replace BK921 := Aside0.mk (blk_below (g := gb921) (o := .cells #[.slice Ao65 t917.length co65] 27 (0, 0)) (bo BK921.out) hb)
                replace BK949 := Aside0.mk (blk_below (g := gb949) (o := .cells #[.slice none 0 0] 27 (0, 0)) (bo BK949.out) hb)
                replace HB := Aside0.mk (below_step bw hb)
                clear hb ho0
                refine hK.out _ _ ⟨(blk_cell BK894.out 0).trans rfl, (blk_cell BK895.out 0).trans rfl⟩ (fun hHeld => ?_)
                clear hK K
                refine norm_ (a' := ?_) ?_ ?_
                rotate_left
                ·show Act.put _ (some 99) _ = _
                 simp only [Act.put, qa, qb, qc, i64_w, i32_w]
                 rfl
                refine pa 5 (some 94) #[Y,Y,Y,Y,Y,Y,Z,Z,Y,Z,Z] HT_ ?_
                refine pa 6 (some 100) #[Y,Y,Y,Y,Y,Y,Y,Z,Y,Z,Z] HT_ ?_
                refine pa 7 (some 101) #[Y,Y,Y,Y,Y,Y,Y,Y,Y,Z,Z] HT_ ?_
                exact norm_ (by simp only [putAll, Act.put, List.setIfInBounds_toArray, List.set_cons_zero, List.set_cons_succ]) (hCont (.slice Ao187 t939.length co187, .slice Ao188 t942.length co188, v946, gb949) _ ⟨hHeld, (by (with_reducible repeat (first | apply Kd.R_alloc | apply Kd.R_drewN | apply Kd.R_drew)); exact Kd.R_mono HO941.out (fun _ hk => ⟨hk.1.2, ⟨hk.2, ⟨hk.1.1.1.1.1.2, ⟨hk.1.1.1.1.2, ⟨hk.1.1.1.2, hk.1.1.2⟩⟩⟩⟩⟩)), (by (with_reducible repeat (first | apply Kd.R_alloc | apply Kd.R_drewN | apply Kd.R_drew)); exact Kd.R_mono HO944.out (fun _ hk => ⟨hk.1.2, ⟨hk.2, ⟨hk.1.1.1.1.1.2, ⟨hk.1.1.1.1.2, ⟨hk.1.1.1.2, hk.1.1.2⟩⟩⟩⟩⟩)), (by (with_reducible repeat (first | apply Kd.R_alloc | apply Kd.R_drewN | apply Kd.R_drew)); exact Kd.R_mono HO947.out (fun _ hk => ⟨hk.1.2, ⟨hk.2, ⟨hk.1.1.1.1.1.2, ⟨hk.1.1.1.1.2, ⟨hk.1.1.1.2, hk.1.1.2⟩⟩⟩⟩⟩)), (by (with_reducible repeat (first | apply Kd.R_alloc | apply Kd.R_drewN | apply Kd.R_drew)); exact Kd.R_mono HO_909000.out (fun _ hk => ⟨hk.1.1.2, ⟨hk.1.2, ⟨hk.2, ⟨hk.1.1.1.1, ⟨hk.1.1.1.2.1, hk.1.1.1.2.2⟩⟩⟩⟩⟩)), (by (with_reducible repeat (first | apply Kd.R_alloc | apply Kd.R_drewN | apply Kd.R_drew)); exact Kd.R_mono HO_913000.out (fun _ hk => ⟨hk.1.1.2, ⟨hk.1.2, ⟨hk.2, ⟨hk.1.1.1.1, ⟨hk.1.1.1.2.1, hk.1.1.1.2.2⟩⟩⟩⟩⟩)), (by (with_reducible repeat (first | apply Kd.R_alloc | apply Kd.R_drewN | apply Kd.R_drew)); exact Kd.R_mono HO_917000.out (fun _ hk => ⟨hk.1.1.2, ⟨hk.1.2, ⟨hk.2, ⟨hk.1.1.1.1, ⟨hk.1.1.1.2.1, hk.1.1.1.2.2⟩⟩⟩⟩⟩)), (by (with_reducible repeat (first | apply Kd.R_alloc | apply Kd.R_drewN | apply Kd.R_drew)); exact Kd.R_mono HO_922000.out (fun _ hk => ⟨hk.1.1.2, ⟨hk.1.2, ⟨hk.2, ⟨hk.1.1.1.1, ⟨hk.1.1.1.2.1, hk.1.1.1.2.2⟩⟩⟩⟩⟩)), (bo BK894.out), (bo BK895.out), (bo BK908.out), (bo BK912.out), (bo BK916.out), (bo BK921.out), (bo BK949.out), GW949.out, GE949.out, NB894_949.out, NB949_894.out, NB895_949.out, NB949_895.out, NB908_949.out, NB949_908.out, NB912_949.out, NB949_912.out, NB916_949.out, NB949_916.out, NB921_949.out, NB949_921.out, bw⟩)
              ·skip
               refine box_step ?hg (N := 15) ?hd (cs := #[.slice none 0 0]) (t := 27) ?hr ?_; (case hd => rfl); (case hg => rfl); (case hr => first | (go_simp; done) | (go_simp; rfl))
               intro gb949 hg w184 hbox hb
               replace HO_909000 := Aside0.mk (Kd.R_below (ro HO_909000.out) hb)
               replace HO_913000 := Aside0.mk (Kd.R_below (ro HO_913000.out) hb)
               replace HO_917000 := Aside0.mk (Kd.R_below (ro HO_917000.out) hb)
               replace HO_922000 := Aside0.mk (Kd.R_below (ro HO_922000.out) hb)
               have BK949 := Aside0.mk (hbox)
               have GW949 := Aside0.mk (gs hg : w.heap.size ≤ gb949)
               have GE949 := Aside0.mk (gs hg : w.heap.size ≤ gb949)
               replace HB := Aside0.mk (below_step bw hb)
               have NB894_949 := Aside0.mk ((by rw [hg]; exact Nat.ne_of_lt (blk_lt (g := gb894) (o := .cells #[.slice A0_0 l0_0.length c0_0] 24 (0, 0)) (bo BK894.out)) : gb894 ≠ gb949))
               have NB949_894 := Aside0.mk ((by rw [hg]; exact Nat.ne_of_gt (blk_lt (g := gb894) (o := .cells #[.slice A0_0 l0_0.length c0_0] 24 (0, 0)) (bo BK894.out)) : gb949 ≠ gb894))
               replace BK894 := Aside0.mk (blk_below (g := gb894) (o := .cells #[.slice A0_0 l0_0.length c0_0] 24 (0, 0)) (bo BK894.out) hb)
               have NB895_949 := Aside0.mk ((by rw [hg]; exact Nat.ne_of_lt (blk_lt (g := gb895) (o := .cells #[.slice A1_0 l1_0.length c1_0] 24 (0, 0)) (bo BK895.out)) : gb895 ≠ gb949))
               have NB949_895 := Aside0.mk ((by rw [hg]; exact Nat.ne_of_gt (blk_lt (g := gb895) (o := .cells #[.slice A1_0 l1_0.length c1_0] 24 (0, 0)) (bo BK895.out)) : gb949 ≠ gb895))
               replace BK895 := Aside0.mk (blk_below (g := gb895) (o := .cells #[.slice A1_0 l1_0.length c1_0] 24 (0, 0)) (bo BK895.out) hb)
               have NB908_949 := Aside0.mk ((by rw [hg]; exact Nat.ne_of_lt (blk_lt (g := gb908) (o := .cells #[.slice Ao41 t904.length co41] 27 (0, 0)) (bo BK908.out)) : gb908 ≠ gb949))
               have NB949_908 := Aside0.mk ((by rw [hg]; exact Nat.ne_of_gt (blk_lt (g := gb908) (o := .cells #[.slice Ao41 t904.length co41] 27 (0, 0)) (bo BK908.out)) : gb949 ≠ gb908))
               replace BK908 := Aside0.mk (blk_below (g := gb908) (o := .cells #[.slice Ao41 t904.length co41] 27 (0, 0)) (bo BK908.out) hb)
               have NB912_949 := Aside0.mk ((by rw [hg]; exact Nat.ne_of_lt (blk_lt (g := gb912) (o := .cells #[.slice Ao47 t932.length co47] 27 (0, 0)) (bo BK912.out)) : gb912 ≠ gb949))
               have NB949_912 := Aside0.mk ((by rw [hg]; exact Nat.ne_of_gt (blk_lt (g := gb912) (o := .cells #[.slice Ao47 t932.length co47] 27 (0, 0)) (bo BK912.out)) : gb949 ≠ gb912))
               replace BK912 := Aside0.mk (blk_below (g := gb912) (o := .cells #[.slice Ao47 t932.length co47] 27 (0, 0)) (bo BK912.out) hb)
               have NB916_949 := Aside0.mk ((by rw [hg]; exact Nat.ne_of_lt (blk_lt (g := gb916) (o := .cells #[.slice Ao56 t934.length co56] 27 (0, 0)) (bo BK916.out)) : gb916 ≠ gb949))
               have NB949_916 := Aside0.mk ((by rw [hg]; exact Nat.ne_of_gt (blk_lt (g := gb916) (o := .cells #[.slice Ao56 t934.length co56] 27 (0, 0)) (bo BK916.out)) : gb949 ≠ gb916))
               replace BK916 := Aside0.mk (blk_below (g := gb916) (o := .cells #[.slice Ao56 t934.length co56] 27 (0, 0)) (bo BK916.out) hb)
               have NB921_949 := Aside0.mk ((by rw [hg]; exact Nat.ne_of_lt (blk_lt (g := gb921) (o := .cells #[.slice Ao65 t917.length co65] 27 (0, 0)) (bo BK921.out)) : gb921 ≠ gb949))
               have NB949_921 := Aside0.mk ((by rw [hg]; exact Nat.ne_of_gt (blk_lt (g := gb921) (o := .cells #[.slice Ao65 t917.length co65] 27 (0, 0)) (bo BK921.out)) : gb949 ≠ gb921))
               replace BK921 := Aside0.mk (blk_below (g := gb921) (o := .cells #[.slice Ao65 t917.length co65] 27 (0, 0)) (bo BK921.out) hb)
               clear hb hbox hg
               refine hK.out _ _ ⟨(blk_cell BK894.out 0).trans rfl, (blk_cell BK895.out 0).trans rfl⟩ (fun hHeld => ?_)
               clear hK K
               refine norm_ (a' := ?_) ?_ ?_
               rotate_left
               ·show Act.put _ (some 15) _ = _
                simp only [Act.put, qa, qb, qc, i64_w, i32_w]
                rfl
               refine oa 1 (some 96) #[Y,Y,Y,Z,Z,Z,Z,Z,Y,Z,Z] HT_ (fun K hK => ?_)
               refine gm Try.func17 #[.agg #[.slice A0_0 l0_0.length c0_0]] ?_
               with_reducible refine (laws_toSemigroup.calls kj106 _ _ l0_0 t939 _ ?side1 ?side2 A170.out).mono ?_
               (case side1 => exact co (Kd.C_below HR0_0.out HB.out))
               (case side2 => exact HC0_0.out)
               rintro e w185 ⟨v940, rfl, ho0, hb⟩
               refine ⟨_, rfl, ?_⟩
               have HO941 := Aside0.mk (Kd.R_lower (Kd.R_new' (Kd.R_new' (Kd.R_new' (Kd.R_new' ho0 (Kd.R_lt (ro HO_909000.out))) (Kd.R_lt (ro HO_913000.out))) (Kd.R_lt (ro HO_917000.out))) (Kd.R_lt (ro HO_922000.out))) (below_size bw))
               replace HO_909000 := Aside0.mk (Kd.R_elder' (ro HO_909000.out) (Kd.R_base ho0) hb)
               replace HO_913000 := Aside0.mk (Kd.R_elder' (ro HO_913000.out) (Kd.R_base ho0) hb)
               replace HO_917000 := Aside0.mk (Kd.R_elder' (ro HO_917000.out) (Kd.R_base ho0) hb)
               replace HO_922000 := Aside0.mk (Kd.R_elder' (ro HO_922000.out) (Kd.R_base ho0) hb)
               replace BK894 := Aside0.mk (blk_below (g := gb894) (o := .cells #[.slice A0_0 l0_0.length c0_0] 24 (0, 0)) (bo BK894.out) hb)
               replace BK895 := Aside0.mk (blk_below (g := gb895) (o := .cells #[.slice A1_0 l1_0.length c1_0] 24 (0, 0)) (bo BK895.out) hb)
               replace BK908 := Aside0.mk (blk_below (g := gb908) (o := .cells #[.slice Ao41 t904.length co41] 27 (0, 0)) (bo BK908.out) hb)
               replace BK912 := Aside0.mk (blk_below (g := gb912) (o := .cells #[.slice Ao47 t932.length co47] 27 (0, 0)) (bo BK912.out) hb)
               replace BK916 := Aside0.mk (blk_below (g := gb916) (o := .cells #[.slice Ao56 t934.length co56] 27 (0, 0)) (bo BK916.out) hb)
               replace BK921 := Aside0.mk (blk_below (g := gb921) (o := .cells #[.slice Ao65 t917.length co65] 27 (0, 0)) (bo BK921.out) hb)
               replace BK949 := Aside0.mk (blk_below (g := gb949) (o := .cells #[.slice none 0 0] 27 (0, 0)) (bo BK949.out) hb)
               replace HB := Aside0.mk (below_step bw hb)
               clear hb ho0
               refine hK.out _ _ ⟨(blk_cell BK894.out 0).trans rfl, (blk_cell BK895.out 0).trans rfl⟩ (fun hHeld => ?_)
               clear hK K
               refine norm_ (a' := ?_) ?_ ?_
               rotate_left
               ·show Act.put _ (some 96) _ = _
                simp only [Act.put, qa, qb, qc, i64_w, i32_w]
                rfl
               refine oa 3 (some 98) #[Y,Y,Y,Y,Z,Z,Z,Z,Y,Z,Z] HT_ (fun K hK => ?_)
               refine gm Try.func17 #[.agg #[.slice A1_0 l1_0.length c1_0]] ?_
               with_reducible refine (laws_toSemigroup.calls kj106 _ _ l1_0 t942 _ ?side1 ?side2 A171.out).mono ?_
               (case side1 => exact co (Kd.C_below HR1_0.out HB.out))
               (case side2 => exact HC1_0.out)
               rintro e w186 ⟨v943, rfl, ho0, hb⟩
               refine ⟨_, rfl, ?_⟩
               have HO944 := Aside0.mk (Kd.R_lower (Kd.R_new' (Kd.R_new' (Kd.R_new' (Kd.R_new' (Kd.R_new' ho0 (Kd.R_lt (ro HO_909000.out))) (Kd.R_lt (ro HO_913000.out))) (Kd.R_lt (ro HO_917000.out))) (Kd.R_lt (ro HO_922000.out))) (Kd.R_lt (ro HO941.out))) (below_size bw))
               replace HO_909000 := Aside0.mk (Kd.R_elder' (ro HO_909000.out) (Kd.R_base ho0) hb)
               replace HO_913000 := Aside0.mk (Kd.R_elder' (ro HO_913000.out) (Kd.R_base ho0) hb)
               replace HO_917000 := Aside0.mk (Kd.R_elder' (ro HO_917000.out) (Kd.R_base ho0) hb)
               replace HO_922000 := Aside0.mk (Kd.R_elder' (ro HO_922000.out) (Kd.R_base ho0) hb)
               replace HO941 := Aside0.mk (Kd.R_elder' (ro HO941.out) (Kd.R_base ho0) hb)
               replace BK894 := Aside0.mk (blk_below (g := gb894) (o := .cells #[.slice A0_0 l0_0.length c0_0] 24 (0, 0)) (bo BK894.out) hb)
               replace BK895 := Aside0.mk (blk_below (g := gb895) (o := .cells #[.slice A1_0 l1_0.length c1_0] 24 (0, 0)) (bo BK895.out) hb)
               replace BK908 := Aside0.mk (blk_below (g := gb908) (o := .cells #[.slice Ao41 t904.length co41] 27 (0, 0)) (bo BK908.out) hb)
               replace BK912 := Aside0.mk (blk_below (g := gb912) (o := .cells #[.slice Ao47 t932.length co47] 27 (0, 0)) (bo BK912.out) hb)
               replace BK916 := Aside0.mk (blk_below (g := gb916) (o := .cells #[.slice Ao56 t934.length co56] 27 (0, 0)) (bo BK916.out) hb)
               replace BK921 := Aside0.mk (blk_below (g := gb921) (o := .cells #[.slice Ao65 t917.length co65] 27 (0, 0)) (bo BK921.out) hb)
               replace BK949 := Aside0.mk (blk_below (g := gb949) (o := .cells #[.slice none 0 0] 27 (0, 0)) (bo BK949.out) hb)
               replace HB := Aside0.mk (below_step bw hb)
               clear hb ho0
               obtain ⟨Ao187, co187, eo187⟩ := Kd.R_slice HO941.out
               (first | subst eo187 | (injection eo187 with f1_ f2_ f3_; have f4_ := f1_.symm; have f5_ := f3_.symm; clear f1_ f2_ f3_; subst f4_; subst f5_))
               obtain ⟨Ao188, co188, eo188⟩ := Kd.R_slice HO944.out
               (first | subst eo188 | (injection eo188 with f1_ f2_ f3_; have f4_ := f1_.symm; have f5_ := f3_.symm; clear f1_ f2_ f3_; subst f4_; subst f5_))
               refine hK.out _ _ ⟨(blk_cell BK894.out 0).trans rfl, (blk_cell BK895.out 0).trans rfl⟩ (fun hHeld => ?_)
               clear hK K
               refine norm_ (a' := ?_) ?_ ?_
               rotate_left
               ·show Act.put _ (some 98) _ = _
                simp only [Act.put, qa, qb, qc, i64_w, i32_w]
                rfl
               refine oa 4 (some 99) #[Y,Y,Y,Y,Y,Z,Z,Z,Y,Z,Z] HT_ (fun K hK => ?_)
               refine gm Try.func46 #[.agg #[.slice Ao187 t939.length co187], .agg #[.slice Ao188 t942.length co188]] ?_
               with_reducible refine (impl_MeetOf.calls kj106 _ _ t939 _ _ t942 t945 t948 _ ?side1 ?side2 ?side3 ?side4 A172.out).mono ?_
               (case side1 => exact co (Kd.R_reads' HO941.out).2.2)
               (case side2 => exact (Kd.R_reads' HO941.out).2.1)
               (case side3 => exact co (Kd.R_reads' HO944.out).2.2)
               (case side4 => exact (Kd.R_reads' HO944.out).2.1)
               rintro e w189 ⟨v946, rfl, ho0, hb⟩
               refine ⟨_, rfl, ?_⟩
               have HO947 := Aside0.mk (Kd.R_lower (Kd.R_new' (Kd.R_new' (Kd.R_new' (Kd.R_new' (Kd.R_new' (Kd.R_new' ho0 (Kd.R_lt (ro HO_909000.out))) (Kd.R_lt (ro HO_913000.out))) (Kd.R_lt (ro HO_917000.out))) (Kd.R_lt (ro HO_922000.out))) (Kd.R_lt (ro HO941.out))) (Kd.R_lt (ro HO944.out))) (below_size bw))
               replace HO_909000 := Aside0.mk (Kd.R_elder' (ro HO_909000.out) (Kd.R_base ho0) hb)
               replace HO_913000 := Aside0.mk (Kd.R_elder' (ro HO_913000.out) (Kd.R_base ho0) hb)
               replace HO_917000 := Aside0.mk (Kd.R_elder' (ro HO_917000.out) (Kd.R_base ho0) hb)
               replace HO_922000 := Aside0.mk (Kd.R_elder' (ro HO_922000.out) (Kd.R_base ho0) hb)
               replace HO941 := Aside0.mk (Kd.R_elder' (ro HO941.out) (Kd.R_base ho0) hb)
               replace HO944 := Aside0.mk (Kd.R_elder' (ro HO944.out) (Kd.R_base ho0) hb)
               replace BK894 := Aside0.mk (blk_below (g := gb894) (o := .cells #[.slice A0_0 l0_0.length c0_0] 24 (0, 0)) (bo BK894.out) hb)
               replace BK895 := Aside0.mk (blk_below (g := gb895) (o := .cells #[.slice A1_0 l1_0.length c1_0] 24 (0, 0)) (bo BK895.out) hb)
               replace BK908 := Aside0.mk (blk_below (g := gb908) (o := .cells #[.slice Ao41 t904.length co41] 27 (0, 0)) (bo BK908.out) hb)
               replace BK912 := Aside0.mk (blk_below (g := gb912) (o := .cells #[.slice Ao47 t932.length co47] 27 (0, 0)) (bo BK912.out) hb)
               replace BK916 := Aside0.mk (blk_below (g := gb916) (o := .cells #[.slice Ao56 t934.length co56] 27 (0, 0)) (bo BK916.out) hb)
               replace BK921 := Aside0.mk (blk_below (g := gb921) (o := .cells #[.slice Ao65 t917.length co65] 27 (0, 0)) (bo BK921.out) hb)
               replace BK949 := Aside0.mk (blk_below (g := gb949) (o := .cells #[.slice none 0 0] 27 (0, 0)) (bo BK949.out) hb)
               replace HB := Aside0.mk (below_step bw hb)
               clear hb ho0
               refine hK.out _ _ ⟨(blk_cell BK894.out 0).trans rfl, (blk_cell BK895.out 0).trans rfl⟩ (fun hHeld => ?_)
               clear hK K
               refine norm_ (a' := ?_) ?_ ?_
               rotate_left
               ·show Act.put _ (some 99) _ = _
                simp only [Act.put, qa, qb, qc, i64_w, i32_w]
                rfl
               refine pa 5 (some 94) #[Y,Y,Y,Y,Y,Y,Z,Z,Y,Z,Z] HT_ ?_
               refine pa 6 (some 100) #[Y,Y,Y,Y,Y,Y,Y,Z,Y,Z,Z] HT_ ?_
               refine pa 7 (some 101) #[Y,Y,Y,Y,Y,Y,Y,Y,Y,Z,Z] HT_ ?_
               exact norm_ (by simp only [putAll, Act.put, List.setIfInBounds_toArray, List.set_cons_zero, List.set_cons_succ]) (hCont (.slice Ao187 t939.length co187, .slice Ao188 t942.length co188, v946, gb949) _ ⟨hHeld, (by (with_reducible repeat (first | apply Kd.R_alloc | apply Kd.R_drewN | apply Kd.R_drew)); exact Kd.R_mono HO941.out (fun _ hk => ⟨hk.1.2, ⟨hk.2, ⟨hk.1.1.1.1.1.2, ⟨hk.1.1.1.1.2, ⟨hk.1.1.1.2, hk.1.1.2⟩⟩⟩⟩⟩)), (by (with_reducible repeat (first | apply Kd.R_alloc | apply Kd.R_drewN | apply Kd.R_drew)); exact Kd.R_mono HO944.out (fun _ hk => ⟨hk.1.2, ⟨hk.2, ⟨hk.1.1.1.1.1.2, ⟨hk.1.1.1.1.2, ⟨hk.1.1.1.2, hk.1.1.2⟩⟩⟩⟩⟩)), (by (with_reducible repeat (first | apply Kd.R_alloc | apply Kd.R_drewN | apply Kd.R_drew)); exact Kd.R_mono HO947.out (fun _ hk => ⟨hk.1.2, ⟨hk.2, ⟨hk.1.1.1.1.1.2, ⟨hk.1.1.1.1.2, ⟨hk.1.1.1.2, hk.1.1.2⟩⟩⟩⟩⟩)), (by (with_reducible repeat (first | apply Kd.R_alloc | apply Kd.R_drewN | apply Kd.R_drew)); exact Kd.R_mono HO_909000.out (fun _ hk => ⟨hk.1.1.2, ⟨hk.1.2, ⟨hk.2, ⟨hk.1.1.1.1, ⟨hk.1.1.1.2.1, hk.1.1.1.2.2⟩⟩⟩⟩⟩)), (by (with_reducible repeat (first | apply Kd.R_alloc | apply Kd.R_drewN | apply Kd.R_drew)); exact Kd.R_mono HO_913000.out (fun _ hk => ⟨hk.1.1.2, ⟨hk.1.2, ⟨hk.2, ⟨hk.1.1.1.1, ⟨hk.1.1.1.2.1, hk.1.1.1.2.2⟩⟩⟩⟩⟩)), (by (with_reducible repeat (first | apply Kd.R_alloc | apply Kd.R_drewN | apply Kd.R_drew)); exact Kd.R_mono HO_917000.out (fun _ hk => ⟨hk.1.1.2, ⟨hk.1.2, ⟨hk.2, ⟨hk.1.1.1.1, ⟨hk.1.1.1.2.1, hk.1.1.1.2.2⟩⟩⟩⟩⟩)), (by (with_reducible repeat (first | apply Kd.R_alloc | apply Kd.R_drewN | apply Kd.R_drew)); exact Kd.R_mono HO_922000.out (fun _ hk => ⟨hk.1.1.2, ⟨hk.1.2, ⟨hk.2, ⟨hk.1.1.1.1, ⟨hk.1.1.1.2.1, hk.1.1.1.2.2⟩⟩⟩⟩⟩)), (bo BK894.out), (bo BK895.out), (bo BK908.out), (bo BK912.out), (bo BK916.out), (bo BK921.out), (bo BK949.out), GW949.out, GE949.out, NB894_949.out, NB949_894.out, NB895_949.out, NB949_895.out, NB908_949.out, NB949_908.out, NB912_949.out, NB949_912.out, NB916_949.out, NB949_916.out, NB921_949.out, NB949_921.out, bw⟩)
             rintro ⟨v940, v943, v946, gb949⟩ w190 ⟨hS_, h0_, h1_, h2_, h3_, h4_, h5_, h6_, h7_, h8_, h9_, h10_, h11_, h12_, h13_, h14_, h15_, h16_, h17_, h18_, h19_, h20_, h21_, h22_, h23_, h24_, h25_, h26_, h27_, h28_⟩
             have n0_ : Aside0 (Kd.R (Kd.int .i64) 3 w190 w.heap.size (fun k_ => some k_ ≠ (v943 : Value).ownBlock ∧ some k_ ≠ (v946 : Value).ownBlock ∧ some k_ ≠ (.slice Ao41 t904.length co41 : Value).ownBlock ∧ some k_ ≠ (.slice Ao47 t932.length co47 : Value).ownBlock ∧ some k_ ≠ (.slice Ao56 t934.length co56 : Value).ownBlock ∧ some k_ ≠ (.slice Ao65 t917.length co65 : Value).ownBlock) v940 t939) := ⟨h0_⟩
             have n1_ : Aside0 (Kd.R (Kd.int .i64) 3 w190 w.heap.size (fun k_ => some k_ ≠ (v940 : Value).ownBlock ∧ some k_ ≠ (v946 : Value).ownBlock ∧ some k_ ≠ (.slice Ao41 t904.length co41 : Value).ownBlock ∧ some k_ ≠ (.slice Ao47 t932.length co47 : Value).ownBlock ∧ some k_ ≠ (.slice Ao56 t934.length co56 : Value).ownBlock ∧ some k_ ≠ (.slice Ao65 t917.length co65 : Value).ownBlock) v943 t942) := ⟨h1_⟩
             have n2_ : Aside0 (Kd.R (Kd.int .i64) 3 w190 w.heap.size (fun k_ => some k_ ≠ (v940 : Value).ownBlock ∧ some k_ ≠ (v943 : Value).ownBlock ∧ some k_ ≠ (.slice Ao41 t904.length co41 : Value).ownBlock ∧ some k_ ≠ (.slice Ao47 t932.length co47 : Value).ownBlock ∧ some k_ ≠ (.slice Ao56 t934.length co56 : Value).ownBlock ∧ some k_ ≠ (.slice Ao65 t917.length co65 : Value).ownBlock) v946 t945) := ⟨h2_⟩
             have n3_ : Aside0 (Kd.R (Kd.int .i64) 3 w190 w.heap.size (fun k_ => some k_ ≠ (v940 : Value).ownBlock ∧ some k_ ≠ (v943 : Value).ownBlock ∧ some k_ ≠ (v946 : Value).ownBlock ∧ some k_ ≠ (.slice Ao47 t932.length co47 : Value).ownBlock ∧ some k_ ≠ (.slice Ao56 t934.length co56 : Value).ownBlock ∧ some k_ ≠ (.slice Ao65 t917.length co65 : Value).ownBlock) (.slice Ao41 t904.length co41) t904) := ⟨h3_⟩
             have n4_ : Aside0 (Kd.R (Kd.int .i64) 3 w190 w.heap.size (fun k_ => some k_ ≠ (v940 : Value).ownBlock ∧ some k_ ≠ (v943 : Value).ownBlock ∧ some k_ ≠ (v946 : Value).ownBlock ∧ some k_ ≠ (.slice Ao41 t904.length co41 : Value).ownBlock ∧ some k_ ≠ (.slice Ao56 t934.length co56 : Value).ownBlock ∧ some k_ ≠ (.slice Ao65 t917.length co65 : Value).ownBlock) (.slice Ao47 t932.length co47) t932) := ⟨h4_⟩
             have n5_ : Aside0 (Kd.R (Kd.int .i64) 3 w190 w.heap.size (fun k_ => some k_ ≠ (v940 : Value).ownBlock ∧ some k_ ≠ (v943 : Value).ownBlock ∧ some k_ ≠ (v946 : Value).ownBlock ∧ some k_ ≠ (.slice Ao41 t904.length co41 : Value).ownBlock ∧ some k_ ≠ (.slice Ao47 t932.length co47 : Value).ownBlock ∧ some k_ ≠ (.slice Ao65 t917.length co65 : Value).ownBlock) (.slice Ao56 t934.length co56) t934) := ⟨h5_⟩
             have n6_ : Aside0 (Kd.R (Kd.int .i64) 3 w190 w.heap.size (fun k_ => some k_ ≠ (v940 : Value).ownBlock ∧ some k_ ≠ (v943 : Value).ownBlock ∧ some k_ ≠ (v946 : Value).ownBlock ∧ some k_ ≠ (.slice Ao41 t904.length co41 : Value).ownBlock ∧ some k_ ≠ (.slice Ao47 t932.length co47 : Value).ownBlock ∧ some k_ ≠ (.slice Ao56 t934.length co56 : Value).ownBlock) (.slice Ao65 t917.length co65) t937) := ⟨h6_⟩
             have n7_ : Aside0 (w190.heap[gb894]? = some (.cells #[.slice A0_0 l0_0.length c0_0] 24 (0, 0))) := ⟨h7_⟩
             have n8_ : Aside0 (w190.heap[gb895]? = some (.cells #[.slice A1_0 l1_0.length c1_0] 24 (0, 0))) := ⟨h8_⟩
             have n9_ : Aside0 (w190.heap[gb908]? = some (.cells #[.slice Ao41 t904.length co41] 27 (0, 0))) := ⟨h9_⟩
             have n10_ : Aside0 (w190.heap[gb912]? = some (.cells #[.slice Ao47 t932.length co47] 27 (0, 0))) := ⟨h10_⟩
             have n11_ : Aside0 (w190.heap[gb916]? = some (.cells #[.slice Ao56 t934.length co56] 27 (0, 0))) := ⟨h11_⟩
             have n12_ : Aside0 (w190.heap[gb921]? = some (.cells #[.slice Ao65 t917.length co65] 27 (0, 0))) := ⟨h12_⟩
             have n13_ : Aside0 (w190.heap[gb949]? = some (.cells #[.slice none 0 0] 27 (0, 0))) := ⟨h13_⟩
             have n14_ : Aside0 (w.heap.size ≤ gb949) := ⟨h14_⟩
             have n15_ : Aside0 (w.heap.size ≤ gb949) := ⟨h15_⟩
             have n16_ : Aside0 (gb894 ≠ gb949) := ⟨h16_⟩
             have n17_ : Aside0 (gb949 ≠ gb894) := ⟨h17_⟩
             have n18_ : Aside0 (gb895 ≠ gb949) := ⟨h18_⟩
             have n19_ : Aside0 (gb949 ≠ gb895) := ⟨h19_⟩
             have n20_ : Aside0 (gb908 ≠ gb949) := ⟨h20_⟩
             have n21_ : Aside0 (gb949 ≠ gb908) := ⟨h21_⟩
             have n22_ : Aside0 (gb912 ≠ gb949) := ⟨h22_⟩
             have n23_ : Aside0 (gb949 ≠ gb912) := ⟨h23_⟩
             have n24_ : Aside0 (gb916 ≠ gb949) := ⟨h24_⟩
             have n25_ : Aside0 (gb949 ≠ gb916) := ⟨h25_⟩
             have n26_ : Aside0 (gb921 ≠ gb949) := ⟨h26_⟩
             have n27_ : Aside0 (gb949 ≠ gb921) := ⟨h27_⟩
             have n28_ : Aside0 (Below w.heap.size w w190) := ⟨h28_⟩
             clear HO_909000
             clear HO_913000
             clear HO_917000
             clear HO_922000
             clear BK894
             clear BK895
             clear BK908
             clear BK912
             clear BK916
             clear BK921
             clear HB
             clear h0_ h1_ h2_ h3_ h4_ h5_ h6_ h7_ h8_ h9_ h10_ h11_ h12_ h13_ h14_ h15_ h16_ h17_ h18_ h19_ h20_ h21_ h22_ h23_ h24_ h25_ h26_ h27_ h28_
             have HO941 := n0_
             have HO944 := n1_
             have HO947 := n2_
             have HO_909000 := n3_
             have HO_913000 := n4_
             have HO_917000 := n5_
             have HO_922000 := n6_
             have BK894 := n7_
             have BK895 := n8_
             have BK908 := n9_
             have BK912 := n10_
             have BK916 := n11_
             have BK921 := n12_
             have BK949 := n13_
             have GW949 := n14_
             have GE949 := n15_
             have NB894_949 := n16_
             have NB949_894 := n17_
             have NB895_949 := n18_
             have NB949_895 := n19_
             have NB908_949 := n20_
             have NB949_908 := n21_
             have NB912_949 := n22_
             have NB949_912 := n23_
             have NB916_949 := n24_
             have NB949_916 := n25_
             have NB921_949 := n26_
             have NB949_921 := n27_
             have HB := n28_
             clear n0_ n1_ n2_ n3_ n4_ n5_ n6_ n7_ n8_ n9_ n10_ n11_ n12_ n13_ n14_ n15_ n16_ n17_ n18_ n19_ n20_ n21_ n22_ n23_ n24_ n25_ n26_ n27_ n28_
             have hHeld : w190.cell? ⟨gb894, 0, none⟩ = some (.slice A0_0 l0_0.length c0_0) ∧ w190.cell? ⟨gb895, 0, none⟩ = some (.slice A1_0 l1_0.length c1_0) := hS_
             obtain ⟨Ao191, co191, eo191⟩ := Kd.R_slice HO947.out
             (first | subst eo191 | (injection eo191 with f1_ f2_ f3_; have f4_ := f1_.symm; have f5_ := f3_.symm; clear f1_ f2_ f3_; subst f4_; subst f5_))
             refine norm_ (a' := ?_) ?_ ?_
             rotate_left
             ·simp only [putAll, Act.put, List.setIfInBounds_toArray, List.set_cons_zero, List.set_cons_succ]
              rfl
             refine oa 9 none #[Y,Y,Y,Y,Y,Y,Y,Y,Y,Y,Z] HT_ (fun K hK => ?_)
             have hs192 := bc BK949 0 (.slice none 0 0)
             have hfs192 := blk_frozen BK949.out 0
             have hns192_0 := NB894_949.out
             have hns192_1 := NB895_949.out
             have hns192_2 := NB908_949.out
             have hns192_3 := NB912_949.out
             have hns192_4 := NB916_949.out
             have hns192_5 := NB921_949.out
             have hms192_0 := NB949_894.out
             have hms192_1 := NB949_895.out
             have hms192_2 := NB949_908.out
             have hms192_3 := NB949_912.out
             have hms192_4 := NB949_916.out
             have hms192_5 := NB949_921.out
             refine skip_ (w1 := ?_) (by rfl) rfl ?_ ?_
             rotate_left
             ·go_simp
              rfl
             refine hK.out _ _ ⟨((cell_far (p := ⟨gb949, _, none⟩) NB894_949.out _).trans (hHeld.1)), ((cell_far (p := ⟨gb949, _, none⟩) NB895_949.out _).trans (hHeld.2))⟩ (fun hHeld => ?_)
             clear hK K
             refine pa 10 (some 16) #[Y,Y,Y,Y,Y,Y,Y,Y,Y,Y,Y] HT_ ?_
             refine done_ (done_of HT_.out (by kernel_rfl)) ?_
             go_upto_region 32 with (fail)
             go_cut [110] (fun v110 wc => ∃ (kq : Nat) (x110_172 : Bool), v110 = .bool x110_172 ∧ Aside0 (laws_FnExactMeetOf.j2 kq t936 x110_172 t937 = some true) ∧ Aside0 (kq ≤ kj106) ∧ Aside0 (Kd.R (Kd.int .i64) 3 wc w.heap.size (fun k_ => some k_ ≠ ((.slice Ao47 t932.length co47) : Value).ownBlock ∧ some k_ ≠ ((.slice Ao56 t934.length co56) : Value).ownBlock ∧ some k_ ≠ ((.slice Ao65 t917.length co65) : Value).ownBlock ∧ some k_ ≠ ((.slice Ao191 t945.length co191) : Value).ownBlock) (.slice Ao41 t904.length co41) t904) ∧ Aside0 (Kd.R (Kd.int .i64) 3 wc w.heap.size (fun k_ => some k_ ≠ ((.slice Ao41 t904.length co41) : Value).ownBlock ∧ some k_ ≠ ((.slice Ao56 t934.length co56) : Value).ownBlock ∧ some k_ ≠ ((.slice Ao65 t917.length co65) : Value).ownBlock ∧ some k_ ≠ ((.slice Ao191 t945.length co191) : Value).ownBlock) (.slice Ao47 t932.length co47) t932) ∧ Aside0 (Kd.R (Kd.int .i64) 3 wc w.heap.size (fun k_ => some k_ ≠ ((.slice Ao41 t904.length co41) : Value).ownBlock ∧ some k_ ≠ ((.slice Ao47 t932.length co47) : Value).ownBlock ∧ some k_ ≠ ((.slice Ao65 t917.length co65) : Value).ownBlock ∧ some k_ ≠ ((.slice Ao191 t945.length co191) : Value).ownBlock) (.slice Ao56 t934.length co56) t934) ∧ Aside0 (Kd.R (Kd.int .i64) 3 wc w.heap.size (fun k_ => some k_ ≠ ((.slice Ao41 t904.length co41) : Value).ownBlock ∧ some k_ ≠ ((.slice Ao47 t932.length co47) : Value).ownBlock ∧ some k_ ≠ ((.slice Ao56 t934.length co56) : Value).ownBlock ∧ some k_ ≠ ((.slice Ao191 t945.length co191) : Value).ownBlock) (.slice Ao65 t917.length co65) t937) ∧ Aside0 (Kd.R (Kd.int .i64) 3 wc w.heap.size (fun k_ => some k_ ≠ ((.slice Ao41 t904.length co41) : Value).ownBlock ∧ some k_ ≠ ((.slice Ao47 t932.length co47) : Value).ownBlock ∧ some k_ ≠ ((.slice Ao56 t934.length co56) : Value).ownBlock ∧ some k_ ≠ ((.slice Ao65 t917.length co65) : Value).ownBlock) (.slice Ao191 t945.length co191) t945) ∧ Aside0 (wc.heap[gb894]? = some (.cells #[(.slice A0_0 l0_0.length c0_0)] 24 (0, 0))) ∧ Aside0 (wc.heap[gb895]? = some (.cells #[(.slice A1_0 l1_0.length c1_0)] 24 (0, 0))) ∧ Aside0 (wc.heap[gb908]? = some (.cells #[(.slice Ao41 t904.length co41)] 27 (0, 0))) ∧ Aside0 (wc.heap[gb912]? = some (.cells #[(.slice Ao47 t932.length co47)] 27 (0, 0))) ∧ Aside0 (wc.heap[gb916]? = some (.cells #[(.slice Ao56 t934.length co56)] 27 (0, 0))) ∧ Aside0 (wc.heap[gb921]? = some (.cells #[(.slice Ao65 t917.length co65)] 27 (0, 0))) ∧ Aside0 (wc.heap[gb949]? = some (.cells #[(.slice Ao191 t945.length co191)] 27 (0, 0))) ∧ Aside0 (Below w.heap.size w wc))
             case first =>
              have H := HC173.out
              clear HC173
              replace H := ga H; obtain ⟨t950, A193, H⟩ := H
              replace H := gb H; obtain ⟨rfl, H⟩ | ⟨rfl, H⟩ := H
              ·have H' := Aside0.mk H
               clear H
               have hnb195 := NB949_894.out
               have hnc195 := NB894_949.out
               have hnb196 := NB949_895.out
               have hnc196 := NB895_949.out
               have hnb197 := NB949_908.out
               have hnc197 := NB908_949.out
               have hnb198 := NB949_912.out
               have hnc198 := NB912_949.out
               have hnb199 := NB949_916.out
               have hnc199 := NB916_949.out
               have hnb200 := NB949_921.out
               have hnc200 := NB921_949.out
               have hcz201_0 := bc BK949 0 (.slice none 0 0)
               have hfz201_0 := blk_frozen BK949.out 0
               have hnb202 := NB908_894.out
               have hnc202 := NB894_908.out
               have hnb203 := NB908_895.out
               have hnc203 := NB895_908.out
               have hnb204 := NB908_912.out
               have hnc204 := NB912_908.out
               have hnb205 := NB908_916.out
               have hnc205 := NB916_908.out
               have hnb206 := NB908_921.out
               have hnc206 := NB921_908.out
               have hcz207_0 := bc BK908 0 (.slice Ao41 t904.length co41)
               have hfz207_0 := blk_frozen BK908.out 0
               go_wp2_with (first | ((with_reducible refine gate_callee (f := 21) rfl ?_); refine gl (some 104) Try.func21 #[.agg #[.slice Ao191 t945.length co191], .agg #[.slice Ao41 t904.length co41]] ?_; (with_reducible refine (laws_eqSemigroup.calls kj106 _ _ t945 _ _ t904 true _ ?side1 ?side2 ?side3 ?side4 A193.out).mono ?_); (case side1 => refine (Kd.R_reads' (e := 3) (base := w.heap.size) (ok := fun k_ => (some k_ ≠ (v940 : Value).ownBlock ∧ (some k_ ≠ (v943 : Value).ownBlock ∧ (some k_ ≠ (.slice Ao41 t904.length co41 : Value).ownBlock ∧ (some k_ ≠ (.slice Ao47 t932.length co47 : Value).ownBlock ∧ (some k_ ≠ (.slice Ao56 t934.length co56 : Value).ownBlock ∧ some k_ ≠ (.slice Ao65 t917.length co65 : Value).ownBlock)))))) (n := t945.length) (c := co191) ?_).2.2; exact (by (with_reducible repeat (first | apply Kd.R_alloc | apply Kd.R_drewN | apply Kd.R_drew)); exact (Kd.R_mono (Kd.R_far (p := ⟨gb949, 0, none⟩) (Kd.R_types HO947.out BK949.out (by decide)) (fun _ hk => hk.2) (.slice Ao191 t945.length co191)) (fun _ h_ => h_.1)))); (case side2 => exact (Kd.R_reads' HO947.out).2.1); (case side3 => refine (Kd.R_reads' (e := 3) (base := w.heap.size) (ok := fun k_ => (some k_ ≠ (v940 : Value).ownBlock ∧ (some k_ ≠ (v943 : Value).ownBlock ∧ (some k_ ≠ (.slice Ao191 t945.length co191 : Value).ownBlock ∧ (some k_ ≠ (.slice Ao47 t932.length co47 : Value).ownBlock ∧ (some k_ ≠ (.slice Ao56 t934.length co56 : Value).ownBlock ∧ some k_ ≠ (.slice Ao65 t917.length co65 : Value).ownBlock)))))) (n := t904.length) (c := co41) ?_).2.2; exact (by (with_reducible repeat (first | apply Kd.R_alloc | apply Kd.R_drewN | apply Kd.R_drew)); exact (Kd.R_mono (Kd.R_far (p := ⟨gb949, 0, none⟩) (Kd.R_types HO_909000.out BK949.out (by decide)) (fun _ hk => hk.2) (.slice Ao191 t945.length co191)) (fun _ h_ => h_.1)))); (case side4 => exact (Kd.R_reads' HO_909000.out).2.1); rintro e w208 ⟨rfl, hb⟩; refine ⟨_, rfl, ?_⟩; replace HO_909000 := Aside0.mk (Kd.R_below (by (with_reducible repeat (first | apply Kd.R_alloc | apply Kd.R_drewN | apply Kd.R_drew)); exact (Kd.R_mono (Kd.R_far (p := ⟨gb949, 0, none⟩) (Kd.R_types HO_909000.out BK949.out (by decide)) (fun _ hk => hk.2) (.slice Ao191 t945.length co191)) (fun _ h_ => h_.1))) hb); replace HO_913000 := Aside0.mk (Kd.R_below (by (with_reducible repeat (first | apply Kd.R_alloc | apply Kd.R_drewN | apply Kd.R_drew)); exact (Kd.R_mono (Kd.R_far (p := ⟨gb949, 0, none⟩) (Kd.R_types HO_913000.out BK949.out (by decide)) (fun _ hk => hk.2) (.slice Ao191 t945.length co191)) (fun _ h_ => h_.1))) hb); replace HO_917000 := Aside0.mk (Kd.R_below (by (with_reducible repeat (first | apply Kd.R_alloc | apply Kd.R_drewN | apply Kd.R_drew)); exact (Kd.R_mono (Kd.R_far (p := ⟨gb949, 0, none⟩) (Kd.R_types HO_917000.out BK949.out (by decide)) (fun _ hk => hk.2) (.slice Ao191 t945.length co191)) (fun _ h_ => h_.1))) hb); replace HO_922000 := Aside0.mk (Kd.R_below (by (with_reducible repeat (first | apply Kd.R_alloc | apply Kd.R_drewN | apply Kd.R_drew)); exact (Kd.R_mono (Kd.R_far (p := ⟨gb949, 0, none⟩) (Kd.R_types HO_922000.out BK949.out (by decide)) (fun _ hk => hk.2) (.slice Ao191 t945.length co191)) (fun _ h_ => h_.1))) hb); replace HO941 := Aside0.mk (Kd.R_below (by (with_reducible repeat (first | apply Kd.R_alloc | apply Kd.R_drewN | apply Kd.R_drew)); exact (Kd.R_mono (Kd.R_far (p := ⟨gb949, 0, none⟩) (Kd.R_types HO941.out BK949.out (by decide)) (fun _ hk => hk.2) (.slice Ao191 t945.length co191)) (fun _ h_ => h_.1))) hb); replace HO944 := Aside0.mk (Kd.R_below (by (with_reducible repeat (first | apply Kd.R_alloc | apply Kd.R_drewN | apply Kd.R_drew)); exact (Kd.R_mono (Kd.R_far (p := ⟨gb949, 0, none⟩) (Kd.R_types HO944.out BK949.out (by decide)) (fun _ hk => hk.2) (.slice Ao191 t945.length co191)) (fun _ h_ => h_.1))) hb); replace HO947 := Aside0.mk (Kd.R_below (by (with_reducible repeat (first | apply Kd.R_alloc | apply Kd.R_drewN | apply Kd.R_drew)); exact (Kd.R_mono (Kd.R_far (p := ⟨gb949, 0, none⟩) (Kd.R_types HO947.out BK949.out (by decide)) (fun _ hk => hk.2) (.slice Ao191 t945.length co191)) (fun _ h_ => h_.1))) hb); replace BK894 := Aside0.mk (blk_below (g := gb894) (o := .cells #[.slice A0_0 l0_0.length c0_0] 24 (0, 0)) (by (with_reducible repeat (first | refine blk_drewN ?_ _ | refine blk_drew ?_ | refine blk_alloc ?_ _)); refine blk_far ?_ NB894_949.out _; (with_reducible repeat (first | refine blk_drewN ?_ _ | refine blk_drew ?_ | refine blk_alloc ?_ _)); exact BK894.out) hb); replace BK895 := Aside0.mk (blk_below (g := gb895) (o := .cells #[.slice A1_0 l1_0.length c1_0] 24 (0, 0)) (by (with_reducible repeat (first | refine blk_drewN ?_ _ | refine blk_drew ?_ | refine blk_alloc ?_ _)); refine blk_far ?_ NB895_949.out _; (with_reducible repeat (first | refine blk_drewN ?_ _ | refine blk_drew ?_ | refine blk_alloc ?_ _)); exact BK895.out) hb); replace BK908 := Aside0.mk (blk_below (g := gb908) (o := .cells #[.slice Ao41 t904.length co41] 27 (0, 0)) (by (with_reducible repeat (first | refine blk_drewN ?_ _ | refine blk_drew ?_ | refine blk_alloc ?_ _)); refine blk_far ?_ NB908_949.out _; (with_reducible repeat (first | refine blk_drewN ?_ _ | refine blk_drew ?_ | refine blk_alloc ?_ _)); exact BK908.out) hb); replace BK912 := Aside0.mk (blk_below (g := gb912) (o := .cells #[.slice Ao47 t932.length co47] 27 (0, 0)) (by (with_reducible repeat (first | refine blk_drewN ?_ _ | refine blk_drew ?_ | refine blk_alloc ?_ _)); refine blk_far ?_ NB912_949.out _; (with_reducible repeat (first | refine blk_drewN ?_ _ | refine blk_drew ?_ | refine blk_alloc ?_ _)); exact BK912.out) hb); replace BK916 := Aside0.mk (blk_below (g := gb916) (o := .cells #[.slice Ao56 t934.length co56] 27 (0, 0)) (by (with_reducible repeat (first | refine blk_drewN ?_ _ | refine blk_drew ?_ | refine blk_alloc ?_ _)); refine blk_far ?_ NB916_949.out _; (with_reducible repeat (first | refine blk_drewN ?_ _ | refine blk_drew ?_ | refine blk_alloc ?_ _)); exact BK916.out) hb); replace BK921 := Aside0.mk (blk_below (g := gb921) (o := .cells #[.slice Ao65 t917.length co65] 27 (0, 0)) (by (with_reducible repeat (first | refine blk_drewN ?_ _ | refine blk_drew ?_ | refine blk_alloc ?_ _)); refine blk_far ?_ NB921_949.out _; (with_reducible repeat (first | refine blk_drewN ?_ _ | refine blk_drew ?_ | refine blk_alloc ?_ _)); exact BK921.out) hb); replace BK949 := Aside0.mk (blk_below (g := gb949) (o := .cells #[.slice Ao191 t945.length co191] 27 (0, 0)) (by (with_reducible repeat (first | refine blk_drewN ?_ _ | refine blk_drew ?_ | refine blk_alloc ?_ _)); refine blk_put (cs := #[.slice none 0 0]) ?_ 0 _ rfl; (with_reducible repeat (first | refine blk_drewN ?_ _ | refine blk_drew ?_ | refine blk_alloc ?_ _)); exact BK949.out) hb); replace HB := Aside0.mk (below_step bw hb); clear hb))
               go_meet
               case rel => exact ⟨_, ((t948 != t907)), rr, H', ⟨by have := HJ24.out; have := HJ106.out; first | omega | exact Nat.le_refl _⟩, ⟨by (try simp only [hl913000_106]); (try simp only [hl917000_106]); (with_reducible repeat (first | apply Kd.R_alloc | apply Kd.R_drewN | apply Kd.R_drew)); exact Kd.R_mono HO_909000.out (fun _ hk => ⟨hk.2.2.2.1, ⟨hk.2.2.2.2.1, ⟨hk.2.2.2.2.2, hk.2.2.1⟩⟩⟩)⟩, ⟨by (try simp only [hl913000_106]); (try simp only [hl917000_106]); (with_reducible repeat (first | apply Kd.R_alloc | apply Kd.R_drewN | apply Kd.R_drew)); exact Kd.R_mono HO_913000.out (fun _ hk => ⟨hk.2.2.2.1, ⟨hk.2.2.2.2.1, ⟨hk.2.2.2.2.2, hk.2.2.1⟩⟩⟩)⟩, ⟨by (try simp only [hl913000_106]); (try simp only [hl917000_106]); (with_reducible repeat (first | apply Kd.R_alloc | apply Kd.R_drewN | apply Kd.R_drew)); exact Kd.R_mono HO_917000.out (fun _ hk => ⟨hk.2.2.2.1, ⟨hk.2.2.2.2.1, ⟨hk.2.2.2.2.2, hk.2.2.1⟩⟩⟩)⟩, ⟨by (try simp only [hl913000_106]); (try simp only [hl917000_106]); (with_reducible repeat (first | apply Kd.R_alloc | apply Kd.R_drewN | apply Kd.R_drew)); exact Kd.R_mono HO_922000.out (fun _ hk => ⟨hk.2.2.2.1, ⟨hk.2.2.2.2.1, ⟨hk.2.2.2.2.2, hk.2.2.1⟩⟩⟩)⟩, ⟨by (try simp only [hl913000_106]); (try simp only [hl917000_106]); (with_reducible repeat (first | apply Kd.R_alloc | apply Kd.R_drewN | apply Kd.R_drew)); exact Kd.R_mono HO947.out (fun _ hk => ⟨hk.2.2.1, ⟨hk.2.2.2.1, ⟨hk.2.2.2.2.1, hk.2.2.2.2.2⟩⟩⟩)⟩, ⟨by (try simp only [hl913000_106]); (try simp only [hl917000_106]); (with_reducible repeat (first | refine blk_drewN ?_ _ | refine blk_drew ?_ | refine blk_alloc ?_ _)); exact BK894.out⟩, ⟨by (try simp only [hl913000_106]); (try simp only [hl917000_106]); (with_reducible repeat (first | refine blk_drewN ?_ _ | refine blk_drew ?_ | refine blk_alloc ?_ _)); exact BK895.out⟩, ⟨by (try simp only [hl913000_106]); (try simp only [hl917000_106]); (with_reducible repeat (first | refine blk_drewN ?_ _ | refine blk_drew ?_ | refine blk_alloc ?_ _)); exact BK908.out⟩, ⟨by (try simp only [hl913000_106]); (try simp only [hl917000_106]); (with_reducible repeat (first | refine blk_drewN ?_ _ | refine blk_drew ?_ | refine blk_alloc ?_ _)); exact BK912.out⟩, ⟨by (try simp only [hl913000_106]); (try simp only [hl917000_106]); (with_reducible repeat (first | refine blk_drewN ?_ _ | refine blk_drew ?_ | refine blk_alloc ?_ _)); exact BK916.out⟩, ⟨by (try simp only [hl913000_106]); (try simp only [hl917000_106]); (with_reducible repeat (first | refine blk_drewN ?_ _ | refine blk_drew ?_ | refine blk_alloc ?_ _)); exact BK921.out⟩, ⟨by (try simp only [hl913000_106]); (try simp only [hl917000_106]); (with_reducible repeat (first | refine blk_drewN ?_ _ | refine blk_drew ?_ | refine blk_alloc ?_ _)); exact BK949.out⟩, ⟨bw⟩⟩
              ·have H' := Aside0.mk H
               clear H
               have hnb209 := NB949_894.out
               have hnc209 := NB894_949.out
               have hnb210 := NB949_895.out
               have hnc210 := NB895_949.out
               have hnb211 := NB949_908.out
               have hnc211 := NB908_949.out
               have hnb212 := NB949_912.out
               have hnc212 := NB912_949.out
               have hnb213 := NB949_916.out
               have hnc213 := NB916_949.out
               have hnb214 := NB949_921.out
               have hnc214 := NB921_949.out
               have hcz215_0 := bc BK949 0 (.slice none 0 0)
               have hfz215_0 := blk_frozen BK949.out 0
               have hnb216 := NB908_894.out
               have hnc216 := NB894_908.out
               have hnb217 := NB908_895.out
               have hnc217 := NB895_908.out
               have hnb218 := NB908_912.out
               have hnc218 := NB912_908.out
               have hnb219 := NB908_916.out
               have hnc219 := NB916_908.out
               have hnb220 := NB908_921.out
               have hnc220 := NB921_908.out
               have hcz221_0 := bc BK908 0 (.slice Ao41 t904.length co41)
               have hfz221_0 := blk_frozen BK908.out 0
               go_wp2_with (first | ((with_reducible refine gate_callee (f := 21) rfl ?_); refine gl (some 104) Try.func21 #[.agg #[.slice Ao191 t945.length co191], .agg #[.slice Ao41 t904.length co41]] ?_; (with_reducible refine (laws_eqSemigroup.calls kj106 _ _ t945 _ _ t904 false _ ?side1 ?side2 ?side3 ?side4 A193.out).mono ?_); (case side1 => refine (Kd.R_reads' (e := 3) (base := w.heap.size) (ok := fun k_ => (some k_ ≠ (v940 : Value).ownBlock ∧ (some k_ ≠ (v943 : Value).ownBlock ∧ (some k_ ≠ (.slice Ao41 t904.length co41 : Value).ownBlock ∧ (some k_ ≠ (.slice Ao47 t932.length co47 : Value).ownBlock ∧ (some k_ ≠ (.slice Ao56 t934.length co56 : Value).ownBlock ∧ some k_ ≠ (.slice Ao65 t917.length co65 : Value).ownBlock)))))) (n := t945.length) (c := co191) ?_).2.2; exact (by (with_reducible repeat (first | apply Kd.R_alloc | apply Kd.R_drewN | apply Kd.R_drew)); exact (Kd.R_mono (Kd.R_far (p := ⟨gb949, 0, none⟩) (Kd.R_types HO947.out BK949.out (by decide)) (fun _ hk => hk.2) (.slice Ao191 t945.length co191)) (fun _ h_ => h_.1)))); (case side2 => exact (Kd.R_reads' HO947.out).2.1); (case side3 => refine (Kd.R_reads' (e := 3) (base := w.heap.size) (ok := fun k_ => (some k_ ≠ (v940 : Value).ownBlock ∧ (some k_ ≠ (v943 : Value).ownBlock ∧ (some k_ ≠ (.slice Ao191 t945.length co191 : Value).ownBlock ∧ (some k_ ≠ (.slice Ao47 t932.length co47 : Value).ownBlock ∧ (some k_ ≠ (.slice Ao56 t934.length co56 : Value).ownBlock ∧ some k_ ≠ (.slice Ao65 t917.length co65 : Value).ownBlock)))))) (n := t904.length) (c := co41) ?_).2.2; exact (by (with_reducible repeat (first | apply Kd.R_alloc | apply Kd.R_drewN | apply Kd.R_drew)); exact (Kd.R_mono (Kd.R_far (p := ⟨gb949, 0, none⟩) (Kd.R_types HO_909000.out BK949.out (by decide)) (fun _ hk => hk.2) (.slice Ao191 t945.length co191)) (fun _ h_ => h_.1)))); (case side4 => exact (Kd.R_reads' HO_909000.out).2.1); rintro e w222 ⟨rfl, hb⟩; refine ⟨_, rfl, ?_⟩; replace HO_909000 := Aside0.mk (Kd.R_below (by (with_reducible repeat (first | apply Kd.R_alloc | apply Kd.R_drewN | apply Kd.R_drew)); exact (Kd.R_mono (Kd.R_far (p := ⟨gb949, 0, none⟩) (Kd.R_types HO_909000.out BK949.out (by decide)) (fun _ hk => hk.2) (.slice Ao191 t945.length co191)) (fun _ h_ => h_.1))) hb); replace HO_913000 := Aside0.mk (Kd.R_below (by (with_reducible repeat (first | apply Kd.R_alloc | apply Kd.R_drewN | apply Kd.R_drew)); exact (Kd.R_mono (Kd.R_far (p := ⟨gb949, 0, none⟩) (Kd.R_types HO_913000.out BK949.out (by decide)) (fun _ hk => hk.2) (.slice Ao191 t945.length co191)) (fun _ h_ => h_.1))) hb); replace HO_917000 := Aside0.mk (Kd.R_below (by (with_reducible repeat (first | apply Kd.R_alloc | apply Kd.R_drewN | apply Kd.R_drew)); exact (Kd.R_mono (Kd.R_far (p := ⟨gb949, 0, none⟩) (Kd.R_types HO_917000.out BK949.out (by decide)) (fun _ hk => hk.2) (.slice Ao191 t945.length co191)) (fun _ h_ => h_.1))) hb); replace HO_922000 := Aside0.mk (Kd.R_below (by (with_reducible repeat (first | apply Kd.R_alloc | apply Kd.R_drewN | apply Kd.R_drew)); exact (Kd.R_mono (Kd.R_far (p := ⟨gb949, 0, none⟩) (Kd.R_types HO_922000.out BK949.out (by decide)) (fun _ hk => hk.2) (.slice Ao191 t945.length co191)) (fun _ h_ => h_.1))) hb); replace HO941 := Aside0.mk (Kd.R_below (by (with_reducible repeat (first | apply Kd.R_alloc | apply Kd.R_drewN | apply Kd.R_drew)); exact (Kd.R_mono (Kd.R_far (p := ⟨gb949, 0, none⟩) (Kd.R_types HO941.out BK949.out (by decide)) (fun _ hk => hk.2) (.slice Ao191 t945.length co191)) (fun _ h_ => h_.1))) hb); replace HO944 := Aside0.mk (Kd.R_below (by (with_reducible repeat (first | apply Kd.R_alloc | apply Kd.R_drewN | apply Kd.R_drew)); exact (Kd.R_mono (Kd.R_far (p := ⟨gb949, 0, none⟩) (Kd.R_types HO944.out BK949.out (by decide)) (fun _ hk => hk.2) (.slice Ao191 t945.length co191)) (fun _ h_ => h_.1))) hb); replace HO947 := Aside0.mk (Kd.R_below (by (with_reducible repeat (first | apply Kd.R_alloc | apply Kd.R_drewN | apply Kd.R_drew)); exact (Kd.R_mono (Kd.R_far (p := ⟨gb949, 0, none⟩) (Kd.R_types HO947.out BK949.out (by decide)) (fun _ hk => hk.2) (.slice Ao191 t945.length co191)) (fun _ h_ => h_.1))) hb); replace BK894 := Aside0.mk (blk_below (g := gb894) (o := .cells #[.slice A0_0 l0_0.length c0_0] 24 (0, 0)) (by (with_reducible repeat (first | refine blk_drewN ?_ _ | refine blk_drew ?_ | refine blk_alloc ?_ _)); refine blk_far ?_ NB894_949.out _; (with_reducible repeat (first | refine blk_drewN ?_ _ | refine blk_drew ?_ | refine blk_alloc ?_ _)); exact BK894.out) hb); replace BK895 := Aside0.mk (blk_below (g := gb895) (o := .cells #[.slice A1_0 l1_0.length c1_0] 24 (0, 0)) (by (with_reducible repeat (first | refine blk_drewN ?_ _ | refine blk_drew ?_ | refine blk_alloc ?_ _)); refine blk_far ?_ NB895_949.out _; (with_reducible repeat (first | refine blk_drewN ?_ _ | refine blk_drew ?_ | refine blk_alloc ?_ _)); exact BK895.out) hb); replace BK908 := Aside0.mk (blk_below (g := gb908) (o := .cells #[.slice Ao41 t904.length co41] 27 (0, 0)) (by (with_reducible repeat (first | refine blk_drewN ?_ _ | refine blk_drew ?_ | refine blk_alloc ?_ _)); refine blk_far ?_ NB908_949.out _; (with_reducible repeat (first | refine blk_drewN ?_ _ | refine blk_drew ?_ | refine blk_alloc ?_ _)); exact BK908.out) hb); replace BK912 := Aside0.mk (blk_below (g := gb912) (o := .cells #[.slice Ao47 t932.length co47] 27 (0, 0)) (by (with_reducible repeat (first | refine blk_drewN ?_ _ | refine blk_drew ?_ | refine blk_alloc ?_ _)); refine blk_far ?_ NB912_949.out _; (with_reducible repeat (first | refine blk_drewN ?_ _ | refine blk_drew ?_ | refine blk_alloc ?_ _)); exact BK912.out) hb); replace BK916 := Aside0.mk (blk_below (g := gb916) (o := .cells #[.slice Ao56 t934.length co56] 27 (0, 0)) (by (with_reducible repeat (first | refine blk_drewN ?_ _ | refine blk_drew ?_ | refine blk_alloc ?_ _)); refine blk_far ?_ NB916_949.out _; (with_reducible repeat (first | refine blk_drewN ?_ _ | refine blk_drew ?_ | refine blk_alloc ?_ _)); exact BK916.out) hb); replace BK921 := Aside0.mk (blk_below (g := gb921) (o := .cells #[.slice Ao65 t917.length co65] 27 (0, 0)) (by (with_reducible repeat (first | refine blk_drewN ?_ _ | refine blk_drew ?_ | refine blk_alloc ?_ _)); refine blk_far ?_ NB921_949.out _; (with_reducible repeat (first | refine blk_drewN ?_ _ | refine blk_drew ?_ | refine blk_alloc ?_ _)); exact BK921.out) hb); replace BK949 := Aside0.mk (blk_below (g := gb949) (o := .cells #[.slice Ao191 t945.length co191] 27 (0, 0)) (by (with_reducible repeat (first | refine blk_drewN ?_ _ | refine blk_drew ?_ | refine blk_alloc ?_ _)); refine blk_put (cs := #[.slice none 0 0]) ?_ 0 _ rfl; (with_reducible repeat (first | refine blk_drewN ?_ _ | refine blk_drew ?_ | refine blk_alloc ?_ _)); exact BK949.out) hb); replace HB := Aside0.mk (below_step bw hb); clear hb))
               go_meet
               case rel => exact ⟨_, (true), rr, H', ⟨by have := HJ24.out; have := HJ106.out; first | omega | exact Nat.le_refl _⟩, ⟨by (try simp only [hl913000_106]); (try simp only [hl917000_106]); (with_reducible repeat (first | apply Kd.R_alloc | apply Kd.R_drewN | apply Kd.R_drew)); exact Kd.R_mono HO_909000.out (fun _ hk => ⟨hk.2.2.2.1, ⟨hk.2.2.2.2.1, ⟨hk.2.2.2.2.2, hk.2.2.1⟩⟩⟩)⟩, ⟨by (try simp only [hl913000_106]); (try simp only [hl917000_106]); (with_reducible repeat (first | apply Kd.R_alloc | apply Kd.R_drewN | apply Kd.R_drew)); exact Kd.R_mono HO_913000.out (fun _ hk => ⟨hk.2.2.2.1, ⟨hk.2.2.2.2.1, ⟨hk.2.2.2.2.2, hk.2.2.1⟩⟩⟩)⟩, ⟨by (try simp only [hl913000_106]); (try simp only [hl917000_106]); (with_reducible repeat (first | apply Kd.R_alloc | apply Kd.R_drewN | apply Kd.R_drew)); exact Kd.R_mono HO_917000.out (fun _ hk => ⟨hk.2.2.2.1, ⟨hk.2.2.2.2.1, ⟨hk.2.2.2.2.2, hk.2.2.1⟩⟩⟩)⟩, ⟨by (try simp only [hl913000_106]); (try simp only [hl917000_106]); (with_reducible repeat (first | apply Kd.R_alloc | apply Kd.R_drewN | apply Kd.R_drew)); exact Kd.R_mono HO_922000.out (fun _ hk => ⟨hk.2.2.2.1, ⟨hk.2.2.2.2.1, ⟨hk.2.2.2.2.2, hk.2.2.1⟩⟩⟩)⟩, ⟨by (try simp only [hl913000_106]); (try simp only [hl917000_106]); (with_reducible repeat (first | apply Kd.R_alloc | apply Kd.R_drewN | apply Kd.R_drew)); exact Kd.R_mono HO947.out (fun _ hk => ⟨hk.2.2.1, ⟨hk.2.2.2.1, ⟨hk.2.2.2.2.1, hk.2.2.2.2.2⟩⟩⟩)⟩, ⟨by (try simp only [hl913000_106]); (try simp only [hl917000_106]); (with_reducible repeat (first | refine blk_drewN ?_ _ | refine blk_drew ?_ | refine blk_alloc ?_ _)); exact BK894.out⟩, ⟨by (try simp only [hl913000_106]); (try simp only [hl917000_106]); (with_reducible repeat (first | refine blk_drewN ?_ _ | refine blk_drew ?_ | refine blk_alloc ?_ _)); exact BK895.out⟩, ⟨by (try simp only [hl913000_106]); (try simp only [hl917000_106]); (with_reducible repeat (first | refine blk_drewN ?_ _ | refine blk_drew ?_ | refine blk_alloc ?_ _)); exact BK908.out⟩, ⟨by (try simp only [hl913000_106]); (try simp only [hl917000_106]); (with_reducible repeat (first | refine blk_drewN ?_ _ | refine blk_drew ?_ | refine blk_alloc ?_ _)); exact BK912.out⟩, ⟨by (try simp only [hl913000_106]); (try simp only [hl917000_106]); (with_reducible repeat (first | refine blk_drewN ?_ _ | refine blk_drew ?_ | refine blk_alloc ?_ _)); exact BK916.out⟩, ⟨by (try simp only [hl913000_106]); (try simp only [hl917000_106]); (with_reducible repeat (first | refine blk_drewN ?_ _ | refine blk_drew ?_ | refine blk_alloc ?_ _)); exact BK921.out⟩, ⟨by (try simp only [hl913000_106]); (try simp only [hl917000_106]); (with_reducible repeat (first | refine blk_drewN ?_ _ | refine blk_drew ?_ | refine blk_alloc ?_ _)); exact BK949.out⟩, ⟨bw⟩⟩
             case rest =>
              clear HC173
              try clear hcz201_0; try clear hcz207_0; try clear hcz215_0; try clear hcz221_0; try clear hfz201_0; try clear hfz207_0; try clear hfz215_0; try clear hfz221_0
              obtain ⟨kq, x110_172, rfl, HA, HJ172, HO_909000, HO_913000, HO_917000, HO_922000, HO_950000, BK894, BK895, BK908, BK912, BK916, BK921, BK949, HB⟩ := hcut
              have hl922000_172 := (Kd.R_reads' HO_922000.out).1
              rw [hl922000_172] at HO_922000
              (try simp only [hl922000_172])
              (try simp only [hl922000_172] at BK894)
              (try simp only [hl922000_172] at BK895)
              (try simp only [hl922000_172] at BK908)
              (try simp only [hl922000_172] at BK912)
              (try simp only [hl922000_172] at BK916)
              (try simp only [hl922000_172] at BK921)
              (try simp only [hl922000_172] at BK949)
              (try simp only [hl922000_172] at HO_909000)
              (try simp only [hl922000_172] at HO_913000)
              (try simp only [hl922000_172] at HO_917000)
              (try simp only [hl922000_172] at HO_950000)
              cases kq with
              | zero => exact absurd HA.out (by simp [laws_FnExactMeetOf.j2])
              | succ kj172 =>
               have H := HA.out
               clear HA
               simp only [laws_FnExactMeetOf.j2] at H
               replace H := gb H; obtain ⟨rfl, H⟩ | ⟨rfl, H⟩ := H
               ·exact absurd (Option.some.inj H) (by decide)
               ·replace H := ga H; obtain ⟨t951, A224, H⟩ := H
                replace H := gi H; obtain ⟨c225b0, H⟩ | ⟨c225b0, H⟩ := H
                ·exact absurd (Option.some.inj H) (by decide)
                ·by_cases c234 : t951 = t936
                 ·rw [if_pos c234] at H
                  have c234b0 : (t951 == t936) = true := beq_iff_eq.mpr c234
                  have c234b1 : (t951 != t936) = false := bne_eq_false_iff_eq.mpr c234
                  clear c234
                  skip
                  have hnb235 := NB921_894.out
                  have hnc235 := NB894_921.out
                  have hnb236 := NB921_895.out
                  have hnc236 := NB895_921.out
                  have hnb237 := NB921_908.out
                  have hnc237 := NB908_921.out
                  have hnb238 := NB921_912.out
                  have hnc238 := NB912_921.out
                  have hnb239 := NB921_916.out
                  have hnc239 := NB916_921.out
                  have hnb240 := NB921_949.out
                  have hnc240 := NB949_921.out
                  have hcz241_0 := bc BK921 0 (.slice Ao65 t937.length co65)
                  have hfz241_0 := blk_frozen BK921.out 0
                  go_wp2_with (first | ((with_reducible refine gate_callee (f := 47) rfl ?_); refine gl (some 113) Try.func47 #[.agg #[.slice Ao65 t937.length co65], .int .i64 1] ?_; (with_reducible refine (laws_heldSemigroup.calls kj172 _ _ t937 1 t951 _ ?side1 ?side2 A224.out).mono ?_); (case side1 => exact co (Kd.R_reads' HO_922000.out).2.2); (case side2 => exact (Kd.R_reads' HO_922000.out).2.1); rintro e w242 ⟨rfl, hb⟩; refine ⟨_, rfl, ?_⟩; replace HO_909000 := Aside0.mk (Kd.R_below (ro HO_909000.out) hb); replace HO_913000 := Aside0.mk (Kd.R_below (ro HO_913000.out) hb); replace HO_917000 := Aside0.mk (Kd.R_below (ro HO_917000.out) hb); replace HO_922000 := Aside0.mk (Kd.R_below (ro HO_922000.out) hb); replace HO_950000 := Aside0.mk (Kd.R_below (ro HO_950000.out) hb); replace BK894 := Aside0.mk (blk_below (g := gb894) (o := .cells #[.slice A0_0 l0_0.length c0_0] 24 (0, 0)) (bo BK894.out) hb); replace BK895 := Aside0.mk (blk_below (g := gb895) (o := .cells #[.slice A1_0 l1_0.length c1_0] 24 (0, 0)) (bo BK895.out) hb); replace BK908 := Aside0.mk (blk_below (g := gb908) (o := .cells #[.slice Ao41 t904.length co41] 27 (0, 0)) (bo BK908.out) hb); replace BK912 := Aside0.mk (blk_below (g := gb912) (o := .cells #[.slice Ao47 t932.length co47] 27 (0, 0)) (bo BK912.out) hb); replace BK916 := Aside0.mk (blk_below (g := gb916) (o := .cells #[.slice Ao56 t934.length co56] 27 (0, 0)) (bo BK916.out) hb); replace BK921 := Aside0.mk (blk_below (g := gb921) (o := .cells #[.slice Ao65 t937.length co65] 27 (0, 0)) (bo BK921.out) hb); replace BK949 := Aside0.mk (blk_below (g := gb949) (o := .cells #[.slice Ao191 t945.length co191] 27 (0, 0)) (bo BK949.out) hb); replace HB := Aside0.mk (below_step bw hb); clear hb))
                  go_ret
                  exact ⟨re, bw⟩
                 ·rw [if_neg c234] at H
                  have c234b0 : (t951 == t936) = false := beq_eq_false_iff_ne.mpr c234
                  have c234b1 : (t951 != t936) = true := bne_iff_ne.mpr c234
                  exact absurd (Option.some.inj H) (by decide)
            ·rw [if_neg c169] at H
             have c169b0 : (t938 == t936) = false := beq_eq_false_iff_ne.mpr c169
             have c169b1 : (t938 != t936) = true := bne_iff_ne.mpr c169
             exact absurd (Option.some.inj H) (by decide)
       ·exact absurd (Option.some.inj H) (by decide)
      ·exact absurd (Option.some.inj H) (by decide)
end Go.Proofs.Ytiejmnnnjmmifaa.C
