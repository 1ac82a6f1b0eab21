/- Contracts of functions of the program: laws_FnExactParentOf. -/
import Derived.Test.YtlfdipnhlmjiaaaC0
import Derived.Test.YtlfdipnhlmjiaaaC1
import Derived.Test.YtlfdipnhlmjiaaaC5
import Derived.Test.YtlfdipnhlmjiaaaC7
import Derived.Test.YtlfdipnhlmjiaaaC16
import Derived.Test.YtlfdipnhlmjiaaaC19
import Derived.Test.YtlfdipnhlmjiaaaC20
namespace Go.Proofs.Ytlfdipnhlmjiaaa.C
open Go.RowKit Go.Proofs.YtlfdipnhlmjiaaaW.PrintWords Go.Proofs.YtlfdipnhlmjiaaaW.PrintLast Go.Proofs.YtlfdipnhlmjiaaaW.PrintMore
attribute [local go_sem] max2_int min2_int max_two min_two max_three min_three max_four min_four
set_option linter.unusedVariables false
set_option linter.unusedSimpArgs false

/-! ### laws_FnExactParentOf: function 6 -/
mutual
def laws_FnExactParentOf.j0 : Nat → Bool → Bool → Bool → List Int → List Int → List Int → List Int → Option (Bool)
 | 0, _, _, _, _, _, _, _ => none
 | k + 1, x5, x8, x40, x801000, x810000, x814000, x819000 => if x40 = true then (some false) else ((laws_toSemigroup.f k x801000).bind fun t820 => ((laws_eqSemigroup.f k x814000 t820).bind fun t823 => (if t823 = true then ((laws_markSemigroup.f k x814000 1).bind fun bt824 => (if bt824.1 < 0 then (laws_FnExactParentOf.j1 k x5 true x801000 x810000 x819000) else ((laws_eqSemigroup.f k x819000 x810000).bind fun t826 => (if t826 = true then (laws_FnExactParentOf.j1 k x5 (x8 != x5) x801000 x810000 x819000) else (laws_FnExactParentOf.j1 k x5 true x801000 x810000 x819000))))) else (some false))))
def laws_FnExactParentOf.j1 : Nat → Bool → Bool → List Int → List Int → List Int → Option (Bool)
 | 0, _, _, _, _, _ => none
 | k + 1, x5, x61, x801000, x810000, x819000 => if x61 = true then (some false) else ((laws_markSemigroup.f k x819000 1).bind fun bt827 => ((laws_heldSemigroup.f k bt827.2 1).bind fun t829 => (if t829 < 0 then (some false) else (if t829 = bt827.1 then ((laws_toSemigroup.f k x801000).bind fun t830 => ((impl_ParentOf.f k t830).bind fun bt833 => ((laws_eqSemigroup.f k bt833.1 x810000).bind fun t838 => (if t838 = true then (laws_FnExactParentOf.j2 k bt827.1 (bt833.2 != x5) bt827.2) else (laws_FnExactParentOf.j2 k bt827.1 true bt827.2))))) else (some false)))))
def laws_FnExactParentOf.j2 : Nat → Int → Bool → List Int → Option (Bool)
 | 0, _, _, _ => none
 | k + 1, x10, x87, x819000 => if x87 = true then (some false) else ((laws_heldSemigroup.f k x819000 1).bind fun t839 => (if t839 < 0 then (some false) else (if t839 = x10 then (some true) else (some false))))
end
def laws_FnExactParentOf.f (k : Nat) (l0_0 : List Int) : Option (Bool) := (laws_szSemigroup.f l0_0 1048576).bind fun t801 => (if t801 < 0 then (some true) else ((laws_toSemigroup.f k l0_0).bind fun t802 => ((spec_ParentOf.f k t802).bind fun bt805 => ((laws_toSemigroup.f k l0_0).bind fun t810 => ((impl_ParentOf.f k t810).bind fun bt814 => ((laws_eqSemigroup.f k bt814.1 bt805.1).bind fun t819 => (if t819 = true then (laws_FnExactParentOf.j0 k bt805.2 bt814.2 (bt814.2 != bt805.2) l0_0 bt805.1 t810 bt814.1) else (laws_FnExactParentOf.j0 k bt805.2 bt814.2 true l0_0 bt805.1 t810 bt814.1))))))))
set_option maxHeartbeats 8000000 in
set_option maxRecDepth 100000 in
theorem laws_FnExactParentOf.calls (k : Nat) (A0_0 : Option Addr) (c0_0 : Nat) (l0_0 : List Int) (w : World) (hr0_0 : Kd.C (Kd.int .i64) w A0_0 l0_0.length l0_0) (hc0_0 : l0_0.length ≤ c0_0) (h : laws_FnExactParentOf.f k l0_0 = some true) :
  Calls Try.prog 6 #[.agg #[.slice A0_0 l0_0.length c0_0]] w fun e w' => e = .returned (.bool true) ∧ Below w.heap.size w w' := by
 have hu24 := Try.underlying24
 have hu27 := Try.underlying27
 have HR0_0 := Aside0.mk hr0_0
 have HC0_0 := Aside0.mk hc0_0
 clear hr0_0 hc0_0
 have HB := Aside0.mk (Below.refl w.heap.size w)
 have H : ((laws_szSemigroup.f l0_0 1048576).bind fun t801 => (if t801 < 0 then (some true) else ((laws_toSemigroup.f k l0_0).bind fun t802 => ((spec_ParentOf.f k t802).bind fun bt805 => ((laws_toSemigroup.f k l0_0).bind fun t810 => ((impl_ParentOf.f k t810).bind fun bt814 => ((laws_eqSemigroup.f k bt814.1 bt805.1).bind fun t819 => (if t819 = true then (laws_FnExactParentOf.j0 k bt805.2 bt814.2 (bt814.2 != bt805.2) l0_0 bt805.1 t810 bt814.1) else (laws_FnExactParentOf.j0 k bt805.2 bt814.2 true l0_0 bt805.1 t810 bt814.1))))))))) = some true := h
 clear h
 replace H := Option.bind_eq_some_iff.mp H
 obtain ⟨t801, A20, H⟩ := H
 replace H : (if t801 < 0 then (some true) else ((laws_toSemigroup.f k l0_0).bind fun t802 => ((spec_ParentOf.f k t802).bind fun bt805 => ((laws_toSemigroup.f k l0_0).bind fun t810 => ((impl_ParentOf.f k t810).bind fun bt814 => ((laws_eqSemigroup.f k bt814.1 bt805.1).bind fun t819 => (if t819 = true then (laws_FnExactParentOf.j0 k bt805.2 bt814.2 (bt814.2 != bt805.2) l0_0 bt805.1 t810 bt814.1) else (laws_FnExactParentOf.j0 k bt805.2 bt814.2 true l0_0 bt805.1 t810 bt814.1)))))))) = some true := H
 have A2 := Aside0.mk A20
 clear A20
 by_cases c3 : t801 < 0
 ·rw [if_pos c3] at H
  have c3b0 : decide (t801 < 0) = true := decide_eq_true c3
  clear c3
  skip
  go_enter Try.func6, Try.ntmps6
  go_wp2_with (first | ((with_reducible refine gate_dst (N := 1) rfl ?_); refine box_event ?hg (N := 1) ?hd (cs := #[.slice A0_0 l0_0.length c0_0]) (t := 24) ?hr ?_; (case hd => rfl); (case hg => rfl); (case hr => first | (go_simp; done) | (go_simp; rfl)); intro gb800 hg w4 hbox hb; have n0_ := Aside0.mk (below_step (by repeat (first | (with_reducible first | exact HB.out | apply below_alloc | apply pw_below_drewN | apply below_drew1) | exact HB.out)) hb); have n1_ := Aside0.mk (hbox); have n2_ := Aside0.mk ((by rw [hg]; exact (below_size (by repeat (first | (with_reducible first | exact HB.out | apply below_alloc | apply pw_below_drewN | apply below_drew1) | exact HB.out))) : w.heap.size ≤ gb800)); have n3_ := Aside0.mk ((by rw [hg]; exact (below_size (by repeat (first | (with_reducible first | exact HB.out | apply below_alloc | apply pw_below_drewN | apply below_drew1) | exact HB.out))) : w.heap.size ≤ gb800)); clear HB; have HB := n0_; have BK800 := n1_; have GW800 := n2_; have GE800 := n3_; clear n0_ n1_ n2_ n3_; clear hb hbox hg; have hcz5_0 : w4.cell? ⟨gb800, 0, none⟩ = some (.slice A0_0 l0_0.length c0_0) := (blk_cell BK800.out 0).trans rfl; have hfz5_0 := blk_frozen BK800.out 0) | ((with_reducible refine gate_callee (f := 14) rfl ?_); refine goesL_ (some 16) rfl rfl Try.func14 (by kernel_rfl) rfl #[.agg #[.slice A0_0 l0_0.length c0_0], .int .i64 1048576] rfl (by (try simp only [List.map_toArray, List.map_cons, List.map_nil]); first | done | rfl | (simp only [List.length_drop, List.length_take]; rfl)) ?_; (with_reducible refine (laws_szSemigroup.calls _ _ l0_0 1048576 t801 _ ?side1 ?side2 A2.out).mono ?_); (case side1 => repeat (first | exact (Kd.C_below HR0_0.out HB.out) | (with_reducible refine Kd.C_alloc ?_ _) | (with_reducible refine Kd.C_drewN ?_ _) | (with_reducible refine Kd.C_drew ?_))); (case side2 => exact HC0_0.out); rintro e w6 ⟨rfl, hb⟩; refine ⟨_, rfl, ?_⟩; have n0_ := Aside0.mk (blk_below (g := gb800) (o := .cells #[.slice A0_0 l0_0.length c0_0] 24 (0, 0)) (by (with_reducible repeat (first | refine blk_drewN ?_ _ | refine blk_drew ?_ | refine blk_alloc ?_ _)); exact BK800.out) hb); have n1_ := Aside0.mk (below_step (by repeat (first | (with_reducible first | exact HB.out | apply below_alloc | apply pw_below_drewN | apply below_drew1 | refine below_set ?_ GE800.out) | exact HB.out)) hb); clear BK800; clear HB; have BK800 := n0_; have HB := n1_; clear n0_ n1_; (try clear hb); (try clear hb2); (try clear hk); (try clear hi)))
  go_ret
  exact ⟨by first | rfl | (simp [errW_none, errW_some] <;> rfl) | (simp [*, errW_none, errW_some] <;> rfl), by repeat (first | (with_reducible first | exact HB.out | apply below_alloc | apply pw_below_drewN | apply below_drew1 | refine below_set ?_ GE800.out) | exact HB.out)⟩
 ·rw [if_neg c3] at H
  have c3b0 : decide (t801 < 0) = false := decide_eq_false c3
  clear c3
  replace H := Option.bind_eq_some_iff.mp H
  obtain ⟨t802, A70, H⟩ := H
  replace H : ((spec_ParentOf.f k t802).bind fun bt805 => ((laws_toSemigroup.f k l0_0).bind fun t810 => ((impl_ParentOf.f k t810).bind fun bt814 => ((laws_eqSemigroup.f k bt814.1 bt805.1).bind fun t819 => (if t819 = true then (laws_FnExactParentOf.j0 k bt805.2 bt814.2 (bt814.2 != bt805.2) l0_0 bt805.1 t810 bt814.1) else (laws_FnExactParentOf.j0 k bt805.2 bt814.2 true l0_0 bt805.1 t810 bt814.1)))))) = some true := H
  have A7 := Aside0.mk A70
  clear A70
  replace H := Option.bind_eq_some_iff.mp H
  obtain ⟨⟨t805, t808⟩, A80, H⟩ := H
  replace H : ((laws_toSemigroup.f k l0_0).bind fun t810 => ((impl_ParentOf.f k t810).bind fun bt814 => ((laws_eqSemigroup.f k bt814.1 t805).bind fun t819 => (if t819 = true then (laws_FnExactParentOf.j0 k t808 bt814.2 (bt814.2 != t808) l0_0 t805 t810 bt814.1) else (laws_FnExactParentOf.j0 k t808 bt814.2 true l0_0 t805 t810 bt814.1))))) = some true := H
  have A8 := Aside0.mk A80
  clear A80
  replace H := Option.bind_eq_some_iff.mp H
  obtain ⟨t810, A90, H⟩ := H
  replace H : ((impl_ParentOf.f k t810).bind fun bt814 => ((laws_eqSemigroup.f k bt814.1 t805).bind fun t819 => (if t819 = true then (laws_FnExactParentOf.j0 k t808 bt814.2 (bt814.2 != t808) l0_0 t805 t810 bt814.1) else (laws_FnExactParentOf.j0 k t808 bt814.2 true l0_0 t805 t810 bt814.1)))) = some true := H
  have A9 := Aside0.mk A90
  clear A90
  replace H := Option.bind_eq_some_iff.mp H
  obtain ⟨⟨t814, t817⟩, A100, H⟩ := H
  replace H : ((laws_eqSemigroup.f k t814 t805).bind fun t819 => (if t819 = true then (laws_FnExactParentOf.j0 k t808 t817 (t817 != t808) l0_0 t805 t810 t814) else (laws_FnExactParentOf.j0 k t808 t817 true l0_0 t805 t810 t814))) = some true := H
  have A10 := Aside0.mk A100
  clear A100
  have HC11 := Aside0.mk H
  clear H
  go_enter Try.func6, Try.ntmps6
  go_upto_region 8 with (first | ((with_reducible refine gate_dst (N := 1) rfl ?_); refine box_event ?hg (N := 1) ?hd (cs := #[.slice A0_0 l0_0.length c0_0]) (t := 24) ?hr ?_; (case hd => rfl); (case hg => rfl); (case hr => first | (go_simp; done) | (go_simp; rfl)); intro gb800 hg w12 hbox hb; have n0_ := Aside0.mk (below_step (by repeat (first | (with_reducible first | exact HB.out | apply below_alloc | apply pw_below_drewN | apply below_drew1) | exact HB.out)) hb); have n1_ := Aside0.mk (hbox); have n2_ := Aside0.mk ((by rw [hg]; exact (below_size (by repeat (first | (with_reducible first | exact HB.out | apply below_alloc | apply pw_below_drewN | apply below_drew1) | exact HB.out))) : w.heap.size ≤ gb800)); have n3_ := Aside0.mk ((by rw [hg]; exact (below_size (by repeat (first | (with_reducible first | exact HB.out | apply below_alloc | apply pw_below_drewN | apply below_drew1) | exact HB.out))) : w.heap.size ≤ gb800)); clear HB; have HB := n0_; have BK800 := n1_; have GW800 := n2_; have GE800 := n3_; clear n0_ n1_ n2_ n3_; clear hb hbox hg; have hcz13_0 : w12.cell? ⟨gb800, 0, none⟩ = some (.slice A0_0 l0_0.length c0_0) := (blk_cell BK800.out 0).trans rfl; have hfz13_0 := blk_frozen BK800.out 0) | ((with_reducible refine gate_callee (f := 14) rfl ?_); refine goesL_ (some 16) rfl rfl Try.func14 (by kernel_rfl) rfl #[.agg #[.slice A0_0 l0_0.length c0_0], .int .i64 1048576] rfl (by (try simp only [List.map_toArray, List.map_cons, List.map_nil]); first | done | rfl | (simp only [List.length_drop, List.length_take]; rfl)) ?_; (with_reducible refine (laws_szSemigroup.calls _ _ l0_0 1048576 t801 _ ?side1 ?side2 A2.out).mono ?_); (case side1 => repeat (first | exact (Kd.C_below HR0_0.out HB.out) | (with_reducible refine Kd.C_alloc ?_ _) | (with_reducible refine Kd.C_drewN ?_ _) | (with_reducible refine Kd.C_drew ?_))); (case side2 => exact HC0_0.out); rintro e w14 ⟨rfl, hb⟩; refine ⟨_, rfl, ?_⟩; have n0_ := Aside0.mk (blk_below (g := gb800) (o := .cells #[.slice A0_0 l0_0.length c0_0] 24 (0, 0)) (by (with_reducible repeat (first | refine blk_drewN ?_ _ | refine blk_drew ?_ | refine blk_alloc ?_ _)); exact BK800.out) hb); have n1_ := Aside0.mk (below_step (by repeat (first | (with_reducible first | exact HB.out | apply below_alloc | apply pw_below_drewN | apply below_drew1 | refine below_set ?_ GE800.out) | exact HB.out)) hb); clear BK800; clear HB; have BK800 := n0_; have HB := n1_; clear n0_ n1_; (try clear hb); (try clear hb2); (try clear hk); (try clear hi); have hcz15_0 : w14.cell? ⟨gb800, 0, none⟩ = some (.slice A0_0 l0_0.length c0_0) := (blk_cell BK800.out 0).trans rfl; have hfz15_0 := blk_frozen BK800.out 0) | ((with_reducible refine gate_callee (f := 16) rfl ?_); refine goesL_ (some 21) rfl rfl Try.func16 (by kernel_rfl) rfl #[.agg #[.slice A0_0 l0_0.length c0_0]] rfl (by (try simp only [List.map_toArray, List.map_cons, List.map_nil]); first | done | rfl | (simp only [List.length_drop, List.length_take]; rfl)) ?_; (with_reducible refine (laws_toSemigroup.calls k _ _ l0_0 t802 _ ?side1 ?side2 A7.out).mono ?_); (case side1 => repeat (first | exact (Kd.C_below HR0_0.out HB.out) | (with_reducible refine Kd.C_alloc ?_ _) | (with_reducible refine Kd.C_drewN ?_ _) | (with_reducible refine Kd.C_drew ?_))); (case side2 => exact HC0_0.out); rintro e w16 ⟨v803, rfl, ho0, hb⟩; refine ⟨_, rfl, ?_⟩; have n0_ := Aside0.mk (Kd.R_lower ho0 (below_size (by repeat (first | (with_reducible first | exact HB.out | apply below_alloc | apply pw_below_drewN | apply below_drew1 | refine below_set ?_ GE800.out) | exact HB.out)))); have n1_ := Aside0.mk (blk_below (g := gb800) (o := .cells #[.slice A0_0 l0_0.length c0_0] 24 (0, 0)) (by (with_reducible repeat (first | refine blk_drewN ?_ _ | refine blk_drew ?_ | refine blk_alloc ?_ _)); exact BK800.out) hb); have n2_ := Aside0.mk (below_step (by repeat (first | (with_reducible first | exact HB.out | apply below_alloc | apply pw_below_drewN | apply below_drew1 | refine below_set ?_ GE800.out) | exact HB.out)) hb); clear BK800; clear HB; have HO804 := n0_; have BK800 := n1_; have HB := n2_; clear n0_ n1_ n2_; (try clear hb); (try clear hb2); (try clear hk); (try clear hi); (try clear ho0); obtain ⟨Ao17, co17, eo17⟩ := Kd.R_slice HO804.out; subst eo17) | ((with_reducible refine gate_callee (f := 28) rfl ?_); refine goesL_ (some 22) rfl rfl Try.func28 (by kernel_rfl) rfl #[.agg #[.slice Ao17 t802.length co17]] rfl (by (try simp only [List.map_toArray, List.map_cons, List.map_nil]); first | done | rfl | (simp only [List.length_drop, List.length_take]; rfl)) ?_; (with_reducible refine (spec_ParentOf.calls k _ _ t802 t805 t808 _ ?side1 ?side2 A8.out).mono ?_); (case side1 => repeat (first | exact (Kd.R_reads' HO804.out).2.2 | (with_reducible refine Kd.C_alloc ?_ _) | (with_reducible refine Kd.C_drewN ?_ _) | (with_reducible refine Kd.C_drew ?_))); (case side2 => exact (Kd.R_reads' HO804.out).2.1); rintro e w18 ⟨v806, rfl, ho0, hb⟩; refine ⟨_, rfl, ?_⟩; have n0_ := Aside0.mk (Kd.R_elder' (by (with_reducible repeat (first | apply Kd.R_alloc | apply Kd.R_drewN | apply Kd.R_drew)); exact HO804.out) (Kd.R_base ho0) hb); have n1_ := Aside0.mk (Kd.R_lower (Kd.R_new' ho0 (Kd.R_lt (by (with_reducible repeat (first | apply Kd.R_alloc | apply Kd.R_drewN | apply Kd.R_drew)); exact HO804.out))) (below_size (by repeat (first | (with_reducible first | exact HB.out | apply below_alloc | apply pw_below_drewN | apply below_drew1 | refine below_set ?_ GE800.out) | exact HB.out)))); have n2_ := Aside0.mk (blk_below (g := gb800) (o := .cells #[.slice A0_0 l0_0.length c0_0] 24 (0, 0)) (by (with_reducible repeat (first | refine blk_drewN ?_ _ | refine blk_drew ?_ | refine blk_alloc ?_ _)); exact BK800.out) hb); have n3_ := Aside0.mk (below_step (by repeat (first | (with_reducible first | exact HB.out | apply below_alloc | apply pw_below_drewN | apply below_drew1 | refine below_set ?_ GE800.out) | exact HB.out)) hb); clear HO804; clear BK800; clear HB; have HO804 := n0_; have HO807 := n1_; have BK800 := n2_; have HB := n3_; clear n0_ n1_ n2_ n3_; (try clear hb); (try clear hb2); (try clear hk); (try clear hi); (try clear ho0)) | ((with_reducible refine gate_dst (N := 4) rfl ?_); refine box_event ?hg (N := 4) ?hd (cs := #[.slice none 0 0]) (t := 27) ?hr ?_; (case hd => rfl); (case hg => rfl); (case hr => first | (go_simp; done) | (go_simp; rfl)); intro gb809 hg w19 hbox hb; have n0_ := Aside0.mk (Kd.R_below (by (with_reducible repeat (first | apply Kd.R_alloc | apply Kd.R_drewN | apply Kd.R_drew)); exact HO804.out) hb); have n1_ := Aside0.mk (Kd.R_below (by (with_reducible repeat (first | apply Kd.R_alloc | apply Kd.R_drewN | apply Kd.R_drew)); exact HO807.out) hb); have n2_ := Aside0.mk (blk_below (g := gb800) (o := .cells #[.slice A0_0 l0_0.length c0_0] 24 (0, 0)) (by (with_reducible repeat (first | refine blk_drewN ?_ _ | refine blk_drew ?_ | refine blk_alloc ?_ _)); exact BK800.out) hb); have n3_ := Aside0.mk (below_step (by repeat (first | (with_reducible first | exact HB.out | apply below_alloc | apply pw_below_drewN | apply below_drew1 | refine below_set ?_ GE800.out) | exact HB.out)) hb); have n4_ := Aside0.mk (hbox); have n5_ := Aside0.mk ((by rw [hg]; exact (below_size (by repeat (first | (with_reducible first | exact HB.out | apply below_alloc | apply pw_below_drewN | apply below_drew1 | refine below_set ?_ GE800.out) | exact HB.out))) : w.heap.size ≤ gb809)); have n6_ := Aside0.mk ((by rw [hg]; exact (below_size (by repeat (first | (with_reducible first | exact HB.out | apply below_alloc | apply pw_below_drewN | apply below_drew1 | refine below_set ?_ GE800.out) | exact HB.out))) : w.heap.size ≤ gb809)); have n7_ := Aside0.mk ((by rw [hg]; exact Nat.ne_of_lt (blk_lt (g := gb800) (o := .cells #[.slice A0_0 l0_0.length c0_0] 24 (0, 0)) (by (with_reducible repeat (first | refine blk_drewN ?_ _ | refine blk_drew ?_ | refine blk_alloc ?_ _)); exact BK800.out)) : gb800 ≠ gb809)); have n8_ := Aside0.mk ((by rw [hg]; exact Nat.ne_of_gt (blk_lt (g := gb800) (o := .cells #[.slice A0_0 l0_0.length c0_0] 24 (0, 0)) (by (with_reducible repeat (first | refine blk_drewN ?_ _ | refine blk_drew ?_ | refine blk_alloc ?_ _)); exact BK800.out)) : gb809 ≠ gb800)); clear HO804; clear HO807; clear BK800; clear HB; have HO804 := n0_; have HO807 := n1_; have BK800 := n2_; have HB := n3_; have BK809 := n4_; have GW809 := n5_; have GE809 := n6_; have NB800_809 := n7_; have NB809_800 := n8_; clear n0_ n1_ n2_ n3_ n4_ n5_ n6_ n7_ n8_; clear hb hbox hg; obtain ⟨Ao20, co20, eo20⟩ := Kd.R_slice HO807.out; subst eo20; have hnb21 := NB809_800.out; have hnc21 := NB800_809.out; have hcz22_0 : w19.cell? ⟨gb809, 0, none⟩ = some (.slice none 0 0) := (blk_cell BK809.out 0).trans rfl; have hfz22_0 := blk_frozen BK809.out 0; have hcz23_0 : w19.cell? ⟨gb800, 0, none⟩ = some (.slice A0_0 l0_0.length c0_0) := (blk_cell BK800.out 0).trans rfl; have hfz23_0 := blk_frozen BK800.out 0) | ((with_reducible refine gate_callee (f := 16) rfl ?_); refine goesL_ (some 26) rfl rfl Try.func16 (by kernel_rfl) rfl #[.agg #[.slice A0_0 l0_0.length c0_0]] rfl (by (try simp only [List.map_toArray, List.map_cons, List.map_nil]); first | done | rfl | (simp only [List.length_drop, List.length_take]; rfl)) ?_; (with_reducible refine (laws_toSemigroup.calls k _ _ l0_0 t810 _ ?side1 ?side2 A9.out).mono ?_); (case side1 => exact Kd.C_below HR0_0.out (by repeat (first | (with_reducible first | exact HB.out | apply below_alloc | apply pw_below_drewN | apply below_drew1 | refine below_set ?_ GE800.out | refine below_set ?_ GE809.out) | exact HB.out))); (case side2 => exact HC0_0.out); rintro e w24 ⟨v811, rfl, ho0, hb⟩; refine ⟨_, rfl, ?_⟩; have n0_ := Aside0.mk (Kd.R_elder' (by (with_reducible repeat (first | apply Kd.R_alloc | apply Kd.R_drewN | apply Kd.R_drew)); exact (Kd.R_mono (Kd.R_far (p := ⟨gb809, 0, none⟩) (Kd.R_types HO804.out BK809.out (by decide)) (fun _ hk => hk.2) (.slice Ao20 t805.length co20)) (fun _ h_ => h_.1))) (Kd.R_base ho0) hb); have n1_ := Aside0.mk (Kd.R_elder' (by (with_reducible repeat (first | apply Kd.R_alloc | apply Kd.R_drewN | apply Kd.R_drew)); exact (Kd.R_mono (Kd.R_far (p := ⟨gb809, 0, none⟩) (Kd.R_types HO807.out BK809.out (by decide)) (fun _ hk => hk.2) (.slice Ao20 t805.length co20)) (fun _ h_ => h_.1))) (Kd.R_base ho0) hb); have n2_ := Aside0.mk (Kd.R_lower (Kd.R_new' (Kd.R_new' ho0 (Kd.R_lt (by (with_reducible repeat (first | apply Kd.R_alloc | apply Kd.R_drewN | apply Kd.R_drew)); exact (Kd.R_mono (Kd.R_far (p := ⟨gb809, 0, none⟩) (Kd.R_types HO804.out BK809.out (by decide)) (fun _ hk => hk.2) (.slice Ao20 t805.length co20)) (fun _ h_ => h_.1))))) (Kd.R_lt (by (with_reducible repeat (first | apply Kd.R_alloc | apply Kd.R_drewN | apply Kd.R_drew)); exact (Kd.R_mono (Kd.R_far (p := ⟨gb809, 0, none⟩) (Kd.R_types HO807.out BK809.out (by decide)) (fun _ hk => hk.2) (.slice Ao20 t805.length co20)) (fun _ h_ => h_.1))))) (below_size (by repeat (first | (with_reducible first | exact HB.out | apply below_alloc | apply pw_below_drewN | apply below_drew1 | refine below_set ?_ GE800.out | refine below_set ?_ GE809.out) | exact HB.out)))); have n3_ := Aside0.mk (blk_below (g := gb800) (o := .cells #[.slice A0_0 l0_0.length c0_0] 24 (0, 0)) (by (with_reducible repeat (first | refine blk_drewN ?_ _ | refine blk_drew ?_ | refine blk_alloc ?_ _)); refine blk_far ?_ NB800_809.out _; (with_reducible repeat (first | refine blk_drewN ?_ _ | refine blk_drew ?_ | refine blk_alloc ?_ _)); exact BK800.out) hb); have n4_ := Aside0.mk (blk_below (g := gb809) (o := .cells #[.slice Ao20 t805.length co20] 27 (0, 0)) (by (with_reducible repeat (first | refine blk_drewN ?_ _ | refine blk_drew ?_ | refine blk_alloc ?_ _)); refine blk_put (cs := #[.slice none 0 0]) ?_ 0 _ rfl; (with_reducible repeat (first | refine blk_drewN ?_ _ | refine blk_drew ?_ | refine blk_alloc ?_ _)); exact BK809.out) hb); have n5_ := Aside0.mk (below_step (by repeat (first | (with_reducible first | exact HB.out | apply below_alloc | apply pw_below_drewN | apply below_drew1 | refine below_set ?_ GE800.out | refine below_set ?_ GE809.out) | exact HB.out)) hb); clear HO804; clear HO807; clear BK800; clear BK809; clear HB; have HO804 := n0_; have HO807 := n1_; have HO812 := n2_; have BK800 := n3_; have BK809 := n4_; have HB := n5_; clear n0_ n1_ n2_ n3_ n4_ n5_; (try clear hb); (try clear hb2); (try clear hk); (try clear hi); (try clear ho0)) | ((with_reducible refine gate_dst (N := 6) rfl ?_); refine box_event ?hg (N := 6) ?hd (cs := #[.slice none 0 0]) (t := 27) ?hr ?_; (case hd => rfl); (case hg => rfl); (case hr => first | (go_simp; done) | (go_simp; rfl)); intro gb813 hg w25 hbox hb; have n0_ := Aside0.mk (Kd.R_below (by (with_reducible repeat (first | apply Kd.R_alloc | apply Kd.R_drewN | apply Kd.R_drew)); exact HO804.out) hb); have n1_ := Aside0.mk (Kd.R_below (by (with_reducible repeat (first | apply Kd.R_alloc | apply Kd.R_drewN | apply Kd.R_drew)); exact HO807.out) hb); have n2_ := Aside0.mk (Kd.R_below (by (with_reducible repeat (first | apply Kd.R_alloc | apply Kd.R_drewN | apply Kd.R_drew)); exact HO812.out) hb); have n3_ := Aside0.mk (blk_below (g := gb800) (o := .cells #[.slice A0_0 l0_0.length c0_0] 24 (0, 0)) (by (with_reducible repeat (first | refine blk_drewN ?_ _ | refine blk_drew ?_ | refine blk_alloc ?_ _)); exact BK800.out) hb); have n4_ := Aside0.mk (blk_below (g := gb809) (o := .cells #[.slice Ao20 t805.length co20] 27 (0, 0)) (by (with_reducible repeat (first | refine blk_drewN ?_ _ | refine blk_drew ?_ | refine blk_alloc ?_ _)); exact BK809.out) hb); have n5_ := Aside0.mk (below_step (by repeat (first | (with_reducible first | exact HB.out | apply below_alloc | apply pw_below_drewN | apply below_drew1 | refine below_set ?_ GE800.out | refine below_set ?_ GE809.out) | exact HB.out)) hb); have n6_ := Aside0.mk (hbox); have n7_ := Aside0.mk ((by rw [hg]; exact (below_size (by repeat (first | (with_reducible first | exact HB.out | apply below_alloc | apply pw_below_drewN | apply below_drew1 | refine below_set ?_ GE800.out | refine below_set ?_ GE809.out) | exact HB.out))) : w.heap.size ≤ gb813)); have n8_ := Aside0.mk ((by rw [hg]; exact (below_size (by repeat (first | (with_reducible first | exact HB.out | apply below_alloc | apply pw_below_drewN | apply below_drew1 | refine below_set ?_ GE800.out | refine below_set ?_ GE809.out) | exact HB.out))) : w.heap.size ≤ gb813)); have n9_ := Aside0.mk ((by rw [hg]; exact Nat.ne_of_lt (blk_lt (g := gb800) (o := .cells #[.slice A0_0 l0_0.length c0_0] 24 (0, 0)) (by (with_reducible repeat (first | refine blk_drewN ?_ _ | refine blk_drew ?_ | refine blk_alloc ?_ _)); exact BK800.out)) : gb800 ≠ gb813)); have n10_ := Aside0.mk ((by rw [hg]; exact Nat.ne_of_gt (blk_lt (g := gb800) (o := .cells #[.slice A0_0 l0_0.length c0_0] 24 (0, 0)) (by (with_reducible repeat (first | refine blk_drewN ?_ _ | refine blk_drew ?_ | refine blk_alloc ?_ _)); exact BK800.out)) : gb813 ≠ gb800)); have n11_ := Aside0.mk ((by rw [hg]; exact Nat.ne_of_lt (blk_lt (g := gb809) (o := .cells #[.slice Ao20 t805.length co20] 27 (0, 0)) (by (with_reducible repeat (first | refine blk_drewN ?_ _ | refine blk_drew ?_ | refine blk_alloc ?_ _)); exact BK809.out)) : gb809 ≠ gb813)); have n12_ := Aside0.mk ((by rw [hg]; exact Nat.ne_of_gt (blk_lt (g := gb809) (o := .cells #[.slice Ao20 t805.length co20] 27 (0, 0)) (by (with_reducible repeat (first | refine blk_drewN ?_ _ | refine blk_drew ?_ | refine blk_alloc ?_ _)); exact BK809.out)) : gb813 ≠ gb809)); clear HO804; clear HO807; clear HO812; clear BK800; clear BK809; clear HB; have HO804 := n0_; have HO807 := n1_; have HO812 := n2_; have BK800 := n3_; have BK809 := n4_; have HB := n5_; have BK813 := n6_; have GW813 := n7_; have GE813 := n8_; have NB800_813 := n9_; have NB813_800 := n10_; have NB809_813 := n11_; have NB813_809 := n12_; clear n0_ n1_ n2_ n3_ n4_ n5_ n6_ n7_ n8_ n9_ n10_ n11_ n12_; clear hb hbox hg; obtain ⟨Ao26, co26, eo26⟩ := Kd.R_slice HO812.out; subst eo26; have hnb27 := NB813_800.out; have hnc27 := NB800_813.out; have hnb28 := NB813_809.out; have hnc28 := NB809_813.out; have hcz29_0 : w25.cell? ⟨gb813, 0, none⟩ = some (.slice none 0 0) := (blk_cell BK813.out 0).trans rfl; have hfz29_0 := blk_frozen BK813.out 0) | ((with_reducible refine gate_callee (f := 29) rfl ?_); refine goesL_ (some 29) rfl rfl Try.func29 (by kernel_rfl) rfl #[.agg #[.slice Ao26 t810.length co26]] rfl (by (try simp only [List.map_toArray, List.map_cons, List.map_nil]); first | done | rfl | (simp only [List.length_drop, List.length_take]; rfl)) ?_; (with_reducible refine (impl_ParentOf.calls k _ _ t810 t814 t817 _ ?side1 ?side2 A10.out).mono ?_); (case side1 => refine (Kd.R_reads' (e := 3) (base := w.heap.size) (ok := fun k_ => ((True ∧ some k_ ≠ (.slice Ao17 t802.length co17 : Value).ownBlock) ∧ some k_ ≠ (.slice Ao20 t805.length co20 : Value).ownBlock)) (n := t810.length) (c := co26) ?_).2.2; exact (by (with_reducible repeat (first | apply Kd.R_alloc | apply Kd.R_drewN | apply Kd.R_drew)); exact (Kd.R_mono (Kd.R_far (p := ⟨gb813, 0, none⟩) (Kd.R_types HO812.out BK813.out (by decide)) (fun _ hk => hk.2) (.slice Ao26 t810.length co26)) (fun _ h_ => h_.1)))); (case side2 => exact (Kd.R_reads' HO812.out).2.1); rintro e w30 ⟨v815, rfl, ho0, hb⟩; refine ⟨_, rfl, ?_⟩; have n0_ := Aside0.mk (Kd.R_elder' (by (with_reducible repeat (first | apply Kd.R_alloc | apply Kd.R_drewN | apply Kd.R_drew)); exact (Kd.R_mono (Kd.R_far (p := ⟨gb813, 0, none⟩) (Kd.R_types HO804.out BK813.out (by decide)) (fun _ hk => hk.2) (.slice Ao26 t810.length co26)) (fun _ h_ => h_.1))) (Kd.R_base ho0) hb); have n1_ := Aside0.mk (Kd.R_elder' (by (with_reducible repeat (first | apply Kd.R_alloc | apply Kd.R_drewN | apply Kd.R_drew)); exact (Kd.R_mono (Kd.R_far (p := ⟨gb813, 0, none⟩) (Kd.R_types HO807.out BK813.out (by decide)) (fun _ hk => hk.2) (.slice Ao26 t810.length co26)) (fun _ h_ => h_.1))) (Kd.R_base ho0) hb); have n2_ := Aside0.mk (Kd.R_elder' (by (with_reducible repeat (first | apply Kd.R_alloc | apply Kd.R_drewN | apply Kd.R_drew)); exact (Kd.R_mono (Kd.R_far (p := ⟨gb813, 0, none⟩) (Kd.R_types HO812.out BK813.out (by decide)) (fun _ hk => hk.2) (.slice Ao26 t810.length co26)) (fun _ h_ => h_.1))) (Kd.R_base ho0) hb); have n3_ := Aside0.mk (Kd.R_lower (Kd.R_new' (Kd.R_new' (Kd.R_new' ho0 (Kd.R_lt (by (with_reducible repeat (first | apply Kd.R_alloc | apply Kd.R_drewN | apply Kd.R_drew)); exact (Kd.R_mono (Kd.R_far (p := ⟨gb813, 0, none⟩) (Kd.R_types HO804.out BK813.out (by decide)) (fun _ hk => hk.2) (.slice Ao26 t810.length co26)) (fun _ h_ => h_.1))))) (Kd.R_lt (by (with_reducible repeat (first | apply Kd.R_alloc | apply Kd.R_drewN | apply Kd.R_drew)); exact (Kd.R_mono (Kd.R_far (p := ⟨gb813, 0, none⟩) (Kd.R_types HO807.out BK813.out (by decide)) (fun _ hk => hk.2) (.slice Ao26 t810.length co26)) (fun _ h_ => h_.1))))) (Kd.R_lt (by (with_reducible repeat (first | apply Kd.R_alloc | apply Kd.R_drewN | apply Kd.R_drew)); exact (Kd.R_mono (Kd.R_far (p := ⟨gb813, 0, none⟩) (Kd.R_types HO812.out BK813.out (by decide)) (fun _ hk => hk.2) (.slice Ao26 t810.length co26)) (fun _ h_ => h_.1))))) (below_size (by repeat (first | (with_reducible first | exact HB.out | apply below_alloc | apply pw_below_drewN | apply below_drew1 | refine below_set ?_ GE800.out | refine below_set ?_ GE809.out | refine below_set ?_ GE813.out) | exact HB.out)))); have n4_ := Aside0.mk (blk_below (g := gb800) (o := .cells #[.slice A0_0 l0_0.length c0_0] 24 (0, 0)) (by (with_reducible repeat (first | refine blk_drewN ?_ _ | refine blk_drew ?_ | refine blk_alloc ?_ _)); refine blk_far ?_ NB800_813.out _; (with_reducible repeat (first | refine blk_drewN ?_ _ | refine blk_drew ?_ | refine blk_alloc ?_ _)); exact BK800.out) hb); have n5_ := Aside0.mk (blk_below (g := gb809) (o := .cells #[.slice Ao20 t805.length co20] 27 (0, 0)) (by (with_reducible repeat (first | refine blk_drewN ?_ _ | refine blk_drew ?_ | refine blk_alloc ?_ _)); refine blk_far ?_ NB809_813.out _; (with_reducible repeat (first | refine blk_drewN ?_ _ | refine blk_drew ?_ | refine blk_alloc ?_ _)); exact BK809.out) hb); have n6_ := Aside0.mk (blk_below (g := gb813) (o := .cells #[.slice Ao26 t810.length co26] 27 (0, 0)) (by (with_reducible repeat (first | refine blk_drewN ?_ _ | refine blk_drew ?_ | refine blk_alloc ?_ _)); refine blk_put (cs := #[.slice none 0 0]) ?_ 0 _ rfl; (with_reducible repeat (first | refine blk_drewN ?_ _ | refine blk_drew ?_ | refine blk_alloc ?_ _)); exact BK813.out) hb); have n7_ := Aside0.mk (below_step (by repeat (first | (with_reducible first | exact HB.out | apply below_alloc | apply pw_below_drewN | apply below_drew1 | refine below_set ?_ GE800.out | refine below_set ?_ GE809.out | refine below_set ?_ GE813.out) | exact HB.out)) hb); clear HO804; clear HO807; clear HO812; clear BK800; clear BK809; clear BK813; clear HB; have HO804 := n0_; have HO807 := n1_; have HO812 := n2_; have HO816 := n3_; have BK800 := n4_; have BK809 := n5_; have BK813 := n6_; have HB := n7_; clear n0_ n1_ n2_ n3_ n4_ n5_ n6_ n7_; (try clear hb); (try clear hb2); (try clear hk); (try clear hi); (try clear ho0)) | ((with_reducible refine gate_dst (N := 7) rfl ?_); refine box_event ?hg (N := 7) ?hd (cs := #[.slice none 0 0]) (t := 27) ?hr ?_; (case hd => rfl); (case hg => rfl); (case hr => first | (go_simp; done) | (go_simp; rfl)); intro gb818 hg w31 hbox hb; have n0_ := Aside0.mk (Kd.R_below (by (with_reducible repeat (first | apply Kd.R_alloc | apply Kd.R_drewN | apply Kd.R_drew)); exact HO804.out) hb); have n1_ := Aside0.mk (Kd.R_below (by (with_reducible repeat (first | apply Kd.R_alloc | apply Kd.R_drewN | apply Kd.R_drew)); exact HO807.out) hb); have n2_ := Aside0.mk (Kd.R_below (by (with_reducible repeat (first | apply Kd.R_alloc | apply Kd.R_drewN | apply Kd.R_drew)); exact HO812.out) hb); have n3_ := Aside0.mk (Kd.R_below (by (with_reducible repeat (first | apply Kd.R_alloc | apply Kd.R_drewN | apply Kd.R_drew)); exact HO816.out) hb); have n4_ := Aside0.mk (blk_below (g := gb800) (o := .cells #[.slice A0_0 l0_0.length c0_0] 24 (0, 0)) (by (with_reducible repeat (first | refine blk_drewN ?_ _ | refine blk_drew ?_ | refine blk_alloc ?_ _)); exact BK800.out) hb); have n5_ := Aside0.mk (blk_below (g := gb809) (o := .cells #[.slice Ao20 t805.length co20] 27 (0, 0)) (by (with_reducible repeat (first | refine blk_drewN ?_ _ | refine blk_drew ?_ | refine blk_alloc ?_ _)); exact BK809.out) hb); have n6_ := Aside0.mk (blk_below (g := gb813) (o := .cells #[.slice Ao26 t810.length co26] 27 (0, 0)) (by (with_reducible repeat (first | refine blk_drewN ?_ _ | refine blk_drew ?_ | refine blk_alloc ?_ _)); exact BK813.out) hb); have n7_ := Aside0.mk (below_step (by repeat (first | (with_reducible first | exact HB.out | apply below_alloc | apply pw_below_drewN | apply below_drew1 | refine below_set ?_ GE800.out | refine below_set ?_ GE809.out | refine below_set ?_ GE813.out) | exact HB.out)) hb); have n8_ := Aside0.mk (hbox); have n9_ := Aside0.mk ((by rw [hg]; exact (below_size (by repeat (first | (with_reducible first | exact HB.out | apply below_alloc | apply pw_below_drewN | apply below_drew1 | refine below_set ?_ GE800.out | refine below_set ?_ GE809.out | refine below_set ?_ GE813.out) | exact HB.out))) : w.heap.size ≤ gb818)); have n10_ := Aside0.mk ((by rw [hg]; exact (below_size (by repeat (first | (with_reducible first | exact HB.out | apply below_alloc | apply pw_below_drewN | apply below_drew1 | refine below_set ?_ GE800.out | refine below_set ?_ GE809.out | refine below_set ?_ GE813.out) | exact HB.out))) : w.heap.size ≤ gb818)); have n11_ := Aside0.mk ((by rw [hg]; exact Nat.ne_of_lt (blk_lt (g := gb800) (o := .cells #[.slice A0_0 l0_0.length c0_0] 24 (0, 0)) (by (with_reducible repeat (first | refine blk_drewN ?_ _ | refine blk_drew ?_ | refine blk_alloc ?_ _)); exact BK800.out)) : gb800 ≠ gb818)); have n12_ := Aside0.mk ((by rw [hg]; exact Nat.ne_of_gt (blk_lt (g := gb800) (o := .cells #[.slice A0_0 l0_0.length c0_0] 24 (0, 0)) (by (with_reducible repeat (first | refine blk_drewN ?_ _ | refine blk_drew ?_ | refine blk_alloc ?_ _)); exact BK800.out)) : gb818 ≠ gb800)); have n13_ := Aside0.mk ((by rw [hg]; exact Nat.ne_of_lt (blk_lt (g := gb809) (o := .cells #[.slice Ao20 t805.length co20] 27 (0, 0)) (by (with_reducible repeat (first | refine blk_drewN ?_ _ | refine blk_drew ?_ | refine blk_alloc ?_ _)); exact BK809.out)) : gb809 ≠ gb818)); have n14_ := Aside0.mk ((by rw [hg]; exact Nat.ne_of_gt (blk_lt (g := gb809) (o := .cells #[.slice Ao20 t805.length co20] 27 (0, 0)) (by (with_reducible repeat (first | refine blk_drewN ?_ _ | refine blk_drew ?_ | refine blk_alloc ?_ _)); exact BK809.out)) : gb818 ≠ gb809)); have n15_ := Aside0.mk ((by rw [hg]; exact Nat.ne_of_lt (blk_lt (g := gb813) (o := .cells #[.slice Ao26 t810.length co26] 27 (0, 0)) (by (with_reducible repeat (first | refine blk_drewN ?_ _ | refine blk_drew ?_ | refine blk_alloc ?_ _)); exact BK813.out)) : gb813 ≠ gb818)); have n16_ := Aside0.mk ((by rw [hg]; exact Nat.ne_of_gt (blk_lt (g := gb813) (o := .cells #[.slice Ao26 t810.length co26] 27 (0, 0)) (by (with_reducible repeat (first | refine blk_drewN ?_ _ | refine blk_drew ?_ | refine blk_alloc ?_ _)); exact BK813.out)) : gb818 ≠ gb813)); clear HO804; clear HO807; clear HO812; clear HO816; clear BK800; clear BK809; clear BK813; clear HB; have HO804 := n0_; have HO807 := n1_; have HO812 := n2_; have HO816 := n3_; have BK800 := n4_; have BK809 := n5_; have BK813 := n6_; have HB := n7_; have BK818 := n8_; have GW818 := n9_; have GE818 := n10_; have NB800_818 := n11_; have NB818_800 := n12_; have NB809_818 := n13_; have NB818_809 := n14_; have NB813_818 := n15_; have NB818_813 := n16_; clear n0_ n1_ n2_ n3_ n4_ n5_ n6_ n7_ n8_ n9_ n10_ n11_ n12_ n13_ n14_ n15_ n16_; clear hb hbox hg; obtain ⟨Ao32, co32, eo32⟩ := Kd.R_slice HO816.out; subst eo32; have hnb33 := NB818_800.out; have hnc33 := NB800_818.out; have hnb34 := NB818_809.out; have hnc34 := NB809_818.out; have hnb35 := NB818_813.out; have hnc35 := NB813_818.out; have hcz36_0 : w31.cell? ⟨gb818, 0, none⟩ = some (.slice none 0 0) := (blk_cell BK818.out 0).trans rfl; have hfz36_0 := blk_frozen BK818.out 0))
  (try simp only [Act.put, List.setIfInBounds_toArray, List.set_cons_zero, List.set_cons_succ])
  go_cut [40] (fun v40 wc => ∃ (kq : Nat) (x40_10 : Bool), v40 = .bool x40_10 ∧ Aside0 (laws_FnExactParentOf.j0 kq t808 t817 x40_10 l0_0 t805 t810 t814 = some true) ∧ Aside0 (kq ≤ k) ∧ Aside0 (Kd.R (Kd.int .i64) 3 wc w.heap.size (fun k_ => some k_ ≠ ((.slice Ao26 t810.length co26) : Value).ownBlock ∧ some k_ ≠ ((.slice Ao32 t814.length co32) : Value).ownBlock) (.slice Ao20 t805.length co20) t805) ∧ Aside0 (Kd.R (Kd.int .i64) 3 wc w.heap.size (fun k_ => some k_ ≠ ((.slice Ao20 t805.length co20) : Value).ownBlock ∧ some k_ ≠ ((.slice Ao32 t814.length co32) : Value).ownBlock) (.slice Ao26 t810.length co26) t810) ∧ Aside0 (Kd.R (Kd.int .i64) 3 wc w.heap.size (fun k_ => some k_ ≠ ((.slice Ao20 t805.length co20) : Value).ownBlock ∧ some k_ ≠ ((.slice Ao26 t810.length co26) : Value).ownBlock) (.slice Ao32 t814.length co32) t814) ∧ Aside0 (wc.heap[gb800]? = some (.cells #[(.slice A0_0 l0_0.length c0_0)] 24 (0, 0))) ∧ Aside0 (wc.heap[gb809]? = some (.cells #[(.slice Ao20 t805.length co20)] 27 (0, 0))) ∧ Aside0 (wc.heap[gb813]? = some (.cells #[(.slice Ao26 t810.length co26)] 27 (0, 0))) ∧ Aside0 (wc.heap[gb818]? = some (.cells #[(.slice Ao32 t814.length co32)] 27 (0, 0))) ∧ Aside0 (Below w.heap.size w wc))
  case first =>
   have H := HC11.out
   clear HC11
   replace H := Option.bind_eq_some_iff.mp H
   obtain ⟨t819, A370, H⟩ := H
   replace H : (if t819 = true then (laws_FnExactParentOf.j0 k t808 t817 (t817 != t808) l0_0 t805 t810 t814) else (laws_FnExactParentOf.j0 k t808 t817 true l0_0 t805 t810 t814)) = some true := H
   have A37 := Aside0.mk A370
   clear A370
   by_cases c38 : t819 = true
   ·subst c38
    have H1 : (laws_FnExactParentOf.j0 k t808 t817 (t817 != t808) l0_0 t805 t810 t814) = some true := by rw [if_pos rfl] at H; exact H
    clear H
    have H := H1
    clear H1
    have H' := Aside0.mk H
    clear H
    have hnb39 := NB818_800.out
    have hnc39 := NB800_818.out
    have hnb40 := NB818_809.out
    have hnc40 := NB809_818.out
    have hnb41 := NB818_813.out
    have hnc41 := NB813_818.out
    have hcz42_0 : w31.cell? ⟨gb818, 0, none⟩ = some (.slice none 0 0) := (blk_cell BK818.out 0).trans rfl
    have hfz42_0 := blk_frozen BK818.out 0
    have hnb43 := NB809_800.out
    have hnc43 := NB800_809.out
    have hnb44 := NB809_813.out
    have hnc44 := NB813_809.out
    have hcz45_0 : w31.cell? ⟨gb809, 0, none⟩ = some (.slice Ao20 t805.length co20) := (blk_cell BK809.out 0).trans rfl
    have hfz45_0 := blk_frozen BK809.out 0
    go_wp2_with (first | ((with_reducible refine gate_callee (f := 18) rfl ?_); refine goesL_ (some 34) rfl rfl Try.func18 (by kernel_rfl) rfl #[.agg #[.slice Ao32 t814.length co32], .agg #[.slice Ao20 t805.length co20]] rfl (by (try simp only [List.map_toArray, List.map_cons, List.map_nil]); first | done | rfl | (simp only [List.length_drop, List.length_take]; rfl)) ?_; (with_reducible refine (laws_eqSemigroup.calls k _ _ t814 _ _ t805 true _ ?side1 ?side2 ?side3 ?side4 A37.out).mono ?_); (case side1 => refine (Kd.R_reads' (e := 3) (base := w.heap.size) (ok := fun k_ => (((True ∧ some k_ ≠ (.slice Ao17 t802.length co17 : Value).ownBlock) ∧ some k_ ≠ (.slice Ao20 t805.length co20 : Value).ownBlock) ∧ some k_ ≠ (.slice Ao26 t810.length co26 : Value).ownBlock)) (n := t814.length) (c := co32) ?_).2.2; exact (by (with_reducible repeat (first | apply Kd.R_alloc | apply Kd.R_drewN | apply Kd.R_drew)); exact (Kd.R_mono (Kd.R_far (p := ⟨gb818, 0, none⟩) (Kd.R_types HO816.out BK818.out (by decide)) (fun _ hk => hk.2) (.slice Ao32 t814.length co32)) (fun _ h_ => h_.1)))); (case side2 => exact (Kd.R_reads' HO816.out).2.1); (case side3 => refine (Kd.R_reads' (e := 3) (base := w.heap.size) (ok := fun k_ => (((True ∧ some k_ ≠ (.slice Ao17 t802.length co17 : Value).ownBlock) ∧ some k_ ≠ (.slice Ao26 t810.length co26 : Value).ownBlock) ∧ some k_ ≠ (.slice Ao32 t814.length co32 : Value).ownBlock)) (n := t805.length) (c := co20) ?_).2.2; exact (by (with_reducible repeat (first | apply Kd.R_alloc | apply Kd.R_drewN | apply Kd.R_drew)); exact (Kd.R_mono (Kd.R_far (p := ⟨gb818, 0, none⟩) (Kd.R_types HO807.out BK818.out (by decide)) (fun _ hk => hk.2) (.slice Ao32 t814.length co32)) (fun _ h_ => h_.1)))); (case side4 => exact (Kd.R_reads' HO807.out).2.1); rintro e w46 ⟨rfl, hb⟩; refine ⟨_, rfl, ?_⟩; have n0_ := Aside0.mk (Kd.R_below (by (with_reducible repeat (first | apply Kd.R_alloc | apply Kd.R_drewN | apply Kd.R_drew)); exact (Kd.R_mono (Kd.R_far (p := ⟨gb818, 0, none⟩) (Kd.R_types HO804.out BK818.out (by decide)) (fun _ hk => hk.2) (.slice Ao32 t814.length co32)) (fun _ h_ => h_.1))) hb); have n1_ := Aside0.mk (Kd.R_below (by (with_reducible repeat (first | apply Kd.R_alloc | apply Kd.R_drewN | apply Kd.R_drew)); exact (Kd.R_mono (Kd.R_far (p := ⟨gb818, 0, none⟩) (Kd.R_types HO807.out BK818.out (by decide)) (fun _ hk => hk.2) (.slice Ao32 t814.length co32)) (fun _ h_ => h_.1))) hb); have n2_ := Aside0.mk (Kd.R_below (by (with_reducible repeat (first | apply Kd.R_alloc | apply Kd.R_drewN | apply Kd.R_drew)); exact (Kd.R_mono (Kd.R_far (p := ⟨gb818, 0, none⟩) (Kd.R_types HO812.out BK818.out (by decide)) (fun _ hk => hk.2) (.slice Ao32 t814.length co32)) (fun _ h_ => h_.1))) hb); have n3_ := Aside0.mk (Kd.R_below (by (with_reducible repeat (first | apply Kd.R_alloc | apply Kd.R_drewN | apply Kd.R_drew)); exact (Kd.R_mono (Kd.R_far (p := ⟨gb818, 0, none⟩) (Kd.R_types HO816.out BK818.out (by decide)) (fun _ hk => hk.2) (.slice Ao32 t814.length co32)) (fun _ h_ => h_.1))) hb); have n4_ := Aside0.mk (blk_below (g := gb800) (o := .cells #[.slice A0_0 l0_0.length c0_0] 24 (0, 0)) (by (with_reducible repeat (first | refine blk_drewN ?_ _ | refine blk_drew ?_ | refine blk_alloc ?_ _)); refine blk_far ?_ NB800_818.out _; (with_reducible repeat (first | refine blk_drewN ?_ _ | refine blk_drew ?_ | refine blk_alloc ?_ _)); exact BK800.out) hb); have n5_ := Aside0.mk (blk_below (g := gb809) (o := .cells #[.slice Ao20 t805.length co20] 27 (0, 0)) (by (with_reducible repeat (first | refine blk_drewN ?_ _ | refine blk_drew ?_ | refine blk_alloc ?_ _)); refine blk_far ?_ NB809_818.out _; (with_reducible repeat (first | refine blk_drewN ?_ _ | refine blk_drew ?_ | refine blk_alloc ?_ _)); exact BK809.out) hb); have n6_ := Aside0.mk (blk_below (g := gb813) (o := .cells #[.slice Ao26 t810.length co26] 27 (0, 0)) (by (with_reducible repeat (first | refine blk_drewN ?_ _ | refine blk_drew ?_ | refine blk_alloc ?_ _)); refine blk_far ?_ NB813_818.out _; (with_reducible repeat (first | refine blk_drewN ?_ _ | refine blk_drew ?_ | refine blk_alloc ?_ _)); exact BK813.out) hb); have n7_ := Aside0.mk (blk_below (g := gb818) (o := .cells #[.slice Ao32 t814.length co32] 27 (0, 0)) (by (with_reducible repeat (first | refine blk_drewN ?_ _ | refine blk_drew ?_ | refine blk_alloc ?_ _)); refine blk_put (cs := #[.slice none 0 0]) ?_ 0 _ rfl; (with_reducible repeat (first | refine blk_drewN ?_ _ | refine blk_drew ?_ | refine blk_alloc ?_ _)); exact BK818.out) hb); have n8_ := Aside0.mk (below_step (by repeat (first | (with_reducible first | exact HB.out | apply below_alloc | apply pw_below_drewN | apply below_drew1 | refine below_set ?_ GE800.out | refine below_set ?_ GE809.out | refine below_set ?_ GE813.out | refine below_set ?_ GE818.out) | exact HB.out)) hb); clear HO804; clear HO807; clear HO812; clear HO816; clear BK800; clear BK809; clear BK813; clear BK818; clear HB; have HO804 := n0_; have HO807 := n1_; have HO812 := n2_; have HO816 := n3_; have BK800 := n4_; have BK809 := n5_; have BK813 := n6_; have BK818 := n7_; have HB := n8_; clear n0_ n1_ n2_ n3_ n4_ n5_ n6_ n7_ n8_; (try clear hb); (try clear hb2); (try clear hk); (try clear hi)))
    go_meet
    case rel => exact ⟨_, ((t817 != t808)), (by first | rfl | (simp; done) | (simp [*]; done)), H', ⟨by first | omega | exact Nat.le_refl _⟩, ⟨by (with_reducible repeat (first | apply Kd.R_alloc | apply Kd.R_drewN | apply Kd.R_drew)); exact Kd.R_mono HO807.out (fun _ hk => by first | exact ⟨hk.1.2, hk.2⟩ | simp_all)⟩, ⟨by (with_reducible repeat (first | apply Kd.R_alloc | apply Kd.R_drewN | apply Kd.R_drew)); exact Kd.R_mono HO812.out (fun _ hk => by first | exact ⟨hk.1.2, hk.2⟩ | simp_all)⟩, ⟨by (with_reducible repeat (first | apply Kd.R_alloc | apply Kd.R_drewN | apply Kd.R_drew)); exact Kd.R_mono HO816.out (fun _ hk => by first | exact ⟨hk.1.2, hk.2⟩ | simp_all)⟩, ⟨by (with_reducible repeat (first | refine blk_drewN ?_ _ | refine blk_drew ?_ | refine blk_alloc ?_ _)); exact BK800.out⟩, ⟨by (with_reducible repeat (first | refine blk_drewN ?_ _ | refine blk_drew ?_ | refine blk_alloc ?_ _)); exact BK809.out⟩, ⟨by (with_reducible repeat (first | refine blk_drewN ?_ _ | refine blk_drew ?_ | refine blk_alloc ?_ _)); exact BK813.out⟩, ⟨by (with_reducible repeat (first | refine blk_drewN ?_ _ | refine blk_drew ?_ | refine blk_alloc ?_ _)); exact BK818.out⟩, ⟨by repeat (first | (with_reducible first | exact HB.out | apply below_alloc | apply pw_below_drewN | apply below_drew1 | refine below_set ?_ GE800.out | refine below_set ?_ GE809.out | refine below_set ?_ GE813.out | refine below_set ?_ GE818.out) | exact HB.out)⟩⟩
   ·replace c38 := Bool.eq_false_iff.mpr c38
    subst c38
    have H1 : (laws_FnExactParentOf.j0 k t808 t817 true l0_0 t805 t810 t814) = some true := by rw [if_neg (show ¬ (false = true) by decide)] at H; exact H
    clear H
    have H := H1
    clear H1
    have H' := Aside0.mk H
    clear H
    have hnb47 := NB818_800.out
    have hnc47 := NB800_818.out
    have hnb48 := NB818_809.out
    have hnc48 := NB809_818.out
    have hnb49 := NB818_813.out
    have hnc49 := NB813_818.out
    have hcz50_0 : w31.cell? ⟨gb818, 0, none⟩ = some (.slice none 0 0) := (blk_cell BK818.out 0).trans rfl
    have hfz50_0 := blk_frozen BK818.out 0
    have hnb51 := NB809_800.out
    have hnc51 := NB800_809.out
    have hnb52 := NB809_813.out
    have hnc52 := NB813_809.out
    have hcz53_0 : w31.cell? ⟨gb809, 0, none⟩ = some (.slice Ao20 t805.length co20) := (blk_cell BK809.out 0).trans rfl
    have hfz53_0 := blk_frozen BK809.out 0
    go_wp2_with (first | ((with_reducible refine gate_callee (f := 18) rfl ?_); refine goesL_ (some 34) rfl rfl Try.func18 (by kernel_rfl) rfl #[.agg #[.slice Ao32 t814.length co32], .agg #[.slice Ao20 t805.length co20]] rfl (by (try simp only [List.map_toArray, List.map_cons, List.map_nil]); first | done | rfl | (simp only [List.length_drop, List.length_take]; rfl)) ?_; (with_reducible refine (laws_eqSemigroup.calls k _ _ t814 _ _ t805 false _ ?side1 ?side2 ?side3 ?side4 A37.out).mono ?_); (case side1 => refine (Kd.R_reads' (e := 3) (base := w.heap.size) (ok := fun k_ => (((True ∧ some k_ ≠ (.slice Ao17 t802.length co17 : Value).ownBlock) ∧ some k_ ≠ (.slice Ao20 t805.length co20 : Value).ownBlock) ∧ some k_ ≠ (.slice Ao26 t810.length co26 : Value).ownBlock)) (n := t814.length) (c := co32) ?_).2.2; exact (by (with_reducible repeat (first | apply Kd.R_alloc | apply Kd.R_drewN | apply Kd.R_drew)); exact (Kd.R_mono (Kd.R_far (p := ⟨gb818, 0, none⟩) (Kd.R_types HO816.out BK818.out (by decide)) (fun _ hk => hk.2) (.slice Ao32 t814.length co32)) (fun _ h_ => h_.1)))); (case side2 => exact (Kd.R_reads' HO816.out).2.1); (case side3 => refine (Kd.R_reads' (e := 3) (base := w.heap.size) (ok := fun k_ => (((True ∧ some k_ ≠ (.slice Ao17 t802.length co17 : Value).ownBlock) ∧ some k_ ≠ (.slice Ao26 t810.length co26 : Value).ownBlock) ∧ some k_ ≠ (.slice Ao32 t814.length co32 : Value).ownBlock)) (n := t805.length) (c := co20) ?_).2.2; exact (by (with_reducible repeat (first | apply Kd.R_alloc | apply Kd.R_drewN | apply Kd.R_drew)); exact (Kd.R_mono (Kd.R_far (p := ⟨gb818, 0, none⟩) (Kd.R_types HO807.out BK818.out (by decide)) (fun _ hk => hk.2) (.slice Ao32 t814.length co32)) (fun _ h_ => h_.1)))); (case side4 => exact (Kd.R_reads' HO807.out).2.1); rintro e w54 ⟨rfl, hb⟩; refine ⟨_, rfl, ?_⟩; have n0_ := Aside0.mk (Kd.R_below (by (with_reducible repeat (first | apply Kd.R_alloc | apply Kd.R_drewN | apply Kd.R_drew)); exact (Kd.R_mono (Kd.R_far (p := ⟨gb818, 0, none⟩) (Kd.R_types HO804.out BK818.out (by decide)) (fun _ hk => hk.2) (.slice Ao32 t814.length co32)) (fun _ h_ => h_.1))) hb); have n1_ := Aside0.mk (Kd.R_below (by (with_reducible repeat (first | apply Kd.R_alloc | apply Kd.R_drewN | apply Kd.R_drew)); exact (Kd.R_mono (Kd.R_far (p := ⟨gb818, 0, none⟩) (Kd.R_types HO807.out BK818.out (by decide)) (fun _ hk => hk.2) (.slice Ao32 t814.length co32)) (fun _ h_ => h_.1))) hb); have n2_ := Aside0.mk (Kd.R_below (by (with_reducible repeat (first | apply Kd.R_alloc | apply Kd.R_drewN | apply Kd.R_drew)); exact (Kd.R_mono (Kd.R_far (p := ⟨gb818, 0, none⟩) (Kd.R_types HO812.out BK818.out (by decide)) (fun _ hk => hk.2) (.slice Ao32 t814.length co32)) (fun _ h_ => h_.1))) hb); have n3_ := Aside0.mk (Kd.R_below (by (with_reducible repeat (first | apply Kd.R_alloc | apply Kd.R_drewN | apply Kd.R_drew)); exact (Kd.R_mono (Kd.R_far (p := ⟨gb818, 0, none⟩) (Kd.R_types HO816.out BK818.out (by decide)) (fun _ hk => hk.2) (.slice Ao32 t814.length co32)) (fun _ h_ => h_.1))) hb); have n4_ := Aside0.mk (blk_below (g := gb800) (o := .cells #[.slice A0_0 l0_0.length c0_0] 24 (0, 0)) (by (with_reducible repeat (first | refine blk_drewN ?_ _ | refine blk_drew ?_ | refine blk_alloc ?_ _)); refine blk_far ?_ NB800_818.out _; (with_reducible repeat (first | refine blk_drewN ?_ _ | refine blk_drew ?_ | refine blk_alloc ?_ _)); exact BK800.out) hb); have n5_ := Aside0.mk (blk_below (g := gb809) (o := .cells #[.slice Ao20 t805.length co20] 27 (0, 0)) (by (with_reducible repeat (first | refine blk_drewN ?_ _ | refine blk_drew ?_ | refine blk_alloc ?_ _)); refine blk_far ?_ NB809_818.out _; (with_reducible repeat (first | refine blk_drewN ?_ _ | refine blk_drew ?_ | refine blk_alloc ?_ _)); exact BK809.out) hb); have n6_ := Aside0.mk (blk_below (g := gb813) (o := .cells #[.slice Ao26 t810.length co26] 27 (0, 0)) (by (with_reducible repeat (first | refine blk_drewN ?_ _ | refine blk_drew ?_ | refine blk_alloc ?_ _)); refine blk_far ?_ NB813_818.out _; (with_reducible repeat (first | refine blk_drewN ?_ _ | refine blk_drew ?_ | refine blk_alloc ?_ _)); exact BK813.out) hb); have n7_ := Aside0.mk (blk_below (g := gb818) (o := .cells #[.slice Ao32 t814.length co32] 27 (0, 0)) (by (with_reducible repeat (first | refine blk_drewN ?_ _ | refine blk_drew ?_ | refine blk_alloc ?_ _)); refine blk_put (cs := #[.slice none 0 0]) ?_ 0 _ rfl; (with_reducible repeat (first | refine blk_drewN ?_ _ | refine blk_drew ?_ | refine blk_alloc ?_ _)); exact BK818.out) hb); have n8_ := Aside0.mk (below_step (by repeat (first | (with_reducible first | exact HB.out | apply below_alloc | apply pw_below_drewN | apply below_drew1 | refine below_set ?_ GE800.out | refine below_set ?_ GE809.out | refine below_set ?_ GE813.out | refine below_set ?_ GE818.out) | exact HB.out)) hb); clear HO804; clear HO807; clear HO812; clear HO816; clear BK800; clear BK809; clear BK813; clear BK818; clear HB; have HO804 := n0_; have HO807 := n1_; have HO812 := n2_; have HO816 := n3_; have BK800 := n4_; have BK809 := n5_; have BK813 := n6_; have BK818 := n7_; have HB := n8_; clear n0_ n1_ n2_ n3_ n4_ n5_ n6_ n7_ n8_; (try clear hb); (try clear hb2); (try clear hk); (try clear hi)))
    go_meet
    case rel => exact ⟨_, (true), (by first | rfl | (simp; done) | (simp [*]; done)), H', ⟨by first | omega | exact Nat.le_refl _⟩, ⟨by (with_reducible repeat (first | apply Kd.R_alloc | apply Kd.R_drewN | apply Kd.R_drew)); exact Kd.R_mono HO807.out (fun _ hk => by first | exact ⟨hk.1.2, hk.2⟩ | simp_all)⟩, ⟨by (with_reducible repeat (first | apply Kd.R_alloc | apply Kd.R_drewN | apply Kd.R_drew)); exact Kd.R_mono HO812.out (fun _ hk => by first | exact ⟨hk.1.2, hk.2⟩ | simp_all)⟩, ⟨by (with_reducible repeat (first | apply Kd.R_alloc | apply Kd.R_drewN | apply Kd.R_drew)); exact Kd.R_mono HO816.out (fun _ hk => by first | exact ⟨hk.1.2, hk.2⟩ | simp_all)⟩, ⟨by (with_reducible repeat (first | refine blk_drewN ?_ _ | refine blk_drew ?_ | refine blk_alloc ?_ _)); exact BK800.out⟩, ⟨by (with_reducible repeat (first | refine blk_drewN ?_ _ | refine blk_drew ?_ | refine blk_alloc ?_ _)); exact BK809.out⟩, ⟨by (with_reducible repeat (first | refine blk_drewN ?_ _ | refine blk_drew ?_ | refine blk_alloc ?_ _)); exact BK813.out⟩, ⟨by (with_reducible repeat (first | refine blk_drewN ?_ _ | refine blk_drew ?_ | refine blk_alloc ?_ _)); exact BK818.out⟩, ⟨by repeat (first | (with_reducible first | exact HB.out | apply below_alloc | apply pw_below_drewN | apply below_drew1 | refine below_set ?_ GE800.out | refine below_set ?_ GE809.out | refine below_set ?_ GE813.out | refine below_set ?_ GE818.out) | exact HB.out)⟩⟩
  case rest =>
   clear HC11
   try clear c1
   try clear c2
   try clear p2
   try clear c3
   try clear c3b0
   try clear c4
   try clear c5
   try clear c6
   try clear c14
   try clear c16
   try clear c18
   try clear c21
   try clear c27
   try clear c28
   try clear c29
   try clear c33
   try clear c34
   try clear c35
   try clear c38
   try clear c39
   try clear c40
   try clear c41
   try clear c43
   try clear c44
   try clear c47
   try clear c48
   try clear c49
   try clear c51
   try clear c52
   try clear hcz13_0
   try clear hcz15_0
   try clear hcz22_0
   try clear hcz23_0
   try clear hcz29_0
   try clear hcz36_0
   try clear hcz42_0
   try clear hcz45_0
   try clear hcz50_0
   try clear hcz53_0
   try clear hcz5_0
   try clear hfz13_0
   try clear hfz15_0
   try clear hfz22_0
   try clear hfz23_0
   try clear hfz29_0
   try clear hfz36_0
   try clear hfz42_0
   try clear hfz45_0
   try clear hfz50_0
   try clear hfz53_0
   try clear hfz5_0
   obtain ⟨kq, x40_10, rfl, HA, HJ10, HO_810000, HO_814000, HO_819000, BK800, BK809, BK813, BK818, HB⟩ := hcut
   cases kq with
   | zero => exact absurd HA.out (by simp [laws_FnExactParentOf.j0])
   | succ kj10 =>
    have H := HA.out
    clear HA
    simp only [laws_FnExactParentOf.j0] at H
    by_cases c55 : x40_10 = true
    ·subst c55
     have H1 : (some false) = some true := by rw [if_pos rfl] at H; exact H
     clear H
     have H := H1
     clear H1
     exact absurd (Option.some.inj H) (by decide)
    ·replace c55 := Bool.eq_false_iff.mpr c55
     subst c55
     have H1 : ((laws_toSemigroup.f kj10 l0_0).bind fun t820 => ((laws_eqSemigroup.f kj10 t810 t820).bind fun t823 => (if t823 = true then ((laws_markSemigroup.f kj10 t810 1).bind fun bt824 => (if bt824.1 < 0 then (laws_FnExactParentOf.j1 kj10 t808 true l0_0 t805 t814) else ((laws_eqSemigroup.f kj10 t814 t805).bind fun t826 => (if t826 = true then (laws_FnExactParentOf.j1 kj10 t808 (t817 != t808) l0_0 t805 t814) else (laws_FnExactParentOf.j1 kj10 t808 true l0_0 t805 t814))))) else (some false)))) = some true := by rw [if_neg (show ¬ (false = true) by decide)] at H; exact H
     clear H
     have H := H1
     clear H1
     replace H := Option.bind_eq_some_iff.mp H
     obtain ⟨t820, A560, H⟩ := H
     replace H : ((laws_eqSemigroup.f kj10 t810 t820).bind fun t823 => (if t823 = true then ((laws_markSemigroup.f kj10 t810 1).bind fun bt824 => (if bt824.1 < 0 then (laws_FnExactParentOf.j1 kj10 t808 true l0_0 t805 t814) else ((laws_eqSemigroup.f kj10 t814 t805).bind fun t826 => (if t826 = true then (laws_FnExactParentOf.j1 kj10 t808 (t817 != t808) l0_0 t805 t814) else (laws_FnExactParentOf.j1 kj10 t808 true l0_0 t805 t814))))) else (some false))) = some true := H
     have A56 := Aside0.mk A560
     clear A560
     replace H := Option.bind_eq_some_iff.mp H
     obtain ⟨t823, A570, H⟩ := H
     replace H : (if t823 = true then ((laws_markSemigroup.f kj10 t810 1).bind fun bt824 => (if bt824.1 < 0 then (laws_FnExactParentOf.j1 kj10 t808 true l0_0 t805 t814) else ((laws_eqSemigroup.f kj10 t814 t805).bind fun t826 => (if t826 = true then (laws_FnExactParentOf.j1 kj10 t808 (t817 != t808) l0_0 t805 t814) else (laws_FnExactParentOf.j1 kj10 t808 true l0_0 t805 t814))))) else (some false)) = some true := H
     have A57 := Aside0.mk A570
     clear A570
     by_cases c58 : t823 = true
     ·subst c58
      have H1 : ((laws_markSemigroup.f kj10 t810 1).bind fun bt824 => (if bt824.1 < 0 then (laws_FnExactParentOf.j1 kj10 t808 true l0_0 t805 t814) else ((laws_eqSemigroup.f kj10 t814 t805).bind fun t826 => (if t826 = true then (laws_FnExactParentOf.j1 kj10 t808 (t817 != t808) l0_0 t805 t814) else (laws_FnExactParentOf.j1 kj10 t808 true l0_0 t805 t814))))) = some true := by rw [if_pos rfl] at H; exact H
      clear H
      have H := H1
      clear H1
      replace H := Option.bind_eq_some_iff.mp H
      obtain ⟨⟨t824, t825⟩, A590, H⟩ := H
      replace H : (if t824 < 0 then (laws_FnExactParentOf.j1 kj10 t808 true l0_0 t805 t814) else ((laws_eqSemigroup.f kj10 t814 t805).bind fun t826 => (if t826 = true then (laws_FnExactParentOf.j1 kj10 t808 (t817 != t808) l0_0 t805 t814) else (laws_FnExactParentOf.j1 kj10 t808 true l0_0 t805 t814)))) = some true := H
      have A59 := Aside0.mk A590
      clear A590
      have HC60 := Aside0.mk H
      clear H
      try go_wp2
      have n0_ := Aside0.mk (Kd.R_drew HO_810000.out)
      have n1_ := Aside0.mk (Kd.R_drew HO_814000.out)
      have n2_ := Aside0.mk (Kd.R_drew HO_819000.out)
      have n3_ := Aside0.mk (blk_drew BK800.out)
      have n4_ := Aside0.mk (blk_drew BK809.out)
      have n5_ := Aside0.mk (blk_drew BK813.out)
      have n6_ := Aside0.mk (blk_drew BK818.out)
      have n7_ := Aside0.mk (below_drew1 HB.out)
      clear HO_810000
      clear HO_814000
      clear HO_819000
      clear BK800
      clear BK809
      clear BK813
      clear BK818
      clear HB
      have HO_810000 := n0_
      have HO_814000 := n1_
      have HO_819000 := n2_
      have BK800 := n3_
      have BK809 := n4_
      have BK813 := n5_
      have BK818 := n6_
      have HB := n7_
      clear n0_ n1_ n2_ n3_ n4_ n5_ n6_ n7_
      refine start_ (n := 5) (S := fun w' => w'.cell? ⟨gb813, 0, none⟩ = some (.slice Ao26 t810.length co26) ∧ w'.cell? ⟨gb800, 0, none⟩ = some (.slice A0_0 l0_0.length c0_0)) (ds := []) #[Z,Z,Z,Z,Z] (by kernel_rfl) rfl rfl ⟨(blk_cell BK813.out 0).trans rfl, (blk_cell BK800.out 0).trans rfl⟩ (fun hHeld => ?_)
      generalize wc.drew = w61 at HO_810000 HO_814000 HO_819000 BK800 BK809 BK813 BK818 HB hHeld ⊢
      refine take_ (i := 0) (N := some 41) (v := ?_) (a' := ?_) #[Y,Z,Z,Z,Z] rfl rfl (by kernel_rfl) (fun _ _ _ h => h) (Or.inl ⟨by rfl, ?_⟩) hHeld ?_ ?_
      rotate_left
      ·rintro w' ⟨s0, s1⟩
       go_simp
       with_reducible rfl
      rotate_left
      ·simp only [Act.put, qa, qb, qc, i64_w, i32_w]
       rfl
      refine take_ (i := 1) (N := some 42) (v := ?_) (a' := ?_) #[Y,Y,Z,Z,Z] rfl rfl (by kernel_rfl) (fun _ _ _ h => h) (Or.inl ⟨by rfl, ?_⟩) hHeld ?_ ?_
      rotate_left
      ·rintro w' ⟨s0, s1⟩
       go_simp
       with_reducible rfl
      rotate_left
      ·simp only [Act.put, qa, qb, qc, i64_w, i32_w]
       rfl
      refine one_ (i := 2) (N := some 43) #[Y,Y,Y,Z,Z] rfl rfl (by kernel_rfl) (by decide) (fun K hK => ?_)
      refine goes_ Try.func16 (by kernel_rfl) rfl #[.agg #[.slice A0_0 l0_0.length c0_0]] (by rfl) rfl rfl (by (try simp only [List.map_toArray, List.map_cons, List.map_nil]); first | done | rfl | (simp only [List.length_drop, List.length_take]; rfl)) ?_
      with_reducible refine (laws_toSemigroup.calls kj10 _ _ l0_0 t820 _ ?side1 ?side2 A56.out).mono ?_
      (case side1 => repeat (first | exact (Kd.C_below HR0_0.out HB.out) | (with_reducible refine Kd.C_alloc ?_ _) | (with_reducible refine Kd.C_drewN ?_ _) | (with_reducible refine Kd.C_drew ?_)))
      (case side2 => exact HC0_0.out)
      rintro e w62 ⟨v821, rfl, ho0, hb⟩
      refine ⟨_, rfl, ?_⟩
      have n0_ := Aside0.mk (Kd.R_elder' (by (with_reducible repeat (first | apply Kd.R_alloc | apply Kd.R_drewN | apply Kd.R_drew)); exact HO_810000.out) (Kd.R_base ho0) hb)
      have n1_ := Aside0.mk (Kd.R_elder' (by (with_reducible repeat (first | apply Kd.R_alloc | apply Kd.R_drewN | apply Kd.R_drew)); exact HO_814000.out) (Kd.R_base ho0) hb)
      have n2_ := Aside0.mk (Kd.R_elder' (by (with_reducible repeat (first | apply Kd.R_alloc | apply Kd.R_drewN | apply Kd.R_drew)); exact HO_819000.out) (Kd.R_base ho0) hb)
      have n3_ := Aside0.mk (Kd.R_lower (Kd.R_new' (Kd.R_new' (Kd.R_new' ho0 (Kd.R_lt (by (with_reducible repeat (first | apply Kd.R_alloc | apply Kd.R_drewN | apply Kd.R_drew)); exact HO_810000.out))) (Kd.R_lt (by (with_reducible repeat (first | apply Kd.R_alloc | apply Kd.R_drewN | apply Kd.R_drew)); exact HO_814000.out))) (Kd.R_lt (by (with_reducible repeat (first | apply Kd.R_alloc | apply Kd.R_drewN | apply Kd.R_drew)); exact HO_819000.out))) (below_size (by repeat (first | (with_reducible first | exact HB.out | apply below_alloc | apply pw_below_drewN | apply below_drew1 | refine below_set ?_ GE800.out | refine below_set ?_ GE809.out | refine below_set ?_ GE813.out | refine below_set ?_ GE818.out) | exact HB.out))))
      have n4_ := Aside0.mk (blk_below (g := gb800) (o := .cells #[.slice A0_0 l0_0.length c0_0] 24 (0, 0)) (by (with_reducible repeat (first | refine blk_drewN ?_ _ | refine blk_drew ?_ | refine blk_alloc ?_ _)); exact BK800.out) hb)
      have n5_ := Aside0.mk (blk_below (g := gb809) (o := .cells #[.slice Ao20 t805.length co20] 27 (0, 0)) (by (with_reducible repeat (first | refine blk_drewN ?_ _ | refine blk_drew ?_ | refine blk_alloc ?_ _)); exact BK809.out) hb)
      have n6_ := Aside0.mk (blk_below (g := gb813) (o := .cells #[.slice Ao26 t810.length co26] 27 (0, 0)) (by (with_reducible repeat (first | refine blk_drewN ?_ _ | refine blk_drew ?_ | refine blk_alloc ?_ _)); exact BK813.out) hb)
      have n7_ := Aside0.mk (blk_below (g := gb818) (o := .cells #[.slice Ao32 t814.length co32] 27 (0, 0)) (by (with_reducible repeat (first | refine blk_drewN ?_ _ | refine blk_drew ?_ | refine blk_alloc ?_ _)); exact BK818.out) hb)
      have n8_ := Aside0.mk (below_step (by repeat (first | (with_reducible first | exact HB.out | apply below_alloc | apply pw_below_drewN | apply below_drew1 | refine below_set ?_ GE800.out | refine below_set ?_ GE809.out | refine below_set ?_ GE813.out | refine below_set ?_ GE818.out) | exact HB.out)) hb)
      clear HO_810000
      clear HO_814000
      clear HO_819000
      clear BK800
      clear BK809
      clear BK813
      clear BK818
      clear HB
      have HO_810000 := n0_
      have HO_814000 := n1_
      have HO_819000 := n2_
      have HO822 := n3_
      have BK800 := n4_
      have BK809 := n5_
      have BK813 := n6_
      have BK818 := n7_
      have HB := n8_
      clear n0_ n1_ n2_ n3_ n4_ n5_ n6_ n7_ n8_
      (try clear hb)
      (try clear hb2)
      (try clear hk)
      (try clear hi)
      (try clear ho0)
      obtain ⟨Ao63, co63, eo63⟩ := Kd.R_slice HO822.out
      (first | subst eo63 | (injection eo63 with f1_ f2_ f3_; have f4_ := f1_.symm; have f5_ := f3_.symm; clear f1_ f2_ f3_; subst f4_; subst f5_))
      refine hK.out _ _ ⟨(blk_cell BK813.out 0).trans rfl, (blk_cell BK800.out 0).trans rfl⟩ (fun hHeld => ?_)
      clear hK K
      refine norm_ (a' := ?_) ?_ ?_
      rotate_left
      ·show Act.put _ (some 43) _ = _
       simp only [Act.put, qa, qb, qc, i64_w, i32_w]
       rfl
      refine one_ (i := 3) (N := some 44) #[Y,Y,Y,Y,Z] rfl rfl (by kernel_rfl) (by decide) (fun K hK => ?_)
      refine goes_ Try.func18 (by kernel_rfl) rfl #[.agg #[.slice Ao26 t810.length co26], .agg #[.slice Ao63 t820.length co63]] (by rfl) rfl rfl (by (try simp only [List.map_toArray, List.map_cons, List.map_nil]); first | done | rfl | (simp only [List.length_drop, List.length_take]; rfl)) ?_
      with_reducible refine (laws_eqSemigroup.calls kj10 _ _ t810 _ _ t820 true _ ?side1 ?side2 ?side3 ?side4 A57.out).mono ?_
      (case side1 => repeat (first | exact (Kd.R_reads' HO_814000.out).2.2 | (with_reducible refine Kd.C_alloc ?_ _) | (with_reducible refine Kd.C_drewN ?_ _) | (with_reducible refine Kd.C_drew ?_)))
      (case side2 => exact (Kd.R_reads' HO_814000.out).2.1)
      (case side3 => repeat (first | exact (Kd.R_reads' HO822.out).2.2 | (with_reducible refine Kd.C_alloc ?_ _) | (with_reducible refine Kd.C_drewN ?_ _) | (with_reducible refine Kd.C_drew ?_)))
      (case side4 => exact (Kd.R_reads' HO822.out).2.1)
      rintro e w64 ⟨rfl, hb⟩
      refine ⟨_, rfl, ?_⟩
      have n0_ := Aside0.mk (Kd.R_below (by (with_reducible repeat (first | apply Kd.R_alloc | apply Kd.R_drewN | apply Kd.R_drew)); exact HO_810000.out) hb)
      have n1_ := Aside0.mk (Kd.R_below (by (with_reducible repeat (first | apply Kd.R_alloc | apply Kd.R_drewN | apply Kd.R_drew)); exact HO_814000.out) hb)
      have n2_ := Aside0.mk (Kd.R_below (by (with_reducible repeat (first | apply Kd.R_alloc | apply Kd.R_drewN | apply Kd.R_drew)); exact HO_819000.out) hb)
      have n3_ := Aside0.mk (Kd.R_below (by (with_reducible repeat (first | apply Kd.R_alloc | apply Kd.R_drewN | apply Kd.R_drew)); exact HO822.out) hb)
      have n4_ := Aside0.mk (blk_below (g := gb800) (o := .cells #[.slice A0_0 l0_0.length c0_0] 24 (0, 0)) (by (with_reducible repeat (first | refine blk_drewN ?_ _ | refine blk_drew ?_ | refine blk_alloc ?_ _)); exact BK800.out) hb)
      have n5_ := Aside0.mk (blk_below (g := gb809) (o := .cells #[.slice Ao20 t805.length co20] 27 (0, 0)) (by (with_reducible repeat (first | refine blk_drewN ?_ _ | refine blk_drew ?_ | refine blk_alloc ?_ _)); exact BK809.out) hb)
      have n6_ := Aside0.mk (blk_below (g := gb813) (o := .cells #[.slice Ao26 t810.length co26] 27 (0, 0)) (by (with_reducible repeat (first | refine blk_drewN ?_ _ | refine blk_drew ?_ | refine blk_alloc ?_ _)); exact BK813.out) hb)
      have n7_ := Aside0.mk (blk_below (g := gb818) (o := .cells #[.slice Ao32 t814.length co32] 27 (0, 0)) (by (with_reducible repeat (first | refine blk_drewN ?_ _ | refine blk_drew ?_ | refine blk_alloc ?_ _)); exact BK818.out) hb)
      have n8_ := Aside0.mk (below_step (by repeat (first | (with_reducible first | exact HB.out | apply below_alloc | apply pw_below_drewN | apply below_drew1 | refine below_set ?_ GE800.out | refine below_set ?_ GE809.out | refine below_set ?_ GE813.out | refine below_set ?_ GE818.out) | exact HB.out)) hb)
      clear HO_810000
      clear HO_814000
      clear HO_819000
      clear HO822
      clear BK800
      clear BK809
      clear BK813
      clear BK818
      clear HB
      have HO_810000 := n0_
      have HO_814000 := n1_
      have HO_819000 := n2_
      have HO822 := n3_
      have BK800 := n4_
      have BK809 := n5_
      have BK813 := n6_
      have BK818 := n7_
      have HB := n8_
      clear n0_ n1_ n2_ n3_ n4_ n5_ n6_ n7_ n8_
      (try clear hb)
      (try clear hb2)
      (try clear hk)
      (try clear hi)
      refine hK.out _ _ ⟨(blk_cell BK813.out 0).trans rfl, (blk_cell BK800.out 0).trans rfl⟩ (fun hHeld => ?_)
      clear hK K
      refine norm_ (a' := ?_) ?_ ?_
      rotate_left
      ·show Act.put _ (some 44) _ = _
       simp only [Act.put, qa, qb, qc, i64_w, i32_w]
       rfl
      refine pure_ (i := 4) (N := some 45) (v := ?_) (a' := ?_) #[Y,Y,Y,Y,Y] rfl rfl (by kernel_rfl) (fun _ _ _ h => h) (Or.inl ⟨by rfl, ?_⟩) ?_ ?_
      rotate_left
      ·intro w'
       go_simp
       with_reducible rfl
      rotate_left
      ·simp only [Act.put, qa, qb, qc, i64_w, i32_w]
       rfl
      refine done_ (by kernel_rfl) ?_
      have hnb65 := NB813_800.out
      have hnc65 := NB800_813.out
      have hnb66 := NB813_809.out
      have hnc66 := NB809_813.out
      have hnb67 := NB813_818.out
      have hnc67 := NB818_813.out
      have hcz68_0 : w64.cell? ⟨gb813, 0, none⟩ = some (.slice Ao26 t810.length co26) := (blk_cell BK813.out 0).trans rfl
      have hfz68_0 := blk_frozen BK813.out 0
      go_upto_region 14 with (first | ((with_reducible refine gate_callee (f := 22) rfl ?_); refine goesL_ (some 48) rfl rfl Try.func22 (by kernel_rfl) rfl #[.agg #[.slice Ao26 t810.length co26], .int .i64 1] rfl (by (try simp only [List.map_toArray, List.map_cons, List.map_nil]); first | done | rfl | (simp only [List.length_drop, List.length_take]; rfl)) ?_; (with_reducible refine (laws_markSemigroup.calls kj10 (fun k_ => some k_ = (.slice Ao26 t810.length co26 : Value).ownBlock) (.slice Ao26 t810.length co26) t810 1 t824 t825 w _ ?side1 ?side2 A59.out).mono ?_); (case side1 => repeat (first | (with_reducible first | exact HB.out | apply below_alloc | apply pw_below_drewN | apply below_drew1 | refine below_set ?_ GE800.out | refine below_set ?_ GE809.out | refine below_set ?_ GE813.out | refine below_set ?_ GE818.out) | exact HB.out)); (case side2 => exact Kd.R_tight rfl HO_814000.out); rintro e w69 ⟨rfl, hy0, hb, hkp⟩; refine ⟨_, rfl, ?_⟩; have n0_ := Aside0.mk (Kd.R_mono (ok' := fun k_ => some k_ ≠ (.slice Ao26 t810.length co26 : Value).ownBlock ∧ some k_ ≠ (.slice Ao32 t814.length co32 : Value).ownBlock ∧ some k_ ≠ (.slice Ao63 t820.length co63 : Value).ownBlock) (Kd.R_keptB (HO_810000.out) hkp (fun k_ hk_ hs_ => by first | exact (hk_.1.1) hs_ | simp_all)) (fun k_ hk_ => by first | exact ⟨hk_.1.1.1, hk_.1.1.2, hk_.1.2⟩ | simp_all)); have n1_ := Aside0.mk (Kd.R_reok rfl hy0 (fun k_ e_ => HO_814000.out.1 k_ e_)); have n2_ := Aside0.mk (Kd.R_mono (ok' := fun k_ => some k_ ≠ (.slice Ao20 t805.length co20 : Value).ownBlock ∧ some k_ ≠ (.slice Ao26 t810.length co26 : Value).ownBlock ∧ some k_ ≠ (.slice Ao63 t820.length co63 : Value).ownBlock) (Kd.R_keptB (HO_819000.out) hkp (fun k_ hk_ hs_ => by first | exact (hk_.1.2) hs_ | simp_all)) (fun k_ hk_ => by first | exact ⟨hk_.1.1.1, hk_.1.1.2, hk_.1.2⟩ | simp_all)); have n3_ := Aside0.mk (blk_kept (by (with_reducible repeat (first | refine blk_drewN ?_ _ | refine blk_drew ?_ | refine blk_alloc ?_ _)); exact BK800.out) hkp (fun hs_ => (fun e_ => (Kd.R_ne HO_814000.out BK800.out (by decide)) e_) hs_)); have n4_ := Aside0.mk (blk_kept (by (with_reducible repeat (first | refine blk_drewN ?_ _ | refine blk_drew ?_ | refine blk_alloc ?_ _)); exact BK809.out) hkp (fun hs_ => (fun e_ => (Kd.R_ne HO_814000.out BK809.out (by decide)) e_) hs_)); have n5_ := Aside0.mk (blk_kept (by (with_reducible repeat (first | refine blk_drewN ?_ _ | refine blk_drew ?_ | refine blk_alloc ?_ _)); exact BK813.out) hkp (fun hs_ => (fun e_ => (Kd.R_ne HO_814000.out BK813.out (by decide)) e_) hs_)); have n6_ := Aside0.mk (blk_kept (by (with_reducible repeat (first | refine blk_drewN ?_ _ | refine blk_drew ?_ | refine blk_alloc ?_ _)); exact BK818.out) hkp (fun hs_ => (fun e_ => (Kd.R_ne HO_814000.out BK818.out (by decide)) e_) hs_)); have n7_ := Aside0.mk (Kd.R_mono (ok' := fun k_ => some k_ ≠ (.slice Ao20 t805.length co20 : Value).ownBlock ∧ some k_ ≠ (.slice Ao26 t810.length co26 : Value).ownBlock ∧ some k_ ≠ (.slice Ao32 t814.length co32 : Value).ownBlock) (Kd.R_keptB (HO822.out) hkp (fun k_ hk_ hs_ => by first | exact (hk_.1.2) hs_ | simp_all)) (fun k_ hk_ => by first | exact ⟨hk_.1.1.1.2, hk_.1.1.2, hk_.1.2⟩ | simp_all)); have n8_ := Aside0.mk (hb); clear HO_810000; clear HO_814000; clear HO_819000; clear BK800; clear BK809; clear BK813; clear BK818; clear HO822; clear HB; have HO_810000 := n0_; have HO_814000 := n1_; have HO_819000 := n2_; have BK800 := n3_; have BK809 := n4_; have BK813 := n5_; have BK818 := n6_; have HO822 := n7_; have HB := n8_; clear n0_ n1_ n2_ n3_ n4_ n5_ n6_ n7_ n8_; (try clear hb); (try clear hkp); (try clear hy0)))
      (try simp only [Act.put, List.setIfInBounds_toArray, List.set_cons_zero, List.set_cons_succ])
      go_cut [61] (fun v61 wc => ∃ (kq : Nat) (x61_59 : Bool), v61 = .bool x61_59 ∧ Aside0 (laws_FnExactParentOf.j1 kq t808 x61_59 l0_0 t805 t814 = some true) ∧ Aside0 (kq ≤ kj10) ∧ Aside0 (Kd.R (Kd.int .i64) 3 wc w.heap.size (fun k_ => some k_ ≠ ((.slice Ao26 t810.length co26) : Value).ownBlock ∧ some k_ ≠ ((.slice Ao32 t814.length co32) : Value).ownBlock) (.slice Ao20 t805.length co20) t805) ∧ Aside0 (Kd.R (Kd.int .i64) 3 wc w.heap.size (fun k_ => some k_ ≠ ((.slice Ao20 t805.length co20) : Value).ownBlock ∧ some k_ ≠ ((.slice Ao32 t814.length co32) : Value).ownBlock) (.slice Ao26 t810.length co26) t825) ∧ Aside0 (Kd.R (Kd.int .i64) 3 wc w.heap.size (fun k_ => some k_ ≠ ((.slice Ao20 t805.length co20) : Value).ownBlock ∧ some k_ ≠ ((.slice Ao26 t810.length co26) : Value).ownBlock) (.slice Ao32 t814.length co32) t814) ∧ Aside0 (wc.heap[gb800]? = some (.cells #[(.slice A0_0 l0_0.length c0_0)] 24 (0, 0))) ∧ Aside0 (wc.heap[gb809]? = some (.cells #[(.slice Ao20 t805.length co20)] 27 (0, 0))) ∧ Aside0 (wc.heap[gb813]? = some (.cells #[(.slice Ao26 t810.length co26)] 27 (0, 0))) ∧ Aside0 (wc.heap[gb818]? = some (.cells #[(.slice Ao32 t814.length co32)] 27 (0, 0))) ∧ Aside0 (Below w.heap.size w wc))
      case first =>
       have H := HC60.out
       clear HC60
       by_cases c70 : t824 < 0
       ·rw [if_pos c70] at H
        have c70b0 : decide (t824 < 0) = true := decide_eq_true c70
        clear c70
        (first | rw [c70b0] | (simp only [i64_w, i32_w]; rw [c70b0]) | skip)
        have H' := Aside0.mk H
        clear H
        go_wp2
        go_meet
        case rel => exact ⟨_, (true), (by first | rfl | (simp; done) | (simp [*]; done)), H', ⟨by have := HJ10.out; first | omega | exact Nat.le_refl _⟩, ⟨by (with_reducible repeat (first | apply Kd.R_alloc | apply Kd.R_drewN | apply Kd.R_drew)); exact Kd.R_mono HO_810000.out (fun _ hk => by first | exact ⟨hk.1, hk.2.1⟩ | simp_all)⟩, ⟨by (with_reducible repeat (first | apply Kd.R_alloc | apply Kd.R_drewN | apply Kd.R_drew)); exact Kd.R_mono HO_814000.out (fun _ hk => by first | exact ⟨hk.1.1, hk.1.2⟩ | simp_all)⟩, ⟨by (with_reducible repeat (first | apply Kd.R_alloc | apply Kd.R_drewN | apply Kd.R_drew)); exact Kd.R_mono HO_819000.out (fun _ hk => by first | exact ⟨hk.1, hk.2.1⟩ | simp_all)⟩, ⟨by (with_reducible repeat (first | refine blk_drewN ?_ _ | refine blk_drew ?_ | refine blk_alloc ?_ _)); exact BK800.out⟩, ⟨by (with_reducible repeat (first | refine blk_drewN ?_ _ | refine blk_drew ?_ | refine blk_alloc ?_ _)); exact BK809.out⟩, ⟨by (with_reducible repeat (first | refine blk_drewN ?_ _ | refine blk_drew ?_ | refine blk_alloc ?_ _)); exact BK813.out⟩, ⟨by (with_reducible repeat (first | refine blk_drewN ?_ _ | refine blk_drew ?_ | refine blk_alloc ?_ _)); exact BK818.out⟩, ⟨by repeat (first | (with_reducible first | exact HB.out | apply below_alloc | apply pw_below_drewN | apply below_drew1 | refine below_set ?_ GE800.out | refine below_set ?_ GE809.out | refine below_set ?_ GE813.out | refine below_set ?_ GE818.out) | exact HB.out)⟩⟩
       ·rw [if_neg c70] at H
        have c70b0 : decide (t824 < 0) = false := decide_eq_false c70
        clear c70
        (first | rw [c70b0] | (simp only [i64_w, i32_w]; rw [c70b0]) | skip)
        replace H := Option.bind_eq_some_iff.mp H
        obtain ⟨t826, A710, H⟩ := H
        replace H : (if t826 = true then (laws_FnExactParentOf.j1 kj10 t808 (t817 != t808) l0_0 t805 t814) else (laws_FnExactParentOf.j1 kj10 t808 true l0_0 t805 t814)) = some true := H
        have A71 := Aside0.mk A710
        clear A710
        by_cases c72 : t826 = true
        ·subst c72
         have H1 : (laws_FnExactParentOf.j1 kj10 t808 (t817 != t808) l0_0 t805 t814) = some true := by rw [if_pos rfl] at H; exact H
         clear H
         have H := H1
         clear H1
         have H' := Aside0.mk H
         clear H
         have hnb73 := NB818_800.out
         have hnc73 := NB800_818.out
         have hnb74 := NB818_809.out
         have hnc74 := NB809_818.out
         have hnb75 := NB818_813.out
         have hnc75 := NB813_818.out
         have hcz76_0 : w69.cell? ⟨gb818, 0, none⟩ = some (.slice Ao32 t814.length co32) := (blk_cell BK818.out 0).trans rfl
         have hfz76_0 := blk_frozen BK818.out 0
         have hnb77 := NB809_800.out
         have hnc77 := NB800_809.out
         have hnb78 := NB809_813.out
         have hnc78 := NB813_809.out
         have hcz79_0 : w69.cell? ⟨gb809, 0, none⟩ = some (.slice Ao20 t805.length co20) := (blk_cell BK809.out 0).trans rfl
         have hfz79_0 := blk_frozen BK809.out 0
         go_wp2_with (first | (go_at_call 18; (with_reducible refine (laws_eqSemigroup.calls kj10 _ _ t814 _ _ t805 true _ ?side1 ?side2 ?side3 ?side4 A71.out).mono ?_); (case side1 => repeat (first | exact (Kd.R_reads' HO_819000.out).2.2 | (with_reducible refine Kd.C_alloc ?_ _) | (with_reducible refine Kd.C_drewN ?_ _) | (with_reducible refine Kd.C_drew ?_))); (case side2 => exact (Kd.R_reads' HO_819000.out).2.1); (case side3 => repeat (first | exact (Kd.R_reads' HO_810000.out).2.2 | (with_reducible refine Kd.C_alloc ?_ _) | (with_reducible refine Kd.C_drewN ?_ _) | (with_reducible refine Kd.C_drew ?_))); (case side4 => exact (Kd.R_reads' HO_810000.out).2.1); rintro e w80 ⟨rfl, hb⟩; have n0_ := Aside0.mk (Kd.R_below (by (with_reducible repeat (first | apply Kd.R_alloc | apply Kd.R_drewN | apply Kd.R_drew)); exact HO_810000.out) hb); have n1_ := Aside0.mk (Kd.R_below (by (with_reducible repeat (first | apply Kd.R_alloc | apply Kd.R_drewN | apply Kd.R_drew)); exact HO_814000.out) hb); have n2_ := Aside0.mk (Kd.R_below (by (with_reducible repeat (first | apply Kd.R_alloc | apply Kd.R_drewN | apply Kd.R_drew)); exact HO_819000.out) hb); have n3_ := Aside0.mk (Kd.R_below (by (with_reducible repeat (first | apply Kd.R_alloc | apply Kd.R_drewN | apply Kd.R_drew)); exact HO822.out) hb); have n4_ := Aside0.mk (blk_below (g := gb800) (o := .cells #[.slice A0_0 l0_0.length c0_0] 24 (0, 0)) (by (with_reducible repeat (first | refine blk_drewN ?_ _ | refine blk_drew ?_ | refine blk_alloc ?_ _)); exact BK800.out) hb); have n5_ := Aside0.mk (blk_below (g := gb809) (o := .cells #[.slice Ao20 t805.length co20] 27 (0, 0)) (by (with_reducible repeat (first | refine blk_drewN ?_ _ | refine blk_drew ?_ | refine blk_alloc ?_ _)); exact BK809.out) hb); have n6_ := Aside0.mk (blk_below (g := gb813) (o := .cells #[.slice Ao26 t810.length co26] 27 (0, 0)) (by (with_reducible repeat (first | refine blk_drewN ?_ _ | refine blk_drew ?_ | refine blk_alloc ?_ _)); exact BK813.out) hb); have n7_ := Aside0.mk (blk_below (g := gb818) (o := .cells #[.slice Ao32 t814.length co32] 27 (0, 0)) (by (with_reducible repeat (first | refine blk_drewN ?_ _ | refine blk_drew ?_ | refine blk_alloc ?_ _)); exact BK818.out) hb); have n8_ := Aside0.mk (below_step (by repeat (first | (with_reducible first | exact HB.out | apply below_alloc | apply pw_below_drewN | apply below_drew1 | refine below_set ?_ GE800.out | refine below_set ?_ GE809.out | refine below_set ?_ GE813.out | refine below_set ?_ GE818.out) | exact HB.out)) hb); clear HO_810000; clear HO_814000; clear HO_819000; clear HO822; clear BK800; clear BK809; clear BK813; clear BK818; clear HB; have HO_810000 := n0_; have HO_814000 := n1_; have HO_819000 := n2_; have HO822 := n3_; have BK800 := n4_; have BK809 := n5_; have BK813 := n6_; have BK818 := n7_; have HB := n8_; clear n0_ n1_ n2_ n3_ n4_ n5_ n6_ n7_ n8_; (try clear hb); (try clear hb2); (try clear hk); (try clear hi)))
         go_meet
         case rel => exact ⟨_, ((t817 != t808)), (by first | rfl | (simp; done) | (simp [*]; done)), H', ⟨by have := HJ10.out; first | omega | exact Nat.le_refl _⟩, ⟨by (with_reducible repeat (first | apply Kd.R_alloc | apply Kd.R_drewN | apply Kd.R_drew)); exact Kd.R_mono HO_810000.out (fun _ hk => by first | exact ⟨hk.1, hk.2.1⟩ | simp_all)⟩, ⟨by (with_reducible repeat (first | apply Kd.R_alloc | apply Kd.R_drewN | apply Kd.R_drew)); exact Kd.R_mono HO_814000.out (fun _ hk => by first | exact ⟨hk.1.1, hk.1.2⟩ | simp_all)⟩, ⟨by (with_reducible repeat (first | apply Kd.R_alloc | apply Kd.R_drewN | apply Kd.R_drew)); exact Kd.R_mono HO_819000.out (fun _ hk => by first | exact ⟨hk.1, hk.2.1⟩ | simp_all)⟩, ⟨by (with_reducible repeat (first | refine blk_drewN ?_ _ | refine blk_drew ?_ | refine blk_alloc ?_ _)); exact BK800.out⟩, ⟨by (with_reducible repeat (first | refine blk_drewN ?_ _ | refine blk_drew ?_ | refine blk_alloc ?_ _)); exact BK809.out⟩, ⟨by (with_reducible repeat (first | refine blk_drewN ?_ _ | refine blk_drew ?_ | refine blk_alloc ?_ _)); exact BK813.out⟩, ⟨by (with_reducible repeat (first | refine blk_drewN ?_ _ | refine blk_drew ?_ | refine blk_alloc ?_ _)); exact BK818.out⟩, ⟨by repeat (first | (with_reducible first | exact HB.out | apply below_alloc | apply pw_below_drewN | apply below_drew1 | refine below_set ?_ GE800.out | refine below_set ?_ GE809.out | refine below_set ?_ GE813.out | refine below_set ?_ GE818.out) | exact HB.out)⟩⟩
        ·replace c72 := Bool.eq_false_iff.mpr c72
         subst c72
         have H1 : (laws_FnExactParentOf.j1 kj10 t808 true l0_0 t805 t814) = some true := by rw [if_neg (show ¬ (false = true) by decide)] at H; exact H
         clear H
         have H := H1
         clear H1
         have H' := Aside0.mk H
         clear H
         have hnb81 := NB818_800.out
         have hnc81 := NB800_818.out
         have hnb82 := NB818_809.out
         have hnc82 := NB809_818.out
         have hnb83 := NB818_813.out
         have hnc83 := NB813_818.out
         have hcz84_0 : w69.cell? ⟨gb818, 0, none⟩ = some (.slice Ao32 t814.length co32) := (blk_cell BK818.out 0).trans rfl
         have hfz84_0 := blk_frozen BK818.out 0
         have hnb85 := NB809_800.out
         have hnc85 := NB800_809.out
         have hnb86 := NB809_813.out
         have hnc86 := NB813_809.out
         have hcz87_0 : w69.cell? ⟨gb809, 0, none⟩ = some (.slice Ao20 t805.length co20) := (blk_cell BK809.out 0).trans rfl
         have hfz87_0 := blk_frozen BK809.out 0
         go_wp2_with (first | (go_at_call 18; (with_reducible refine (laws_eqSemigroup.calls kj10 _ _ t814 _ _ t805 false _ ?side1 ?side2 ?side3 ?side4 A71.out).mono ?_); (case side1 => repeat (first | exact (Kd.R_reads' HO_819000.out).2.2 | (with_reducible refine Kd.C_alloc ?_ _) | (with_reducible refine Kd.C_drewN ?_ _) | (with_reducible refine Kd.C_drew ?_))); (case side2 => exact (Kd.R_reads' HO_819000.out).2.1); (case side3 => repeat (first | exact (Kd.R_reads' HO_810000.out).2.2 | (with_reducible refine Kd.C_alloc ?_ _) | (with_reducible refine Kd.C_drewN ?_ _) | (with_reducible refine Kd.C_drew ?_))); (case side4 => exact (Kd.R_reads' HO_810000.out).2.1); rintro e w88 ⟨rfl, hb⟩; have n0_ := Aside0.mk (Kd.R_below (by (with_reducible repeat (first | apply Kd.R_alloc | apply Kd.R_drewN | apply Kd.R_drew)); exact HO_810000.out) hb); have n1_ := Aside0.mk (Kd.R_below (by (with_reducible repeat (first | apply Kd.R_alloc | apply Kd.R_drewN | apply Kd.R_drew)); exact HO_814000.out) hb); have n2_ := Aside0.mk (Kd.R_below (by (with_reducible repeat (first | apply Kd.R_alloc | apply Kd.R_drewN | apply Kd.R_drew)); exact HO_819000.out) hb); have n3_ := Aside0.mk (Kd.R_below (by (with_reducible repeat (first | apply Kd.R_alloc | apply Kd.R_drewN | apply Kd.R_drew)); exact HO822.out) hb); have n4_ := Aside0.mk (blk_below (g := gb800) (o := .cells #[.slice A0_0 l0_0.length c0_0] 24 (0, 0)) (by (with_reducible repeat (first | refine blk_drewN ?_ _ | refine blk_drew ?_ | refine blk_alloc ?_ _)); exact BK800.out) hb); have n5_ := Aside0.mk (blk_below (g := gb809) (o := .cells #[.slice Ao20 t805.length co20] 27 (0, 0)) (by (with_reducible repeat (first | refine blk_drewN ?_ _ | refine blk_drew ?_ | refine blk_alloc ?_ _)); exact BK809.out) hb); have n6_ := Aside0.mk (blk_below (g := gb813) (o := .cells #[.slice Ao26 t810.length co26] 27 (0, 0)) (by (with_reducible repeat (first | refine blk_drewN ?_ _ | refine blk_drew ?_ | refine blk_alloc ?_ _)); exact BK813.out) hb); have n7_ := Aside0.mk (blk_below (g := gb818) (o := .cells #[.slice Ao32 t814.length co32] 27 (0, 0)) (by (with_reducible repeat (first | refine blk_drewN ?_ _ | refine blk_drew ?_ | refine blk_alloc ?_ _)); exact BK818.out) hb); have n8_ := Aside0.mk (below_step (by repeat (first | (with_reducible first | exact HB.out | apply below_alloc | apply pw_below_drewN | apply below_drew1 | refine below_set ?_ GE800.out | refine below_set ?_ GE809.out | refine below_set ?_ GE813.out | refine below_set ?_ GE818.out) | exact HB.out)) hb); clear HO_810000; clear HO_814000; clear HO_819000; clear HO822; clear BK800; clear BK809; clear BK813; clear BK818; clear HB; have HO_810000 := n0_; have HO_814000 := n1_; have HO_819000 := n2_; have HO822 := n3_; have BK800 := n4_; have BK809 := n5_; have BK813 := n6_; have BK818 := n7_; have HB := n8_; clear n0_ n1_ n2_ n3_ n4_ n5_ n6_ n7_ n8_; (try clear hb); (try clear hb2); (try clear hk); (try clear hi)))
         go_meet
         case rel => exact ⟨_, (true), (by first | rfl | (simp; done) | (simp [*]; done)), H', ⟨by have := HJ10.out; first | omega | exact Nat.le_refl _⟩, ⟨by (with_reducible repeat (first | apply Kd.R_alloc | apply Kd.R_drewN | apply Kd.R_drew)); exact Kd.R_mono HO_810000.out (fun _ hk => by first | exact ⟨hk.1, hk.2.1⟩ | simp_all)⟩, ⟨by (with_reducible repeat (first | apply Kd.R_alloc | apply Kd.R_drewN | apply Kd.R_drew)); exact Kd.R_mono HO_814000.out (fun _ hk => by first | exact ⟨hk.1.1, hk.1.2⟩ | simp_all)⟩, ⟨by (with_reducible repeat (first | apply Kd.R_alloc | apply Kd.R_drewN | apply Kd.R_drew)); exact Kd.R_mono HO_819000.out (fun _ hk => by first | exact ⟨hk.1, hk.2.1⟩ | simp_all)⟩, ⟨by (with_reducible repeat (first | refine blk_drewN ?_ _ | refine blk_drew ?_ | refine blk_alloc ?_ _)); exact BK800.out⟩, ⟨by (with_reducible repeat (first | refine blk_drewN ?_ _ | refine blk_drew ?_ | refine blk_alloc ?_ _)); exact BK809.out⟩, ⟨by (with_reducible repeat (first | refine blk_drewN ?_ _ | refine blk_drew ?_ | refine blk_alloc ?_ _)); exact BK813.out⟩, ⟨by (with_reducible repeat (first | refine blk_drewN ?_ _ | refine blk_drew ?_ | refine blk_alloc ?_ _)); exact BK818.out⟩, ⟨by repeat (first | (with_reducible first | exact HB.out | apply below_alloc | apply pw_below_drewN | apply below_drew1 | refine below_set ?_ GE800.out | refine below_set ?_ GE809.out | refine below_set ?_ GE813.out | refine below_set ?_ GE818.out) | exact HB.out)⟩⟩
      case rest =>
       clear HC60
       try clear c1
       try clear c2
       try clear p2
       try clear c3
       try clear c3b0
       try clear c4
       try clear c5
       try clear c6
       try clear c7
       try clear c8
       try clear c14
       try clear c16
       try clear c18
       try clear c21
       try clear c22
       try clear c27
       try clear c28
       try clear c29
       try clear c33
       try clear c34
       try clear c35
       try clear c38
       try clear c39
       try clear c40
       try clear c41
       try clear c43
       try clear c44
       try clear c47
       try clear c48
       try clear c49
       try clear c51
       try clear c52
       try clear c55
       try clear c58
       try clear c65
       try clear c66
       try clear c67
       try clear c70
       try clear c70b0
       try clear c72
       try clear c73
       try clear c74
       try clear c75
       try clear c77
       try clear c78
       try clear c81
       try clear c82
       try clear c83
       try clear c85
       try clear c86
       try clear hcz13_0
       try clear hcz15_0
       try clear hcz22_0
       try clear hcz23_0
       try clear hcz29_0
       try clear hcz36_0
       try clear hcz42_0
       try clear hcz45_0
       try clear hcz50_0
       try clear hcz53_0
       try clear hcz5_0
       try clear hcz68_0
       try clear hcz76_0
       try clear hcz79_0
       try clear hcz84_0
       try clear hcz87_0
       try clear hfz13_0
       try clear hfz15_0
       try clear hfz22_0
       try clear hfz23_0
       try clear hfz29_0
       try clear hfz36_0
       try clear hfz42_0
       try clear hfz45_0
       try clear hfz50_0
       try clear hfz53_0
       try clear hfz5_0
       try clear hfz68_0
       try clear hfz76_0
       try clear hfz79_0
       try clear hfz84_0
       try clear hfz87_0
       try clear p2
       obtain ⟨kq, x61_59, rfl, HA, HJ59, HO_810000, HO_814000, HO_819000, BK800, BK809, BK813, BK818, HB⟩ := hcut
       have hl814000_59 := (Kd.R_reads' HO_814000.out).1
       rw [hl814000_59] at HO_814000
       (try simp only [hl814000_59])
       (try simp only [hl814000_59] at BK800)
       (try simp only [hl814000_59] at BK809)
       (try simp only [hl814000_59] at BK813)
       (try simp only [hl814000_59] at BK818)
       (try simp only [hl814000_59] at HO_810000)
       (try simp only [hl814000_59] at HO_819000)
       cases kq with
       | zero => exact absurd HA.out (by simp [laws_FnExactParentOf.j1])
       | succ kj59 =>
        have H := HA.out
        clear HA
        simp only [laws_FnExactParentOf.j1] at H
        by_cases c89 : x61_59 = true
        ·subst c89
         have H1 : (some false) = some true := by rw [if_pos rfl] at H; exact H
         clear H
         have H := H1
         clear H1
         exact absurd (Option.some.inj H) (by decide)
        ·replace c89 := Bool.eq_false_iff.mpr c89
         subst c89
         have H1 : ((laws_markSemigroup.f kj59 t814 1).bind fun bt827 => ((laws_heldSemigroup.f kj59 bt827.2 1).bind fun t829 => (if t829 < 0 then (some false) else (if t829 = bt827.1 then ((laws_toSemigroup.f kj59 l0_0).bind fun t830 => ((impl_ParentOf.f kj59 t830).bind fun bt833 => ((laws_eqSemigroup.f kj59 bt833.1 t805).bind fun t838 => (if t838 = true then (laws_FnExactParentOf.j2 kj59 bt827.1 (bt833.2 != t808) bt827.2) else (laws_FnExactParentOf.j2 kj59 bt827.1 true bt827.2))))) else (some false))))) = some true := by rw [if_neg (show ¬ (false = true) by decide)] at H; exact H
         clear H
         have H := H1
         clear H1
         replace H := Option.bind_eq_some_iff.mp H
         obtain ⟨⟨t827, t828⟩, A900, H⟩ := H
         replace H : ((laws_heldSemigroup.f kj59 t828 1).bind fun t829 => (if t829 < 0 then (some false) else (if t829 = t827 then ((laws_toSemigroup.f kj59 l0_0).bind fun t830 => ((impl_ParentOf.f kj59 t830).bind fun bt833 => ((laws_eqSemigroup.f kj59 bt833.1 t805).bind fun t838 => (if t838 = true then (laws_FnExactParentOf.j2 kj59 t827 (bt833.2 != t808) t828) else (laws_FnExactParentOf.j2 kj59 t827 true t828))))) else (some false)))) = some true := H
         have A90 := Aside0.mk A900
         clear A900
         replace H := Option.bind_eq_some_iff.mp H
         obtain ⟨t829, A910, H⟩ := H
         replace H : (if t829 < 0 then (some false) else (if t829 = t827 then ((laws_toSemigroup.f kj59 l0_0).bind fun t830 => ((impl_ParentOf.f kj59 t830).bind fun bt833 => ((laws_eqSemigroup.f kj59 bt833.1 t805).bind fun t838 => (if t838 = true then (laws_FnExactParentOf.j2 kj59 t827 (bt833.2 != t808) t828) else (laws_FnExactParentOf.j2 kj59 t827 true t828))))) else (some false))) = some true := H
         have A91 := Aside0.mk A910
         clear A910
         by_cases c92 : t829 < 0
         ·rw [if_pos c92] at H
          have c92b0 : decide (t829 < 0) = true := decide_eq_true c92
          clear c92
          exact absurd (Option.some.inj H) (by decide)
         ·rw [if_neg c92] at H
          have c92b0 : decide (t829 < 0) = false := decide_eq_false c92
          clear c92
          by_cases c100 : t829 = t827
          ·rw [if_pos c100] at H
           have c100b0 : (t829 == t827) = true := beq_iff_eq.mpr c100
           have c100b1 : (t829 != t827) = false := bne_eq_false_iff_eq.mpr c100
           clear c100
           replace H := Option.bind_eq_some_iff.mp H
           obtain ⟨t830, A1010, H⟩ := H
           replace H : ((impl_ParentOf.f kj59 t830).bind fun bt833 => ((laws_eqSemigroup.f kj59 bt833.1 t805).bind fun t838 => (if t838 = true then (laws_FnExactParentOf.j2 kj59 t827 (bt833.2 != t808) t828) else (laws_FnExactParentOf.j2 kj59 t827 true t828)))) = some true := H
           have A101 := Aside0.mk A1010
           clear A1010
           replace H := Option.bind_eq_some_iff.mp H
           obtain ⟨⟨t833, t836⟩, A1020, H⟩ := H
           replace H : ((laws_eqSemigroup.f kj59 t833 t805).bind fun t838 => (if t838 = true then (laws_FnExactParentOf.j2 kj59 t827 (t836 != t808) t828) else (laws_FnExactParentOf.j2 kj59 t827 true t828))) = some true := H
           have A102 := Aside0.mk A1020
           clear A1020
           have HC103 := Aside0.mk H
           clear H
           have hnb104 := NB818_800.out
           have hnc104 := NB800_818.out
           have hnb105 := NB818_809.out
           have hnc105 := NB809_818.out
           have hnb106 := NB818_813.out
           have hnc106 := NB813_818.out
           have hcz107_0 : wc.cell? ⟨gb818, 0, none⟩ = some (.slice Ao32 t814.length co32) := (blk_cell BK818.out 0).trans rfl
           have hfz107_0 := blk_frozen BK818.out 0
           go_upto_region 25 with (first | ((with_reducible refine gate_callee (f := 22) rfl ?_); refine goesL_ (some 64) rfl rfl Try.func22 (by kernel_rfl) rfl #[.agg #[.slice Ao32 t814.length co32], .int .i64 1] rfl (by (try simp only [List.map_toArray, List.map_cons, List.map_nil]); first | done | rfl | (simp only [List.length_drop, List.length_take]; rfl)) ?_; (with_reducible refine (laws_markSemigroup.calls kj59 (fun k_ => some k_ = (.slice Ao32 t814.length co32 : Value).ownBlock) (.slice Ao32 t814.length co32) t814 1 t827 t828 w _ ?side1 ?side2 A90.out).mono ?_); (case side1 => repeat (first | (with_reducible first | exact HB.out | apply below_alloc | apply pw_below_drewN | apply below_drew1 | refine below_set ?_ GE800.out | refine below_set ?_ GE809.out | refine below_set ?_ GE813.out | refine below_set ?_ GE818.out) | exact HB.out)); (case side2 => exact Kd.R_tight rfl HO_819000.out); rintro e w108 ⟨rfl, hy0, hb, hkp⟩; refine ⟨_, rfl, ?_⟩; have n0_ := Aside0.mk (Kd.R_mono (ok' := fun k_ => some k_ ≠ (.slice Ao26 t825.length co26 : Value).ownBlock ∧ some k_ ≠ (.slice Ao32 t814.length co32 : Value).ownBlock) (Kd.R_keptB (HO_810000.out) hkp (fun k_ hk_ hs_ => by first | exact (hk_.2) hs_ | simp_all)) (fun k_ hk_ => by first | exact ⟨hk_.1.1, hk_.1.2⟩ | simp_all)); have n1_ := Aside0.mk (Kd.R_mono (ok' := fun k_ => some k_ ≠ (.slice Ao20 t805.length co20 : Value).ownBlock ∧ some k_ ≠ (.slice Ao32 t814.length co32 : Value).ownBlock) (Kd.R_keptB (HO_814000.out) hkp (fun k_ hk_ hs_ => by first | exact (hk_.2) hs_ | simp_all)) (fun k_ hk_ => by first | exact ⟨hk_.1.1, hk_.1.2⟩ | simp_all)); have n2_ := Aside0.mk (Kd.R_reok rfl hy0 (fun k_ e_ => HO_819000.out.1 k_ e_)); have n3_ := Aside0.mk (blk_kept (by (with_reducible repeat (first | refine blk_drewN ?_ _ | refine blk_drew ?_ | refine blk_alloc ?_ _)); exact BK800.out) hkp (fun hs_ => (fun e_ => (Kd.R_ne HO_819000.out BK800.out (by decide)) e_) hs_)); have n4_ := Aside0.mk (blk_kept (by (with_reducible repeat (first | refine blk_drewN ?_ _ | refine blk_drew ?_ | refine blk_alloc ?_ _)); exact BK809.out) hkp (fun hs_ => (fun e_ => (Kd.R_ne HO_819000.out BK809.out (by decide)) e_) hs_)); have n5_ := Aside0.mk (blk_kept (by (with_reducible repeat (first | refine blk_drewN ?_ _ | refine blk_drew ?_ | refine blk_alloc ?_ _)); exact BK813.out) hkp (fun hs_ => (fun e_ => (Kd.R_ne HO_819000.out BK813.out (by decide)) e_) hs_)); have n6_ := Aside0.mk (blk_kept (by (with_reducible repeat (first | refine blk_drewN ?_ _ | refine blk_drew ?_ | refine blk_alloc ?_ _)); exact BK818.out) hkp (fun hs_ => (fun e_ => (Kd.R_ne HO_819000.out BK818.out (by decide)) e_) hs_)); have n7_ := Aside0.mk (hb); clear HO_810000; clear HO_814000; clear HO_819000; clear BK800; clear BK809; clear BK813; clear BK818; clear HB; have HO_810000 := n0_; have HO_814000 := n1_; have HO_819000 := n2_; have BK800 := n3_; have BK809 := n4_; have BK813 := n5_; have BK818 := n6_; have HB := n7_; clear n0_ n1_ n2_ n3_ n4_ n5_ n6_ n7_; (try clear hb); (try clear hkp); (try clear hy0); have hcz109_0 : w108.cell? ⟨gb818, 0, none⟩ = some (.slice Ao32 t814.length co32) := (blk_cell BK818.out 0).trans rfl; have hfz109_0 := blk_frozen BK818.out 0) | ((with_reducible refine gate_callee (f := 27) rfl ?_); refine goesL_ (some 67) rfl rfl Try.func27 (by kernel_rfl) rfl #[.agg #[.slice Ao32 t828.length co32], .int .i64 1] rfl (by (try simp only [List.map_toArray, List.map_cons, List.map_nil]); first | done | (rw [show t828.length = t814.length from (Kd.R_reads' HO_819000.out).1.symm] <;> rfl) | rfl | (simp only [List.length_drop, List.length_take]; rfl)) ?_; (with_reducible refine (laws_heldSemigroup.calls kj59 _ _ t828 1 t829 _ ?side1 ?side2 A91.out).mono ?_); (case side1 => repeat (first | exact (Kd.R_reads' HO_819000.out).2.2 | (with_reducible refine Kd.C_alloc ?_ _) | (with_reducible refine Kd.C_drewN ?_ _) | (with_reducible refine Kd.C_drew ?_))); (case side2 => rw [show t828.length = t814.length from (Kd.R_reads' HO_819000.out).1.symm]; exact (Kd.R_reads' HO_819000.out).2.1); rintro e w110 ⟨rfl, hb⟩; refine ⟨_, rfl, ?_⟩; have n0_ := Aside0.mk (Kd.R_below (by (with_reducible repeat (first | apply Kd.R_alloc | apply Kd.R_drewN | apply Kd.R_drew)); exact HO_810000.out) hb); have n1_ := Aside0.mk (Kd.R_below (by (with_reducible repeat (first | apply Kd.R_alloc | apply Kd.R_drewN | apply Kd.R_drew)); exact HO_814000.out) hb); have n2_ := Aside0.mk (Kd.R_below (by (with_reducible repeat (first | apply Kd.R_alloc | apply Kd.R_drewN | apply Kd.R_drew)); exact HO_819000.out) hb); have n3_ := Aside0.mk (blk_below (g := gb800) (o := .cells #[.slice A0_0 l0_0.length c0_0] 24 (0, 0)) (by (with_reducible repeat (first | refine blk_drewN ?_ _ | refine blk_drew ?_ | refine blk_alloc ?_ _)); exact BK800.out) hb); have n4_ := Aside0.mk (blk_below (g := gb809) (o := .cells #[.slice Ao20 t805.length co20] 27 (0, 0)) (by (with_reducible repeat (first | refine blk_drewN ?_ _ | refine blk_drew ?_ | refine blk_alloc ?_ _)); exact BK809.out) hb); have n5_ := Aside0.mk (blk_below (g := gb813) (o := .cells #[.slice Ao26 t825.length co26] 27 (0, 0)) (by (with_reducible repeat (first | refine blk_drewN ?_ _ | refine blk_drew ?_ | refine blk_alloc ?_ _)); exact BK813.out) hb); have n6_ := Aside0.mk (blk_below (g := gb818) (o := .cells #[.slice Ao32 t814.length co32] 27 (0, 0)) (by (with_reducible repeat (first | refine blk_drewN ?_ _ | refine blk_drew ?_ | refine blk_alloc ?_ _)); exact BK818.out) hb); have n7_ := Aside0.mk (below_step (by repeat (first | (with_reducible first | exact HB.out | apply below_alloc | apply pw_below_drewN | apply below_drew1 | refine below_set ?_ GE800.out | refine below_set ?_ GE809.out | refine below_set ?_ GE813.out | refine below_set ?_ GE818.out) | exact HB.out)) hb); clear HO_810000; clear HO_814000; clear HO_819000; clear BK800; clear BK809; clear BK813; clear BK818; clear HB; have HO_810000 := n0_; have HO_814000 := n1_; have HO_819000 := n2_; have BK800 := n3_; have BK809 := n4_; have BK813 := n5_; have BK818 := n6_; have HB := n7_; clear n0_ n1_ n2_ n3_ n4_ n5_ n6_ n7_; (try clear hb); (try clear hb2); (try clear hk); (try clear hi); have hnb111 := NB800_809.out; have hnc111 := NB809_800.out; have hnb112 := NB800_813.out; have hnc112 := NB813_800.out; have hcz113_0 : w110.cell? ⟨gb800, 0, none⟩ = some (.slice A0_0 l0_0.length c0_0) := (blk_cell BK800.out 0).trans rfl; have hfz113_0 := blk_frozen BK800.out 0) | ((with_reducible refine gate_callee (f := 16) rfl ?_); refine goesL_ (some 75) rfl rfl Try.func16 (by kernel_rfl) rfl #[.agg #[.slice A0_0 l0_0.length c0_0]] rfl (by (try simp only [List.map_toArray, List.map_cons, List.map_nil]); first | done | rfl | (simp only [List.length_drop, List.length_take]; rfl)) ?_; (with_reducible refine (laws_toSemigroup.calls kj59 _ _ l0_0 t830 _ ?side1 ?side2 A101.out).mono ?_); (case side1 => repeat (first | exact (Kd.C_below HR0_0.out HB.out) | (with_reducible refine Kd.C_alloc ?_ _) | (with_reducible refine Kd.C_drewN ?_ _) | (with_reducible refine Kd.C_drew ?_))); (case side2 => exact HC0_0.out); rintro e w114 ⟨v831, rfl, ho0, hb⟩; refine ⟨_, rfl, ?_⟩; have n0_ := Aside0.mk (Kd.R_elder' (by (with_reducible repeat (first | apply Kd.R_alloc | apply Kd.R_drewN | apply Kd.R_drew)); exact HO_810000.out) (Kd.R_base ho0) hb); have n1_ := Aside0.mk (Kd.R_elder' (by (with_reducible repeat (first | apply Kd.R_alloc | apply Kd.R_drewN | apply Kd.R_drew)); exact HO_814000.out) (Kd.R_base ho0) hb); have n2_ := Aside0.mk (Kd.R_elder' (by (with_reducible repeat (first | apply Kd.R_alloc | apply Kd.R_drewN | apply Kd.R_drew)); exact HO_819000.out) (Kd.R_base ho0) hb); have n3_ := Aside0.mk (Kd.R_lower (Kd.R_new' (Kd.R_new' (Kd.R_new' ho0 (Kd.R_lt (by (with_reducible repeat (first | apply Kd.R_alloc | apply Kd.R_drewN | apply Kd.R_drew)); exact HO_810000.out))) (Kd.R_lt (by (with_reducible repeat (first | apply Kd.R_alloc | apply Kd.R_drewN | apply Kd.R_drew)); exact HO_814000.out))) (Kd.R_lt (by (with_reducible repeat (first | apply Kd.R_alloc | apply Kd.R_drewN | apply Kd.R_drew)); exact HO_819000.out))) (below_size (by repeat (first | (with_reducible first | exact HB.out | apply below_alloc | apply pw_below_drewN | apply below_drew1 | refine below_set ?_ GE800.out | refine below_set ?_ GE809.out | refine below_set ?_ GE813.out | refine below_set ?_ GE818.out) | exact HB.out)))); have n4_ := Aside0.mk (blk_below (g := gb800) (o := .cells #[.slice A0_0 l0_0.length c0_0] 24 (0, 0)) (by (with_reducible repeat (first | refine blk_drewN ?_ _ | refine blk_drew ?_ | refine blk_alloc ?_ _)); exact BK800.out) hb); have n5_ := Aside0.mk (blk_below (g := gb809) (o := .cells #[.slice Ao20 t805.length co20] 27 (0, 0)) (by (with_reducible repeat (first | refine blk_drewN ?_ _ | refine blk_drew ?_ | refine blk_alloc ?_ _)); exact BK809.out) hb); have n6_ := Aside0.mk (blk_below (g := gb813) (o := .cells #[.slice Ao26 t825.length co26] 27 (0, 0)) (by (with_reducible repeat (first | refine blk_drewN ?_ _ | refine blk_drew ?_ | refine blk_alloc ?_ _)); exact BK813.out) hb); have n7_ := Aside0.mk (blk_below (g := gb818) (o := .cells #[.slice Ao32 t814.length co32] 27 (0, 0)) (by (with_reducible repeat (first | refine blk_drewN ?_ _ | refine blk_drew ?_ | refine blk_alloc ?_ _)); exact BK818.out) hb); have n8_ := Aside0.mk (below_step (by repeat (first | (with_reducible first | exact HB.out | apply below_alloc | apply pw_below_drewN | apply below_drew1 | refine below_set ?_ GE800.out | refine below_set ?_ GE809.out | refine below_set ?_ GE813.out | refine below_set ?_ GE818.out) | exact HB.out)) hb); clear HO_810000; clear HO_814000; clear HO_819000; clear BK800; clear BK809; clear BK813; clear BK818; clear HB; have HO_810000 := n0_; have HO_814000 := n1_; have HO_819000 := n2_; have HO832 := n3_; have BK800 := n4_; have BK809 := n5_; have BK813 := n6_; have BK818 := n7_; have HB := n8_; clear n0_ n1_ n2_ n3_ n4_ n5_ n6_ n7_ n8_; (try clear hb); (try clear hb2); (try clear hk); (try clear hi); (try clear ho0); obtain ⟨Ao115, co115, eo115⟩ := Kd.R_slice HO832.out; subst eo115) | ((with_reducible refine gate_callee (f := 29) rfl ?_); refine goesL_ (some 76) rfl rfl Try.func29 (by kernel_rfl) rfl #[.agg #[.slice Ao115 t830.length co115]] rfl (by (try simp only [List.map_toArray, List.map_cons, List.map_nil]); first | done | rfl | (simp only [List.length_drop, List.length_take]; rfl)) ?_; (with_reducible refine (impl_ParentOf.calls kj59 _ _ t830 t833 t836 _ ?side1 ?side2 A102.out).mono ?_); (case side1 => repeat (first | exact (Kd.R_reads' HO832.out).2.2 | (with_reducible refine Kd.C_alloc ?_ _) | (with_reducible refine Kd.C_drewN ?_ _) | (with_reducible refine Kd.C_drew ?_))); (case side2 => exact (Kd.R_reads' HO832.out).2.1); rintro e w116 ⟨v834, rfl, ho0, hb⟩; refine ⟨_, rfl, ?_⟩; have n0_ := Aside0.mk (Kd.R_elder' (by (with_reducible repeat (first | apply Kd.R_alloc | apply Kd.R_drewN | apply Kd.R_drew)); exact HO_810000.out) (Kd.R_base ho0) hb); have n1_ := Aside0.mk (Kd.R_elder' (by (with_reducible repeat (first | apply Kd.R_alloc | apply Kd.R_drewN | apply Kd.R_drew)); exact HO_814000.out) (Kd.R_base ho0) hb); have n2_ := Aside0.mk (Kd.R_elder' (by (with_reducible repeat (first | apply Kd.R_alloc | apply Kd.R_drewN | apply Kd.R_drew)); exact HO_819000.out) (Kd.R_base ho0) hb); have n3_ := Aside0.mk (Kd.R_elder' (by (with_reducible repeat (first | apply Kd.R_alloc | apply Kd.R_drewN | apply Kd.R_drew)); exact HO832.out) (Kd.R_base ho0) hb); have n4_ := Aside0.mk (Kd.R_lower (Kd.R_new' (Kd.R_new' (Kd.R_new' (Kd.R_new' ho0 (Kd.R_lt (by (with_reducible repeat (first | apply Kd.R_alloc | apply Kd.R_drewN | apply Kd.R_drew)); exact HO_810000.out))) (Kd.R_lt (by (with_reducible repeat (first | apply Kd.R_alloc | apply Kd.R_drewN | apply Kd.R_drew)); exact HO_814000.out))) (Kd.R_lt (by (with_reducible repeat (first | apply Kd.R_alloc | apply Kd.R_drewN | apply Kd.R_drew)); exact HO_819000.out))) (Kd.R_lt (by (with_reducible repeat (first | apply Kd.R_alloc | apply Kd.R_drewN | apply Kd.R_drew)); exact HO832.out))) (below_size (by repeat (first | (with_reducible first | exact HB.out | apply below_alloc | apply pw_below_drewN | apply below_drew1 | refine below_set ?_ GE800.out | refine below_set ?_ GE809.out | refine below_set ?_ GE813.out | refine below_set ?_ GE818.out) | exact HB.out)))); have n5_ := Aside0.mk (blk_below (g := gb800) (o := .cells #[.slice A0_0 l0_0.length c0_0] 24 (0, 0)) (by (with_reducible repeat (first | refine blk_drewN ?_ _ | refine blk_drew ?_ | refine blk_alloc ?_ _)); exact BK800.out) hb); have n6_ := Aside0.mk (blk_below (g := gb809) (o := .cells #[.slice Ao20 t805.length co20] 27 (0, 0)) (by (with_reducible repeat (first | refine blk_drewN ?_ _ | refine blk_drew ?_ | refine blk_alloc ?_ _)); exact BK809.out) hb); have n7_ := Aside0.mk (blk_below (g := gb813) (o := .cells #[.slice Ao26 t825.length co26] 27 (0, 0)) (by (with_reducible repeat (first | refine blk_drewN ?_ _ | refine blk_drew ?_ | refine blk_alloc ?_ _)); exact BK813.out) hb); have n8_ := Aside0.mk (blk_below (g := gb818) (o := .cells #[.slice Ao32 t814.length co32] 27 (0, 0)) (by (with_reducible repeat (first | refine blk_drewN ?_ _ | refine blk_drew ?_ | refine blk_alloc ?_ _)); exact BK818.out) hb); have n9_ := Aside0.mk (below_step (by repeat (first | (with_reducible first | exact HB.out | apply below_alloc | apply pw_below_drewN | apply below_drew1 | refine below_set ?_ GE800.out | refine below_set ?_ GE809.out | refine below_set ?_ GE813.out | refine below_set ?_ GE818.out) | exact HB.out)) hb); clear HO_810000; clear HO_814000; clear HO_819000; clear HO832; clear BK800; clear BK809; clear BK813; clear BK818; clear HB; have HO_810000 := n0_; have HO_814000 := n1_; have HO_819000 := n2_; have HO832 := n3_; have HO835 := n4_; have BK800 := n5_; have BK809 := n6_; have BK813 := n7_; have BK818 := n8_; have HB := n9_; clear n0_ n1_ n2_ n3_ n4_ n5_ n6_ n7_ n8_ n9_; (try clear hb); (try clear hb2); (try clear hk); (try clear hi); (try clear ho0)) | ((with_reducible refine gate_dst (N := 12) rfl ?_); refine box_event ?hg (N := 12) ?hd (cs := #[.slice none 0 0]) (t := 27) ?hr ?_; (case hd => rfl); (case hg => rfl); (case hr => first | (go_simp; done) | (go_simp; rfl)); intro gb837 hg w117 hbox hb; have n0_ := Aside0.mk (Kd.R_below (by (with_reducible repeat (first | apply Kd.R_alloc | apply Kd.R_drewN | apply Kd.R_drew)); exact HO_810000.out) hb); have n1_ := Aside0.mk (Kd.R_below (by (with_reducible repeat (first | apply Kd.R_alloc | apply Kd.R_drewN | apply Kd.R_drew)); exact HO_814000.out) hb); have n2_ := Aside0.mk (Kd.R_below (by (with_reducible repeat (first | apply Kd.R_alloc | apply Kd.R_drewN | apply Kd.R_drew)); exact HO_819000.out) hb); have n3_ := Aside0.mk (Kd.R_below (by (with_reducible repeat (first | apply Kd.R_alloc | apply Kd.R_drewN | apply Kd.R_drew)); exact HO832.out) hb); have n4_ := Aside0.mk (Kd.R_below (by (with_reducible repeat (first | apply Kd.R_alloc | apply Kd.R_drewN | apply Kd.R_drew)); exact HO835.out) hb); have n5_ := Aside0.mk (blk_below (g := gb800) (o := .cells #[.slice A0_0 l0_0.length c0_0] 24 (0, 0)) (by (with_reducible repeat (first | refine blk_drewN ?_ _ | refine blk_drew ?_ | refine blk_alloc ?_ _)); exact BK800.out) hb); have n6_ := Aside0.mk (blk_below (g := gb809) (o := .cells #[.slice Ao20 t805.length co20] 27 (0, 0)) (by (with_reducible repeat (first | refine blk_drewN ?_ _ | refine blk_drew ?_ | refine blk_alloc ?_ _)); exact BK809.out) hb); have n7_ := Aside0.mk (blk_below (g := gb813) (o := .cells #[.slice Ao26 t825.length co26] 27 (0, 0)) (by (with_reducible repeat (first | refine blk_drewN ?_ _ | refine blk_drew ?_ | refine blk_alloc ?_ _)); exact BK813.out) hb); have n8_ := Aside0.mk (blk_below (g := gb818) (o := .cells #[.slice Ao32 t814.length co32] 27 (0, 0)) (by (with_reducible repeat (first | refine blk_drewN ?_ _ | refine blk_drew ?_ | refine blk_alloc ?_ _)); exact BK818.out) hb); have n9_ := Aside0.mk (below_step (by repeat (first | (with_reducible first | exact HB.out | apply below_alloc | apply pw_below_drewN | apply below_drew1 | refine below_set ?_ GE800.out | refine below_set ?_ GE809.out | refine below_set ?_ GE813.out | refine below_set ?_ GE818.out) | exact HB.out)) hb); have n10_ := Aside0.mk (hbox); have n11_ := Aside0.mk ((by rw [hg]; exact (below_size (by repeat (first | (with_reducible first | exact HB.out | apply below_alloc | apply pw_below_drewN | apply below_drew1 | refine below_set ?_ GE800.out | refine below_set ?_ GE809.out | refine below_set ?_ GE813.out | refine below_set ?_ GE818.out) | exact HB.out))) : w.heap.size ≤ gb837)); have n12_ := Aside0.mk ((by rw [hg]; exact (below_size (by repeat (first | (with_reducible first | exact HB.out | apply below_alloc | apply pw_below_drewN | apply below_drew1 | refine below_set ?_ GE800.out | refine below_set ?_ GE809.out | refine below_set ?_ GE813.out | refine below_set ?_ GE818.out) | exact HB.out))) : w.heap.size ≤ gb837)); have n13_ := Aside0.mk ((by rw [hg]; exact Nat.ne_of_lt (blk_lt (g := gb800) (o := .cells #[.slice A0_0 l0_0.length c0_0] 24 (0, 0)) (by (with_reducible repeat (first | refine blk_drewN ?_ _ | refine blk_drew ?_ | refine blk_alloc ?_ _)); exact BK800.out)) : gb800 ≠ gb837)); have n14_ := Aside0.mk ((by rw [hg]; exact Nat.ne_of_gt (blk_lt (g := gb800) (o := .cells #[.slice A0_0 l0_0.length c0_0] 24 (0, 0)) (by (with_reducible repeat (first | refine blk_drewN ?_ _ | refine blk_drew ?_ | refine blk_alloc ?_ _)); exact BK800.out)) : gb837 ≠ gb800)); have n15_ := Aside0.mk ((by rw [hg]; exact Nat.ne_of_lt (blk_lt (g := gb809) (o := .cells #[.slice Ao20 t805.length co20] 27 (0, 0)) (by (with_reducible repeat (first | refine blk_drewN ?_ _ | refine blk_drew ?_ | refine blk_alloc ?_ _)); exact BK809.out)) : gb809 ≠ gb837)); have n16_ := Aside0.mk ((by rw [hg]; exact Nat.ne_of_gt (blk_lt (g := gb809) (o := .cells #[.slice Ao20 t805.length co20] 27 (0, 0)) (by (with_reducible repeat (first | refine blk_drewN ?_ _ | refine blk_drew ?_ | refine blk_alloc ?_ _)); exact BK809.out)) : gb837 ≠ gb809)); have n17_ := Aside0.mk ((by rw [hg]; exact Nat.ne_of_lt (blk_lt (g := gb813) (o := .cells #[.slice Ao26 t825.length co26] 27 (0, 0)) (by (with_reducible repeat (first | refine blk_drewN ?_ _ | refine blk_drew ?_ | refine blk_alloc ?_ _)); exact BK813.out)) : gb813 ≠ gb837)); have n18_ := Aside0.mk ((by rw [hg]; exact Nat.ne_of_gt (blk_lt (g := gb813) (o := .cells #[.slice Ao26 t825.length co26] 27 (0, 0)) (by (with_reducible repeat (first | refine blk_drewN ?_ _ | refine blk_drew ?_ | refine blk_alloc ?_ _)); exact BK813.out)) : gb837 ≠ gb813)); have n19_ := Aside0.mk ((by rw [hg]; exact Nat.ne_of_lt (blk_lt (g := gb818) (o := .cells #[.slice Ao32 t814.length co32] 27 (0, 0)) (by (with_reducible repeat (first | refine blk_drewN ?_ _ | refine blk_drew ?_ | refine blk_alloc ?_ _)); exact BK818.out)) : gb818 ≠ gb837)); have n20_ := Aside0.mk ((by rw [hg]; exact Nat.ne_of_gt (blk_lt (g := gb818) (o := .cells #[.slice Ao32 t814.length co32] 27 (0, 0)) (by (with_reducible repeat (first | refine blk_drewN ?_ _ | refine blk_drew ?_ | refine blk_alloc ?_ _)); exact BK818.out)) : gb837 ≠ gb818)); clear HO_810000; clear HO_814000; clear HO_819000; clear HO832; clear HO835; clear BK800; clear BK809; clear BK813; clear BK818; clear HB; have HO_810000 := n0_; have HO_814000 := n1_; have HO_819000 := n2_; have HO832 := n3_; have HO835 := n4_; have BK800 := n5_; have BK809 := n6_; have BK813 := n7_; have BK818 := n8_; have HB := n9_; have BK837 := n10_; have GW837 := n11_; have GE837 := n12_; have NB800_837 := n13_; have NB837_800 := n14_; have NB809_837 := n15_; have NB837_809 := n16_; have NB813_837 := n17_; have NB837_813 := n18_; have NB818_837 := n19_; have NB837_818 := n20_; clear n0_ n1_ n2_ n3_ n4_ n5_ n6_ n7_ n8_ n9_ n10_ n11_ n12_ n13_ n14_ n15_ n16_ n17_ n18_ n19_ n20_; clear hb hbox hg; obtain ⟨Ao118, co118, eo118⟩ := Kd.R_slice HO835.out; subst eo118; have hnb119 := NB837_800.out; have hnc119 := NB800_837.out; have hnb120 := NB837_809.out; have hnc120 := NB809_837.out; have hnb121 := NB837_813.out; have hnc121 := NB813_837.out; have hnb122 := NB837_818.out; have hnc122 := NB818_837.out; have hcz123_0 : w117.cell? ⟨gb837, 0, none⟩ = some (.slice none 0 0) := (blk_cell BK837.out 0).trans rfl; have hfz123_0 := blk_frozen BK837.out 0))
           (try simp only [Act.put, List.setIfInBounds_toArray, List.set_cons_zero, List.set_cons_succ])
           go_cut [87] (fun v87 wc => ∃ (kq : Nat) (x87_102 : Bool), v87 = .bool x87_102 ∧ Aside0 (laws_FnExactParentOf.j2 kq t827 x87_102 t828 = some true) ∧ Aside0 (kq ≤ kj59) ∧ Aside0 (Kd.R (Kd.int .i64) 3 wc w.heap.size (fun k_ => some k_ ≠ ((.slice Ao26 t825.length co26) : Value).ownBlock ∧ some k_ ≠ ((.slice Ao32 t814.length co32) : Value).ownBlock ∧ some k_ ≠ ((.slice Ao118 t833.length co118) : Value).ownBlock) (.slice Ao20 t805.length co20) t805) ∧ Aside0 (Kd.R (Kd.int .i64) 3 wc w.heap.size (fun k_ => some k_ ≠ ((.slice Ao20 t805.length co20) : Value).ownBlock ∧ some k_ ≠ ((.slice Ao32 t814.length co32) : Value).ownBlock ∧ some k_ ≠ ((.slice Ao118 t833.length co118) : Value).ownBlock) (.slice Ao26 t825.length co26) t825) ∧ Aside0 (Kd.R (Kd.int .i64) 3 wc w.heap.size (fun k_ => some k_ ≠ ((.slice Ao20 t805.length co20) : Value).ownBlock ∧ some k_ ≠ ((.slice Ao26 t825.length co26) : Value).ownBlock ∧ some k_ ≠ ((.slice Ao118 t833.length co118) : Value).ownBlock) (.slice Ao32 t814.length co32) t828) ∧ Aside0 (Kd.R (Kd.int .i64) 3 wc w.heap.size (fun k_ => some k_ ≠ ((.slice Ao20 t805.length co20) : Value).ownBlock ∧ some k_ ≠ ((.slice Ao26 t825.length co26) : Value).ownBlock ∧ some k_ ≠ ((.slice Ao32 t814.length co32) : Value).ownBlock) (.slice Ao118 t833.length co118) t833) ∧ Aside0 (wc.heap[gb800]? = some (.cells #[(.slice A0_0 l0_0.length c0_0)] 24 (0, 0))) ∧ Aside0 (wc.heap[gb809]? = some (.cells #[(.slice Ao20 t805.length co20)] 27 (0, 0))) ∧ Aside0 (wc.heap[gb813]? = some (.cells #[(.slice Ao26 t825.length co26)] 27 (0, 0))) ∧ Aside0 (wc.heap[gb818]? = some (.cells #[(.slice Ao32 t814.length co32)] 27 (0, 0))) ∧ Aside0 (wc.heap[gb837]? = some (.cells #[(.slice Ao118 t833.length co118)] 27 (0, 0))) ∧ Aside0 (Below w.heap.size w wc))
           case first =>
            have H := HC103.out
            clear HC103
            replace H := Option.bind_eq_some_iff.mp H
            obtain ⟨t838, A1240, H⟩ := H
            replace H : (if t838 = true then (laws_FnExactParentOf.j2 kj59 t827 (t836 != t808) t828) else (laws_FnExactParentOf.j2 kj59 t827 true t828)) = some true := H
            have A124 := Aside0.mk A1240
            clear A1240
            by_cases c125 : t838 = true
            ·subst c125
             have H1 : (laws_FnExactParentOf.j2 kj59 t827 (t836 != t808) t828) = some true := by rw [if_pos rfl] at H; exact H
             clear H
             have H := H1
             clear H1
             have H' := Aside0.mk H
             clear H
             have hnb126 := NB837_800.out
             have hnc126 := NB800_837.out
             have hnb127 := NB837_809.out
             have hnc127 := NB809_837.out
             have hnb128 := NB837_813.out
             have hnc128 := NB813_837.out
             have hnb129 := NB837_818.out
             have hnc129 := NB818_837.out
             have hcz130_0 : w117.cell? ⟨gb837, 0, none⟩ = some (.slice none 0 0) := (blk_cell BK837.out 0).trans rfl
             have hfz130_0 := blk_frozen BK837.out 0
             have hnb131 := NB809_800.out
             have hnc131 := NB800_809.out
             have hnb132 := NB809_813.out
             have hnc132 := NB813_809.out
             have hnb133 := NB809_818.out
             have hnc133 := NB818_809.out
             have hcz134_0 : w117.cell? ⟨gb809, 0, none⟩ = some (.slice Ao20 t805.length co20) := (blk_cell BK809.out 0).trans rfl
             have hfz134_0 := blk_frozen BK809.out 0
             go_wp2_with (first | ((with_reducible refine gate_callee (f := 18) rfl ?_); refine goesL_ (some 81) rfl rfl Try.func18 (by kernel_rfl) rfl #[.agg #[.slice Ao118 t833.length co118], .agg #[.slice Ao20 t805.length co20]] rfl (by (try simp only [List.map_toArray, List.map_cons, List.map_nil]); first | done | rfl | (simp only [List.length_drop, List.length_take]; rfl)) ?_; (with_reducible refine (laws_eqSemigroup.calls kj59 _ _ t833 _ _ t805 true _ ?side1 ?side2 ?side3 ?side4 A124.out).mono ?_); (case side1 => refine (Kd.R_reads' (e := 3) (base := w.heap.size) (ok := fun k_ => ((((True ∧ some k_ ≠ (.slice Ao20 t805.length co20 : Value).ownBlock) ∧ some k_ ≠ (.slice Ao26 t825.length co26 : Value).ownBlock) ∧ some k_ ≠ (.slice Ao32 t814.length co32 : Value).ownBlock) ∧ some k_ ≠ (.slice Ao115 t830.length co115 : Value).ownBlock)) (n := t833.length) (c := co118) ?_).2.2; exact (by (with_reducible repeat (first | apply Kd.R_alloc | apply Kd.R_drewN | apply Kd.R_drew)); exact (Kd.R_mono (Kd.R_far (p := ⟨gb837, 0, none⟩) (Kd.R_types HO835.out BK837.out (by decide)) (fun _ hk => hk.2) (.slice Ao118 t833.length co118)) (fun _ h_ => h_.1)))); (case side2 => exact (Kd.R_reads' HO835.out).2.1); (case side3 => refine (Kd.R_reads' (e := 3) (base := w.heap.size) (ok := fun k_ => (((some k_ ≠ (.slice Ao26 t825.length co26 : Value).ownBlock ∧ some k_ ≠ (.slice Ao32 t814.length co32 : Value).ownBlock) ∧ some k_ ≠ (.slice Ao115 t830.length co115 : Value).ownBlock) ∧ some k_ ≠ (.slice Ao118 t833.length co118 : Value).ownBlock)) (n := t805.length) (c := co20) ?_).2.2; exact (by (with_reducible repeat (first | apply Kd.R_alloc | apply Kd.R_drewN | apply Kd.R_drew)); exact (Kd.R_mono (Kd.R_far (p := ⟨gb837, 0, none⟩) (Kd.R_types HO_810000.out BK837.out (by decide)) (fun _ hk => hk.2) (.slice Ao118 t833.length co118)) (fun _ h_ => h_.1)))); (case side4 => exact (Kd.R_reads' HO_810000.out).2.1); rintro e w135 ⟨rfl, hb⟩; refine ⟨_, rfl, ?_⟩; have n0_ := Aside0.mk (Kd.R_below (by (with_reducible repeat (first | apply Kd.R_alloc | apply Kd.R_drewN | apply Kd.R_drew)); exact (Kd.R_mono (Kd.R_far (p := ⟨gb837, 0, none⟩) (Kd.R_types HO_810000.out BK837.out (by decide)) (fun _ hk => hk.2) (.slice Ao118 t833.length co118)) (fun _ h_ => h_.1))) hb); have n1_ := Aside0.mk (Kd.R_below (by (with_reducible repeat (first | apply Kd.R_alloc | apply Kd.R_drewN | apply Kd.R_drew)); exact (Kd.R_mono (Kd.R_far (p := ⟨gb837, 0, none⟩) (Kd.R_types HO_814000.out BK837.out (by decide)) (fun _ hk => hk.2) (.slice Ao118 t833.length co118)) (fun _ h_ => h_.1))) hb); have n2_ := Aside0.mk (Kd.R_below (by (with_reducible repeat (first | apply Kd.R_alloc | apply Kd.R_drewN | apply Kd.R_drew)); exact (Kd.R_mono (Kd.R_far (p := ⟨gb837, 0, none⟩) (Kd.R_types HO_819000.out BK837.out (by decide)) (fun _ hk => hk.2) (.slice Ao118 t833.length co118)) (fun _ h_ => h_.1))) hb); have n3_ := Aside0.mk (Kd.R_below (by (with_reducible repeat (first | apply Kd.R_alloc | apply Kd.R_drewN | apply Kd.R_drew)); exact (Kd.R_mono (Kd.R_far (p := ⟨gb837, 0, none⟩) (Kd.R_types HO832.out BK837.out (by decide)) (fun _ hk => hk.2) (.slice Ao118 t833.length co118)) (fun _ h_ => h_.1))) hb); have n4_ := Aside0.mk (Kd.R_below (by (with_reducible repeat (first | apply Kd.R_alloc | apply Kd.R_drewN | apply Kd.R_drew)); exact (Kd.R_mono (Kd.R_far (p := ⟨gb837, 0, none⟩) (Kd.R_types HO835.out BK837.out (by decide)) (fun _ hk => hk.2) (.slice Ao118 t833.length co118)) (fun _ h_ => h_.1))) hb); have n5_ := Aside0.mk (blk_below (g := gb800) (o := .cells #[.slice A0_0 l0_0.length c0_0] 24 (0, 0)) (by (with_reducible repeat (first | refine blk_drewN ?_ _ | refine blk_drew ?_ | refine blk_alloc ?_ _)); refine blk_far ?_ NB800_837.out _; (with_reducible repeat (first | refine blk_drewN ?_ _ | refine blk_drew ?_ | refine blk_alloc ?_ _)); exact BK800.out) hb); have n6_ := Aside0.mk (blk_below (g := gb809) (o := .cells #[.slice Ao20 t805.length co20] 27 (0, 0)) (by (with_reducible repeat (first | refine blk_drewN ?_ _ | refine blk_drew ?_ | refine blk_alloc ?_ _)); refine blk_far ?_ NB809_837.out _; (with_reducible repeat (first | refine blk_drewN ?_ _ | refine blk_drew ?_ | refine blk_alloc ?_ _)); exact BK809.out) hb); have n7_ := Aside0.mk (blk_below (g := gb813) (o := .cells #[.slice Ao26 t825.length co26] 27 (0, 0)) (by (with_reducible repeat (first | refine blk_drewN ?_ _ | refine blk_drew ?_ | refine blk_alloc ?_ _)); refine blk_far ?_ NB813_837.out _; (with_reducible repeat (first | refine blk_drewN ?_ _ | refine blk_drew ?_ | refine blk_alloc ?_ _)); exact BK813.out) hb); have n8_ := Aside0.mk (blk_below (g := gb818) (o := .cells #[.slice Ao32 t814.length co32] 27 (0, 0)) (by (with_reducible repeat (first | refine blk_drewN ?_ _ | refine blk_drew ?_ | refine blk_alloc ?_ _)); refine blk_far ?_ NB818_837.out _; (with_reducible repeat (first | refine blk_drewN ?_ _ | refine blk_drew ?_ | refine blk_alloc ?_ _)); exact BK818.out) hb); have n9_ := Aside0.mk (blk_below (g := gb837) (o := .cells #[.slice Ao118 t833.length co118] 27 (0, 0)) (by (with_reducible repeat (first | refine blk_drewN ?_ _ | refine blk_drew ?_ | refine blk_alloc ?_ _)); refine blk_put (cs := #[.slice none 0 0]) ?_ 0 _ rfl; (with_reducible repeat (first | refine blk_drewN ?_ _ | refine blk_drew ?_ | refine blk_alloc ?_ _)); exact BK837.out) hb); have n10_ := Aside0.mk (below_step (by repeat (first | (with_reducible first | exact HB.out | apply below_alloc | apply pw_below_drewN | apply below_drew1 | refine below_set ?_ GE800.out | refine below_set ?_ GE809.out | refine below_set ?_ GE813.out | refine below_set ?_ GE818.out | refine below_set ?_ GE837.out) | exact HB.out)) hb); clear HO_810000; clear HO_814000; clear HO_819000; clear HO832; clear HO835; clear BK800; clear BK809; clear BK813; clear BK818; clear BK837; clear HB; have HO_810000 := n0_; have HO_814000 := n1_; have HO_819000 := n2_; have HO832 := n3_; have HO835 := n4_; have BK800 := n5_; have BK809 := n6_; have BK813 := n7_; have BK818 := n8_; have BK837 := n9_; have HB := n10_; clear n0_ n1_ n2_ n3_ n4_ n5_ n6_ n7_ n8_ n9_ n10_; (try clear hb); (try clear hb2); (try clear hk); (try clear hi)))
             go_meet
             case rel => exact ⟨_, ((t836 != t808)), (by first | rfl | (simp; done) | (simp [*]; done)), H', ⟨by have := HJ10.out; have := HJ59.out; first | omega | exact Nat.le_refl _⟩, ⟨by (try simp only [hl814000_59]); (with_reducible repeat (first | apply Kd.R_alloc | apply Kd.R_drewN | apply Kd.R_drew)); exact Kd.R_mono HO_810000.out (fun _ hk => ⟨hk.1.1.1, ⟨hk.1.1.2, hk.2⟩⟩)⟩, ⟨by (try simp only [hl814000_59]); (with_reducible repeat (first | apply Kd.R_alloc | apply Kd.R_drewN | apply Kd.R_drew)); exact Kd.R_mono HO_814000.out (fun _ hk => ⟨hk.1.1.1, ⟨hk.1.1.2, hk.2⟩⟩)⟩, ⟨by (try simp only [hl814000_59]); (with_reducible repeat (first | apply Kd.R_alloc | apply Kd.R_drewN | apply Kd.R_drew)); exact Kd.R_mono HO_819000.out (fun _ hk => ⟨hk.1.1.1, ⟨hk.1.1.2, hk.2⟩⟩)⟩, ⟨by (try simp only [hl814000_59]); (with_reducible repeat (first | apply Kd.R_alloc | apply Kd.R_drewN | apply Kd.R_drew)); exact Kd.R_mono HO835.out (fun _ hk => ⟨hk.1.1.1.2, ⟨hk.1.1.2, hk.1.2⟩⟩)⟩, ⟨by (try simp only [hl814000_59]); (with_reducible repeat (first | refine blk_drewN ?_ _ | refine blk_drew ?_ | refine blk_alloc ?_ _)); exact BK800.out⟩, ⟨by (try simp only [hl814000_59]); (with_reducible repeat (first | refine blk_drewN ?_ _ | refine blk_drew ?_ | refine blk_alloc ?_ _)); exact BK809.out⟩, ⟨by (try simp only [hl814000_59]); (with_reducible repeat (first | refine blk_drewN ?_ _ | refine blk_drew ?_ | refine blk_alloc ?_ _)); exact BK813.out⟩, ⟨by (try simp only [hl814000_59]); (with_reducible repeat (first | refine blk_drewN ?_ _ | refine blk_drew ?_ | refine blk_alloc ?_ _)); exact BK818.out⟩, ⟨by (try simp only [hl814000_59]); (with_reducible repeat (first | refine blk_drewN ?_ _ | refine blk_drew ?_ | refine blk_alloc ?_ _)); exact BK837.out⟩, ⟨by repeat (first | (with_reducible first | exact HB.out | apply below_alloc | apply pw_below_drewN | apply below_drew1 | refine below_set ?_ GE800.out | refine below_set ?_ GE809.out | refine below_set ?_ GE813.out | refine below_set ?_ GE818.out | refine below_set ?_ GE837.out) | exact HB.out)⟩⟩
            ·replace c125 := Bool.eq_false_iff.mpr c125
             subst c125
             have H1 : (laws_FnExactParentOf.j2 kj59 t827 true t828) = some true := by rw [if_neg (show ¬ (false = true) by decide)] at H; exact H
             clear H
             have H := H1
             clear H1
             have H' := Aside0.mk H
             clear H
             have hnb136 := NB837_800.out
             have hnc136 := NB800_837.out
             have hnb137 := NB837_809.out
             have hnc137 := NB809_837.out
             have hnb138 := NB837_813.out
             have hnc138 := NB813_837.out
             have hnb139 := NB837_818.out
             have hnc139 := NB818_837.out
             have hcz140_0 : w117.cell? ⟨gb837, 0, none⟩ = some (.slice none 0 0) := (blk_cell BK837.out 0).trans rfl
             have hfz140_0 := blk_frozen BK837.out 0
             have hnb141 := NB809_800.out
             have hnc141 := NB800_809.out
             have hnb142 := NB809_813.out
             have hnc142 := NB813_809.out
             have hnb143 := NB809_818.out
             have hnc143 := NB818_809.out
             have hcz144_0 : w117.cell? ⟨gb809, 0, none⟩ = some (.slice Ao20 t805.length co20) := (blk_cell BK809.out 0).trans rfl
             have hfz144_0 := blk_frozen BK809.out 0
             go_wp2_with (first | ((with_reducible refine gate_callee (f := 18) rfl ?_); refine goesL_ (some 81) rfl rfl Try.func18 (by kernel_rfl) rfl #[.agg #[.slice Ao118 t833.length co118], .agg #[.slice Ao20 t805.length co20]] rfl (by (try simp only [List.map_toArray, List.map_cons, List.map_nil]); first | done | rfl | (simp only [List.length_drop, List.length_take]; rfl)) ?_; (with_reducible refine (laws_eqSemigroup.calls kj59 _ _ t833 _ _ t805 false _ ?side1 ?side2 ?side3 ?side4 A124.out).mono ?_); (case side1 => refine (Kd.R_reads' (e := 3) (base := w.heap.size) (ok := fun k_ => ((((True ∧ some k_ ≠ (.slice Ao20 t805.length co20 : Value).ownBlock) ∧ some k_ ≠ (.slice Ao26 t825.length co26 : Value).ownBlock) ∧ some k_ ≠ (.slice Ao32 t814.length co32 : Value).ownBlock) ∧ some k_ ≠ (.slice Ao115 t830.length co115 : Value).ownBlock)) (n := t833.length) (c := co118) ?_).2.2; exact (by (with_reducible repeat (first | apply Kd.R_alloc | apply Kd.R_drewN | apply Kd.R_drew)); exact (Kd.R_mono (Kd.R_far (p := ⟨gb837, 0, none⟩) (Kd.R_types HO835.out BK837.out (by decide)) (fun _ hk => hk.2) (.slice Ao118 t833.length co118)) (fun _ h_ => h_.1)))); (case side2 => exact (Kd.R_reads' HO835.out).2.1); (case side3 => refine (Kd.R_reads' (e := 3) (base := w.heap.size) (ok := fun k_ => (((some k_ ≠ (.slice Ao26 t825.length co26 : Value).ownBlock ∧ some k_ ≠ (.slice Ao32 t814.length co32 : Value).ownBlock) ∧ some k_ ≠ (.slice Ao115 t830.length co115 : Value).ownBlock) ∧ some k_ ≠ (.slice Ao118 t833.length co118 : Value).ownBlock)) (n := t805.length) (c := co20) ?_).2.2; exact (by (with_reducible repeat (first | apply Kd.R_alloc | apply Kd.R_drewN | apply Kd.R_drew)); exact (Kd.R_mono (Kd.R_far (p := ⟨gb837, 0, none⟩) (Kd.R_types HO_810000.out BK837.out (by decide)) (fun _ hk => hk.2) (.slice Ao118 t833.length co118)) (fun _ h_ => h_.1)))); (case side4 => exact (Kd.R_reads' HO_810000.out).2.1); rintro e w145 ⟨rfl, hb⟩; refine ⟨_, rfl, ?_⟩; have n0_ := Aside0.mk (Kd.R_below (by (with_reducible repeat (first | apply Kd.R_alloc | apply Kd.R_drewN | apply Kd.R_drew)); exact (Kd.R_mono (Kd.R_far (p := ⟨gb837, 0, none⟩) (Kd.R_types HO_810000.out BK837.out (by decide)) (fun _ hk => hk.2) (.slice Ao118 t833.length co118)) (fun _ h_ => h_.1))) hb); have n1_ := Aside0.mk (Kd.R_below (by (with_reducible repeat (first | apply Kd.R_alloc | apply Kd.R_drewN | apply Kd.R_drew)); exact (Kd.R_mono (Kd.R_far (p := ⟨gb837, 0, none⟩) (Kd.R_types HO_814000.out BK837.out (by decide)) (fun _ hk => hk.2) (.slice Ao118 t833.length co118)) (fun _ h_ => h_.1))) hb); have n2_ := Aside0.mk (Kd.R_below (by (with_reducible repeat (first | apply Kd.R_alloc | apply Kd.R_drewN | apply Kd.R_drew)); exact (Kd.R_mono (Kd.R_far (p := ⟨gb837, 0, none⟩) (Kd.R_types HO_819000.out BK837.out (by decide)) (fun _ hk => hk.2) (.slice Ao118 t833.length co118)) (fun _ h_ => h_.1))) hb); have n3_ := Aside0.mk (Kd.R_below (by (with_reducible repeat (first | apply Kd.R_alloc | apply Kd.R_drewN | apply Kd.R_drew)); exact (Kd.R_mono (Kd.R_far (p := ⟨gb837, 0, none⟩) (Kd.R_types HO832.out BK837.out (by decide)) (fun _ hk => hk.2) (.slice Ao118 t833.length co118)) (fun _ h_ => h_.1))) hb); have n4_ := Aside0.mk (Kd.R_below (by (with_reducible repeat (first | apply Kd.R_alloc | apply Kd.R_drewN | apply Kd.R_drew)); exact (Kd.R_mono (Kd.R_far (p := ⟨gb837, 0, none⟩) (Kd.R_types HO835.out BK837.out (by decide)) (fun _ hk => hk.2) (.slice Ao118 t833.length co118)) (fun _ h_ => h_.1))) hb); have n5_ := Aside0.mk (blk_below (g := gb800) (o := .cells #[.slice A0_0 l0_0.length c0_0] 24 (0, 0)) (by (with_reducible repeat (first | refine blk_drewN ?_ _ | refine blk_drew ?_ | refine blk_alloc ?_ _)); refine blk_far ?_ NB800_837.out _; (with_reducible repeat (first | refine blk_drewN ?_ _ | refine blk_drew ?_ | refine blk_alloc ?_ _)); exact BK800.out) hb); have n6_ := Aside0.mk (blk_below (g := gb809) (o := .cells #[.slice Ao20 t805.length co20] 27 (0, 0)) (by (with_reducible repeat (first | refine blk_drewN ?_ _ | refine blk_drew ?_ | refine blk_alloc ?_ _)); refine blk_far ?_ NB809_837.out _; (with_reducible repeat (first | refine blk_drewN ?_ _ | refine blk_drew ?_ | refine blk_alloc ?_ _)); exact BK809.out) hb); have n7_ := Aside0.mk (blk_below (g := gb813) (o := .cells #[.slice Ao26 t825.length co26] 27 (0, 0)) (by (with_reducible repeat (first | refine blk_drewN ?_ _ | refine blk_drew ?_ | refine blk_alloc ?_ _)); refine blk_far ?_ NB813_837.out _; (with_reducible repeat (first | refine blk_drewN ?_ _ | refine blk_drew ?_ | refine blk_alloc ?_ _)); exact BK813.out) hb); have n8_ := Aside0.mk (blk_below (g := gb818) (o := .cells #[.slice Ao32 t814.length co32] 27 (0, 0)) (by (with_reducible repeat (first | refine blk_drewN ?_ _ | refine blk_drew ?_ | refine blk_alloc ?_ _)); refine blk_far ?_ NB818_837.out _; (with_reducible repeat (first | refine blk_drewN ?_ _ | refine blk_drew ?_ | refine blk_alloc ?_ _)); exact BK818.out) hb); have n9_ := Aside0.mk (blk_below (g := gb837) (o := .cells #[.slice Ao118 t833.length co118] 27 (0, 0)) (by (with_reducible repeat (first | refine blk_drewN ?_ _ | refine blk_drew ?_ | refine blk_alloc ?_ _)); refine blk_put (cs := #[.slice none 0 0]) ?_ 0 _ rfl; (with_reducible repeat (first | refine blk_drewN ?_ _ | refine blk_drew ?_ | refine blk_alloc ?_ _)); exact BK837.out) hb); have n10_ := Aside0.mk (below_step (by repeat (first | (with_reducible first | exact HB.out | apply below_alloc | apply pw_below_drewN | apply below_drew1 | refine below_set ?_ GE800.out | refine below_set ?_ GE809.out | refine below_set ?_ GE813.out | refine below_set ?_ GE818.out | refine below_set ?_ GE837.out) | exact HB.out)) hb); clear HO_810000; clear HO_814000; clear HO_819000; clear HO832; clear HO835; clear BK800; clear BK809; clear BK813; clear BK818; clear BK837; clear HB; have HO_810000 := n0_; have HO_814000 := n1_; have HO_819000 := n2_; have HO832 := n3_; have HO835 := n4_; have BK800 := n5_; have BK809 := n6_; have BK813 := n7_; have BK818 := n8_; have BK837 := n9_; have HB := n10_; clear n0_ n1_ n2_ n3_ n4_ n5_ n6_ n7_ n8_ n9_ n10_; (try clear hb); (try clear hb2); (try clear hk); (try clear hi)))
             go_meet
             case rel => exact ⟨_, (true), (by first | rfl | (simp; done) | (simp [*]; done)), H', ⟨by have := HJ10.out; have := HJ59.out; first | omega | exact Nat.le_refl _⟩, ⟨by (try simp only [hl814000_59]); (with_reducible repeat (first | apply Kd.R_alloc | apply Kd.R_drewN | apply Kd.R_drew)); exact Kd.R_mono HO_810000.out (fun _ hk => ⟨hk.1.1.1, ⟨hk.1.1.2, hk.2⟩⟩)⟩, ⟨by (try simp only [hl814000_59]); (with_reducible repeat (first | apply Kd.R_alloc | apply Kd.R_drewN | apply Kd.R_drew)); exact Kd.R_mono HO_814000.out (fun _ hk => ⟨hk.1.1.1, ⟨hk.1.1.2, hk.2⟩⟩)⟩, ⟨by (try simp only [hl814000_59]); (with_reducible repeat (first | apply Kd.R_alloc | apply Kd.R_drewN | apply Kd.R_drew)); exact Kd.R_mono HO_819000.out (fun _ hk => ⟨hk.1.1.1, ⟨hk.1.1.2, hk.2⟩⟩)⟩, ⟨by (try simp only [hl814000_59]); (with_reducible repeat (first | apply Kd.R_alloc | apply Kd.R_drewN | apply Kd.R_drew)); exact Kd.R_mono HO835.out (fun _ hk => ⟨hk.1.1.1.2, ⟨hk.1.1.2, hk.1.2⟩⟩)⟩, ⟨by (try simp only [hl814000_59]); (with_reducible repeat (first | refine blk_drewN ?_ _ | refine blk_drew ?_ | refine blk_alloc ?_ _)); exact BK800.out⟩, ⟨by (try simp only [hl814000_59]); (with_reducible repeat (first | refine blk_drewN ?_ _ | refine blk_drew ?_ | refine blk_alloc ?_ _)); exact BK809.out⟩, ⟨by (try simp only [hl814000_59]); (with_reducible repeat (first | refine blk_drewN ?_ _ | refine blk_drew ?_ | refine blk_alloc ?_ _)); exact BK813.out⟩, ⟨by (try simp only [hl814000_59]); (with_reducible repeat (first | refine blk_drewN ?_ _ | refine blk_drew ?_ | refine blk_alloc ?_ _)); exact BK818.out⟩, ⟨by (try simp only [hl814000_59]); (with_reducible repeat (first | refine blk_drewN ?_ _ | refine blk_drew ?_ | refine blk_alloc ?_ _)); exact BK837.out⟩, ⟨by repeat (first | (with_reducible first | exact HB.out | apply below_alloc | apply pw_below_drewN | apply below_drew1 | refine below_set ?_ GE800.out | refine below_set ?_ GE809.out | refine below_set ?_ GE813.out | refine below_set ?_ GE818.out | refine below_set ?_ GE837.out) | exact HB.out)⟩⟩
           case rest =>
            clear HC103
            try clear c1
            try clear c2
            try clear p2
            try clear c3
            try clear c3b0
            try clear c4
            try clear c5
            try clear c6
            try clear c7
            try clear c8
            try clear c9
            try clear c10
            try clear c11
            try clear c12
            try clear c13
            try clear c14
            try clear c16
            try clear c18
            try clear c21
            try clear c22
            try clear c27
            try clear c28
            try clear c29
            try clear c33
            try clear c34
            try clear c35
            try clear c38
            try clear c39
            try clear c40
            try clear c41
            try clear c43
            try clear c44
            try clear c47
            try clear c48
            try clear c49
            try clear c51
            try clear c52
            try clear c55
            try clear c58
            try clear c65
            try clear c66
            try clear c67
            try clear c70
            try clear c70b0
            try clear c72
            try clear c73
            try clear c74
            try clear c75
            try clear c77
            try clear c78
            try clear c81
            try clear c82
            try clear c83
            try clear c85
            try clear c86
            try clear c89
            try clear c92
            try clear c92b0
            try clear c93
            try clear c94
            try clear c95
            try clear c100
            try clear c100b0
            try clear c100b1
            try clear c104
            try clear c105
            try clear c106
            try clear c111
            try clear c112
            try clear c119
            try clear c120
            try clear c121
            try clear c122
            try clear c125
            try clear c126
            try clear c127
            try clear c128
            try clear c129
            try clear c131
            try clear c132
            try clear c133
            try clear c136
            try clear c137
            try clear c138
            try clear c139
            try clear c141
            try clear c142
            try clear c143
            try clear hcz107_0
            try clear hcz109_0
            try clear hcz113_0
            try clear hcz123_0
            try clear hcz130_0
            try clear hcz134_0
            try clear hcz13_0
            try clear hcz140_0
            try clear hcz144_0
            try clear hcz15_0
            try clear hcz22_0
            try clear hcz23_0
            try clear hcz29_0
            try clear hcz36_0
            try clear hcz42_0
            try clear hcz45_0
            try clear hcz50_0
            try clear hcz53_0
            try clear hcz5_0
            try clear hcz68_0
            try clear hcz76_0
            try clear hcz79_0
            try clear hcz84_0
            try clear hcz87_0
            try clear hcz96_0
            try clear hcz98_0
            try clear hfz107_0
            try clear hfz109_0
            try clear hfz113_0
            try clear hfz123_0
            try clear hfz130_0
            try clear hfz134_0
            try clear hfz13_0
            try clear hfz140_0
            try clear hfz144_0
            try clear hfz15_0
            try clear hfz22_0
            try clear hfz23_0
            try clear hfz29_0
            try clear hfz36_0
            try clear hfz42_0
            try clear hfz45_0
            try clear hfz50_0
            try clear hfz53_0
            try clear hfz5_0
            try clear hfz68_0
            try clear hfz76_0
            try clear hfz79_0
            try clear hfz84_0
            try clear hfz87_0
            try clear hfz96_0
            try clear hfz98_0
            try clear p2
            obtain ⟨kq, x87_102, rfl, HA, HJ102, HO_810000, HO_814000, HO_819000, HO_838000, BK800, BK809, BK813, BK818, BK837, HB⟩ := hcut
            have hl819000_102 := (Kd.R_reads' HO_819000.out).1
            rw [hl819000_102] at HO_819000
            (try simp only [hl819000_102])
            (try simp only [hl819000_102] at BK800)
            (try simp only [hl819000_102] at BK809)
            (try simp only [hl819000_102] at BK813)
            (try simp only [hl819000_102] at BK818)
            (try simp only [hl819000_102] at BK837)
            (try simp only [hl819000_102] at HO_810000)
            (try simp only [hl819000_102] at HO_814000)
            (try simp only [hl819000_102] at HO_838000)
            cases kq with
            | zero => exact absurd HA.out (by simp [laws_FnExactParentOf.j2])
            | succ kj102 =>
             have H := HA.out
             clear HA
             simp only [laws_FnExactParentOf.j2] at H
             by_cases c146 : x87_102 = true
             ·subst c146
              have H1 : (some false) = some true := by rw [if_pos rfl] at H; exact H
              clear H
              have H := H1
              clear H1
              exact absurd (Option.some.inj H) (by decide)
             ·replace c146 := Bool.eq_false_iff.mpr c146
              subst c146
              have H1 : ((laws_heldSemigroup.f kj102 t828 1).bind fun t839 => (if t839 < 0 then (some false) else (if t839 = t827 then (some true) else (some false)))) = some true := by rw [if_neg (show ¬ (false = true) by decide)] at H; exact H
              clear H
              have H := H1
              clear H1
              replace H := Option.bind_eq_some_iff.mp H
              obtain ⟨t839, A1470, H⟩ := H
              replace H : (if t839 < 0 then (some false) else (if t839 = t827 then (some true) else (some false))) = some true := H
              have A147 := Aside0.mk A1470
              clear A1470
              by_cases c148 : t839 < 0
              ·rw [if_pos c148] at H
               have c148b0 : decide (t839 < 0) = true := decide_eq_true c148
               clear c148
               exact absurd (Option.some.inj H) (by decide)
              ·rw [if_neg c148] at H
               have c148b0 : decide (t839 < 0) = false := decide_eq_false c148
               clear c148
               by_cases c155 : t839 = t827
               ·rw [if_pos c155] at H
                have c155b0 : (t839 == t827) = true := beq_iff_eq.mpr c155
                have c155b1 : (t839 != t827) = false := bne_eq_false_iff_eq.mpr c155
                clear c155
                skip
                have hnb156 := NB818_800.out
                have hnc156 := NB800_818.out
                have hnb157 := NB818_809.out
                have hnc157 := NB809_818.out
                have hnb158 := NB818_813.out
                have hnc158 := NB813_818.out
                have hnb159 := NB818_837.out
                have hnc159 := NB837_818.out
                have hcz160_0 : wc.cell? ⟨gb818, 0, none⟩ = some (.slice Ao32 t828.length co32) := (blk_cell BK818.out 0).trans rfl
                have hfz160_0 := blk_frozen BK818.out 0
                go_wp2_with (first | ((with_reducible refine gate_callee (f := 27) rfl ?_); refine goesL_ (some 90) rfl rfl Try.func27 (by kernel_rfl) rfl #[.agg #[.slice Ao32 t828.length co32], .int .i64 1] rfl (by (try simp only [List.map_toArray, List.map_cons, List.map_nil]); first | done | rfl | (simp only [List.length_drop, List.length_take]; rfl)) ?_; (with_reducible refine (laws_heldSemigroup.calls kj102 _ _ t828 1 t839 _ ?side1 ?side2 A147.out).mono ?_); (case side1 => repeat (first | exact (Kd.R_reads' HO_819000.out).2.2 | (with_reducible refine Kd.C_alloc ?_ _) | (with_reducible refine Kd.C_drewN ?_ _) | (with_reducible refine Kd.C_drew ?_))); (case side2 => exact (Kd.R_reads' HO_819000.out).2.1); rintro e w161 ⟨rfl, hb⟩; refine ⟨_, rfl, ?_⟩; have n0_ := Aside0.mk (Kd.R_below (by (with_reducible repeat (first | apply Kd.R_alloc | apply Kd.R_drewN | apply Kd.R_drew)); exact HO_810000.out) hb); have n1_ := Aside0.mk (Kd.R_below (by (with_reducible repeat (first | apply Kd.R_alloc | apply Kd.R_drewN | apply Kd.R_drew)); exact HO_814000.out) hb); have n2_ := Aside0.mk (Kd.R_below (by (with_reducible repeat (first | apply Kd.R_alloc | apply Kd.R_drewN | apply Kd.R_drew)); exact HO_819000.out) hb); have n3_ := Aside0.mk (Kd.R_below (by (with_reducible repeat (first | apply Kd.R_alloc | apply Kd.R_drewN | apply Kd.R_drew)); exact HO_838000.out) hb); have n4_ := Aside0.mk (blk_below (g := gb800) (o := .cells #[.slice A0_0 l0_0.length c0_0] 24 (0, 0)) (by (with_reducible repeat (first | refine blk_drewN ?_ _ | refine blk_drew ?_ | refine blk_alloc ?_ _)); exact BK800.out) hb); have n5_ := Aside0.mk (blk_below (g := gb809) (o := .cells #[.slice Ao20 t805.length co20] 27 (0, 0)) (by (with_reducible repeat (first | refine blk_drewN ?_ _ | refine blk_drew ?_ | refine blk_alloc ?_ _)); exact BK809.out) hb); have n6_ := Aside0.mk (blk_below (g := gb813) (o := .cells #[.slice Ao26 t825.length co26] 27 (0, 0)) (by (with_reducible repeat (first | refine blk_drewN ?_ _ | refine blk_drew ?_ | refine blk_alloc ?_ _)); exact BK813.out) hb); have n7_ := Aside0.mk (blk_below (g := gb818) (o := .cells #[.slice Ao32 t828.length co32] 27 (0, 0)) (by (with_reducible repeat (first | refine blk_drewN ?_ _ | refine blk_drew ?_ | refine blk_alloc ?_ _)); exact BK818.out) hb); have n8_ := Aside0.mk (blk_below (g := gb837) (o := .cells #[.slice Ao118 t833.length co118] 27 (0, 0)) (by (with_reducible repeat (first | refine blk_drewN ?_ _ | refine blk_drew ?_ | refine blk_alloc ?_ _)); exact BK837.out) hb); have n9_ := Aside0.mk (below_step (by repeat (first | (with_reducible first | exact HB.out | apply below_alloc | apply pw_below_drewN | apply below_drew1 | refine below_set ?_ GE800.out | refine below_set ?_ GE809.out | refine below_set ?_ GE813.out | refine below_set ?_ GE818.out | refine below_set ?_ GE837.out) | exact HB.out)) hb); clear HO_810000; clear HO_814000; clear HO_819000; clear HO_838000; clear BK800; clear BK809; clear BK813; clear BK818; clear BK837; clear HB; have HO_810000 := n0_; have HO_814000 := n1_; have HO_819000 := n2_; have HO_838000 := n3_; have BK800 := n4_; have BK809 := n5_; have BK813 := n6_; have BK818 := n7_; have BK837 := n8_; have HB := n9_; clear n0_ n1_ n2_ n3_ n4_ n5_ n6_ n7_ n8_ n9_; (try clear hb); (try clear hb2); (try clear hk); (try clear hi)))
                go_ret
                exact ⟨by first | rfl | (simp [errW_none, errW_some] <;> rfl) | (simp [*, errW_none, errW_some] <;> rfl), by repeat (first | (with_reducible first | exact HB.out | apply below_alloc | apply pw_below_drewN | apply below_drew1 | refine below_set ?_ GE800.out | refine below_set ?_ GE809.out | refine below_set ?_ GE813.out | refine below_set ?_ GE818.out | refine below_set ?_ GE837.out) | exact HB.out)⟩
               ·rw [if_neg c155] at H
                have c155b0 : (t839 == t827) = false := beq_eq_false_iff_ne.mpr c155
                have c155b1 : (t839 != t827) = true := bne_iff_ne.mpr c155
                exact absurd (Option.some.inj H) (by decide)
          ·rw [if_neg c100] at H
           have c100b0 : (t829 == t827) = false := beq_eq_false_iff_ne.mpr c100
           have c100b1 : (t829 != t827) = true := bne_iff_ne.mpr c100
           exact absurd (Option.some.inj H) (by decide)
     ·replace c58 := Bool.eq_false_iff.mpr c58
      subst c58
      have H1 : (some false) = some true := by rw [if_neg (show ¬ (false = true) by decide)] at H; exact H
      clear H
      have H := H1
      clear H1
      exact absurd (Option.some.inj H) (by decide)
end Go.Proofs.Ytlfdipnhlmjiaaa.C
