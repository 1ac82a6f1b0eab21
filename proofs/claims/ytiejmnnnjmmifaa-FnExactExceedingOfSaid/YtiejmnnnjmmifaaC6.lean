/- Contracts of functions of the program: impl_table, impl_reach, slices_Sort_int_int, slices_Compact_int_int, impl_SortList, impl_extreme, laws_eqIntS, laws_eqSemigroup, laws_markIntS, laws_markSemigroup, laws_heldIntS. -/
import Derived.Test.YtiejmnnnjmmifaaC0
import Derived.Test.YtiejmnnnjmmifaaC4
import Derived.Test.YtiejmnnnjmmifaaC5
namespace Go.Proofs.Ytiejmnnnjmmifaa.C
open Go.RowKit Go.Proofs.YtiejmnnnjmmifaaW.PrintWords Go.Proofs.YtiejmnnnjmmifaaW.PrintLast Go.Proofs.YtiejmnnnjmmifaaW.PrintMore
attribute [local go_sem] max2_int min2_int max_two min_two max_three min_three max_four min_four
set_option linter.unusedVariables false
set_option linter.unusedSimpArgs false

/-! ### impl_table: function 88 -/
def impl_table.l0 : Nat → List Int → List Bool → Int → Int → List Int → Option (List Bool)
 | 0, _, _, _, _, _ => none
 | k + 1, x5, x6, x19, x20, x295000 => if x20 < x19 then (if 0 < (x295000.length : Int) then (if (rd x295000 0) = 0 then (none) else (if 0 ≤ (Int.tmod x20 (rd x295000 0)) then (if (Int.tmod x20 (rd x295000 0)) < (x5.length : Int) then (if 0 ≤ x20 then (if x20 < (x6.length : Int) then (impl_table.l0 k x5 (x6.set (x20 : Int).toNat (decide ((rd x5 (Int.tmod x20 (rd x295000 0))) ≤ x20))) x19 (wrap64 (x20 + 1)) x295000) else (none)) else (none)) else (none)) else (none))) else (none)) else (some x6)
def impl_table.f (k : Nat) (l0_0 : List Int) (a1 : Int) : Option (List Bool) := if 0 < (l0_0.length : Int) then ((impl_leasts.f k l0_0 (rd l0_0 0)).bind fun t296 => (if 0 ≤ (wrap64 (a1 + 1)) then (if (wrap64 (a1 + 1) : Int).toNat ≤ 281474976710656 then ((some (List.replicate (wrap64 (a1 + 1) : Int).toNat false : List Bool)).bind fun y299 => (impl_table.l0 k t296 y299 (y299.length : Int) 0 l0_0)) else (none)) else (none))) else (none)
def impl_table.T1 : Bool × List (List Nat × List Nat) := (true, [([], []), ([0], [0]), ([], []), ([2], [2]), ([3], [3]), ([4], [4]), ([1, 5], [1, 5]), ([6, 6, 0, 1, 2, 3, 4, 5, 6], [6])])
def impl_table.B1 : List Nat := [0, 1, 0, 4, 12, 28, 63, 127]
theorem impl_table.tab1 : rtab .any (opsOf Try.f88 1) = impl_table.T1 := by kernel_rfl
theorem impl_table.bits1 : waitsOk impl_table.T1.2 impl_table.B1 = true := by kernel_rfl
set_option maxHeartbeats 8000000 in
set_option maxRecDepth 100000 in
theorem impl_table.calls (k : Nat) (A0_0 : Option Addr) (c0_0 : Nat) (l0_0 : List Int) (a1 : Int) (r : List Bool) (w : World) (hr0_0 : Kd.C (Kd.int .i64) w A0_0 l0_0.length l0_0) (hc0_0 : l0_0.length ≤ c0_0) (h : impl_table.f k l0_0 a1 = some r) :
  Calls Try.prog 88 #[.agg #[.slice A0_0 l0_0.length c0_0], .int .i64 a1] w fun e w' => ∃ v0_ : Value, e = .returned (v0_) ∧ Kd.R Kd.bool 4 w' w.heap.size (fun _ => True) v0_ r ∧ Below w.heap.size w w' := by
 have hu27 := Try.underlying27
 have HR0_0 := Aside0.mk hr0_0
 have HC0_0 := Aside0.mk hc0_0
 clear hr0_0 hc0_0
 have HB := Aside0.mk (Below.refl w.heap.size w)
 have H : (if 0 < (l0_0.length : Int) then ((impl_leasts.f k l0_0 (rd l0_0 0)).bind fun t296 => (if 0 ≤ (wrap64 (a1 + 1)) then (if (wrap64 (a1 + 1) : Int).toNat ≤ 281474976710656 then ((some (List.replicate (wrap64 (a1 + 1) : Int).toNat false : List Bool)).bind fun y299 => (impl_table.l0 k t296 y299 (y299.length : Int) 0 l0_0)) else (none)) else (none))) else (none)) = some r := h
 clear h
 replace H := gp H; obtain ⟨c3, H⟩ := H
 have c3b0 : decide (0 < (l0_0.length : Int)) = true := decide_eq_true c3
 have c3b1 : decide (0 < l0_0.length) = true := decide_eq_true (by omega)
 clear c3
 replace H := ga H; obtain ⟨t296, A4, H⟩ := H
 obtain ⟨ji5, hji5⟩ : ∃ j_ : Int, (wrap64 (a1 + 1)) = j_ := ⟨_, rfl⟩
 replace H : (if 0 ≤ (ji5) then (if (ji5 : Int).toNat ≤ 281474976710656 then ((some (List.replicate (ji5 : Int).toNat false : List Bool)).bind fun y299 => (impl_table.l0 k t296 y299 (y299.length : Int) 0 l0_0)) else (none)) else (none)) = some r := by first | (rw [hji5] at H; exact H) | (simp only [hji5] at H ⊢; exact H)
 (try rw [hji5] at A4)
 have hji5w : (IntKind.i64.wrap (a1 + 1)) = ji5 := (i64_w _).trans hji5
 replace H := gp H; obtain ⟨c6, H⟩ := H
 have c6b0 := eq_true c6
 have c6b1 : decide (0 ≤ (ji5)) = true := decide_eq_true c6
 clear c6
 replace H := gp H; obtain ⟨c7, H⟩ := H
 have c7b0 := eq_true c7
 have c7b1 : decide ((ji5 : Int).toNat ≤ 281474976710656) = true := decide_eq_true c7
 clear c7
 obtain ⟨y299, hy299⟩ : ∃ y_ : List Bool, y_ = (List.replicate (ji5 : Int).toNat false) := ⟨_, rfl⟩
 replace H : (impl_table.l0 k t296 y299 (y299.length : Int) 0 l0_0) = some r := by first | (rw [hy299]; with_reducible exact H) | (have H2_ := (Option.bind_some _ _).symm.trans H; rw [hy299]; with_reducible exact H2_) | (have H2_ := (Option.bind_some _ _).symm.trans H; with_reducible exact H2_) | with_reducible exact H | (rw [hy299]; exact H) | exact H
 have Ny299 := Aside0.mk hy299
 clear hy299
 have H' := Aside0.mk H
 clear H
 go_enter Try.func88, Try.ntmps88
 try go_wp2_with (first | ((with_reducible refine gate_dst (N := 2) rfl ?_); refine bx 2 #[.slice A0_0 l0_0.length c0_0] 27 ?_; intro gb294 hg w8 hbox hb; have BK294 := Aside0.mk (hbox); have GW294 := Aside0.mk (gs hg : w.heap.size ≤ gb294); have GE294 := Aside0.mk (gs hg : w.heap.size ≤ gb294); replace HB := Aside0.mk (below_step bw hb); clear hb hbox hg))
 replace BK294 := Aside0.mk (blk_drew BK294.out)
 replace HB := Aside0.mk (below_drew1 HB.out)
 have p295 : 0 ≤ (0 : Int) := (by omega)
 have q295 : 0 < (l0_0.length : Int) := of_decide_eq_true (by first | (with_reducible assumption) | assumption)
 obtain ⟨ad295, e295, hx295_0⟩ := Kd.at_int HR0_0.out 0 p295 q295
 have hw295_0 := hx295_0
 (try rw [show ((0 : Int)).toNat = 0 from rfl] at hw295_0)
 (try rw [show 0 * 1 = 0 from rfl] at hw295_0)
 (try rw [Addr.add_zero'] at hw295_0)
 cases e295
 have qi295 : (0 < l0_0.length) = True := eq_true (by omega)
 (try rw [show ((0 : Int)).toNat = 0 from rfl] at hx295_0)
 (try rw [Addr.add_zero'] at hx295_0)
 replace hx295_0 := (HB.out.cell (World.block_lt_of_cell? w _ hx295_0)).trans hx295_0
 replace p295 := eq_true p295
 replace q295 := eq_true q295
 refine start_ (n := 8) (S := fun w' => w'.cell? ⟨gb294, 0, none⟩ = some (.slice (some ad295) l0_0.length c0_0) ∧ w'.cell? ad295 = some (.int .i64 (rd l0_0 0))) (ds := []) #[Z,Z,Z,Z,Z,Z,Z,Z] (by kernel_rfl) rfl rfl ⟨(blk_cell BK294.out 0).trans rfl, ((HB.out.cell (World.block_lt_of_cell? w _ hw295_0)).trans hw295_0)⟩ (fun hHeld => ?_); refine with_tabW impl_table.tab1 impl_table.bits1 (fun HT_ HW_ => ?_)
 generalize w8.drew = w9 at BK294 HB hx295_0 hHeld ⊢
 refine pa 0 (some 8) #[Y,Z,Z,Z,Z,Z,Z,Z] HT_ ?_
 refine pa 2 (some 10) #[Y,Z,Y,Z,Z,Z,Z,Z] HT_ ?_
 refine take_ (i := 1) (N := some 9) (v := ?_) (a' := ?_) #[Y,Y,Y,Z,Z,Z,Z,Z] rfl rfl (take_ofW HT_.out HW_.out (by kernel_rfl)) (fun _ _ _ h => h) (Or.inl ⟨by rfl, ?_⟩) hHeld ?_ ?_
 rotate_left
 ·rintro w' ⟨s0, s1⟩
  go_simp
  with_reducible rfl
 rotate_left
 ·simp only [Act.put, qa, qb, qc, i64_w, i32_w]
  rfl
 refine take_ (i := 3) (N := some 11) (v := ?_) (a' := ?_) #[Y,Y,Y,Y,Z,Z,Z,Z] rfl rfl (take_ofW HT_.out HW_.out (by kernel_rfl)) (fun _ _ _ h => h) (Or.inl ⟨by rfl, ?_⟩) hHeld ?_ ?_
 rotate_left
 ·rintro w' ⟨s0, s1⟩
  go_simp
  with_reducible rfl
 rotate_left
 ·simp only [Act.put, qa, qb, qc, i64_w, i32_w]
  rfl
 refine pa 4 (some 12) #[Y,Y,Y,Y,Y,Z,Z,Z] HT_ ?_
 refine take_ (i := 5) (N := some 13) (v := ?_) (a' := ?_) #[Y,Y,Y,Y,Y,Y,Z,Z] rfl rfl (take_ofW HT_.out HW_.out (by kernel_rfl)) (fun _ _ _ h => h) (Or.inl ⟨by rfl, ?_⟩) hHeld ?_ ?_
 rotate_left
 ·rintro w' ⟨s0, s1⟩
  go_simp
  with_reducible rfl
 rotate_left
 ·simp only [Act.put, qa, qb, qc, i64_w, i32_w]
  rfl
 refine oa 6 (some 14) #[Y,Y,Y,Y,Y,Y,Y,Z] HT_ (fun K hK => ?_)
 refine gm Try.func95 #[.slice (some ad295) l0_0.length c0_0, .int .i64 (rd l0_0 0)] ?_
 with_reducible refine (impl_leasts.calls k _ _ l0_0 (rd l0_0 0) t296 _ ?side1 ?side2 A4.out).mono ?_
 (case side1 => exact co (Kd.C_below HR0_0.out HB.out))
 (case side2 => exact HC0_0.out)
 rintro e w10 ⟨v297, rfl, ho0, hb⟩
 refine ⟨_, rfl, ?_⟩
 have HO298 := Aside0.mk (Kd.R_lower ho0 (below_size bw))
 replace BK294 := Aside0.mk (blk_below (g := gb294) (o := .cells #[.slice (some ad295) l0_0.length c0_0] 27 (0, 0)) (bo BK294.out) hb)
 replace HB := Aside0.mk (below_step bw hb)
 clear hb ho0
 refine hK.out _ _ ⟨(blk_cell BK294.out 0).trans rfl, ((HB.out.cell (World.block_lt_of_cell? w _ hw295_0)).trans hw295_0)⟩ (fun hHeld => ?_)
 clear hK K
 refine norm_ (a' := ?_) ?_ ?_
 rotate_left
 ·show Act.put _ (some 14) _ = _
  simp only [Act.put, qa, qb, qc, i64_w, i32_w]
  rfl
 refine pa 7 (some 5) #[Y,Y,Y,Y,Y,Y,Y,Y] HT_ ?_
 refine done_ (done_of HT_.out (by kernel_rfl)) ?_
 try go_wp2_with (first | ((with_reducible refine gate_dst (N := 17) rfl ?_); refine Kd.R_make Kd.bool _ 4 rfl (N := 17) rfl 66 _ _ rfl ji5 rfl rfl Try.underlying66 (.bool false) 1 info4 rfl (by decide) (by omega) false (ok := fun _ => True) (okp := fun _ => True) rfl (fun _ hk => hk) trivial (of_decide_eq_true (by first | (with_reducible assumption) | assumption)) (Nat.le_trans (Nat.mul_le_mul_right _ (of_decide_eq_true (by first | (with_reducible assumption) | assumption) : ji5.toNat ≤ 281474976710656)) (by omega)) (Below.refl _ _) (Nat.le_refl _) ?_; intro v300 w11 ho12 hb hg_ hnew_; clear hg_ hnew_; (first | rw [← Ny299.out] at ho12 | (simp only [Int.reduceToNat] at ho12; rw [← Ny299.out] at ho12)); replace HO298 := Aside0.mk (Kd.R_below (ro HO298.out) hb); have HO301 := Aside0.mk (Kd.R_lower ho12 (below_size bw)); replace BK294 := Aside0.mk (blk_below (g := gb294) (o := .cells #[.slice (some ad295) l0_0.length c0_0] 27 (0, 0)) (bo BK294.out) hb); replace HB := Aside0.mk (below_step bw hb); clear hb ho12; obtain ⟨Ao13, co13, eo13⟩ := Kd.R_slice HO301.out; subst eo13))
 go_loopg [20] k (fun kq v20 w' => ∃ (x6_1 : List Bool) (x20_1 : Int), v20 = .int .i64 x20_1 ∧ Aside0 (impl_table.l0 kq t296 x6_1 (y299.length : Int) x20_1 l0_0 = some r) ∧ Aside0 (kq ≤ k) ∧ Aside0 (Kd.R (Kd.int .i64) 3 w' w.heap.size (fun _ => True) v297 t296) ∧ Aside0 (Kd.R Kd.bool 4 w' w.heap.size (fun _ => True) (.slice Ao13 y299.length co13) x6_1) ∧ Aside0 (w'.heap[gb294]? = some (.cells #[(.slice (some ad295) l0_0.length c0_0)] 27 (0, 0))) ∧ Aside0 (Below w.heap.size w w'))
 case atStart => exact ⟨(y299), (0), rr, H', ⟨Nat.le_refl _⟩, ⟨ro HO298.out⟩, ⟨ro HO301.out⟩, ⟨bo BK294.out⟩, ⟨bw⟩⟩
 case round =>
  clear H'
  try clear c3; try clear c3b0; try clear c3b1; try clear c6; try clear c6b0; try clear c6b1; try clear c7; try clear c7b0; try clear c7b1; try clear hx295_0; try clear p295; try clear q295
  obtain ⟨x6_1, x20_1, rfl, HA, HK1, HO_5, HO_6, BK294, HB⟩ := hrel
  have hl6_1 := (Kd.R_reads' HO_6.out).1
  rw [hl6_1] at HO_6
  (try simp only [hl6_1])
  (try simp only [hl6_1] at BK294)
  (try simp only [hl6_1] at HO_5)
  cases gk with
  | zero => exact absurd HA.out (by simp [impl_table.l0])
  | succ k1 =>
   have H := HA.out
   clear HA
   simp only [impl_table.l0] at H
   by_cases c14 : x20_1 < (y299.length : Int)
   ·rw [if_pos c14] at H
    have c14b0 : decide (x20_1 < (y299.length : Int)) = true := decide_eq_true c14
    (try simp only [hl6_1] at c14b0)
    clear c14
    replace H := gp H; obtain ⟨c15, H⟩ := H
    have c15b0 : decide (0 < (l0_0.length : Int)) = true := decide_eq_true c15
    have c15b1 : decide (0 < l0_0.length) = true := decide_eq_true (by omega)
    clear c15
    by_cases c16 : (rd l0_0 0) = 0
    ·rw [if_pos c16] at H
     exact absurd H (by simp)
    ·rw [if_neg c16] at H
     have c16b0 : ((rd l0_0 0) == 0) = false := beq_eq_false_iff_ne.mpr c16
     have c16b1 : ((rd l0_0 0) != 0) = true := bne_iff_ne.mpr c16
     obtain ⟨ji17, hji17⟩ : ∃ j_ : Int, (Int.tmod x20_1 (rd l0_0 0)) = j_ := ⟨_, rfl⟩
     replace H : (if 0 ≤ (ji17) then (if (ji17) < (t296.length : Int) then (if 0 ≤ x20_1 then (if x20_1 < (x6_1.length : Int) then (impl_table.l0 k1 t296 (x6_1.set (x20_1 : Int).toNat (decide ((rd t296 (ji17)) ≤ x20_1))) (y299.length : Int) (wrap64 (x20_1 + 1)) l0_0) else (none)) else (none)) else (none)) else (none)) = some r := by first | (rw [hji17] at H; exact H) | (simp only [hji17] at H ⊢; exact H)
     replace H := gd H; obtain ⟨c18b0, H⟩ := H
     replace H := gd H; obtain ⟨c19b0, H⟩ := H
     replace H := gd H; obtain ⟨c20b0, H⟩ := H
     by_cases c21 : x20_1 < (x6_1.length : Int)
     rotate_left
     ·rw [if_neg c21] at H
      exact absurd H (by simp)
     rw [if_pos c21] at H
     have c21b0 : decide (x20_1 < (x6_1.length : Int)) = true := decide_eq_true c21
     (try simp only [hl6_1] at c21b0)
     clear c21
     obtain ⟨y304, hy304⟩ : ∃ y_ : List Bool, y_ = (x6_1.set (x20_1 : Int).toNat (decide ((rd t296 (ji17)) ≤ x20_1))) := ⟨_, rfl⟩
     replace H : (impl_table.l0 k1 t296 y304 (y299.length : Int) (wrap64 (x20_1 + 1)) l0_0) = some r := by first | (rw [hy304]; with_reducible exact H) | (have H2_ := (Option.bind_some _ _).symm.trans H; rw [hy304]; with_reducible exact H2_) | (have H2_ := (Option.bind_some _ _).symm.trans H; with_reducible exact H2_) | with_reducible exact H | (rw [hy304]; exact H) | exact H
     have Ny304 := Aside0.mk hy304
     clear hy304
     have H' := Aside0.mk H
     clear H
     have hcz23_0 := bc BK294 0 (.slice (some ad295) l0_0.length c0_0)
     have hfz23_0 := blk_frozen BK294.out 0
     have p302 : 0 ≤ (0 : Int) := (by omega)
     have q302 : 0 < (l0_0.length : Int) := of_decide_eq_true (by first | (with_reducible assumption) | assumption)
     obtain ⟨ad302, e302, hx302_0⟩ := Kd.at_int HR0_0.out 0 p302 q302
     obtain rfl : ad295 = ad302 := (by injection e302)
     have qi302 : (0 < l0_0.length) = True := eq_true (by omega)
     (try rw [show ((0 : Int)).toNat = 0 from rfl] at hx302_0)
     (try rw [Addr.add_zero'] at hx302_0)
     replace hx302_0 := (HB.out.cell (World.block_lt_of_cell? w _ hx302_0)).trans hx302_0
     replace p302 := eq_true p302
     replace q302 := eq_true q302
     obtain ⟨Ao24, co24, eo24⟩ := Kd.R_slice HO_5.out
     subst eo24
     obtain ⟨⟨ad303, e303, hx303_0⟩, p303, q303⟩ := pq (Kd.at_int (Kd.R_reads' HO_5.out).2.2 (ji17))
     cases e303
     have p22 : 0 ≤ (x20_1 : Int) := of_decide_eq_true (by first | (with_reducible assumption) | assumption)
     have q22 : (x20_1 : Int) < ((x6_1.length : Int) : Int) := of_decide_eq_true (by first | (with_reducible assumption) | assumption)
     obtain ⟨go22, co22, eo22, gb22, gl22, cl22, HG22⟩ := Kd.R_form HO_6.out (by omega)
     (first | cases eo22 | (injection eo22 with ea_ en_ ec_; (first | subst ea_ | (injection ea_ with ea_; subst ea_)); subst ec_; clear en_))
     have GB22 := Aside0.mk gb22
     have GG22 := Aside0.mk HG22
     clear gb22 gl22 HG22
     obtain ⟨hx22_0, hf22_0⟩ := Kd.R_celln false HO_6.out (x20_1 : Int) p22 q22
     replace p22 := eq_true p22
     replace q22 := eq_true q22
     have HP25 := Kd.R_putg HO_6.out (x20_1 : Int) (decide ((rd t296 (ji17)) ≤ x20_1))
     go_wp2_with (first | ((with_reducible refine gate_store (t := 4) (p := 36) rfl ?_); refine store_event (t := 4) (p := 36) (v := ?vo_w26) (w1 := (wr.setCell ⟨go22, (x20_1 : Int).toNat, none⟩ (.bool (decide ((rd t296 (ji17)) ≤ x20_1))))) ?hg ?ho ?hn ?hr ?_; (case ho => rfl); (case hg => rfl); (case hn => rfl); (case hr => first | (go_simp; done) | (go_simp; rfl)); intro w26 hw; have hg : wr.grownBy w26 (some go22) := (by rw [hw]; exact HP25.2); have hp_ : Kd.R Kd.bool 4 w26 w.heap.size (fun _ => True) (.slice (some ⟨go22, 0, none⟩) x6_1.length co13) y304 := (by rw [hw, Ny304.out]; exact HP25.1); clear HP25; replace HO_5 := Aside0.mk (Kd.R_over' (v := (.slice (some ⟨go22, 0, none⟩) x6_1.length co13)) (ro HO_5.out) (Kd.R_typed HO_6.out) (by decide) hg); replace BK294 := Aside0.mk (blk_grown (g := gb294) (o := .cells #[.slice (some ad295) l0_0.length c0_0] 27 (0, 0)) (bo BK294.out) hg (Kd.R_ne HO_6.out BK294.out (by decide))); replace HO_6 := Aside0.mk (hp_); replace HB := Aside0.mk ((by rw [hw]; exact below_set (HB.out) GB22.out : Below w.heap.size w w26)); clear hg hw hp_))
     (try simp only [← hl6_1])
     go_roundg k1
     case measure => have := HK1.out; omega
     case rel => exact ⟨(y304), (wrap64 (x20_1 + 1)), rr, H', ⟨by have := HK1.out; omega⟩, ⟨by (try simp only [hl6_1]); (with_reducible repeat (first | apply Kd.R_alloc | apply Kd.R_drewN | apply Kd.R_drew)); exact HO_5.out⟩, ⟨by (try simp only [hl6_1]); (with_reducible repeat (first | apply Kd.R_alloc | apply Kd.R_drewN | apply Kd.R_drew)); exact HO_6.out⟩, ⟨by (try simp only [hl6_1]); (with_reducible repeat (first | refine blk_drewN ?_ _ | refine blk_drew ?_ | refine blk_alloc ?_ _)); exact BK294.out⟩, ⟨bw⟩⟩
   ·rw [if_neg c14] at H
    have c14b0 : decide (x20_1 < (y299.length : Int)) = false := decide_eq_false c14
    (try simp only [hl6_1] at c14b0)
    clear c14
    obtain rfl := Option.some.inj H
    go_wp2
    go_ret
    exact ⟨_, by first | rfl | (simp [errW_none, errW_some] <;> rfl) | (simp only [← hji5]; first | rfl | (simp [errW_none, errW_some] <;> rfl)) | (simp [*, errW_none, errW_some] <;> rfl), ro HO_6.out, bw⟩


/-! ### impl_reach: function 50 -/
def impl_reach.p (is : List Bool) (d : Int) : Option Bool := if d ≥ 200 then some true else if d ≥ 0 then (if d < (is.length : Int) then some (rdOf false is d) else none) else some false
def impl_reach.f (k : Nat) (l0_0 : List Int) : Option (Int → Option Bool) := (impl_IsSemigroup.f k l0_0).bind fun t => if t = true then (impl_table.f k l0_0 200).bind fun is => some (impl_reach.p is) else some (fun _ => some false)
set_option maxHeartbeats 8000000 in
theorem impl_reach.c1 (w : World) : FnR1 Try.prog w (.func (.func 87) #[] #[]) (fun _ => some false) :=
 ⟨87, #[], rfl, (fun args w => enters_ Try.func87 (by kernel_rfl) rfl args w), fun W _ d b h => by
  obtain rfl := Option.some.inj h
  show Calls Try.prog 87 #[.int .i64 d] W _
  go_enter Try.func87, Try.ntmps87
  go_wp2
  go_ret
  exact ⟨rfl, dw⟩⟩
set_option maxHeartbeats 8000000 in
theorem impl_reach.c2 (w : World) (g : Nat) (A : Option Addr) (c : Nat) (is : List Bool) (hbox : w.heap[g]? = some (.cells #[.slice A is.length c] 66 (0, 0))) (hC : Kd.C Kd.bool w A is.length is) :
  FnR1 Try.prog w (.func (.func 89) #[] #[.pointer (some ⟨g, 0, none⟩)]) (impl_reach.p is) :=
 ⟨89, _, rfl, (fun args w => enters_ Try.func89 (by kernel_rfl) rfl args w), fun W hb d b h => by
  show Calls Try.prog 89 #[.int .i64 d, .pointer (some ⟨g, 0, none⟩)] W _
  have hbox' := blk_below hbox hb
  have hC' := Kd.C_below hC hb
  have hcz : W.cell? ⟨g, 0, none⟩ = some (.slice A is.length c) := (blk_cell hbox' 0).trans rfl
  clear hbox hC hbox' hb
  unfold impl_reach.p at h
  replace h := gj h; obtain ⟨c1, h⟩ | ⟨c1, h⟩ := h
  ·obtain rfl := Option.some.inj h
   have c1b0 : decide (200 ≤ d) = true := decide_eq_true c1
   clear hC' hcz c1
   go_enter Try.func89, Try.ntmps89
   go_wp2
   go_ret
   exact ⟨re, dw⟩
  ·have c1b0 : decide (200 ≤ d) = false := decide_eq_false c1
   clear c1
   replace h := gj h; obtain ⟨c2, h⟩ | ⟨c2, h⟩ := h
   ·have c2b0 : decide (0 ≤ d) = true := decide_eq_true c2
    replace h := gd h; obtain ⟨c3b0, h⟩ := h
    obtain rfl := Option.some.inj h
    clear c2
    obtain ⟨⟨ad, e0, hx⟩, p1, q1⟩ := pq (Kd.at_bool hC' d)
    cases e0
    clear hC'
    go_enter Try.func89, Try.ntmps89
    go_wp2
    go_ret
    exact ⟨re, dw⟩
   ·have c2b0 : decide (0 ≤ d) = false := decide_eq_false c2
    obtain rfl := Option.some.inj h
    clear hC' hcz c2
    go_enter Try.func89, Try.ntmps89
    go_wp2
    go_ret
    exact ⟨re, dw⟩⟩
set_option maxHeartbeats 8000000 in
set_option maxRecDepth 100000 in
theorem impl_reach.calls (k : Nat) (A0_0 : Option Addr) (c0_0 : Nat) (l0_0 : List Int) (r : Int → Option Bool) (w : World) (hr0_0 : Kd.C (Kd.int .i64) w A0_0 l0_0.length l0_0) (hc0_0 : l0_0.length ≤ c0_0) (h : impl_reach.f k l0_0 = some r) :
  Calls Try.prog 50 #[.agg #[.slice A0_0 l0_0.length c0_0]] w fun e w' => ∃ v0_ : Value, e = .returned v0_ ∧ FnR1 Try.prog w' v0_ r ∧ Below w.heap.size w w' := by
 have hu27 := Try.underlying27
 have hu66 := Try.underlying66
 have HR0_0 := Aside0.mk hr0_0
 have HC0_0 := Aside0.mk hc0_0
 clear hr0_0 hc0_0
 have HB := Aside0.mk (Below.refl w.heap.size w)
 have H : ((impl_IsSemigroup.f k l0_0).bind fun t => if t = true then (impl_table.f k l0_0 200).bind fun is => some (impl_reach.p is) else some (fun _ => some false)) = some r := h
 clear h
 replace H := ga H; obtain ⟨t1, A1, H⟩ := H
 replace H := gb H; obtain ⟨rfl, H⟩ | ⟨rfl, H⟩ := H
 ·replace H := ga H; obtain ⟨t2, A2, H⟩ := H
  obtain rfl := Option.some.inj H
  clear H
  go_enter Try.func50, Try.ntmps50
  go_wp2_with (first | ((with_reducible refine gate_dst (N := 1) rfl ?_); refine bx 1 #[.slice A0_0 l0_0.length c0_0] 27 ?_; intro gb1 hg w1 hbox hb; have BK1 := Aside0.mk hbox; replace HB := Aside0.mk (below_step bw hb); clear hb hbox hg; have hcz1 := bc BK1 0 (.slice A0_0 l0_0.length c0_0); have hfz1 := blk_frozen BK1.out 0) | ((with_reducible refine gate_callee (f := 58) rfl ?_); refine gl (some 5) Try.func58 #[.agg #[.slice A0_0 l0_0.length c0_0]] ?_; (with_reducible refine (impl_IsSemigroup.calls k _ _ l0_0 true _ ?side1 ?side2 A1.out).mono ?_); (case side1 => exact co (Kd.C_below HR0_0.out HB.out)); (case side2 => exact HC0_0.out); rintro e w2 ⟨rfl, hb⟩; refine ⟨_, rfl, ?_⟩; clear hcz1 hfz1; replace BK1 := Aside0.mk (blk_below (g := gb1) (o := .cells #[.slice A0_0 l0_0.length c0_0] 27 (0, 0)) (bo BK1.out) hb); replace HB := Aside0.mk (below_step bw hb); clear hb; have hcz1 := bc BK1 0 (.slice A0_0 l0_0.length c0_0); have hfz1 := blk_frozen BK1.out 0) | ((with_reducible refine gate_callee (f := 88) rfl ?_); refine gl (some 8) Try.func88 #[.agg #[.slice A0_0 l0_0.length c0_0], .int .i64 200] ?_; (with_reducible refine (impl_table.calls k _ _ l0_0 200 t2 _ ?side1 ?side2 A2.out).mono ?_); (case side1 => exact co (Kd.C_below HR0_0.out HB.out)); (case side2 => exact HC0_0.out); rintro e w3 ⟨v2, rfl, ho0, hb⟩; refine ⟨_, rfl, ?_⟩; clear hcz1 hfz1 BK1; have HO2 := Aside0.mk (Kd.R_lower ho0 (below_size bw)); replace HB := Aside0.mk (below_step bw hb); clear hb ho0; obtain ⟨Ao2, co2, eo2⟩ := Kd.R_slice HO2.out; subst eo2) | ((with_reducible refine gate_dst (N := 3) rfl ?_); refine bx 3 #[.slice none 0 0] 66 ?_; intro gb3 hg w4 hbox hb; have GE3 := Aside0.mk (gs hg : w.heap.size ≤ gb3); replace HO2 := Aside0.mk (Kd.R_below (ro HO2.out) hb); have BK3 := Aside0.mk hbox; replace HB := Aside0.mk (below_step bw hb); clear hb hbox hg; have hcz3 := bc BK3 0 (.slice none 0 0); have hfz3 := blk_frozen BK3.out 0))
  go_ret
  exact ⟨_, rfl, impl_reach.c2 _ gb3 Ao2 co2 t2 (by (with_reducible repeat (first | refine blk_drewN ?_ _ | refine blk_drew ?_ | refine blk_alloc ?_ _)); exact blk_put (cs := #[.slice none 0 0]) (bo BK3.out) 0 _ rfl) (co (Kd.R_reads' (Kd.R_far (p := ⟨gb3, 0, none⟩) (Kd.R_types HO2.out BK3.out (by decide)) (fun _ hk => hk.2) (.slice Ao2 t2.length co2))).2.2), bw⟩
 ·obtain rfl := Option.some.inj H
  clear H
  go_enter Try.func50, Try.ntmps50
  go_wp2_with (first | ((with_reducible refine gate_dst (N := 1) rfl ?_); refine bx 1 #[.slice A0_0 l0_0.length c0_0] 27 ?_; intro gb1 hg w1 hbox hb; have BK1 := Aside0.mk hbox; replace HB := Aside0.mk (below_step bw hb); clear hb hbox hg; have hcz1 := bc BK1 0 (.slice A0_0 l0_0.length c0_0); have hfz1 := blk_frozen BK1.out 0) | ((with_reducible refine gate_callee (f := 58) rfl ?_); refine gl (some 5) Try.func58 #[.agg #[.slice A0_0 l0_0.length c0_0]] ?_; (with_reducible refine (impl_IsSemigroup.calls k _ _ l0_0 false _ ?side1 ?side2 A1.out).mono ?_); (case side1 => exact co (Kd.C_below HR0_0.out HB.out)); (case side2 => exact HC0_0.out); rintro e w2 ⟨rfl, hb⟩; refine ⟨_, rfl, ?_⟩; clear hcz1 hfz1 BK1; replace HB := Aside0.mk (below_step bw hb); clear hb))
  go_ret
  exact ⟨_, rfl, impl_reach.c1 _, bw⟩


/-! ### slices_Sort_int_int: function 97 -/
def slices_Sort_int_int.f (l0 : List Int) : Option (List Int) := if l0.length < 4611686018427387904 then some (l0.mergeSort fun x y => decide (x ≤ y)) else none
theorem slices_Sort_int_int.calls (P0_ : Nat → Prop) (u9000_ : Value) (l0 : List Int) (r : List Int) (w0 w : World) (hB : Below w0.heap.size w0 w) (ho0 : Kd.R (Kd.int .i64) 3 w w0.heap.size P0_ u9000_ l0) (h : slices_Sort_int_int.f l0 = some r) :
  Calls Try.prog 97 #[u9000_] w fun e w' => e = .returned (.tuple #[]) ∧ Kd.R (Kd.int .i64) 3 w' w0.heap.size (fun k_ => (P0_ k_ ∨ w.heap.size ≤ k_)) u9000_ r ∧ Below w0.heap.size w0 w' ∧ Kept w w' (fun k_ => P0_ k_) := by
 unfold slices_Sort_int_int.f at h
 by_cases c : l0.length < 4611686018427387904
 rotate_left
 ·rw [if_neg c] at h
  cases h
 rw [if_pos c] at h
 obtain rfl := Option.some.inj h
 rcases (Kd.own_of_R ho0).2 with ⟨rfl, hn⟩ | ⟨g, cap, cur, rfl, hb, hg, h1, h2, h3, h4⟩
 ·have e0 : l0 = [] := List.eq_nil_of_length_eq_zero hn
  subst e0
  refine (Try.slices_Sort_int_none none 0 w).mono ?_
  rintro e w' ⟨rfl, rfl⟩
  exact ⟨rfl, by rw [List.mergeSort_nil]; exact Kd.R_mono ho0 (fun k hk => .inl hk), hB, Kept.refl _ _⟩
 ·have hl : g < w.heap.size := (Array.getElem?_eq_some_iff.1 hg).1
  refine (Try.slices_Sort_int g 0 cap l0 w (Go.holds_of_blockI hg (by rw [← Nat.mul_one l0.length]; exact h4)) hl c).mono ?_
  rintro e w' ⟨rfl, n, os, rfl⟩
  have hlen : (l0.mergeSort fun x y => decide (x ≤ y)).length = l0.length := List.length_mergeSort ..
  have hgr := Go.grownBy_sortedI (w := w) (g := g) (n := n) (os := os) (l0.mergeSort fun x y => decide (x ≤ y)).toArray
  exact ⟨rfl, Kd.R_of_own (by rw [hlen]; exact Go.ownsRow_sortedI (n := n) (os := os) hlen hb hg h1 h2 h3) (fun k hk => .inl (ho0.1 k hk)),
   ⟨hgr.os.trans hB.os, hgr.tape.trans hB.tape, hgr.output.trans hB.output, Nat.le_trans hB.size hgr.size, fun k hk => (hgr.block k (Nat.lt_of_lt_of_le hk hB.size) (fun e => by injection e with e; omega)).trans (hB.block k hk)⟩,
   ⟨hgr.size, fun i hi hP => hgr.block i hi (fun e => hP (ho0.1 i (by rw [e]; rfl)))⟩⟩


/-! ### slices_Compact_int_int: function 98 -/
def slices_Compact_int_int.f (l0 : List Int) : Option (List Int) := if l0.length ≤ 9223372036854775807 then some (Go.Lib.compact l0) else none
theorem slices_Compact_int_int.calls (P0_ : Nat → Prop) (u9000_ : Value) (l0 : List Int) (r : List Int) (w0 w : World) (hB : Below w0.heap.size w0 w) (ho0 : Kd.R (Kd.int .i64) 3 w w0.heap.size P0_ u9000_ l0) (h : slices_Compact_int_int.f l0 = some r) :
  Calls Try.prog 98 #[u9000_] w fun e w' => ∃ v0_ : Value, e = .returned (v0_) ∧ Kd.R (Kd.int .i64) 3 w' w0.heap.size (fun k_ => (P0_ k_ ∨ w.heap.size ≤ k_)) v0_ r ∧ Below w0.heap.size w0 w' ∧ Kept w w' (fun k_ => P0_ k_) := by
 unfold slices_Compact_int_int.f at h
 by_cases c : l0.length ≤ 9223372036854775807
 rotate_left
 ·rw [if_neg c] at h
  cases h
 rw [if_pos c] at h
 obtain rfl := Option.some.inj h
 rcases (Kd.own_of_R ho0).2 with ⟨rfl, hn⟩ | ⟨g, cap, cur, rfl, hb, hg, h1, h2, h3, h4⟩
 ·have e0 : l0 = [] := List.eq_nil_of_length_eq_zero hn
  subst e0
  refine (Try.slices_Compact_int_empty none 0 w).mono ?_
  rintro e w' ⟨rfl, rfl⟩
  exact ⟨_, rfl, Kd.R_mono (show Kd.R (Kd.int .i64) 3 w' w0.heap.size P0_ (.slice none 0 0) (Go.Lib.compact []) from ho0) (fun k hk => .inl hk), hB, Kept.refl _ _⟩
 ·have hl : g < w.heap.size := (Array.getElem?_eq_some_iff.1 hg).1
  refine (Try.slices_Compact_int g 0 cap l0 w (Go.holds_of_blockI hg (by rw [← Nat.mul_one l0.length]; exact h4)) c h1).mono ?_
  rintro e w' ⟨rfl, q, rfl⟩
  have hk : (Go.Lib.compact l0).length ≤ l0.length := by
   unfold Go.Lib.compact Go.Lib.compactUpTo
   rw [List.length_map]
   exact Nat.le_trans (List.length_filter_le ..) (by rw [List.length_range]; exact Nat.le_refl _)
  have hgr := Go.grownBy_sortedI (w := w) (g := g) (n := q) (os := #[]) (Go.Lib.compact l0 ++ List.replicate (l0.length - (Go.Lib.compact l0).length) 0).toArray
  rw [Go.Sort.grow_empty] at hgr
  have hr := Go.Lib.ownsRow_putRow (q := q) (k := (Go.Lib.compact l0).length) (Kd.own_of_R ho0) (ys := Go.Lib.compact l0 ++ List.replicate (l0.length - (Go.Lib.compact l0).length) 0) (by rw [List.length_append, List.length_replicate]; omega) hk
  rw [List.take_left] at hr
  exact ⟨_, rfl, Kd.R_of_own hr (fun k hk => .inl (ho0.1 k hk)),
   ⟨hgr.os.trans hB.os, hgr.tape.trans hB.tape, hgr.output.trans hB.output, Nat.le_trans hB.size hgr.size, fun k hk => (hgr.block k (Nat.lt_of_lt_of_le hk hB.size) (fun e => by injection e with e; omega)).trans (hB.block k hk)⟩,
   ⟨hgr.size, fun i hi hP => hgr.block i hi (fun e => hP (ho0.1 i (by rw [e]; rfl)))⟩⟩


/-! ### impl_SortList: function 62 -/
def impl_SortList.f (l0 : List Int) : Option (List Int) := (some (([] : List Int) : List Int)).bind fun y424 => (if y424.length + l0.length < 17592186044416 then ((slices_Sort_int_int.f (y424 ++ l0)).bind fun t430 => ((slices_Compact_int_int.f t430).bind fun t431 => (some t431))) else (none))
set_option maxHeartbeats 8000000 in
set_option maxRecDepth 100000 in
theorem impl_SortList.calls (A0 : Option Addr) (c0 : Nat) (l0 : List Int) (r : List Int) (w : World) (hr0 : Kd.C (Kd.int .i64) w A0 l0.length l0) (hc0 : l0.length ≤ c0) (h : impl_SortList.f l0 = some r) :
  Calls Try.prog 62 #[.slice A0 l0.length c0] w fun e w' => ∃ v0_ : Value, e = .returned (v0_) ∧ Kd.R (Kd.int .i64) 3 w' w.heap.size (fun _ => True) v0_ r ∧ Below w.heap.size w w' := by
 have HR0 := Aside0.mk hr0
 have HC0 := Aside0.mk hc0
 clear hr0 hc0
 have HB := Aside0.mk (Below.refl w.heap.size w)
 have H : ((some (([] : List Int) : List Int)).bind fun y424 => (if y424.length + l0.length < 17592186044416 then ((slices_Sort_int_int.f (y424 ++ l0)).bind fun t430 => ((slices_Compact_int_int.f t430).bind fun t431 => (some t431))) else (none))) = some r := h
 clear h
 obtain ⟨y424, hy424⟩ : ∃ y_ : List Int, y_ = (([] : List Int)) := ⟨_, rfl⟩
 replace H : (if y424.length + l0.length < 17592186044416 then ((slices_Sort_int_int.f (y424 ++ l0)).bind fun t430 => ((slices_Compact_int_int.f t430).bind fun t431 => (some t431))) else (none)) = some r := by first | (rw [hy424]; with_reducible exact H) | (have H2_ := (Option.bind_some _ _).symm.trans H; rw [hy424]; with_reducible exact H2_) | (have H2_ := (Option.bind_some _ _).symm.trans H; with_reducible exact H2_) | with_reducible exact H | (rw [hy424]; exact H) | exact H
 have Ny424 := Aside0.mk hy424
 clear hy424
 by_cases c2 : y424.length + l0.length < 17592186044416
 rotate_left
 ·rw [if_neg c2] at H
  exact absurd H (by simp)
 rw [if_pos c2] at H
 have LMc2 := Aside0.mk c2
 clear c2
 obtain ⟨y427, hy427⟩ : ∃ y_ : List Int, y_ = (y424 ++ l0) := ⟨_, rfl⟩
 replace H : ((slices_Sort_int_int.f y427).bind fun t430 => ((slices_Compact_int_int.f t430).bind fun t431 => (some t431))) = some r := by first | (rw [hy427]; with_reducible exact H) | (have H2_ := (Option.bind_some _ _).symm.trans H; rw [hy427]; with_reducible exact H2_) | (have H2_ := (Option.bind_some _ _).symm.trans H; with_reducible exact H2_) | with_reducible exact H | (rw [hy427]; exact H) | exact H
 have Ny427 := Aside0.mk hy427
 clear hy427
 replace H := ga H; obtain ⟨t430, A3, H⟩ := H
 replace H := ga H; obtain ⟨t431, A4, H⟩ := H
 obtain rfl := Option.some.inj H
 go_enter Try.func62, Try.ntmps62
 go_wp2_with (first | ((with_reducible refine gate_dst (N := 4) rfl ?_); refine Kd.R_lit (Kd.int .i64) _ 3 ?hg (N := 4) ?hd (xs := ([] : List Int)) (inner := []) (ok := fun _ => True) (okp := fun _ => True) ?hr ?hp (fun _ hk => hk) trivial (Below.refl _ _) (Nat.le_refl _) (by simp) ?_; (case hd => rfl); (case hg => rfl); (case hr => first | (go_simp; done) | (go_simp; rfl)); (case hp => exact (Reps.none _ _)); intro v425 w5 ho6 hb hg_ hnew_; clear hg_ hnew_; (first | rw [← Ny424.out] at ho6 | (simp only [Int.reduceToNat] at ho6; rw [← Ny424.out] at ho6)); have HO426 := Aside0.mk (Kd.R_lower ho6 (below_size bw)); replace HB := Aside0.mk (below_step bw hb); clear hb ho6) | ((with_reducible refine gate_builtin (b := .append) (xs := #[.tmp 4, .tmp 5]) rfl ?_); at_builtin; refine Kd.R_append_rows (Kd.int .i64) (w0 := w) w.heap.size rfl (.tmp 4) (.tmp 5) 22 3 (.int .i64 0) 8 rfl Try.underlying22 info3 rfl (by decide) (by omega) v425 y424 l0 _ _ _ (fun _ => True) (fun _ => False) rfl rfl ?aO ?aR (fun _ _ h => h) (fun _ h => h.elim) ?aF ?aB ?aS ?aL ?_; (case aR => exact co (Kd.C_below HR0.out HB.out)); (case aB => exact bw); (case aF => exact (fun _ _ => trivial)); (case aO => exact (ro HO426.out)); (case aS => exact (below_size bw)); (case aL => have := LMc2.out; omega); intro v428 w7 ho hb hg hat; rw [← Ny427.out] at ho; replace HB := Aside0.mk (hb); have HO429 := Aside0.mk (ho); clear HO426 ho hb hg hat; obtain ⟨Ao8, co8, eo8⟩ := Kd.R_slice HO429.out; subst eo8) | ((with_reducible refine gate_callee (f := 97) rfl ?_); refine gl (some 8) Try.func97 #[.slice Ao8 y427.length co8] ?_; (with_reducible refine (slices_Sort_int_int.calls (fun k_ => some k_ = (.slice Ao8 y427.length co8 : Value).ownBlock) (.slice Ao8 y427.length co8) y427 t430 w _ ?side1 ?side2 A3.out).mono ?_); (case side1 => repeat (first | (with_reducible first | exact HB.out | apply below_alloc | apply pw_below_drewN | apply below_drew1) | exact HB.out)); (case side2 => exact Kd.R_tight rfl HO429.out); rintro e w9 ⟨rfl, hy0, hb, hkp⟩; refine ⟨_, rfl, ?_⟩; replace HO429 := Aside0.mk (Kd.R_reok rfl hy0 (fun k_ e_ => HO429.out.1 k_ e_)); replace HB := Aside0.mk (hb); clear hb hkp hy0) | ((with_reducible refine gate_callee (f := 98) rfl ?_); refine gl (some 10) Try.func98 #[.slice Ao8 y427.length co8] ?_; (with_reducible refine (slices_Compact_int_int.calls (fun k_ => some k_ = (.slice Ao8 y427.length co8 : Value).ownBlock) (.slice Ao8 y427.length co8) t430 t431 w _ ?side1 ?side2 A4.out).mono ?_); (case side1 => repeat (first | (with_reducible first | exact HB.out | apply below_alloc | apply pw_below_drewN | apply below_drew1) | exact HB.out)); (case side2 => exact Kd.R_tight rfl HO429.out); rintro e w10 ⟨v432, rfl, ho0, hb, hkp⟩; refine ⟨_, rfl, ?_⟩; have HO433 := Aside0.mk (Kd.R_mono (ok' := fun k_ => True) ho0 (fun k_ hk_ => trivial)); replace HB := Aside0.mk (hb); clear HO429 hb hkp ho0))
 go_ret
 exact ⟨_, re, ro HO433.out, bw⟩


/-! ### impl_extreme: function 51 -/
mutual
def impl_extreme.j0 : Nat → List Int → (Int → Int → Option Bool) → Bool → Option (List Int)
 | 0, _, _, _ => none
 | k + 1, x1, x2, x21 => if x21 = true then (some ([] : List Int)) else ((impl_SortList.f x1).bind fun t437 => (impl_extreme.l0 k x2 t437 (([] : List Int)) t437 (t437.length : Int) 0))
def impl_extreme.l0 : Nat → (Int → Int → Option Bool) → List Int → List Int → List Int → Int → Int → Option (List Int)
 | 0, _, _, _, _, _, _ => none
 | k + 1, x2, x7, x8, x25, x26, x27 => if x27 < x26 then (if 0 ≤ x27 then (if x27 < (x25.length : Int) then (impl_extreme.l1 k x2 x7 x8 (rd x25 x27) true x25 x26 x27 x7 (x7.length : Int) 0) else (none)) else (none)) else (some x8)
def impl_extreme.l1 : Nat → (Int → Int → Option Bool) → List Int → List Int → Int → Bool → List Int → Int → Int → List Int → Int → Int → Option (List Int)
 | 0, _, _, _, _, _, _, _, _, _, _, _ => none
 | k + 1, x2, x7, x8, x10, x11, x25, x26, x27, x31, x32, x33 => if x33 < x32 then (if 0 ≤ x33 then (if x33 < (x31.length : Int) then (if x11 = true then (if x10 = (rd x31 x33) then (impl_extreme.l1 k x2 x7 x8 x10 true x25 x26 x27 x31 x32 (wrap64 (x33 + 1))) else ((apF2.f x2 x10 (rd x31 x33)).bind fun t445 => (impl_extreme.l1 k x2 x7 x8 x10 (!t445) x25 x26 x27 x31 x32 (wrap64 (x33 + 1))))) else (impl_extreme.l1 k x2 x7 x8 x10 false x25 x26 x27 x31 x32 (wrap64 (x33 + 1)))) else (none)) else (none)) else (if x11 = true then (if x8.length < 17592186044416 then (impl_extreme.l0 k x2 x7 (x8 ++ [x10]) x25 x26 (wrap64 (x27 + 1))) else (none)) else (impl_extreme.l0 k x2 x7 x8 x25 x26 (wrap64 (x27 + 1))))
end
def impl_extreme.f (k : Nat) (l0_0 : List Int) (l1 : List Int) (a2 : (Int → Int → Option Bool)) : Option (List Int) := (impl_IsSemigroup.f k l0_0).bind fun t435 => (if t435 = true then ((impl_allWithin.f k l1 (-1000000) 1000000).bind fun t436 => (impl_extreme.j0 k l1 a2 (!t436))) else (impl_extreme.j0 k l1 a2 true))
set_option maxHeartbeats 8000000 in
set_option maxRecDepth 100000 in
theorem impl_extreme.calls (k : Nat) (A0_0 : Option Addr) (c0_0 : Nat) (l0_0 : List Int) (A1 : Option Addr) (c1 : Nat) (l1 : List Int) (a2 : (Int → Int → Option Bool)) (F_a2 : Value) (r : List Int) (w : World) (hr0_0 : Kd.C (Kd.int .i64) w A0_0 l0_0.length l0_0) (hc0_0 : l0_0.length ≤ c0_0) (hr1 : Kd.C (Kd.int .i64) w A1 l1.length l1) (hc1 : l1.length ≤ c1) (hF_a2 : FnR2 Try.prog w F_a2 a2) (h : impl_extreme.f k l0_0 l1 a2 = some r) :
  Calls Try.prog 51 #[.agg #[.slice A0_0 l0_0.length c0_0], .slice A1 l1.length c1, F_a2] w fun e w' => ∃ v0_ : Value, e = .returned (v0_) ∧ Kd.R (Kd.int .i64) 3 w' w.heap.size (fun _ => True) v0_ r ∧ Below w.heap.size w w' := by
 have hu27 := Try.underlying27
 have HR0_0 := Aside0.mk hr0_0
 have HC0_0 := Aside0.mk hc0_0
 clear hr0_0 hc0_0
 have HR1 := Aside0.mk hr1
 have HC1 := Aside0.mk hc1
 clear hr1 hc1
 have HB := Aside0.mk (Below.refl w.heap.size w)
 obtain ⟨gF_a2, lF_a2, rfl, eF_a2, hF_a2⟩ := hF_a2
 have H : ((impl_IsSemigroup.f k l0_0).bind fun t435 => (if t435 = true then ((impl_allWithin.f k l1 (-1000000) 1000000).bind fun t436 => (impl_extreme.j0 k l1 a2 (!t436))) else (impl_extreme.j0 k l1 a2 true))) = some r := h
 clear h
 have HC4 := Aside0.mk H
 clear H
 go_enter Try.func51, Try.ntmps51
 go_upto_region 1 with (first | ((with_reducible refine gate_dst (N := 3) rfl ?_); refine bx 3 #[.slice A0_0 l0_0.length c0_0] 27 ?_; intro gb434 hg w5 hbox hb; have BK434 := Aside0.mk (hbox); have GW434 := Aside0.mk (gs hg : w.heap.size ≤ gb434); have GE434 := Aside0.mk (gs hg : w.heap.size ≤ gb434); replace HB := Aside0.mk (below_step bw hb); clear hb hbox hg))
 (try simp only [Act.put, List.setIfInBounds_toArray, List.set_cons_zero, List.set_cons_succ])
 go_cut [21] (fun v21 wc => ∃ (kq : Nat) (x21_3 : Bool), v21 = .bool x21_3 ∧ Aside0 (impl_extreme.j0 kq l1 a2 x21_3 = some r) ∧ Aside0 (kq ≤ k) ∧ Aside0 (wc.heap[gb434]? = some (.cells #[(.slice A0_0 l0_0.length c0_0)] 27 (0, 0))) ∧ Aside0 (Below w.heap.size w wc))
 case first =>
  have H := HC4.out
  clear HC4
  replace H := ga H; obtain ⟨t435, A6, H⟩ := H
  replace H := gb H; obtain ⟨rfl, H⟩ | ⟨rfl, H⟩ := H
  ·replace H := ga H; obtain ⟨t436, A8, H⟩ := H
   have H' := Aside0.mk H
   clear H
   have hcz9_0 := bc BK434 0 (.slice A0_0 l0_0.length c0_0)
   have hfz9_0 := blk_frozen BK434.out 0
   go_wp2_with (first | ((with_reducible refine gate_callee (f := 58) rfl ?_); refine gl (some 15) Try.func58 #[.agg #[.slice A0_0 l0_0.length c0_0]] ?_; (with_reducible refine (impl_IsSemigroup.calls k _ _ l0_0 true _ ?side1 ?side2 A6.out).mono ?_); (case side1 => exact co (Kd.C_below HR0_0.out HB.out)); (case side2 => exact HC0_0.out); rintro e w10 ⟨rfl, hb⟩; refine ⟨_, rfl, ?_⟩; replace BK434 := Aside0.mk (blk_below (g := gb434) (o := .cells #[.slice A0_0 l0_0.length c0_0] 27 (0, 0)) (bo BK434.out) hb); replace HB := Aside0.mk (below_step bw hb); clear hb) | (go_at_call 90; (with_reducible refine (impl_allWithin.calls k _ _ l1 (-1000000) 1000000 t436 _ ?side1 ?side2 A8.out).mono ?_); (case side1 => exact co (Kd.C_below HR1.out HB.out)); (case side2 => exact HC1.out); rintro e w' ⟨rfl, ⟨nd, rfl⟩⟩))
   go_meet
   case rel => exact ⟨_, (!t436), rr, H', ⟨om⟩, ⟨bo BK434.out⟩, ⟨bw⟩⟩
  ·have H' := Aside0.mk H
   clear H
   have hcz11_0 := bc BK434 0 (.slice A0_0 l0_0.length c0_0)
   have hfz11_0 := blk_frozen BK434.out 0
   go_wp2_with (first | ((with_reducible refine gate_callee (f := 58) rfl ?_); refine gl (some 15) Try.func58 #[.agg #[.slice A0_0 l0_0.length c0_0]] ?_; (with_reducible refine (impl_IsSemigroup.calls k _ _ l0_0 false _ ?side1 ?side2 A6.out).mono ?_); (case side1 => exact co (Kd.C_below HR0_0.out HB.out)); (case side2 => exact HC0_0.out); rintro e w12 ⟨rfl, hb⟩; refine ⟨_, rfl, ?_⟩; replace BK434 := Aside0.mk (blk_below (g := gb434) (o := .cells #[.slice A0_0 l0_0.length c0_0] 27 (0, 0)) (bo BK434.out) hb); replace HB := Aside0.mk (below_step bw hb); clear hb))
   go_meet
   case rel => exact ⟨_, (true), rr, H', ⟨om⟩, ⟨bo BK434.out⟩, ⟨bw⟩⟩
 case rest =>
  clear HC4
  try clear c1; try clear hcz11_0; try clear hcz9_0; try clear hfz11_0; try clear hfz9_0
  obtain ⟨kq, x21_3, rfl, HA, HJ3, BK434, HB⟩ := hcut
  cases kq with
  | zero => exact absurd HA.out (by simp [impl_extreme.j0])
  | succ kj3 =>
   have H := HA.out
   clear HA
   simp only [impl_extreme.j0] at H
   replace H := gb H; obtain ⟨rfl, H⟩ | ⟨rfl, H⟩ := H
   ·obtain rfl := Option.some.inj H
    go_wp2
    go_ret
    exact ⟨_, re, by first | exact Kd.R_nil _ _ _ _ _ | exact Kd.N_nil _ _ _ _ _ | exact Kd.V_nil _ _ _ _ _ | exact Kd.Q_nil _ _ _ _ _ | exact Kd.S_nil _ _ _ _ _, bw⟩
   ·replace H := ga H; obtain ⟨t437, A14, H⟩ := H
    obtain ⟨y440, hy440⟩ : ∃ y_ : List Int, y_ = (([] : List Int)) := ⟨_, rfl⟩
    replace H : (impl_extreme.l0 kj3 a2 t437 y440 t437 (t437.length : Int) 0) = some r := by first | (rw [hy440]; with_reducible exact H) | (have H2_ := (Option.bind_some _ _).symm.trans H; rw [hy440]; with_reducible exact H2_) | (have H2_ := (Option.bind_some _ _).symm.trans H; with_reducible exact H2_) | with_reducible exact H | (rw [hy440]; exact H) | exact H
    have Ny440 := Aside0.mk hy440
    clear hy440
    have H' := Aside0.mk H
    clear H
    go_wp2_with (first | ((with_reducible refine gate_callee (f := 62) rfl ?_); refine gl (some 23) Try.func62 #[.slice A1 l1.length c1] ?_; (with_reducible refine (impl_SortList.calls _ _ l1 t437 _ ?side1 ?side2 A14.out).mono ?_); (case side1 => exact co (Kd.C_below HR1.out HB.out)); (case side2 => exact HC1.out); rintro e w15 ⟨v438, rfl, ho0, hb⟩; refine ⟨_, rfl, ?_⟩; have HO439 := Aside0.mk (Kd.R_lower ho0 (below_size bw)); replace BK434 := Aside0.mk (blk_below (g := gb434) (o := .cells #[.slice A0_0 l0_0.length c0_0] 27 (0, 0)) (bo BK434.out) hb); replace HB := Aside0.mk (below_step bw hb); clear hb ho0) | ((with_reducible refine gate_dst (N := 24) rfl ?_); refine Kd.R_lit (Kd.int .i64) _ 3 ?hg (N := 24) ?hd (xs := ([] : List Int)) (inner := []) (ok := fun _ => True) (okp := fun _ => True) ?hr ?hp (fun _ hk => hk) trivial (Below.refl _ _) (Nat.le_refl _) (by simp) ?_; (case hd => rfl); (case hg => rfl); (case hr => first | (go_simp; done) | (go_simp; rfl)); (case hp => exact (Reps.none _ _)); intro v441 w16 ho17 hb hg_ hnew_; clear hg_ hnew_; (first | rw [← Ny440.out] at ho17 | (simp only [Int.reduceToNat] at ho17; rw [← Ny440.out] at ho17)); have HO442 := Aside0.mk (Kd.R_lower (Kd.R_new' ho17 (Kd.R_lt (ro HO439.out))) (below_size bw)); replace HO439 := Aside0.mk (Kd.R_elder' (ro HO439.out) (Kd.R_base ho17) hb); replace BK434 := Aside0.mk (blk_below (g := gb434) (o := .cells #[.slice A0_0 l0_0.length c0_0] 27 (0, 0)) (bo BK434.out) hb); replace HB := Aside0.mk (below_step bw hb); clear hb ho17; obtain ⟨Ao18, co18, eo18⟩ := Kd.R_slice HO439.out; subst eo18))
    go_loopg [8, 27] kj3 (fun kq v8 v27 w' => ∃ (x8_2 : List Int) (x27_2 : Int), v27 = .int .i64 x27_2 ∧ Aside0 (impl_extreme.l0 kq a2 t437 x8_2 t437 (t437.length : Int) x27_2 = some r) ∧ Aside0 (kq ≤ kj3) ∧ Aside0 (Kd.R (Kd.int .i64) 3 w' w.heap.size (fun k_ => some k_ ≠ (v8 : Value).ownBlock) (.slice Ao18 t437.length co18) t437) ∧ Aside0 (Kd.R (Kd.int .i64) 3 w' w.heap.size (fun k_ => some k_ ≠ ((.slice Ao18 t437.length co18) : Value).ownBlock ∧ some k_ ≠ ((.slice Ao18 t437.length co18) : Value).ownBlock) v8 x8_2) ∧ Aside0 (Kd.R (Kd.int .i64) 3 w' w.heap.size (fun k_ => some k_ ≠ (v8 : Value).ownBlock) (.slice Ao18 t437.length co18) t437) ∧ Aside0 (w'.heap[gb434]? = some (.cells #[(.slice A0_0 l0_0.length c0_0)] 27 (0, 0))) ∧ Aside0 (Below w.heap.size w w'))
    case atStart => exact ⟨(y440), (0), rr, H', ⟨Nat.le_refl _⟩, ⟨by (with_reducible repeat (first | apply Kd.R_alloc | apply Kd.R_drewN | apply Kd.R_drew)); exact Kd.R_mono HO439.out (fun _ hk => hk.2)⟩, ⟨by (with_reducible repeat (first | apply Kd.R_alloc | apply Kd.R_drewN | apply Kd.R_drew)); exact Kd.R_mono HO442.out (fun _ hk => by first | exact ⟨hk.2, hk.2⟩ | simp_all)⟩, ⟨by (with_reducible repeat (first | apply Kd.R_alloc | apply Kd.R_drewN | apply Kd.R_drew)); exact Kd.R_mono HO439.out (fun _ hk => hk.2)⟩, ⟨bo BK434.out⟩, ⟨bw⟩⟩
    case round =>
     clear H'
     try clear c1; try clear hcz11_0; try clear hcz9_0; try clear hfz11_0; try clear hfz9_0
     obtain ⟨x8_2, x27_2, rfl, HA, HK2, HO_7, HO_8, HO_25, BK434, HB⟩ := hrel
     cases gk with
     | zero => exact absurd HA.out (by simp [impl_extreme.l0])
     | succ k2 =>
      have H := HA.out
      clear HA
      simp only [impl_extreme.l0] at H
      replace H := gi H; obtain ⟨c19b0, H⟩ | ⟨c19b0, H⟩ := H
      ·replace H := gd H; obtain ⟨c20b0, H⟩ := H
       replace H := gd H; obtain ⟨c21b0, H⟩ := H
       have H' := Aside0.mk H
       clear H
       obtain ⟨⟨ad443, e443, hx443_0⟩, p443, q443⟩ := pq (Kd.at_int (Kd.R_reads' HO_25.out).2.2 x27_2)
       cases e443
       go_wp2
       go_loopg [11, 33] k2 (fun kq v11 v33 w' => ∃ (x11_3 : Bool) (x33_3 : Int), v11 = .bool x11_3 ∧ v33 = .int .i64 x33_3 ∧ Aside0 (impl_extreme.l1 kq a2 t437 x8_2 (rd t437 x27_2) x11_3 t437 (t437.length : Int) x27_2 t437 (t437.length : Int) x33_3 = some r) ∧ Aside0 (kq ≤ k2) ∧ Aside0 (Kd.R (Kd.int .i64) 3 w' w.heap.size (fun k_ => some k_ ≠ (u8 : Value).ownBlock) (.slice (some ad443) t437.length co18) t437) ∧ Aside0 (Kd.R (Kd.int .i64) 3 w' w.heap.size (fun k_ => some k_ ≠ ((.slice (some ad443) t437.length co18) : Value).ownBlock ∧ some k_ ≠ ((.slice (some ad443) t437.length co18) : Value).ownBlock ∧ some k_ ≠ ((.slice (some ad443) t437.length co18) : Value).ownBlock) u8 x8_2) ∧ Aside0 (Kd.R (Kd.int .i64) 3 w' w.heap.size (fun k_ => some k_ ≠ (u8 : Value).ownBlock) (.slice (some ad443) t437.length co18) t437) ∧ Aside0 (Kd.R (Kd.int .i64) 3 w' w.heap.size (fun k_ => some k_ ≠ (u8 : Value).ownBlock) (.slice (some ad443) t437.length co18) t437) ∧ Aside0 (w'.heap[gb434]? = some (.cells #[(.slice A0_0 l0_0.length c0_0)] 27 (0, 0))) ∧ Aside0 (Below w.heap.size w w'))
       case atStart => exact ⟨(true), (0), rr, rr, H', ⟨Nat.le_refl _⟩, ⟨ro HO_7.out⟩, ⟨by (with_reducible repeat (first | apply Kd.R_alloc | apply Kd.R_drewN | apply Kd.R_drew)); exact Kd.R_mono HO_8.out (fun _ hk => ⟨hk.1, ⟨hk.2, hk.1⟩⟩)⟩, ⟨ro HO_25.out⟩, ⟨ro HO_7.out⟩, ⟨bo BK434.out⟩, ⟨bw⟩⟩
       case round =>
        clear H'
        try clear c1; try clear c19b0; try clear c20b0; try clear c21b0; try clear hcz11_0; try clear hcz9_0; try clear hfz11_0; try clear hfz9_0; try clear hx443_0; try clear p443; try clear q443
        obtain ⟨x11_3, x33_3, rfl, rfl, HA, HK3, HO_7, HO_8, HO_25, HO_31, BK434, HB⟩ := hrel
        cases gk with
        | zero => exact absurd HA.out (by simp [impl_extreme.l1])
        | succ k3 =>
         have H := HA.out
         clear HA
         simp only [impl_extreme.l1] at H
         replace H := gi H; obtain ⟨c22b0, H⟩ | ⟨c22b0, H⟩ := H
         ·replace H := gd H; obtain ⟨c23b0, H⟩ := H
          replace H := gd H; obtain ⟨c24b0, H⟩ := H
          replace H := gb H; obtain ⟨rfl, H⟩ | ⟨rfl, H⟩ := H
          ·by_cases c26 : (rd t437 x27_2) = (rd t437 x33_3)
           ·rw [if_pos c26] at H
            have c26b0 : ((rd t437 x27_2) == (rd t437 x33_3)) = true := beq_iff_eq.mpr c26
            have c26b1 : ((rd t437 x27_2) != (rd t437 x33_3)) = false := bne_eq_false_iff_eq.mpr c26
            clear c26
            have H' := Aside0.mk H
            clear H
            obtain ⟨⟨ad444, e444, hx444_0⟩, p444, q444⟩ := pq (Kd.at_int (Kd.R_reads' HO_31.out).2.2 x33_3)
            obtain rfl : ad443 = ad444 := (by injection e444)
            go_wp2
            go_roundg k3
            case measure => have := HJ3.out; have := HK2.out; have := HK3.out; omega
            case rel => exact ⟨(true), (wrap64 (x33_3 + 1)), rr, rr, H', ⟨by have := HJ3.out; have := HK2.out; have := HK3.out; omega⟩, ⟨ro HO_7.out⟩, ⟨ro HO_8.out⟩, ⟨ro HO_25.out⟩, ⟨ro HO_31.out⟩, ⟨bo BK434.out⟩, ⟨bw⟩⟩
           ·rw [if_neg c26] at H
            have c26b0 : ((rd t437 x27_2) == (rd t437 x33_3)) = false := beq_eq_false_iff_ne.mpr c26
            have c26b1 : ((rd t437 x27_2) != (rd t437 x33_3)) = true := bne_iff_ne.mpr c26
            replace H := ga H; obtain ⟨t445, A27, H⟩ := H
            have H' := Aside0.mk H
            clear H
            obtain ⟨⟨ad444, e444, hx444_0⟩, p444, q444⟩ := pq (Kd.at_int (Kd.R_reads' HO_31.out).2.2 x33_3)
            obtain rfl : ad443 = ad444 := (by injection e444)
            go_wp2_with (first | (go_at_fn gF_a2; (with_reducible refine (hF_a2 _ bw (rd t437 x27_2) (rd t437 x33_3) t445 A27.out).mono ?_); rintro e w' ⟨rfl, ⟨nd, rfl⟩⟩))
            go_roundg k3
            case measure => have := HJ3.out; have := HK2.out; have := HK3.out; omega
            case rel => exact ⟨(!t445), (wrap64 (x33_3 + 1)), rr, rr, H', ⟨by have := HJ3.out; have := HK2.out; have := HK3.out; omega⟩, ⟨ro HO_7.out⟩, ⟨ro HO_8.out⟩, ⟨ro HO_25.out⟩, ⟨ro HO_31.out⟩, ⟨bo BK434.out⟩, ⟨bw⟩⟩
          ·have H' := Aside0.mk H
           clear H
           obtain ⟨⟨ad444, e444, hx444_0⟩, p444, q444⟩ := pq (Kd.at_int (Kd.R_reads' HO_31.out).2.2 x33_3)
           obtain rfl : ad443 = ad444 := (by injection e444)
           go_wp2
           go_roundg k3
           case measure => have := HJ3.out; have := HK2.out; have := HK3.out; omega
           case rel => exact ⟨(false), (wrap64 (x33_3 + 1)), rr, rr, H', ⟨by have := HJ3.out; have := HK2.out; have := HK3.out; omega⟩, ⟨ro HO_7.out⟩, ⟨ro HO_8.out⟩, ⟨ro HO_25.out⟩, ⟨ro HO_31.out⟩, ⟨bo BK434.out⟩, ⟨bw⟩⟩
         ·replace H := gb H; obtain ⟨rfl, H⟩ | ⟨rfl, H⟩ := H
          ·by_cases c29 : x8_2.length < 17592186044416
           rotate_left
           ·rw [if_neg c29] at H
            exact absurd H (by simp)
           rw [if_pos c29] at H
           have LMc29 := Aside0.mk c29
           clear c29
           obtain ⟨y446, hy446⟩ : ∃ y_ : List Int, y_ = (x8_2 ++ [(rd t437 x27_2)]) := ⟨_, rfl⟩
           replace H : (impl_extreme.l0 k3 a2 t437 y446 t437 (t437.length : Int) (wrap64 (x27_2 + 1))) = some r := by first | (rw [hy446]; with_reducible exact H) | (have H2_ := (Option.bind_some _ _).symm.trans H; rw [hy446]; with_reducible exact H2_) | (have H2_ := (Option.bind_some _ _).symm.trans H; with_reducible exact H2_) | with_reducible exact H | (rw [hy446]; exact H) | exact H
           have Ny446 := Aside0.mk hy446
           clear hy446
           have H' := Aside0.mk H
           clear H
           go_wp2_with (first | ((with_reducible refine gate_builtin (b := .append) (xs := #[.tmp 52, .tmp 54]) rfl ?_); at_builtin; refine Kd.R_append (Kd.int .i64) (w0 := w) w.heap.size rfl (.tmp 52) (.tmp 54) 22 3 (.int .i64 0) 8 rfl Try.underlying22 info3 rfl (by decide) (by omega) u8 x8_2 (rd t437 x27_2) [.int .i64 (rd t437 x27_2)] (fun k_ => some k_ ≠ (.slice (some ad443) t437.length co18 : Value).ownBlock ∧ some k_ ≠ (.slice (some ad443) t437.length co18 : Value).ownBlock ∧ some k_ ≠ (.slice (some ad443) t437.length co18 : Value).ownBlock) (fun _ => False) rfl rfl ?aP (fun _ hk => hk.elim) ?aF ?aO ?aB ?aS ?aL ?_; (case aP => exact rfl); (case aB => exact bw); (case aF => exact (fun k_ hk => ⟨Kd.fresh' (Kd.R_lt (ro HO_7.out)) k_ hk, Kd.fresh' (Kd.R_lt (ro HO_25.out)) k_ hk, Kd.fresh' (Kd.R_lt (ro HO_31.out)) k_ hk⟩)); (case aO => exact (ro HO_8.out)); (case aS => exact (below_size bw)); (case aL => have := LMc29.out; omega); intro v447 w30 ho hb hg hat; rw [← Ny446.out] at ho; replace HO_7 := Aside0.mk (Kd.R_after (ok := (fun _ => True)) (by (with_reducible repeat (first | apply Kd.R_alloc | apply Kd.R_drewN | apply Kd.R_drew)); exact Kd.R_mono HO_7.out (fun _ hk => ⟨trivial, by first | exact hk | exact (by intro a n m c x h; cases a <;> exact h : ∀ (a : Option Addr) (n m c x : Nat), some x ≠ (Value.slice a n c).ownBlock → some x ≠ (Value.slice a m c).ownBlock) _ _ _ _ _ hk⟩)) hg hat); replace HO_25 := Aside0.mk (Kd.R_after (ok := (fun _ => True)) (by (with_reducible repeat (first | apply Kd.R_alloc | apply Kd.R_drewN | apply Kd.R_drew)); exact Kd.R_mono HO_25.out (fun _ hk => ⟨trivial, by first | exact hk | exact (by intro a n m c x h; cases a <;> exact h : ∀ (a : Option Addr) (n m c x : Nat), some x ≠ (Value.slice a n c).ownBlock → some x ≠ (Value.slice a m c).ownBlock) _ _ _ _ _ hk⟩)) hg hat); replace HO_31 := Aside0.mk (Kd.R_after (ok := (fun _ => True)) (by (with_reducible repeat (first | apply Kd.R_alloc | apply Kd.R_drewN | apply Kd.R_drew)); exact Kd.R_mono HO_31.out (fun _ hk => ⟨trivial, by first | exact hk | exact (by intro a n m c x h; cases a <;> exact h : ∀ (a : Option Addr) (n m c x : Nat), some x ≠ (Value.slice a n c).ownBlock → some x ≠ (Value.slice a m c).ownBlock) _ _ _ _ _ hk⟩)) hg hat); replace BK434 := Aside0.mk (blk_grown (g := gb434) (o := .cells #[.slice A0_0 l0_0.length c0_0] 27 (0, 0)) (bo BK434.out) hg (Kd.R_ne HO_8.out BK434.out (by decide))); replace HB := Aside0.mk (hb); have HO448 := Aside0.mk (ho); clear HO_8 ho hb hg hat))
           go_roundg k3
           case measure => have := HJ3.out; have := HK2.out; have := HK3.out; omega
           case rel => exact ⟨(y446), (wrap64 (x27_2 + 1)), rr, H', ⟨by have := HJ3.out; have := HK2.out; have := HK3.out; omega⟩, ⟨by (with_reducible repeat (first | apply Kd.R_alloc | apply Kd.R_drewN | apply Kd.R_drew)); exact Kd.R_mono HO_7.out (fun _ hk => hk.2)⟩, ⟨by (with_reducible repeat (first | apply Kd.R_alloc | apply Kd.R_drewN | apply Kd.R_drew)); exact Kd.R_mono HO448.out (fun _ hk => by first | exact ⟨hk.1, hk.2.1⟩ | simp_all)⟩, ⟨by (with_reducible repeat (first | apply Kd.R_alloc | apply Kd.R_drewN | apply Kd.R_drew)); exact Kd.R_mono HO_25.out (fun _ hk => hk.2)⟩, ⟨bo BK434.out⟩, ⟨bw⟩⟩
          ·have H' := Aside0.mk H
           clear H
           go_wp2
           go_roundg k3
           case measure => have := HJ3.out; have := HK2.out; have := HK3.out; omega
           case rel => exact ⟨(x8_2), (wrap64 (x27_2 + 1)), rr, H', ⟨by have := HJ3.out; have := HK2.out; have := HK3.out; omega⟩, ⟨ro HO_7.out⟩, ⟨by (with_reducible repeat (first | apply Kd.R_alloc | apply Kd.R_drewN | apply Kd.R_drew)); exact Kd.R_mono HO_8.out (fun _ hk => by first | exact ⟨hk.1, hk.2.1⟩ | simp_all)⟩, ⟨ro HO_25.out⟩, ⟨bo BK434.out⟩, ⟨bw⟩⟩
      ·obtain rfl := Option.some.inj H
       go_wp2
       go_ret
       exact ⟨_, re, by (with_reducible repeat (first | apply Kd.R_alloc | apply Kd.R_drewN | apply Kd.R_drew)); exact Kd.R_mono HO_8.out (fun _ hk => trivial), bw⟩


/-! ### laws_eqIntS: function 20 -/
def laws_eqIntS.l0 : Nat → List Int → List Int → Int → Option (Bool)
 | 0, _, _, _ => none
 | k + 1, x0, x1, x5 => if x5 < (x0.length : Int) then (if 0 ≤ x5 then (if x5 < (x1.length : Int) then (if (rd x0 x5) = (rd x1 x5) then (laws_eqIntS.l0 k x0 x1 (wrap64 (x5 + 1))) else (some false)) else (none)) else (none)) else (some true)
def laws_eqIntS.f (k : Nat) (l0 : List Int) (l1 : List Int) : Option (Bool) := if (l0.length : Int) = (l1.length : Int) then (laws_eqIntS.l0 k l0 l1 0) else (some false)
set_option maxHeartbeats 8000000 in
set_option maxRecDepth 100000 in
theorem laws_eqIntS.calls (k : Nat) (A0 : Option Addr) (c0 : Nat) (l0 : List Int) (A1 : Option Addr) (c1 : Nat) (l1 : List Int) (r : Bool) (w : World) (hr0 : Kd.C (Kd.int .i64) w A0 l0.length l0) (hc0 : l0.length ≤ c0) (hr1 : Kd.C (Kd.int .i64) w A1 l1.length l1) (hc1 : l1.length ≤ c1) (h : laws_eqIntS.f k l0 l1 = some r) :
  Calls Try.prog 20 #[.slice A0 l0.length c0, .slice A1 l1.length c1] w fun e w' => e = .returned (.bool r) ∧ Drawn0 w w' := by
 have HR0 := Aside0.mk hr0
 have HC0 := Aside0.mk hc0
 clear hr0 hc0
 have HR1 := Aside0.mk hr1
 have HC1 := Aside0.mk hc1
 clear hr1 hc1
 have H : (if (l0.length : Int) = (l1.length : Int) then (laws_eqIntS.l0 k l0 l1 0) else (some false)) = some r := h
 clear h
 by_cases c3 : (l0.length : Int) = (l1.length : Int)
 ·rw [if_pos c3] at H
  have c3b0 : ((l0.length : Int) == (l1.length : Int)) = true := beq_iff_eq.mpr c3
  have c3b1 : ((l0.length : Int) != (l1.length : Int)) = false := bne_eq_false_iff_eq.mpr c3
  have c3b2 : (l0.length == l1.length) = true := by first | simpa using c3 | (simp at c3 ⊢; omega)
  clear c3
  have H' := Aside0.mk H
  clear H
  go_enter Try.func20, Try.ntmps20
  go_wp2
  repeat (go_quiet (fail); try go_wp2)
  go_loopg [5] k (fun kq v5 w' => ∃ (x5_1 : Int), v5 = .int .i64 x5_1 ∧ Aside0 (laws_eqIntS.l0 kq l0 l1 x5_1 = some r) ∧ Aside0 (kq ≤ k) ∧ Drawn0 w w')
  case atStart => exact ⟨(0), rr, H', ⟨Nat.le_refl _⟩, dw⟩
  case round =>
   clear H'
   try clear c1; try clear c3; try clear c3b0; try clear c3b1; try clear c3b2
   obtain ⟨x5_1, rfl, HA, HK1, ⟨m1, rfl⟩⟩ := hrel
   cases gk with
   | zero => exact absurd HA.out (by simp [laws_eqIntS.l0])
   | succ k1 =>
    have H := HA.out
    clear HA
    simp only [laws_eqIntS.l0] at H
    replace H := gi H; obtain ⟨c4b0, H⟩ | ⟨c4b0, H⟩ := H
    ·replace H := gd H; obtain ⟨c5b0, H⟩ := H
     replace H := gd H; obtain ⟨c6b0, H⟩ := H
     by_cases c7 : (rd l0 x5_1) = (rd l1 x5_1)
     ·rw [if_pos c7] at H
      have c7b0 : ((rd l0 x5_1) == (rd l1 x5_1)) = true := beq_iff_eq.mpr c7
      have c7b1 : ((rd l0 x5_1) != (rd l1 x5_1)) = false := bne_eq_false_iff_eq.mpr c7
      clear c7
      have H' := Aside0.mk H
      clear H
      obtain ⟨⟨ad449, e449, hx449_0⟩, p449, q449⟩ := pq (Kd.at_int HR0.out x5_1)
      cases e449
      obtain ⟨⟨ad450, e450, hx450_0⟩, p450, q450⟩ := pq (Kd.at_int HR1.out x5_1)
      cases e450
      go_wp2
      repeat (go_quiet (fail); try go_wp2)
      go_roundg k1
      case measure => have := HK1.out; omega
      case rel => exact ⟨(wrap64 (x5_1 + 1)), rr, H', ⟨by have := HK1.out; omega⟩, dw⟩
     ·rw [if_neg c7] at H
      have c7b0 : ((rd l0 x5_1) == (rd l1 x5_1)) = false := beq_eq_false_iff_ne.mpr c7
      have c7b1 : ((rd l0 x5_1) != (rd l1 x5_1)) = true := bne_iff_ne.mpr c7
      obtain rfl := Option.some.inj H
      obtain ⟨⟨ad449, e449, hx449_0⟩, p449, q449⟩ := pq (Kd.at_int HR0.out x5_1)
      cases e449
      obtain ⟨⟨ad450, e450, hx450_0⟩, p450, q450⟩ := pq (Kd.at_int HR1.out x5_1)
      cases e450
      go_wp2
      repeat (go_quiet (fail); try go_wp2)
      go_ret
      exact ⟨rr, dw⟩
    ·obtain rfl := Option.some.inj H
     go_wp2
     repeat (go_quiet (fail); try go_wp2)
     go_ret
     exact ⟨rr, dw⟩
 ·rw [if_neg c3] at H
  have c3b0 : ((l0.length : Int) == (l1.length : Int)) = false := beq_eq_false_iff_ne.mpr c3
  have c3b1 : ((l0.length : Int) != (l1.length : Int)) = true := bne_iff_ne.mpr c3
  have c3b2 : (l0.length == l1.length) = false := by first | simpa using c3 | (simp at c3 ⊢; omega)
  obtain rfl := Option.some.inj H
  go_enter Try.func20, Try.ntmps20
  go_wp2
  repeat (go_quiet (fail); try go_wp2)
  go_ret
  exact ⟨rr, dw⟩


/-! ### laws_eqSemigroup: function 21 -/
def laws_eqSemigroup.f (k : Nat) (l0_0 : List Int) (l1_0 : List Int) : Option (Bool) := (laws_eqIntS.f k l0_0 l1_0).bind fun t453 => (if t453 = true then (some true) else (some false))
set_option maxHeartbeats 8000000 in
set_option maxRecDepth 100000 in
theorem laws_eqSemigroup.calls (k : Nat) (A0_0 : Option Addr) (c0_0 : Nat) (l0_0 : List Int) (A1_0 : Option Addr) (c1_0 : Nat) (l1_0 : List Int) (r : Bool) (w : World) (hr0_0 : Kd.C (Kd.int .i64) w A0_0 l0_0.length l0_0) (hc0_0 : l0_0.length ≤ c0_0) (hr1_0 : Kd.C (Kd.int .i64) w A1_0 l1_0.length l1_0) (hc1_0 : l1_0.length ≤ c1_0) (h : laws_eqSemigroup.f k l0_0 l1_0 = some r) :
  Calls Try.prog 21 #[.agg #[.slice A0_0 l0_0.length c0_0], .agg #[.slice A1_0 l1_0.length c1_0]] w fun e w' => e = .returned (.bool r) ∧ Below w.heap.size w w' := by
 have hu27 := Try.underlying27
 have HR0_0 := Aside0.mk hr0_0
 have HC0_0 := Aside0.mk hc0_0
 clear hr0_0 hc0_0
 have HR1_0 := Aside0.mk hr1_0
 have HC1_0 := Aside0.mk hc1_0
 clear hr1_0 hc1_0
 have HB := Aside0.mk (Below.refl w.heap.size w)
 have H : ((laws_eqIntS.f k l0_0 l1_0).bind fun t453 => (if t453 = true then (some true) else (some false))) = some r := h
 clear h
 replace H := ga H; obtain ⟨t453, A3, H⟩ := H
 replace H := gb H; obtain ⟨rfl, H⟩ | ⟨rfl, H⟩ := H
 ·obtain rfl := Option.some.inj H
  go_enter Try.func21, Try.ntmps21
  go_wp2_with (first | ((with_reducible refine gate_dst (N := 2) rfl ?_); refine bx 2 #[.slice A0_0 l0_0.length c0_0] 27 ?_; intro gb451 hg w5 hbox hb; have BK451 := Aside0.mk (hbox); have GW451 := Aside0.mk (gs hg : w.heap.size ≤ gb451); have GE451 := Aside0.mk (gs hg : w.heap.size ≤ gb451); replace HB := Aside0.mk (below_step bw hb); clear hb hbox hg) | ((with_reducible refine gate_dst (N := 3) rfl ?_); refine bx 3 #[.slice A1_0 l1_0.length c1_0] 27 ?_; intro gb452 hg w6 hbox hb; have BK452 := Aside0.mk (hbox); have GW452 := Aside0.mk (gs hg : w.heap.size ≤ gb452); have GE452 := Aside0.mk (gs hg : w.heap.size ≤ gb452); replace HB := Aside0.mk (below_step bw hb); have NB451_452 := Aside0.mk ((by rw [hg]; exact Nat.ne_of_lt (blk_lt (g := gb451) (o := .cells #[.slice A0_0 l0_0.length c0_0] 27 (0, 0)) (bo BK451.out)) : gb451 ≠ gb452)); have NB452_451 := Aside0.mk ((by rw [hg]; exact Nat.ne_of_gt (blk_lt (g := gb451) (o := .cells #[.slice A0_0 l0_0.length c0_0] 27 (0, 0)) (bo BK451.out)) : gb452 ≠ gb451)); replace BK451 := Aside0.mk (blk_below (g := gb451) (o := .cells #[.slice A0_0 l0_0.length c0_0] 27 (0, 0)) (bo BK451.out) hb); clear hb hbox hg; have hnb7 := NB451_452.out; have hnc7 := NB452_451.out; have hcz8_0 := bc BK451 0 (.slice A0_0 l0_0.length c0_0); have hfz8_0 := blk_frozen BK451.out 0; have hcz9_0 := bc BK452 0 (.slice A1_0 l1_0.length c1_0); have hfz9_0 := blk_frozen BK452.out 0) | ((with_reducible refine gate_callee (f := 20) rfl ?_); refine gl (some 9) Try.func20 #[.slice A0_0 l0_0.length c0_0, .slice A1_0 l1_0.length c1_0] ?_; (with_reducible refine (laws_eqIntS.calls k _ _ l0_0 _ _ l1_0 true _ ?side1 ?side2 ?side3 ?side4 A3.out).mono ?_); (case side1 => exact co (Kd.C_below HR0_0.out HB.out)); (case side2 => exact HC0_0.out); (case side3 => exact co (Kd.C_below HR1_0.out HB.out)); (case side4 => exact HC1_0.out); rintro e w' ⟨rfl, ⟨nd, rfl⟩⟩; refine ⟨_, rfl, ?_⟩))
  go_ret
  exact ⟨re, bw⟩
 ·obtain rfl := Option.some.inj H
  go_enter Try.func21, Try.ntmps21
  go_wp2_with (first | ((with_reducible refine gate_dst (N := 2) rfl ?_); refine bx 2 #[.slice A0_0 l0_0.length c0_0] 27 ?_; intro gb451 hg w10 hbox hb; have BK451 := Aside0.mk (hbox); have GW451 := Aside0.mk (gs hg : w.heap.size ≤ gb451); have GE451 := Aside0.mk (gs hg : w.heap.size ≤ gb451); replace HB := Aside0.mk (below_step bw hb); clear hb hbox hg) | ((with_reducible refine gate_dst (N := 3) rfl ?_); refine bx 3 #[.slice A1_0 l1_0.length c1_0] 27 ?_; intro gb452 hg w11 hbox hb; have BK452 := Aside0.mk (hbox); have GW452 := Aside0.mk (gs hg : w.heap.size ≤ gb452); have GE452 := Aside0.mk (gs hg : w.heap.size ≤ gb452); replace HB := Aside0.mk (below_step bw hb); have NB451_452 := Aside0.mk ((by rw [hg]; exact Nat.ne_of_lt (blk_lt (g := gb451) (o := .cells #[.slice A0_0 l0_0.length c0_0] 27 (0, 0)) (bo BK451.out)) : gb451 ≠ gb452)); have NB452_451 := Aside0.mk ((by rw [hg]; exact Nat.ne_of_gt (blk_lt (g := gb451) (o := .cells #[.slice A0_0 l0_0.length c0_0] 27 (0, 0)) (bo BK451.out)) : gb452 ≠ gb451)); replace BK451 := Aside0.mk (blk_below (g := gb451) (o := .cells #[.slice A0_0 l0_0.length c0_0] 27 (0, 0)) (bo BK451.out) hb); clear hb hbox hg; have hnb12 := NB451_452.out; have hnc12 := NB452_451.out; have hcz13_0 := bc BK451 0 (.slice A0_0 l0_0.length c0_0); have hfz13_0 := blk_frozen BK451.out 0; have hcz14_0 := bc BK452 0 (.slice A1_0 l1_0.length c1_0); have hfz14_0 := blk_frozen BK452.out 0) | ((with_reducible refine gate_callee (f := 20) rfl ?_); refine gl (some 9) Try.func20 #[.slice A0_0 l0_0.length c0_0, .slice A1_0 l1_0.length c1_0] ?_; (with_reducible refine (laws_eqIntS.calls k _ _ l0_0 _ _ l1_0 false _ ?side1 ?side2 ?side3 ?side4 A3.out).mono ?_); (case side1 => exact co (Kd.C_below HR0_0.out HB.out)); (case side2 => exact HC0_0.out); (case side3 => exact co (Kd.C_below HR1_0.out HB.out)); (case side4 => exact HC1_0.out); rintro e w' ⟨rfl, ⟨nd, rfl⟩⟩; refine ⟨_, rfl, ?_⟩))
  go_ret
  exact ⟨re, bw⟩


/-! ### laws_markIntS: function 23 -/
def laws_markIntS.l0 : Nat → List Int → Int → Int → Option (Int × List Int)
 | 0, _, _, _ => none
 | k + 1, x0, x1, x5 => if x5 < (x0.length : Int) then (if 0 ≤ x5 then (laws_markIntS.l0 k (x0.set (x5 : Int).toNat x1) (wrap64 (x1 + 1)) (wrap64 (x5 + 1))) else (none)) else (some (x1, x0))
def laws_markIntS.f (k : Nat) (l0 : List Int) (a1 : Int) : Option (Int × List Int) := laws_markIntS.l0 k l0 a1 0
set_option maxHeartbeats 8000000 in
set_option maxRecDepth 100000 in
theorem laws_markIntS.calls (k : Nat) (P0_ : Nat → Prop) (u9000_ : Value) (l0 : List Int) (a1 : Int) (r1 : Int) (r2 : List Int) (w0 w : World) (hB : Below w0.heap.size w0 w) (ho0 : Kd.R (Kd.int .i64) 3 w w0.heap.size P0_ u9000_ l0) (h : laws_markIntS.f k l0 a1 = some (r1, r2)) :
  Calls Try.prog 23 #[u9000_, .int .i64 a1] w fun e w' => e = .returned (.int .i64 r1) ∧ Kd.R (Kd.int .i64) 3 w' w0.heap.size (fun k_ => (P0_ k_ ∨ w.heap.size ≤ k_)) u9000_ r2 ∧ Below w0.heap.size w0 w' ∧ Kept w w' (fun k_ => P0_ k_) := by
 have HO0 := Aside0.mk (show Kd.R (Kd.int .i64) 3 w w0.heap.size (fun k_ => (P0_ k_ ∨ w.heap.size ≤ k_)) u9000_ l0 from Kd.R_mono ho0 (fun k_ hk => (.inl hk)))
 have HK := Aside0.mk (Kept.refl w (fun k_ => P0_ k_))
 have HW0 := Aside0.mk hB.size
 have HB := Aside0.mk hB
 clear hB
 have H : (laws_markIntS.l0 k l0 a1 0) = some (r1, r2) := h
 clear h
 have H' := Aside0.mk H
 clear H
 go_enter Try.func23, Try.ntmps23
 go_wp2
 go_loopg [1, 5] k (fun kq v1 v5 w' => ∃ (x0_1 : List Int) (x1_1 : Int) (x5_1 : Int), v1 = .int .i64 x1_1 ∧ v5 = .int .i64 x5_1 ∧ Aside0 (laws_markIntS.l0 kq x0_1 x1_1 x5_1 = some (r1, r2)) ∧ Aside0 (kq ≤ k) ∧ Aside0 (Kd.R (Kd.int .i64) 3 w' w0.heap.size (fun k_ => (P0_ k_ ∨ w.heap.size ≤ k_)) u9000_ x0_1) ∧ Aside0 (Kept w w' (fun k_ => P0_ k_)) ∧ Aside0 (Below w0.heap.size w0 w'))
 case atStart => exact ⟨(l0), (a1), (0), rr, rr, H', ⟨Nat.le_refl _⟩, ⟨ro HO0.out⟩, ⟨by repeat (first | (with_reducible first | exact HK.out | apply Kept.alloc | apply Kept.drewN | apply Kept.drew) | exact HK.out)⟩, ⟨bw⟩⟩
 case round =>
  clear H'
  obtain ⟨x0_1, x1_1, x5_1, rfl, rfl, HA, HK1, HO_0, HK, HB⟩ := hrel
  cases gk with
  | zero => exact absurd HA.out (by simp [laws_markIntS.l0])
  | succ k1 =>
   have H := HA.out
   clear HA
   simp only [laws_markIntS.l0] at H
   replace H := gi H; obtain ⟨c3b0, H⟩ | ⟨c3b0, H⟩ := H
   ·replace H := gd H; obtain ⟨c4b0, H⟩ := H
    obtain ⟨y454, hy454⟩ : ∃ y_ : List Int, y_ = (x0_1.set (x5_1 : Int).toNat x1_1) := ⟨_, rfl⟩
    replace H : (laws_markIntS.l0 k1 y454 (wrap64 (x1_1 + 1)) (wrap64 (x5_1 + 1))) = some (r1, r2) := by first | (rw [hy454]; with_reducible exact H) | (have H2_ := (Option.bind_some _ _).symm.trans H; rw [hy454]; with_reducible exact H2_) | (have H2_ := (Option.bind_some _ _).symm.trans H; with_reducible exact H2_) | with_reducible exact H | (rw [hy454]; exact H) | exact H
    have Ny454 := Aside0.mk hy454
    clear hy454
    have H' := Aside0.mk H
    clear H
    obtain ⟨Ao6, co6, eo6⟩ := Kd.R_slice HO_0.out
    subst eo6
    have p5 : 0 ≤ (x5_1 : Int) := of_decide_eq_true (by first | (with_reducible assumption) | assumption)
    have q5 : (x5_1 : Int) < ((x0_1.length : Int) : Int) := of_decide_eq_true (by first | (with_reducible assumption) | assumption)
    obtain ⟨go5, co5, eo5, gb5, gl5, cl5, HG5⟩ := Kd.R_form HO_0.out (by omega)
    (first | cases eo5 | (injection eo5 with ea_ en_ ec_; (first | subst ea_ | (injection ea_ with ea_; subst ea_)); subst ec_; clear en_))
    have GB5 := Aside0.mk gb5
    have GG5 := Aside0.mk HG5
    clear gb5 gl5 HG5
    have HMgo5 := Aside0.mk (show (P0_ go5 ∨ w.heap.size ≤ go5) from (HO_0.out.1 _ rfl))
    obtain ⟨hx5_0, hf5_0⟩ := Kd.R_celln 0 HO_0.out (x5_1 : Int) p5 q5
    replace p5 := eq_true p5
    replace q5 := eq_true q5
    have HP7 := Kd.R_putg HO_0.out (x5_1 : Int) x1_1
    go_wp2_with (first | ((with_reducible refine gate_store (t := 3) (p := 15) rfl ?_); refine store_event (t := 3) (p := 15) (v := ?vo_w8) (w1 := (wr.setCell ⟨go5, (x5_1 : Int).toNat, none⟩ (.int .i64 x1_1))) ?hg ?ho ?hn ?hr ?_; (case ho => rfl); (case hg => rfl); (case hn => rfl); (case hr => first | (go_simp; done) | (go_simp; rfl)); intro w8 hw; have hg : wr.grownBy w8 (some go5) := (by rw [hw]; exact HP7.2); have hp_ : Kd.R (Kd.int .i64) 3 w8 w0.heap.size (fun k_ => (P0_ k_ ∨ w.heap.size ≤ k_)) (.slice (some ⟨go5, 0, none⟩) x0_1.length co6) y454 := (by rw [hw, Ny454.out]; exact HP7.1); clear HP7; replace HB := Aside0.mk ((by rw [hw]; exact below_set (HB.out) GB5.out : Below w0.heap.size w0 w8)); replace HK := Aside0.mk (Kept.of_grown (S := (fun k_ => P0_ k_)) hg (by repeat (first | (with_reducible first | exact HK.out | apply Kept.alloc | apply Kept.drewN | apply Kept.drew) | exact HK.out)) (fun k_ e_ => (HO_0.out.1 k_ e_))); replace HO_0 := Aside0.mk (hp_); clear hg hw hp_))
    go_roundg k1
    case measure => have := HK1.out; omega
    case rel => exact ⟨(y454), (wrap64 (x1_1 + 1)), (wrap64 (x5_1 + 1)), rr, rr, H', ⟨by have := HK1.out; omega⟩, ⟨ro HO_0.out⟩, ⟨by repeat (first | (with_reducible first | exact HK.out | apply Kept.alloc | apply Kept.drewN | apply Kept.drew) | exact HK.out)⟩, ⟨bw⟩⟩
   ·simp only [Option.some.injEq, Prod.mk.injEq] at H
    obtain ⟨rfl, rfl⟩ := H
    obtain ⟨Ao9, co9, eo9⟩ := Kd.R_slice HO_0.out
    subst eo9
    go_wp2
    go_ret
    exact ⟨re, ro HO_0.out, bw, by repeat (first | (with_reducible first | exact HK.out | apply Kept.alloc | apply Kept.drewN | apply Kept.drew) | exact HK.out)⟩


/-! ### laws_markSemigroup: function 22 -/
def laws_markSemigroup.f (k : Nat) (l0_0 : List Int) (a1 : Int) : Option (Int × List Int) := (laws_markIntS.f k l0_0 a1).bind fun bt456 => (some (bt456.1, bt456.2))
set_option maxHeartbeats 8000000 in
set_option maxRecDepth 100000 in
theorem laws_markSemigroup.calls (k : Nat) (P0_0_ : Nat → Prop) (u9000_ : Value) (l0_0 : List Int) (a1 : Int) (r1 : Int) (r2 : List Int) (w0 w : World) (hB : Below w0.heap.size w0 w) (ho0_0 : Kd.R (Kd.int .i64) 3 w w0.heap.size P0_0_ u9000_ l0_0) (h : laws_markSemigroup.f k l0_0 a1 = some (r1, r2)) :
  Calls Try.prog 22 #[.agg #[u9000_], .int .i64 a1] w fun e w' => e = .returned (.int .i64 r1) ∧ Kd.R (Kd.int .i64) 3 w' w0.heap.size (fun k_ => (P0_0_ k_ ∨ w.heap.size ≤ k_)) u9000_ r2 ∧ Below w0.heap.size w0 w' ∧ Kept w w' (fun k_ => P0_0_ k_) := by
 have hu27 := Try.underlying27
 have HO0_0 := Aside0.mk (show Kd.R (Kd.int .i64) 3 w w0.heap.size (fun k_ => (P0_0_ k_ ∨ w.heap.size ≤ k_)) u9000_ l0_0 from Kd.R_mono ho0_0 (fun k_ hk => (.inl hk)))
 have HK := Aside0.mk (Kept.refl w (fun k_ => P0_0_ k_))
 have HW0 := Aside0.mk hB.size
 have HB := Aside0.mk hB
 clear hB
 have H : ((laws_markIntS.f k l0_0 a1).bind fun bt456 => (some (bt456.1, bt456.2))) = some (r1, r2) := h
 clear h
 replace H := ga H; obtain ⟨⟨t456, t457⟩, A3, H⟩ := H
 replace H : (some (t456, t457)) = some (r1, r2) := H
 simp only [Option.some.injEq, Prod.mk.injEq] at H
 obtain ⟨rfl, rfl⟩ := H
 obtain ⟨Ao4, co4, eo4⟩ := Kd.R_slice HO0_0.out
 subst eo4
 go_enter Try.func22, Try.ntmps22
 go_wp2_with (first | ((with_reducible refine gate_dst (N := 2) rfl ?_); refine bx 2 #[.slice Ao4 l0_0.length co4] 27 ?_; intro gb455 hg w5 hbox hb; replace HO0_0 := Aside0.mk (Kd.R_below (ro HO0_0.out) hb); have BK455 := Aside0.mk (hbox); have GW455 := Aside0.mk ((by rw [hg]; exact (by first | exact HK.out.1 | exact (show Kept w _ (fun k_ => P0_0_ k_) from by repeat (first | (with_reducible first | exact HK.out | apply Kept.alloc | apply Kept.drewN | apply Kept.drew) | exact HK.out)).1) : w.heap.size ≤ gb455)); replace HK := Aside0.mk (Kept.below (S := (fun k_ => P0_0_ k_)) (by repeat (first | (with_reducible first | exact HK.out | apply Kept.alloc | apply Kept.drewN | apply Kept.drew) | exact HK.out)) hb); have GE455 := Aside0.mk ((by rw [hg]; exact (below_size bw) : w0.heap.size ≤ gb455)); replace HB := Aside0.mk (below_step bw hb); clear hb hbox hg; have hcz6_0 := bc BK455 0 (.slice Ao4 l0_0.length co4); have hfz6_0 := blk_frozen BK455.out 0) | ((with_reducible refine gate_callee (f := 23) rfl ?_); refine gl (some 8) Try.func23 #[.slice Ao4 l0_0.length co4, .int .i64 a1] ?_; (with_reducible refine (laws_markIntS.calls k (fun k_ => some k_ = (.slice Ao4 l0_0.length co4 : Value).ownBlock) (.slice Ao4 l0_0.length co4) l0_0 a1 t456 t457 w0 _ ?side1 ?side2 A3.out).mono ?_); (case side1 => repeat (first | (with_reducible first | exact HB.out | apply below_alloc | apply pw_below_drewN | apply below_drew1 | refine below_set ?_ GE455.out) | exact HB.out)); (case side2 => exact Kd.R_tight rfl HO0_0.out); rintro e w7 ⟨rfl, hy0, hb, hkp⟩; refine ⟨_, rfl, ?_⟩; replace BK455 := Aside0.mk (blk_kept (bo BK455.out) hkp (fun hs_ => (fun e_ => (Kd.R_ne HO0_0.out BK455.out (by decide)) e_) hs_)); replace HK := Aside0.mk (Kept.then_ (S := (fun k_ => P0_0_ k_)) (by repeat (first | (with_reducible first | exact HK.out | apply Kept.alloc | apply Kept.drewN | apply Kept.drew | refine Kept.setCell ?_ (.inr GW455.out) _) | exact HK.out)) hkp (fun k_ hs_ => (fun e_ => (HO0_0.out.1 k_ e_.symm)) hs_)); replace HO0_0 := Aside0.mk (Kd.R_reok rfl hy0 (fun k_ e_ => HO0_0.out.1 k_ e_)); replace HB := Aside0.mk (hb); clear hb hkp hy0))
 go_ret
 exact ⟨re, ro HO0_0.out, bw, by repeat (first | (with_reducible first | exact HK.out | apply Kept.alloc | apply Kept.drewN | apply Kept.drew | refine Kept.setCell ?_ (.inr GW455.out) _) | exact HK.out)⟩


/-! ### laws_heldIntS: function 24 -/
def laws_heldIntS.l0 : Nat → List Int → Int → Int → Option (Int)
 | 0, _, _, _ => none
 | k + 1, x0, x1, x5 => if x5 < (x0.length : Int) then (if 0 ≤ x5 then (if (rd x0 x5) = x1 then (laws_heldIntS.l0 k x0 (wrap64 (x1 + 1)) (wrap64 (x5 + 1))) else (some (-1))) else (none)) else (some x1)
def laws_heldIntS.f (k : Nat) (l0 : List Int) (a1 : Int) : Option (Int) := laws_heldIntS.l0 k l0 a1 0
set_option maxHeartbeats 8000000 in
set_option maxRecDepth 100000 in
theorem laws_heldIntS.calls (k : Nat) (A0 : Option Addr) (c0 : Nat) (l0 : List Int) (a1 : Int) (r : Int) (w : World) (hr0 : Kd.C (Kd.int .i64) w A0 l0.length l0) (hc0 : l0.length ≤ c0) (h : laws_heldIntS.f k l0 a1 = some r) :
  Calls Try.prog 24 #[.slice A0 l0.length c0, .int .i64 a1] w fun e w' => e = .returned (.int .i64 r) ∧ Drawn0 w w' := by
 have HR0 := Aside0.mk hr0
 have HC0 := Aside0.mk hc0
 clear hr0 hc0
 have H : (laws_heldIntS.l0 k l0 a1 0) = some r := h
 clear h
 have H' := Aside0.mk H
 clear H
 go_enter Try.func24, Try.ntmps24
 go_wp2
 go_loopg [1, 5] k (fun kq v1 v5 w' => ∃ (x1_1 : Int) (x5_1 : Int), v1 = .int .i64 x1_1 ∧ v5 = .int .i64 x5_1 ∧ Aside0 (laws_heldIntS.l0 kq l0 x1_1 x5_1 = some r) ∧ Aside0 (kq ≤ k) ∧ Drawn0 w w')
 case atStart => exact ⟨(a1), (0), rr, rr, H', ⟨Nat.le_refl _⟩, dw⟩
 case round =>
  clear H'
  obtain ⟨x1_1, x5_1, rfl, rfl, HA, HK1, ⟨m1, rfl⟩⟩ := hrel
  cases gk with
  | zero => exact absurd HA.out (by simp [laws_heldIntS.l0])
  | succ k1 =>
   have H := HA.out
   clear HA
   simp only [laws_heldIntS.l0] at H
   replace H := gi H; obtain ⟨c3b0, H⟩ | ⟨c3b0, H⟩ := H
   ·replace H := gd H; obtain ⟨c4b0, H⟩ := H
    by_cases c5 : (rd l0 x5_1) = x1_1
    ·rw [if_pos c5] at H
     have c5b0 : ((rd l0 x5_1) == x1_1) = true := beq_iff_eq.mpr c5
     have c5b1 : ((rd l0 x5_1) != x1_1) = false := bne_eq_false_iff_eq.mpr c5
     clear c5
     have H' := Aside0.mk H
     clear H
     obtain ⟨⟨ad458, e458, hx458_0⟩, p458, q458⟩ := pq (Kd.at_int HR0.out x5_1)
     cases e458
     go_wp2
     go_roundg k1
     case measure => have := HK1.out; omega
     case rel => exact ⟨(wrap64 (x1_1 + 1)), (wrap64 (x5_1 + 1)), rr, rr, H', ⟨by have := HK1.out; omega⟩, dw⟩
    ·rw [if_neg c5] at H
     have c5b0 : ((rd l0 x5_1) == x1_1) = false := beq_eq_false_iff_ne.mpr c5
     have c5b1 : ((rd l0 x5_1) != x1_1) = true := bne_iff_ne.mpr c5
     obtain rfl := Option.some.inj H
     obtain ⟨⟨ad458, e458, hx458_0⟩, p458, q458⟩ := pq (Kd.at_int HR0.out x5_1)
     cases e458
     go_wp2
     go_ret
     exact ⟨rr, dw⟩
   ·obtain rfl := Option.some.inj H
    go_wp2
    go_ret
    exact ⟨rr, dw⟩

end Go.Proofs.Ytiejmnnnjmmifaa.C
