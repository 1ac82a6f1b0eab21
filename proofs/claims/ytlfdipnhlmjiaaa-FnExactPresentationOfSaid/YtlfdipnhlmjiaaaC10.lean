/- Contracts of functions of the program: impl_ClassesOf. -/
import Derived.Test.YtlfdipnhlmjiaaaC0
import Derived.Test.YtlfdipnhlmjiaaaC6
import Derived.Test.YtlfdipnhlmjiaaaC9
namespace Go.Proofs.Ytlfdipnhlmjiaaa.C
open Go.RowKit Go.Proofs.YtlfdipnhlmjiaaaW.PrintWords Go.Proofs.YtlfdipnhlmjiaaaW.PrintLast Go.Proofs.YtlfdipnhlmjiaaaW.PrintMore
attribute [local go_sem] max2_int min2_int max_two min_two max_three min_three max_four min_four
set_option linter.unusedVariables false
set_option linter.unusedSimpArgs false

/-! ### impl_ClassesOf: function 31 -/
mutual
def impl_ClassesOf.l0 : Nat → List (List Int) → List Int → Int → Int → Option ((List (List (List Int))))
 | 0, _, _, _, _ => none
 | k + 1, x5, x6, x22, x23 => if x23 < x22 then (if 0 ≤ x23 then (if x23 < (x6.length : Int) then (impl_ClassesOf.l0 k x5 (x6.set (x23 : Int).toNat x23) x22 (wrap64 (x23 + 1))) else (none)) else (none)) else (impl_ClassesOf.l1 k x5 x6 true)
def impl_ClassesOf.l1 : Nat → List (List Int) → List Int → Bool → Option ((List (List (List Int))))
 | 0, _, _, _ => none
 | k + 1, x5, x6, x8 => if x8 = true then (impl_ClassesOf.l2 k x5 x6 false (x5.length : Int) 0) else (impl_ClassesOf.l4 k x5 x6 (([] : List (List (List Int)))) (x5.length : Int) 0)
def impl_ClassesOf.l2 : Nat → List (List Int) → List Int → Bool → Int → Int → Option ((List (List (List Int))))
 | 0, _, _, _, _, _ => none
 | k + 1, x5, x6, x8, x33, x34 => if x34 < x33 then (impl_ClassesOf.l3 k x5 x6 x8 x34 x33 x34 (x5.length : Int) 0) else (impl_ClassesOf.l1 k x5 x6 x8)
def impl_ClassesOf.l3 : Nat → List (List Int) → List Int → Bool → Int → Int → Int → Int → Int → Option ((List (List (List Int))))
 | 0, _, _, _, _, _, _, _, _ => none
 | k + 1, x5, x6, x8, x9, x33, x34, x38, x39 => if x39 < x38 then (if 0 ≤ x9 then (if x9 < (x6.length : Int) then (if 0 ≤ x39 then (if x39 < (x6.length : Int) then (if (rd x6 x9) < (rd x6 x39) then (if x9 < (x5.length : Int) then (if x39 < (x5.length : Int) then ((impl_linked.f k (rd_L2 x5 x9) (rd_L2 x5 x39)).bind fun t511 => (if t511 = true then (impl_ClassesOf.l3 k x5 (x6.set (x39 : Int).toNat (rd x6 x9)) true x9 x33 x34 x38 (wrap64 (x39 + 1))) else (impl_ClassesOf.l3 k x5 x6 x8 x9 x33 x34 x38 (wrap64 (x39 + 1))))) else (none)) else (none)) else (impl_ClassesOf.l3 k x5 x6 x8 x9 x33 x34 x38 (wrap64 (x39 + 1)))) else (none)) else (none)) else (none)) else (none)) else (impl_ClassesOf.l2 k x5 x6 x8 x33 (wrap64 (x34 + 1)))
def impl_ClassesOf.l4 : Nat → List (List Int) → List Int → List (List (List Int)) → Int → Int → Option ((List (List (List Int))))
 | 0, _, _, _, _, _ => none
 | k + 1, x5, x6, x11, x75, x76 => if x76 < x75 then (if 0 ≤ x76 then (if x76 < (x6.length : Int) then (if (rd x6 x76) = x76 then (impl_ClassesOf.l5 k x5 x6 x11 x76 (([] : List (List Int))) x75 x76 (x5.length : Int) 0) else (impl_ClassesOf.l4 k x5 x6 x11 x75 (wrap64 (x76 + 1)))) else (none)) else (none)) else (some x11)
def impl_ClassesOf.l5 : Nat → List (List Int) → List Int → List (List (List Int)) → Int → List (List Int) → Int → Int → Int → Int → Option ((List (List (List Int))))
 | 0, _, _, _, _, _, _, _, _, _ => none
 | k + 1, x5, x6, x11, x12, x13, x75, x76, x87, x88 => if x88 < x87 then (if 0 ≤ x88 then (if x88 < (x6.length : Int) then (if (rd x6 x88) = x12 then (if x88 < (x5.length : Int) then ((slices_Clone_int_int.f (rd_L2 x5 x88)).bind fun t523 => (if x13.length < 5864062014805 then (impl_ClassesOf.l5 k x5 x6 x11 x12 (x13 ++ [t523]) x75 x76 x87 (wrap64 (x88 + 1))) else (none))) else (none)) else (impl_ClassesOf.l5 k x5 x6 x11 x12 x13 x75 x76 x87 (wrap64 (x88 + 1)))) else (none)) else (none)) else (if x11.length < 5864062014805 then (impl_ClassesOf.l4 k x5 x6 (x11 ++ [x13]) x75 (wrap64 (x76 + 1))) else (none))
end
def impl_ClassesOf.f (k : Nat) (l0_0 : List Int) (a1 : Int) : Option ((List (List (List Int)))) := (impl_Factorizations.f k l0_0 a1).bind fun t500 => (if 0 ≤ (t500.length : Int) then (if ((t500.length : Int) : Int).toNat ≤ 35184372088832 then (impl_ClassesOf.l0 k t500 (List.replicate ((t500.length : Int) : Int).toNat 0) (t500.length : Int) 0) else (none)) else (none))
theorem nilc0 (d : Nat) (w : World) (t e : TypeId) (a : Option Addr) (l c : Nat) (h : Try.prog.underlying t = some (.slice e)) : (Op.equalIn (d + 1) t (.slice a l c) (.slice none 0 0)).run Try.prog w = .ok a.isNone w := by
 cases a <;> simp [Op.equalIn, run_underlying h]
theorem nilc1 (w : World) (t e : TypeId) (a : Option Addr) (l c : Nat) (h : Try.prog.underlying t = some (.slice e)) : (Op.equal t (.slice a l c) (.slice none 0 0)).run Try.prog w = .ok a.isNone w := nilc0 9999 w t e a l c h
theorem nilc (w : World) (t e : TypeId) (a : Option Addr) (l c : Nat) (h : Try.prog.underlying t = some (.slice e)) : (binOp .eql t (.slice a l c) (.slice none 0 0)).run Try.prog w = .ok (.bool a.isNone) w := by
 simp only [binOp]
 simp [nilc1 w t e a l c h]
attribute [local go_sem] nilc
set_option maxHeartbeats 8000000 in
set_option maxRecDepth 100000 in
theorem impl_ClassesOf.calls (k : Nat) (A0_0 : Option Addr) (c0_0 : Nat) (l0_0 : List Int) (a1 : Int) (r : List (List (List Int))) (w : World) (hr0_0 : Kd.C (Kd.int .i64) w A0_0 l0_0.length l0_0) (hc0_0 : l0_0.length ≤ c0_0) (h : impl_ClassesOf.f k l0_0 a1 = some r) :
  Calls Try.prog 31 #[.agg #[.slice A0_0 l0_0.length c0_0], .int .i64 a1] w fun e w' => ∃ v0_ : Value, e = .returned (v0_) ∧ Kd.R (Kd.slice 22 (Kd.slice 3 (Kd.int .i64))) 49 w' w.heap.size (fun _ => True) v0_ r ∧ Below w.heap.size w w' := by
 have hu27 := Try.underlying27
 have HR0_0 := am hr0_0
 have HC0_0 := am hc0_0
 clear hr0_0 hc0_0
 have HB := am (Below.refl w.heap.size w)
 have H : ((impl_Factorizations.f k l0_0 a1).bind fun t500 => (if 0 ≤ (t500.length : Int) then (if ((t500.length : Int) : Int).toNat ≤ 35184372088832 then (impl_ClassesOf.l0 k t500 (List.replicate ((t500.length : Int) : Int).toNat 0) (t500.length : Int) 0) else (none)) else (none))) = some r := h
 clear h
 replace H := ga H; obtain ⟨t500, A3, H⟩ := H
 replace H := gp H; obtain ⟨c4, H⟩ := H
 have c4b0 := eq_true c4
 have c4b1 : decide (0 ≤ (t500.length : Int)) = true := decide_eq_true c4
 clear c4
 replace H := gp H; obtain ⟨c5, H⟩ := H
 have c5b0 := eq_true c5
 have c5b1 : decide (((t500.length : Int) : Int).toNat ≤ 35184372088832) = true := decide_eq_true c5
 clear c5
 obtain ⟨y503, hy503⟩ : ∃ y_ : List Int, y_ = (List.replicate ((t500.length : Int) : Int).toNat 0) := ⟨_, rfl⟩
 replace H : (impl_ClassesOf.l0 k t500 y503 (t500.length : Int) 0) = some r := by first | (rw [hy503]; with_reducible first | exact H | exact bs H) | (with_reducible first | exact bs H | exact H) | (rw [hy503]; exact H) | exact H
 have Ny503 := am hy503
 clear hy503
 have H' := am H
 clear H
 go_enter Try.func31, Try.ntmps31
 go_wp2_with (first | ((with_reducible refine gate_dst (N := 2) rfl ?_); refine bx 2 #[.slice A0_0 l0_0.length c0_0] 27 ?_; intro gb499 hg w6 hbox hb; have BK499 := am (hbox); have GW499 := am (gs hg : w.heap.size ≤ gb499); have GE499 := GW499; replace HB := am (below_step bw hb); clear hb hbox hg; have hcz7_0 := bc BK499 0 (.slice A0_0 l0_0.length c0_0); have hfz7_0 := blk_frozen BK499.out 0) | (go_at_call 82; (with_reducible refine (impl_Factorizations.calls k _ _ l0_0 a1 t500 _ ?side1 ?side2 A3.out).mono ?_); (case side1 => exact co (Kd.C_below HR0_0.out HB.out)); (case side2 => exact HC0_0.out); rintro e w8 ⟨v501, rfl, ho0, hb⟩; have HO502 := am (Kd.S_lower ho0 (below_size bw)); replace BK499 := kb BK499 hb; replace HB := am (below_step bw hb); clear hb ho0; obtain ⟨Ao9, co9, eo9⟩ := Kd.S_slice HO502.out; subst eo9) | ((with_reducible refine gate_dst (N := 20) rfl ?_); refine Kd.R_make (Kd.int .i64) _ 3 rfl (N := 20) rfl 22 _ _ rfl (t500.length : Int) rfl rfl Try.underlying22 (.int .i64 0) 8 info3 rfl (by decide) (by omega) 0 (ok := fun _ => True) (okp := fun _ => True) rfl (fun _ hk => hk) trivial (of_decide_eq_true (by first | (with_reducible assumption) | assumption)) (Nat.le_trans (Nat.mul_le_mul_right _ (of_decide_eq_true (by first | (with_reducible assumption) | assumption) : (t500.length : Int).toNat ≤ 35184372088832)) (by omega)) (Below.refl _ _) (Nat.le_refl _) ?_; intro v504 w10 ho11 hb hg_ hnew_; clear hg_ hnew_; (first | rw [← Ny503.out] at ho11 | (simp only [Int.reduceToNat] at ho11; rw [← Ny503.out] at ho11)); replace HO502 := am (Kd.S_elder' (so HO502.out) (Kd.R_base ho11) hb); have HO505 := am (Kd.R_lower ho11 (below_size bw)); replace BK499 := kb BK499 hb; replace HB := am (below_step bw hb); clear hb ho11))
 repeat (go_quiet (first | (go_at_call 82; (with_reducible refine (impl_Factorizations.calls k _ _ l0_0 a1 t500 _ ?side1 ?side2 A3.out).mono ?_); (case side1 => exact co (Kd.C_below HR0_0.out HB.out)); (case side2 => exact HC0_0.out); rintro e w8 ⟨v501, rfl, ho0, hb⟩; have n0_ := am (Kd.S_lower ho0 (below_size bw)); have n1_ := am (blk_below (g := gb499) (o := .cells #[.slice A0_0 l0_0.length c0_0] 27 (0, 0)) (bo BK499.out) hb); have n2_ := am (below_step bw hb); clear BK499; clear HB; have HO502 := n0_; have BK499 := n1_; have HB := n2_; clear n0_ n1_ n2_; (try clear hb); (try clear hb2); (try clear hk); (try clear hi); (try clear ho0); obtain ⟨Ao9, co9, eo9⟩ := Kd.S_slice HO502.out; subst eo9)); try go_wp2_with (first | ((with_reducible refine gate_dst (N := 2) rfl ?_); refine bx 2 #[.slice A0_0 l0_0.length c0_0] 27 ?_; intro gb499 hg w6 hbox hb; have n0_ := am (below_step bw hb); have n1_ := am (hbox); have n2_ := am (gs hg : w.heap.size ≤ gb499); have n3_ := am (gs hg : w.heap.size ≤ gb499); clear HB; have HB := n0_; have BK499 := n1_; have GW499 := n2_; have GE499 := n3_; clear n0_ n1_ n2_ n3_; clear hb hbox hg; have hcz7_0 := bc BK499 0 (.slice A0_0 l0_0.length c0_0); have hfz7_0 := blk_frozen BK499.out 0) | (go_at_call 82; (with_reducible refine (impl_Factorizations.calls k _ _ l0_0 a1 t500 _ ?side1 ?side2 A3.out).mono ?_); (case side1 => exact co (Kd.C_below HR0_0.out HB.out)); (case side2 => exact HC0_0.out); rintro e w8 ⟨v501, rfl, ho0, hb⟩; have n0_ := am (Kd.S_lower ho0 (below_size bw)); have n1_ := am (blk_below (g := gb499) (o := .cells #[.slice A0_0 l0_0.length c0_0] 27 (0, 0)) (bo BK499.out) hb); have n2_ := am (below_step bw hb); clear BK499; clear HB; have HO502 := n0_; have BK499 := n1_; have HB := n2_; clear n0_ n1_ n2_; (try clear hb); (try clear hb2); (try clear hk); (try clear hi); (try clear ho0); obtain ⟨Ao9, co9, eo9⟩ := Kd.S_slice HO502.out; subst eo9) | ((with_reducible refine gate_dst (N := 20) rfl ?_); refine Kd.R_make (Kd.int .i64) _ 3 rfl (N := 20) rfl 22 _ _ rfl (t500.length : Int) rfl rfl Try.underlying22 (.int .i64 0) 8 info3 rfl (by decide) (by omega) 0 (ok := fun _ => True) (okp := fun _ => True) rfl (fun _ hk => hk) trivial (of_decide_eq_true (by first | (with_reducible assumption) | assumption)) (Nat.le_trans (Nat.mul_le_mul_right _ (of_decide_eq_true (by first | (with_reducible assumption) | assumption) : (t500.length : Int).toNat ≤ 35184372088832)) (by omega)) (Below.refl _ _) (Nat.le_refl _) ?_; intro v504 w10 ho11 hb hg_ hnew_; clear hg_ hnew_; (first | rw [← Ny503.out] at ho11 | (simp only [Int.reduceToNat] at ho11; rw [← Ny503.out] at ho11)); have n0_ := am (Kd.S_elder' (so HO502.out) (Kd.R_base ho11) hb); have n1_ := am (Kd.R_lower ho11 (below_size bw)); have n2_ := am (blk_below (g := gb499) (o := .cells #[.slice A0_0 l0_0.length c0_0] 27 (0, 0)) (bo BK499.out) hb); have n3_ := am (below_step bw hb); clear HO502 BK499 HB; have HO502 := n0_; have HO505 := n1_; have BK499 := n2_; have HB := n3_; clear n0_ n1_ n2_ n3_; clear hb ho11)))
 go_loopg [23] k (fun kq v23 w' => ∃ (x6_1 : List Int) (x23_1 : Int), v23 = .int .i64 x23_1 ∧ Aside0 (impl_ClassesOf.l0 kq t500 x6_1 (t500.length : Int) x23_1 = some r) ∧ Aside0 (kq ≤ k) ∧ Aside0 (Kd.S (Kd.slice 3 (Kd.int .i64)) 22 w' w.heap.size (fun k_ => some k_ ≠ (v504 : Value).ownBlock) (.slice Ao9 t500.length co9) t500) ∧ Aside0 (Kd.R (Kd.int .i64) 3 w' w.heap.size (fun _ => True) v504 x6_1) ∧ Aside0 (w'.heap[gb499]? = some (.cells #[(.slice A0_0 l0_0.length c0_0)] 27 (0, 0))) ∧ Aside0 (Below w.heap.size w w'))
 case atStart => exact ⟨(y503), (0), rr, H', ⟨Nat.le_refl _⟩, ⟨by (with_reducible repeat (first | apply Kd.S_alloc | apply Kd.S_drewN | apply Kd.S_drew)); exact Kd.S_mono HO502.out (fun _ hk => hk.2)⟩, ⟨ro HO505.out⟩, ⟨bo BK499.out⟩, ⟨bw⟩⟩
 case round =>
  clear H'
  try clear c4; try clear c4b0; try clear c4b1; try clear c5; try clear c5b0; try clear c5b1; try clear hcz7_0; try clear hfz7_0
  obtain ⟨x6_1, x23_1, rfl, HA, HK1, HO_5, HO_6, BK499, HB⟩ := hrel
  cases gk with
  | zero => exact absurd HA.out (by simp [impl_ClassesOf.l0])
  | succ k1 =>
   have H := HA.out
   clear HA
   simp only [impl_ClassesOf.l0] at H
   replace H := gi H; obtain ⟨c12b0, H⟩ | ⟨c12b0, H⟩ := H
   ·replace H := gd H; obtain ⟨c13b0, H⟩ := H
    replace H := gd H; obtain ⟨c14b0, H⟩ := H
    obtain ⟨y506, hy506⟩ : ∃ y_ : List Int, y_ = (x6_1.set (x23_1 : Int).toNat x23_1) := ⟨_, rfl⟩
    replace H : (impl_ClassesOf.l0 k1 t500 y506 (t500.length : Int) (wrap64 (x23_1 + 1))) = some r := by first | (rw [hy506]; with_reducible first | exact H | exact bs H) | (with_reducible first | exact bs H | exact H) | (rw [hy506]; exact H) | exact H
    have Ny506 := am hy506
    clear hy506
    have H' := am H
    clear H
    have p15 : 0 ≤ (x23_1 : Int) := of_decide_eq_true (by first | (with_reducible assumption) | assumption)
    have q15 : (x23_1 : Int) < ((x6_1.length : Int) : Int) := of_decide_eq_true (by first | (with_reducible assumption) | assumption)
    obtain ⟨go15, co15, eo15, gb15, gl15, cl15, HG15⟩ := Kd.R_form HO_6.out (by omega)
    (first | cases eo15 | (injection eo15 with ea_ en_ ec_; (first | subst ea_ | (injection ea_ with ea_; subst ea_)); subst ec_; clear en_))
    have GB15 := am gb15
    have GG15 := am HG15
    clear gb15 gl15 HG15
    obtain ⟨hx15_0, hf15_0⟩ := Kd.R_celln 0 HO_6.out (x23_1 : Int) p15 q15
    replace p15 := eq_true p15
    replace q15 := eq_true q15
    have HP16 := Kd.R_putg HO_6.out (x23_1 : Int) x23_1
    go_wp2_with (first | ((with_reducible refine gate_store (t := 3) (p := 29) rfl ?_); (try (rw [drewN_self wr]; generalize hq_ : World.drewN wr _ = wr; have n0_ := am (Kd.S_at hq_ HO_5.out); have n1_ := am (Kd.R_at hq_ HO_6.out); have n2_ := am (blk_at hq_ BK499.out); have n3_ := am (below_at hq_ HB.out); clear hq_ HO_5 HO_6 BK499 HB; have HO_5 := n0_; have HO_6 := n1_; have BK499 := n2_; have HB := n3_; clear n0_ n1_ n2_ n3_; (try (have HP16 := Kd.R_putg HO_6.out (x23_1 : Int) x23_1)))); refine store_event (t := 3) (p := 29) (v := ?vo_w17) (w1 := (wr.setCell ⟨go15, (x23_1 : Int).toNat, none⟩ (.int .i64 x23_1))) ?hg ?ho ?hn ?hr ?_; (case ho => rfl); (case hg => rfl); (case hn => rfl); (case hr => first | (go_simp; done) | (go_simp; rfl)); intro w17 hw; have hg : wr.grownBy w17 (some go15) := (by rw [hw]; exact HP16.2); have hp_ : Kd.R (Kd.int .i64) 3 w17 w.heap.size (fun _ => True) (.slice (some ⟨go15, 0, none⟩) x6_1.length co15) y506 := (by rw [hw, Ny506.out]; exact HP16.1); clear HP16; replace HO_5 := am (Kd.S_after (v := (.slice (some ⟨go15, 0, none⟩) x6_1.length co15)) (v1 := (.slice (some ⟨go15, 0, none⟩) x6_1.length co15)) (ok := (fun _ => True)) (by (with_reducible repeat (first | apply Kd.S_alloc | apply Kd.S_drewN | apply Kd.S_drew)); exact Kd.S_mono HO_5.out (fun _ hk => ⟨trivial, by first | exact hk | exact (by intro a n m c x h; cases a <;> exact h : ∀ (a : Option Addr) (n m c x : Nat), some x ≠ (Value.slice a n c).ownBlock → some x ≠ (Value.slice a m c).ownBlock) _ _ _ _ _ hk⟩)) hg (.inl rfl)); replace BK499 := am (blk_grown (g := gb499) (o := .cells #[.slice A0_0 l0_0.length c0_0] 27 (0, 0)) (bo BK499.out) hg (Kd.R_ne HO_6.out BK499.out (by decide))); replace HO_6 := am (hp_); replace HB := am ((by rw [hw]; exact below_set (HB.out) GB15.out : Below w.heap.size w w17)); clear hg hw hp_))
    repeat (go_quiet (fail); try go_wp2_with (first | ((with_reducible refine gate_store (t := 3) (p := 29) rfl ?_); (try (rw [drewN_self wr]; generalize hq_ : World.drewN wr _ = wr; have n0_ := am (Kd.S_at hq_ HO_5.out); have n1_ := am (Kd.R_at hq_ HO_6.out); have n2_ := am (blk_at hq_ BK499.out); have n3_ := am (below_at hq_ HB.out); clear hq_ HO_5 HO_6 BK499 HB; have HO_5 := n0_; have HO_6 := n1_; have BK499 := n2_; have HB := n3_; clear n0_ n1_ n2_ n3_; (try (have HP16 := Kd.R_putg HO_6.out (x23_1 : Int) x23_1)))); refine store_event (t := 3) (p := 29) (v := ?vo_w17) (w1 := (wr.setCell ⟨go15, (x23_1 : Int).toNat, none⟩ (.int .i64 x23_1))) ?hg ?ho ?hn ?hr ?_; (case ho => rfl); (case hg => rfl); (case hn => rfl); (case hr => first | (go_simp; done) | (go_simp; rfl)); intro w17 hw; have hg : wr.grownBy w17 (some go15) := (by rw [hw]; exact HP16.2); have hp_ : Kd.R (Kd.int .i64) 3 w17 w.heap.size (fun _ => True) (.slice (some ⟨go15, 0, none⟩) x6_1.length co15) y506 := (by rw [hw, Ny506.out]; exact HP16.1); clear HP16; have n0_ := am (Kd.S_after (v := (.slice (some ⟨go15, 0, none⟩) x6_1.length co15)) (v1 := (.slice (some ⟨go15, 0, none⟩) x6_1.length co15)) (ok := (fun _ => True)) (by (with_reducible repeat (first | apply Kd.S_alloc | apply Kd.S_drewN | apply Kd.S_drew)); exact Kd.S_mono HO_5.out (fun _ hk => ⟨trivial, by first | exact hk | exact (by intro a n m c x h; cases a <;> exact h : ∀ (a : Option Addr) (n m c x : Nat), some x ≠ (Value.slice a n c).ownBlock → some x ≠ (Value.slice a m c).ownBlock) _ _ _ _ _ hk⟩)) hg (.inl rfl)); have n1_ := am (hp_); have n2_ := am (blk_grown (g := gb499) (o := .cells #[.slice A0_0 l0_0.length c0_0] 27 (0, 0)) (bo BK499.out) hg (Kd.R_ne HO_6.out BK499.out (by decide))); have n3_ := am ((by rw [hw]; exact below_set (HB.out) GB15.out : Below w.heap.size w w17)); clear HO_5 HO_6 BK499 HB; have HO_5 := n0_; have HO_6 := n1_; have BK499 := n2_; have HB := n3_; clear n0_ n1_ n2_ n3_; clear hg hw hp_)))
    go_roundg k1
    case measure => have := HK1.out; omega
    case rel => exact ⟨(y506), (wrap64 (x23_1 + 1)), rr, H', ⟨by have := HK1.out; omega⟩, ⟨by (with_reducible repeat (first | apply Kd.S_alloc | apply Kd.S_drewN | apply Kd.S_drew)); exact Kd.S_mono HO_5.out (fun _ hk => hk.2)⟩, ⟨ro HO_6.out⟩, ⟨bo BK499.out⟩, ⟨bw⟩⟩
   have H' := am H
   clear H
   go_wp2
   repeat (go_quiet (fail); try go_wp2)
   go_loopg [8] k1 (fun kq v8 w' => ∃ (x6_2 : List Int) (x8_2 : Bool), v8 = .bool x8_2 ∧ Aside0 (impl_ClassesOf.l1 kq t500 x6_2 x8_2 = some r) ∧ Aside0 (kq ≤ k1) ∧ Aside0 (Kd.S (Kd.slice 3 (Kd.int .i64)) 22 w' w.heap.size (fun k_ => some k_ ≠ (v504 : Value).ownBlock) (.slice Ao9 t500.length co9) t500) ∧ Aside0 (Kd.R (Kd.int .i64) 3 w' w.heap.size (fun _ => True) v504 x6_2) ∧ Aside0 (w'.heap[gb499]? = some (.cells #[(.slice A0_0 l0_0.length c0_0)] 27 (0, 0))) ∧ Aside0 (Below w.heap.size w w'))
   case atStart => exact ⟨(x6_1), (true), rr, H', ⟨Nat.le_refl _⟩, ⟨so HO_5.out⟩, ⟨ro HO_6.out⟩, ⟨bo BK499.out⟩, ⟨bw⟩⟩
   case round =>
    clear H'
    try clear c4; try clear c4b0; try clear c4b1; try clear c5; try clear c5b0; try clear c5b1; try clear c12b0; try clear c13b0; try clear c14b0; try clear p15; try clear q15; try clear hcz7_0; try clear hfz7_0; try clear hx15_0
    obtain ⟨x6_2, x8_2, rfl, HA, HK2, HO_5, HO_6, BK499, HB⟩ := hrel
    cases gk with
    | zero => exact absurd HA.out (by simp [impl_ClassesOf.l1])
    | succ k2 =>
     have H := HA.out
     clear HA
     simp only [impl_ClassesOf.l1] at H
     replace H := gb H; obtain ⟨rfl, H⟩ | ⟨rfl, H⟩ := H
     ·have H' := am H
      clear H
      go_wp2
      repeat (go_quiet (fail); try go_wp2)
      go_loopg [8, 34] k2 (fun kq v8 v34 w' => ∃ (x6_3 : List Int) (x8_3 : Bool) (x34_3 : Int), v8 = .bool x8_3 ∧ v34 = .int .i64 x34_3 ∧ Aside0 (impl_ClassesOf.l2 kq t500 x6_3 x8_3 (t500.length : Int) x34_3 = some r) ∧ Aside0 (kq ≤ k2) ∧ Aside0 (Kd.S (Kd.slice 3 (Kd.int .i64)) 22 w' w.heap.size (fun k_ => some k_ ≠ (v504 : Value).ownBlock) (.slice Ao9 t500.length co9) t500) ∧ Aside0 (Kd.R (Kd.int .i64) 3 w' w.heap.size (fun _ => True) v504 x6_3) ∧ Aside0 (w'.heap[gb499]? = some (.cells #[(.slice A0_0 l0_0.length c0_0)] 27 (0, 0))) ∧ Aside0 (Below w.heap.size w w'))
      case atStart => exact ⟨(x6_2), (false), (0), rr, rr, H', ⟨Nat.le_refl _⟩, ⟨so HO_5.out⟩, ⟨ro HO_6.out⟩, ⟨bo BK499.out⟩, ⟨bw⟩⟩
      case round =>
       clear H'
       try clear c4; try clear c4b0; try clear c4b1; try clear c5; try clear c5b0; try clear c5b1; try clear c12b0; try clear c13b0; try clear c14b0; try clear p15; try clear q15; try clear hcz7_0; try clear hfz7_0; try clear hx15_0
       obtain ⟨x6_3, x8_3, x34_3, rfl, rfl, HA, HK3, HO_5, HO_6, BK499, HB⟩ := hrel
       cases gk with
       | zero => exact absurd HA.out (by simp [impl_ClassesOf.l2])
       | succ k3 =>
        have H := HA.out
        clear HA
        simp only [impl_ClassesOf.l2] at H
        replace H := gi H; obtain ⟨c19b0, H⟩ | ⟨c19b0, H⟩ := H
        ·have H' := am H
         clear H
         go_wp2
         repeat (go_quiet (fail); try go_wp2)
         go_loopg [8, 39] k3 (fun kq v8 v39 w' => ∃ (x6_4 : List Int) (x8_4 : Bool) (x39_4 : Int), v8 = .bool x8_4 ∧ v39 = .int .i64 x39_4 ∧ Aside0 (impl_ClassesOf.l3 kq t500 x6_4 x8_4 x34_3 (t500.length : Int) x34_3 (t500.length : Int) x39_4 = some r) ∧ Aside0 (kq ≤ k3) ∧ Aside0 (Kd.S (Kd.slice 3 (Kd.int .i64)) 22 w' w.heap.size (fun k_ => some k_ ≠ (v504 : Value).ownBlock) (.slice Ao9 t500.length co9) t500) ∧ Aside0 (Kd.R (Kd.int .i64) 3 w' w.heap.size (fun _ => True) v504 x6_4) ∧ Aside0 (w'.heap[gb499]? = some (.cells #[(.slice A0_0 l0_0.length c0_0)] 27 (0, 0))) ∧ Aside0 (Below w.heap.size w w'))
         case atStart => exact ⟨(x6_3), (x8_3), (0), rr, rr, H', ⟨Nat.le_refl _⟩, ⟨so HO_5.out⟩, ⟨ro HO_6.out⟩, ⟨bo BK499.out⟩, ⟨bw⟩⟩
         case round =>
          clear H'
          try clear c4; try clear c4b0; try clear c4b1; try clear c5; try clear c5b0; try clear c5b1; try clear c12b0; try clear c13b0; try clear c14b0; try clear p15; try clear q15; try clear c19b0; try clear hcz7_0; try clear hfz7_0; try clear hx15_0
          obtain ⟨x6_4, x8_4, x39_4, rfl, rfl, HA, HK4, HO_5, HO_6, BK499, HB⟩ := hrel
          cases gk with
          | zero => exact absurd HA.out (by simp [impl_ClassesOf.l3])
          | succ k4 =>
           have H := HA.out
           clear HA
           simp only [impl_ClassesOf.l3] at H
           replace H := gi H; obtain ⟨c20b0, H⟩ | ⟨c20b0, H⟩ := H
           ·replace H := gd H; obtain ⟨c21b0, H⟩ := H
            replace H := gd H; obtain ⟨c22b0, H⟩ := H
            replace H := gd H; obtain ⟨c23b0, H⟩ := H
            replace H := gd H; obtain ⟨c24b0, H⟩ := H
            replace H := gi H; obtain ⟨c25b0, H⟩ | ⟨c25b0, H⟩ := H
            ·replace H := gd H; obtain ⟨c26b0, H⟩ := H
             replace H := gd H; obtain ⟨c27b0, H⟩ := H
             replace H := ga H; obtain ⟨t511, A28, H⟩ := H
             replace H := gb H; obtain ⟨rfl, H⟩ | ⟨rfl, H⟩ := H
             ·obtain ⟨y513, hy513⟩ : ∃ y_ : List Int, y_ = (x6_4.set (x39_4 : Int).toNat (rd x6_4 x34_3)) := ⟨_, rfl⟩
              replace H : (impl_ClassesOf.l3 k4 t500 y513 true x34_3 (t500.length : Int) x34_3 (t500.length : Int) (wrap64 (x39_4 + 1))) = some r := by first | (rw [hy513]; with_reducible first | exact H | exact bs H) | (with_reducible first | exact bs H | exact H) | (rw [hy513]; exact H) | exact H
              have Ny513 := am hy513
              clear hy513
              have H' := am H
              clear H
              obtain ⟨Ao31, co31, eo31⟩ := Kd.R_slice HO_6.out
              subst eo31
              obtain ⟨⟨ad507, e507, hx507_0⟩, p507, q507⟩ := pq (Kd.at_int (Kd.R_reads' HO_6.out).2.2 x34_3)
              cases e507
              obtain ⟨⟨ad508, e508, hx508_0⟩, p508, q508⟩ := pq (Kd.at_int (Kd.R_reads' HO_6.out).2.2 x39_4)
              obtain rfl : ad507 = ad508 := (by injection e508)
              have p509 : 0 ≤ (x34_3 : Int) := of_decide_eq_true (by first | (with_reducible assumption) | assumption)
              have q509 : x34_3 < (t500.length : Int) := of_decide_eq_true (by first | (with_reducible assumption) | assumption)
              obtain ⟨ad509, A509_0, c509_0, e509, hx509_0, hl509_0, hi509_0⟩ := at_L2 (Kd.S_reads' HO_5.out).2.2 x34_3 p509 q509
              cases e509
              obtain ⟨ce509, hce509, hMe509, hcc509⟩ := Kd.S_get HO_5.out [] x34_3 p509 (by first | exact q509 | exact of_decide_eq_true (by first | (with_reducible assumption) | assumption) | (have e_ := (Kd.S_reads' HO_5.out).1; omega))
              obtain ⟨ve509_0, rfl, ge509_0⟩ := hMe509
              have hv509_0 := hcc509 0 _ rfl
              rw [Nat.add_zero, show ((Kd.slice 3 (Kd.int .i64))).sz = 1 from rfl, Nat.mul_one] at hv509_0
              replace hv509_0 := Option.some.inj (hv509_0.symm.trans hx509_0)
              rw [hv509_0] at ge509_0
              have HL509_0 := am (show Kd.R (Kd.int .i64) 3 _ _ _ _ (rd_L2 t500 x34_3) from ge509_0)
              clear hv509_0 ge509_0
              clear hcc509 hce509
              have HR509_0 := am hi509_0
              have HC509_0 := am hl509_0
              clear hi509_0 hl509_0
              replace p509 := eq_true p509
              replace q509 := eq_true q509
              have p510 : 0 ≤ (x39_4 : Int) := of_decide_eq_true (by first | (with_reducible assumption) | assumption)
              have q510 : x39_4 < (t500.length : Int) := of_decide_eq_true (by first | (with_reducible assumption) | assumption)
              obtain ⟨ad510, A510_0, c510_0, e510, hx510_0, hl510_0, hi510_0⟩ := at_L2 (Kd.S_reads' HO_5.out).2.2 x39_4 p510 q510
              obtain rfl : ad509 = ad510 := (by injection e510)
              obtain ⟨ce510, hce510, hMe510, hcc510⟩ := Kd.S_get HO_5.out [] x39_4 p510 (by first | exact q510 | exact of_decide_eq_true (by first | (with_reducible assumption) | assumption) | (have e_ := (Kd.S_reads' HO_5.out).1; omega))
              obtain ⟨ve510_0, rfl, ge510_0⟩ := hMe510
              have hv510_0 := hcc510 0 _ rfl
              rw [Nat.add_zero, show ((Kd.slice 3 (Kd.int .i64))).sz = 1 from rfl, Nat.mul_one] at hv510_0
              replace hv510_0 := Option.some.inj (hv510_0.symm.trans hx510_0)
              rw [hv510_0] at ge510_0
              have HL510_0 := am (show Kd.R (Kd.int .i64) 3 _ _ _ _ (rd_L2 t500 x39_4) from ge510_0)
              clear hv510_0 ge510_0
              clear hcc510 hce510
              have HR510_0 := am hi510_0
              have HC510_0 := am hl510_0
              clear hi510_0 hl510_0
              replace p510 := eq_true p510
              replace q510 := eq_true q510
              go_wp2_with (first | (go_at_call 83; (with_reducible refine (impl_linked.calls k4 _ _ (rd_L2 t500 x34_3) _ _ (rd_L2 t500 x39_4) true _ ?side1 ?side2 ?side3 ?side4 A28.out).mono ?_); (case side1 => exact co HR509_0.out); (case side2 => exact HC509_0.out); (case side3 => exact co HR510_0.out); (case side4 => exact HC510_0.out); rintro e w' ⟨rfl, ⟨nd, rfl⟩⟩; (try first | exact ⟨rfl, _, World.drewN_drewN _ _ _⟩ | exact ⟨rfl, _, Eq.trans (World.drewN_drewN _ _ _) (congrArg (World.drewN _) (Nat.add_assoc _ _ _))⟩); have p512 : 0 ≤ (x34_3 : Int) := of_decide_eq_true (by first | (with_reducible assumption) | assumption); have q512 : x34_3 < (x6_4.length : Int) := of_decide_eq_true (by first | (with_reducible assumption) | assumption); obtain ⟨ad512, e512, hx512_0⟩ := Kd.at_int (Kd.R_reads' HO_6.out).2.2 x34_3 p512 q512; obtain rfl : ad507 = ad512 := (by injection e512); replace p512 := eq_true p512; replace q512 := eq_true q512; have p30 : 0 ≤ (x39_4 : Int) := of_decide_eq_true (by first | (with_reducible assumption) | assumption); have q30 : (x39_4 : Int) < ((x6_4.length : Int) : Int) := of_decide_eq_true (by first | (with_reducible assumption) | assumption); obtain ⟨go30, co30, eo30, gb30, gl30, cl30, HG30⟩ := Kd.R_form HO_6.out (by omega); (first | cases eo30 | (injection eo30 with ea_ en_ ec_; (first | subst ea_ | (injection ea_ with ea_; subst ea_)); subst ec_; clear en_)); have GB30 := am gb30; have GG30 := am HG30; clear gb30 gl30 HG30; (first | simp only [add_plain] at hx507_0 | skip); (first | simp only [add_plain] at hx508_0 | skip); (first | simp only [add_plain] at hx512_0 | skip); obtain ⟨hx30_0, hf30_0⟩ := Kd.R_celln 0 HO_6.out (x39_4 : Int) p30 q30; replace p30 := eq_true p30; replace q30 := eq_true q30; obtain ⟨hy32_, hz32_⟩ := Kd.R_celln 0 HO_6.out (x39_4 : Int) (of_decide_eq_true (by first | (with_reducible assumption) | assumption)) (of_decide_eq_true (by first | (with_reducible assumption) | assumption)); have HP32 := Kd.R_putg HO_6.out (x39_4 : Int) (rd x6_4 x34_3)) | ((with_reducible refine gate_store (t := 3) (p := 68) rfl ?_); (try (rw [drewN_self wr]; generalize hq_ : World.drewN wr _ = wr; have n0_ := am (Kd.S_at hq_ HO_5.out); have n1_ := am (Kd.R_at hq_ HO_6.out); have n2_ := am (Kd.R_at hq_ HL509_0.out); have n3_ := am (Kd.R_at hq_ HL510_0.out); have n4_ := am (blk_at hq_ BK499.out); have n5_ := am (below_at hq_ HB.out); clear hq_ HO_5 HO_6 HL509_0 HL510_0 BK499 HB; have HO_5 := n0_; have HO_6 := n1_; have HL509_0 := n2_; have HL510_0 := n3_; have BK499 := n4_; have HB := n5_; clear n0_ n1_ n2_ n3_ n4_ n5_; (try (obtain ⟨hy32_, hz32_⟩ := Kd.R_celln 0 HO_6.out (x39_4 : Int) (of_decide_eq_true (by first | (with_reducible assumption) | assumption)) (of_decide_eq_true (by first | (with_reducible assumption) | assumption)))); (try (have HP32 := Kd.R_putg HO_6.out (x39_4 : Int) (rd x6_4 x34_3))))); refine store_event (t := 3) (p := 68) (v := ?vo_w33) (w1 := (wr.setCell ⟨go30, (x39_4 : Int).toNat, none⟩ (.int .i64 (rd x6_4 x34_3)))) ?hg ?ho ?hn ?hr ?_; (case ho => rfl); (case hg => rfl); (case hn => rfl); (case hr => first | (go_simp; done) | (go_simp; rfl)); intro w33 hw; have hg : wr.grownBy w33 (some go30) := (by rw [hw]; exact HP32.2); have hp_ : Kd.R (Kd.int .i64) 3 w33 w.heap.size (fun _ => True) (.slice (some ⟨go30, 0, none⟩) x6_4.length co31) y513 := (by rw [hw, Ny513.out]; exact HP32.1); clear HP32; replace HO_5 := am (Kd.S_after (v := (.slice (some ⟨go30, 0, none⟩) x6_4.length co31)) (v1 := (.slice (some ⟨go30, 0, none⟩) x6_4.length co31)) (ok := (fun _ => True)) (by (with_reducible repeat (first | apply Kd.S_alloc | apply Kd.S_drewN | apply Kd.S_drew)); exact Kd.S_mono HO_5.out (fun _ hk => ⟨trivial, by first | exact hk | exact (by intro a n m c x h; cases a <;> exact h : ∀ (a : Option Addr) (n m c x : Nat), some x ≠ (Value.slice a n c).ownBlock → some x ≠ (Value.slice a m c).ownBlock) _ _ _ _ _ hk⟩)) hg (.inl rfl)); replace BK499 := am (blk_grown (g := gb499) (o := .cells #[.slice A0_0 l0_0.length c0_0] 27 (0, 0)) (bo BK499.out) hg (Kd.R_ne HO_6.out BK499.out (by decide))); replace HO_6 := am (hp_); replace HL509_0 := am (Kd.R_after (v := (.slice (some ⟨go30, 0, none⟩) x6_4.length co31)) (v1 := (.slice (some ⟨go30, 0, none⟩) x6_4.length co31)) (ok := (fun k_ => some k_ ≠ (.slice (some ad509) t500.length co9 : Value).ownBlock)) (by (with_reducible repeat (first | apply Kd.R_alloc | apply Kd.R_drewN | apply Kd.R_drew)); exact Kd.R_mono HL509_0.out (fun _ hk => by first | exact ⟨hk.2, hk.1⟩ | simp_all)) hg (.inl rfl)); replace HL510_0 := am (Kd.R_after (v := (.slice (some ⟨go30, 0, none⟩) x6_4.length co31)) (v1 := (.slice (some ⟨go30, 0, none⟩) x6_4.length co31)) (ok := (fun k_ => some k_ ≠ (.slice (some ad509) t500.length co9 : Value).ownBlock)) (by (with_reducible repeat (first | apply Kd.R_alloc | apply Kd.R_drewN | apply Kd.R_drew)); exact Kd.R_mono HL510_0.out (fun _ hk => by first | exact ⟨hk.2, hk.1⟩ | simp_all)) hg (.inl rfl)); replace HB := am ((by rw [hw]; exact below_set (HB.out) GB30.out : Below w.heap.size w w33)); clear hg hw hp_))
              repeat (go_quiet (first | (go_at_call 83; (with_reducible refine (impl_linked.calls k4 _ _ (rd_L2 t500 x34_3) _ _ (rd_L2 t500 x39_4) true _ ?side1 ?side2 ?side3 ?side4 A28.out).mono ?_); (case side1 => exact co HR509_0.out); (case side2 => exact HC509_0.out); (case side3 => exact co HR510_0.out); (case side4 => exact HC510_0.out); rintro e w' ⟨rfl, ⟨nd, rfl⟩⟩; (try first | exact ⟨rfl, _, World.drewN_drewN _ _ _⟩ | exact ⟨rfl, _, Eq.trans (World.drewN_drewN _ _ _) (congrArg (World.drewN _) (Nat.add_assoc _ _ _))⟩); have p512 : 0 ≤ (x34_3 : Int) := of_decide_eq_true (by first | (with_reducible assumption) | assumption); have q512 : x34_3 < (x6_4.length : Int) := of_decide_eq_true (by first | (with_reducible assumption) | assumption); obtain ⟨ad512, e512, hx512_0⟩ := Kd.at_int (Kd.R_reads' HO_6.out).2.2 x34_3 p512 q512; obtain rfl : ad507 = ad512 := (by injection e512); replace p512 := eq_true p512; replace q512 := eq_true q512; have p30 : 0 ≤ (x39_4 : Int) := of_decide_eq_true (by first | (with_reducible assumption) | assumption); have q30 : (x39_4 : Int) < ((x6_4.length : Int) : Int) := of_decide_eq_true (by first | (with_reducible assumption) | assumption); obtain ⟨go30, co30, eo30, gb30, gl30, cl30, HG30⟩ := Kd.R_form HO_6.out (by omega); (first | cases eo30 | (injection eo30 with ea_ en_ ec_; (first | subst ea_ | (injection ea_ with ea_; subst ea_)); subst ec_; clear en_)); have GB30 := am gb30; have GG30 := am HG30; clear gb30 gl30 HG30; (first | simp only [add_plain] at hx507_0 | skip); (first | simp only [add_plain] at hx508_0 | skip); (first | simp only [add_plain] at hx512_0 | skip); obtain ⟨hx30_0, hf30_0⟩ := Kd.R_celln 0 HO_6.out (x39_4 : Int) p30 q30; replace p30 := eq_true p30; replace q30 := eq_true q30; obtain ⟨hy32_, hz32_⟩ := Kd.R_celln 0 HO_6.out (x39_4 : Int) (of_decide_eq_true (by first | (with_reducible assumption) | assumption)) (of_decide_eq_true (by first | (with_reducible assumption) | assumption)); have HP32 := Kd.R_putg HO_6.out (x39_4 : Int) (rd x6_4 x34_3))); try go_wp2_with (first | (go_at_call 83; (with_reducible refine (impl_linked.calls k4 _ _ (rd_L2 t500 x34_3) _ _ (rd_L2 t500 x39_4) true _ ?side1 ?side2 ?side3 ?side4 A28.out).mono ?_); (case side1 => exact co HR509_0.out); (case side2 => exact HC509_0.out); (case side3 => exact co HR510_0.out); (case side4 => exact HC510_0.out); rintro e w' ⟨rfl, ⟨nd, rfl⟩⟩; (try first | exact ⟨rfl, _, World.drewN_drewN _ _ _⟩ | exact ⟨rfl, _, Eq.trans (World.drewN_drewN _ _ _) (congrArg (World.drewN _) (Nat.add_assoc _ _ _))⟩); have p512 : 0 ≤ (x34_3 : Int) := of_decide_eq_true (by first | (with_reducible assumption) | assumption); have q512 : x34_3 < (x6_4.length : Int) := of_decide_eq_true (by first | (with_reducible assumption) | assumption); obtain ⟨ad512, e512, hx512_0⟩ := Kd.at_int (Kd.R_reads' HO_6.out).2.2 x34_3 p512 q512; obtain rfl : ad507 = ad512 := (by injection e512); replace p512 := eq_true p512; replace q512 := eq_true q512; have p30 : 0 ≤ (x39_4 : Int) := of_decide_eq_true (by first | (with_reducible assumption) | assumption); have q30 : (x39_4 : Int) < ((x6_4.length : Int) : Int) := of_decide_eq_true (by first | (with_reducible assumption) | assumption); obtain ⟨go30, co30, eo30, gb30, gl30, cl30, HG30⟩ := Kd.R_form HO_6.out (by omega); (first | cases eo30 | (injection eo30 with ea_ en_ ec_; (first | subst ea_ | (injection ea_ with ea_; subst ea_)); subst ec_; clear en_)); have GB30 := am gb30; have GG30 := am HG30; clear gb30 gl30 HG30; (first | simp only [add_plain] at hx507_0 | skip); (first | simp only [add_plain] at hx508_0 | skip); (first | simp only [add_plain] at hx512_0 | skip); obtain ⟨hx30_0, hf30_0⟩ := Kd.R_celln 0 HO_6.out (x39_4 : Int) p30 q30; replace p30 := eq_true p30; replace q30 := eq_true q30; obtain ⟨hy32_, hz32_⟩ := Kd.R_celln 0 HO_6.out (x39_4 : Int) (of_decide_eq_true (by first | (with_reducible assumption) | assumption)) (of_decide_eq_true (by first | (with_reducible assumption) | assumption)); have HP32 := Kd.R_putg HO_6.out (x39_4 : Int) (rd x6_4 x34_3)) | ((with_reducible refine gate_store (t := 3) (p := 68) rfl ?_); (try (rw [drewN_self wr]; generalize hq_ : World.drewN wr _ = wr; have n0_ := am (Kd.S_at hq_ HO_5.out); have n1_ := am (Kd.R_at hq_ HO_6.out); have n2_ := am (Kd.R_at hq_ HL509_0.out); have n3_ := am (Kd.R_at hq_ HL510_0.out); have n4_ := am (blk_at hq_ BK499.out); have n5_ := am (below_at hq_ HB.out); clear hq_ HO_5 HO_6 HL509_0 HL510_0 BK499 HB; have HO_5 := n0_; have HO_6 := n1_; have HL509_0 := n2_; have HL510_0 := n3_; have BK499 := n4_; have HB := n5_; clear n0_ n1_ n2_ n3_ n4_ n5_; (try (obtain ⟨hy32_, hz32_⟩ := Kd.R_celln 0 HO_6.out (x39_4 : Int) (of_decide_eq_true (by first | (with_reducible assumption) | assumption)) (of_decide_eq_true (by first | (with_reducible assumption) | assumption)))); (try (have HP32 := Kd.R_putg HO_6.out (x39_4 : Int) (rd x6_4 x34_3))))); refine store_event (t := 3) (p := 68) (v := ?vo_w33) (w1 := (wr.setCell ⟨go30, (x39_4 : Int).toNat, none⟩ (.int .i64 (rd x6_4 x34_3)))) ?hg ?ho ?hn ?hr ?_; (case ho => rfl); (case hg => rfl); (case hn => rfl); (case hr => first | (go_simp; done) | (go_simp; rfl)); intro w33 hw; have hg : wr.grownBy w33 (some go30) := (by rw [hw]; exact HP32.2); have hp_ : Kd.R (Kd.int .i64) 3 w33 w.heap.size (fun _ => True) (.slice (some ⟨go30, 0, none⟩) x6_4.length co31) y513 := (by rw [hw, Ny513.out]; exact HP32.1); clear HP32; have n0_ := am (Kd.S_after (v := (.slice (some ⟨go30, 0, none⟩) x6_4.length co31)) (v1 := (.slice (some ⟨go30, 0, none⟩) x6_4.length co31)) (ok := (fun _ => True)) (by (with_reducible repeat (first | apply Kd.S_alloc | apply Kd.S_drewN | apply Kd.S_drew)); exact Kd.S_mono HO_5.out (fun _ hk => ⟨trivial, by first | exact hk | exact (by intro a n m c x h; cases a <;> exact h : ∀ (a : Option Addr) (n m c x : Nat), some x ≠ (Value.slice a n c).ownBlock → some x ≠ (Value.slice a m c).ownBlock) _ _ _ _ _ hk⟩)) hg (.inl rfl)); have n1_ := am (hp_); have n2_ := am (blk_grown (g := gb499) (o := .cells #[.slice A0_0 l0_0.length c0_0] 27 (0, 0)) (bo BK499.out) hg (Kd.R_ne HO_6.out BK499.out (by decide))); have n3_ := am (Kd.R_after (v := (.slice (some ⟨go30, 0, none⟩) x6_4.length co31)) (v1 := (.slice (some ⟨go30, 0, none⟩) x6_4.length co31)) (ok := (fun k_ => some k_ ≠ (.slice (some ad509) t500.length co9 : Value).ownBlock)) (by (with_reducible repeat (first | apply Kd.R_alloc | apply Kd.R_drewN | apply Kd.R_drew)); exact Kd.R_mono HL509_0.out (fun _ hk => by first | exact ⟨hk.2, hk.1⟩ | simp_all)) hg (.inl rfl)); have n4_ := am (Kd.R_after (v := (.slice (some ⟨go30, 0, none⟩) x6_4.length co31)) (v1 := (.slice (some ⟨go30, 0, none⟩) x6_4.length co31)) (ok := (fun k_ => some k_ ≠ (.slice (some ad509) t500.length co9 : Value).ownBlock)) (by (with_reducible repeat (first | apply Kd.R_alloc | apply Kd.R_drewN | apply Kd.R_drew)); exact Kd.R_mono HL510_0.out (fun _ hk => by first | exact ⟨hk.2, hk.1⟩ | simp_all)) hg (.inl rfl)); have n5_ := am ((by rw [hw]; exact below_set (HB.out) GB30.out : Below w.heap.size w w33)); clear HO_5 HO_6 BK499 HL509_0 HL510_0 HB; have HO_5 := n0_; have HO_6 := n1_; have BK499 := n2_; have HL509_0 := n3_; have HL510_0 := n4_; have HB := n5_; clear n0_ n1_ n2_ n3_ n4_ n5_; clear hg hw hp_)))
              go_roundg k4
              case measure => have := HK1.out; have := HK2.out; have := HK3.out; have := HK4.out; omega
              case rel => exact ⟨(y513), (true), (wrap64 (x39_4 + 1)), rr, rr, H', ⟨by have := HK1.out; have := HK2.out; have := HK3.out; have := HK4.out; omega⟩, ⟨by (with_reducible repeat (first | apply Kd.S_alloc | apply Kd.S_drewN | apply Kd.S_drew)); exact Kd.S_mono HO_5.out (fun _ hk => hk.2)⟩, ⟨ro HO_6.out⟩, ⟨bo BK499.out⟩, ⟨bw⟩⟩
             have H' := am H
             clear H
             obtain ⟨Ao34, co34, eo34⟩ := Kd.R_slice HO_6.out
             subst eo34
             obtain ⟨⟨ad507, e507, hx507_0⟩, p507, q507⟩ := pq (Kd.at_int (Kd.R_reads' HO_6.out).2.2 x34_3)
             cases e507
             obtain ⟨⟨ad508, e508, hx508_0⟩, p508, q508⟩ := pq (Kd.at_int (Kd.R_reads' HO_6.out).2.2 x39_4)
             obtain rfl : ad507 = ad508 := (by injection e508)
             have p509 : 0 ≤ (x34_3 : Int) := of_decide_eq_true (by first | (with_reducible assumption) | assumption)
             have q509 : x34_3 < (t500.length : Int) := of_decide_eq_true (by first | (with_reducible assumption) | assumption)
             obtain ⟨ad509, A509_0, c509_0, e509, hx509_0, hl509_0, hi509_0⟩ := at_L2 (Kd.S_reads' HO_5.out).2.2 x34_3 p509 q509
             cases e509
             obtain ⟨ce509, hce509, hMe509, hcc509⟩ := Kd.S_get HO_5.out [] x34_3 p509 (by first | exact q509 | exact of_decide_eq_true (by first | (with_reducible assumption) | assumption) | (have e_ := (Kd.S_reads' HO_5.out).1; omega))
             obtain ⟨ve509_0, rfl, ge509_0⟩ := hMe509
             have hv509_0 := hcc509 0 _ rfl
             rw [Nat.add_zero, show ((Kd.slice 3 (Kd.int .i64))).sz = 1 from rfl, Nat.mul_one] at hv509_0
             replace hv509_0 := Option.some.inj (hv509_0.symm.trans hx509_0)
             rw [hv509_0] at ge509_0
             have HL509_0 := am (show Kd.R (Kd.int .i64) 3 _ _ _ _ (rd_L2 t500 x34_3) from ge509_0)
             clear hv509_0 ge509_0
             clear hcc509 hce509
             have HR509_0 := am hi509_0
             have HC509_0 := am hl509_0
             clear hi509_0 hl509_0
             replace p509 := eq_true p509
             replace q509 := eq_true q509
             have p510 : 0 ≤ (x39_4 : Int) := of_decide_eq_true (by first | (with_reducible assumption) | assumption)
             have q510 : x39_4 < (t500.length : Int) := of_decide_eq_true (by first | (with_reducible assumption) | assumption)
             obtain ⟨ad510, A510_0, c510_0, e510, hx510_0, hl510_0, hi510_0⟩ := at_L2 (Kd.S_reads' HO_5.out).2.2 x39_4 p510 q510
             obtain rfl : ad509 = ad510 := (by injection e510)
             obtain ⟨ce510, hce510, hMe510, hcc510⟩ := Kd.S_get HO_5.out [] x39_4 p510 (by first | exact q510 | exact of_decide_eq_true (by first | (with_reducible assumption) | assumption) | (have e_ := (Kd.S_reads' HO_5.out).1; omega))
             obtain ⟨ve510_0, rfl, ge510_0⟩ := hMe510
             have hv510_0 := hcc510 0 _ rfl
             rw [Nat.add_zero, show ((Kd.slice 3 (Kd.int .i64))).sz = 1 from rfl, Nat.mul_one] at hv510_0
             replace hv510_0 := Option.some.inj (hv510_0.symm.trans hx510_0)
             rw [hv510_0] at ge510_0
             have HL510_0 := am (show Kd.R (Kd.int .i64) 3 _ _ _ _ (rd_L2 t500 x39_4) from ge510_0)
             clear hv510_0 ge510_0
             clear hcc510 hce510
             have HR510_0 := am hi510_0
             have HC510_0 := am hl510_0
             clear hi510_0 hl510_0
             replace p510 := eq_true p510
             replace q510 := eq_true q510
             go_wp2_with (first | (go_at_call 83; (with_reducible refine (impl_linked.calls k4 _ _ (rd_L2 t500 x34_3) _ _ (rd_L2 t500 x39_4) false _ ?side1 ?side2 ?side3 ?side4 A28.out).mono ?_); (case side1 => exact co HR509_0.out); (case side2 => exact HC509_0.out); (case side3 => exact co HR510_0.out); (case side4 => exact HC510_0.out); rintro e w' ⟨rfl, ⟨nd, rfl⟩⟩; (try first | exact ⟨rfl, _, World.drewN_drewN _ _ _⟩ | exact ⟨rfl, _, Eq.trans (World.drewN_drewN _ _ _) (congrArg (World.drewN _) (Nat.add_assoc _ _ _))⟩)))
             repeat (go_quiet (first | (go_at_call 83; (with_reducible refine (impl_linked.calls k4 _ _ (rd_L2 t500 x34_3) _ _ (rd_L2 t500 x39_4) false _ ?side1 ?side2 ?side3 ?side4 A28.out).mono ?_); (case side1 => exact co HR509_0.out); (case side2 => exact HC509_0.out); (case side3 => exact co HR510_0.out); (case side4 => exact HC510_0.out); rintro e w' ⟨rfl, ⟨nd, rfl⟩⟩; (try first | exact ⟨rfl, _, World.drewN_drewN _ _ _⟩ | exact ⟨rfl, _, Eq.trans (World.drewN_drewN _ _ _) (congrArg (World.drewN _) (Nat.add_assoc _ _ _))⟩))); try go_wp2_with (first | (go_at_call 83; (with_reducible refine (impl_linked.calls k4 _ _ (rd_L2 t500 x34_3) _ _ (rd_L2 t500 x39_4) false _ ?side1 ?side2 ?side3 ?side4 A28.out).mono ?_); (case side1 => exact co HR509_0.out); (case side2 => exact HC509_0.out); (case side3 => exact co HR510_0.out); (case side4 => exact HC510_0.out); rintro e w' ⟨rfl, ⟨nd, rfl⟩⟩; (try first | exact ⟨rfl, _, World.drewN_drewN _ _ _⟩ | exact ⟨rfl, _, Eq.trans (World.drewN_drewN _ _ _) (congrArg (World.drewN _) (Nat.add_assoc _ _ _))⟩))))
             go_roundg k4
             case measure => have := HK1.out; have := HK2.out; have := HK3.out; have := HK4.out; omega
             case rel => exact ⟨(x6_4), (x8_4), (wrap64 (x39_4 + 1)), rr, rr, H', ⟨by have := HK1.out; have := HK2.out; have := HK3.out; have := HK4.out; omega⟩, ⟨so HO_5.out⟩, ⟨ro HO_6.out⟩, ⟨bo BK499.out⟩, ⟨bw⟩⟩
            have H' := am H
            clear H
            obtain ⟨Ao35, co35, eo35⟩ := Kd.R_slice HO_6.out
            subst eo35
            obtain ⟨⟨ad507, e507, hx507_0⟩, p507, q507⟩ := pq (Kd.at_int (Kd.R_reads' HO_6.out).2.2 x34_3)
            cases e507
            obtain ⟨⟨ad508, e508, hx508_0⟩, p508, q508⟩ := pq (Kd.at_int (Kd.R_reads' HO_6.out).2.2 x39_4)
            obtain rfl : ad507 = ad508 := (by injection e508)
            go_wp2
            repeat (go_quiet (fail); try go_wp2)
            go_roundg k4
            case measure => have := HK1.out; have := HK2.out; have := HK3.out; have := HK4.out; omega
            case rel => exact ⟨(x6_4), (x8_4), (wrap64 (x39_4 + 1)), rr, rr, H', ⟨by have := HK1.out; have := HK2.out; have := HK3.out; have := HK4.out; omega⟩, ⟨so HO_5.out⟩, ⟨ro HO_6.out⟩, ⟨bo BK499.out⟩, ⟨bw⟩⟩
           have H' := am H
           clear H
           go_wp2
           repeat (go_quiet (fail); try go_wp2)
           go_roundg k4
           case measure => have := HK1.out; have := HK2.out; have := HK3.out; have := HK4.out; omega
           case rel => exact ⟨(x6_4), (x8_4), (wrap64 (x34_3 + 1)), rr, rr, H', ⟨by have := HK1.out; have := HK2.out; have := HK3.out; have := HK4.out; omega⟩, ⟨so HO_5.out⟩, ⟨ro HO_6.out⟩, ⟨bo BK499.out⟩, ⟨bw⟩⟩
        have H' := am H
        clear H
        go_wp2
        repeat (go_quiet (fail); try go_wp2)
        go_roundg k3
        case measure => have := HK1.out; have := HK2.out; have := HK3.out; omega
        case rel => exact ⟨(x6_3), (x8_3), rr, H', ⟨by have := HK1.out; have := HK2.out; have := HK3.out; omega⟩, ⟨so HO_5.out⟩, ⟨ro HO_6.out⟩, ⟨bo BK499.out⟩, ⟨bw⟩⟩
     by_cases cn_ : Ao9.isNone = true
     ·have el_ : t500 = [] := by
       refine Classical.byContradiction fun h0_ => ?_
       obtain ⟨ad_, _, e_, _⟩ := Kd.C_get (Kd.S_reads' HO_5.out).2.2 [] 0 (by omega) (by have := List.length_pos_iff.2 h0_; omega)
       rw [e_] at cn_; cases cn_
      have er_ : r = [] := by
       cases k2 with
       | zero => exact absurd H (by simp [impl_ClassesOf.l4])
       | succ k_ => rw [impl_ClassesOf.l4, el_] at H; rw [if_neg (by decide)] at H; exact (Option.some.inj H).symm
      clear H
      subst er_
      go_wp2
      repeat (go_quiet (fail); try go_wp2)
      go_ret
      exact ⟨_, re, by first | exact Kd.R_nil _ _ _ _ _ | exact Kd.N_nil _ _ _ _ _ | exact Kd.V_nil _ _ _ _ _ | exact Kd.Q_nil _ _ _ _ _ | exact Kd.S_nil _ _ _ _ _, bw⟩
     have cn2_ : Ao9.isNone = false := Bool.eq_false_iff.2 cn_
     obtain ⟨y514, hy514⟩ : ∃ y_ : List (List (List Int)), y_ = (([] : List (List (List Int)))) := ⟨_, rfl⟩
     replace H : (impl_ClassesOf.l4 k2 t500 x6_2 y514 (t500.length : Int) 0) = some r := by first | (rw [hy514]; with_reducible first | exact H | exact bs H) | (with_reducible first | exact bs H | exact H) | (rw [hy514]; exact H) | exact H
     have Ny514 := am hy514
     clear hy514
     have H' := am H
     clear H
     go_wp2_with (first | ((with_reducible refine gate_dst (N := 73) rfl ?_); refine Kd.R_lit (Kd.slice 22 (Kd.slice 3 (Kd.int .i64))) _ 49 ?hg (N := 73) ?hd (xs := ([] : List (List (List Int)))) (inner := []) (ok := fun _ => True) (okp := fun _ => True) ?hr ?hp (fun _ hk => hk) trivial (Below.refl _ _) (Nat.le_refl _) (by simp) ?_; (case hd => rfl); (case hg => rfl); (case hr => first | (go_simp; done) | (go_simp; rfl)); (case hp => exact (Reps.none _ _)); intro v515 w37 ho38 hb hg_ hnew_; clear hg_ hnew_; (first | rw [← Ny514.out] at ho38 | (simp only [Int.reduceToNat] at ho38; rw [← Ny514.out] at ho38)); have HO516 := am (Kd.R_lower (Kd.R_new' (Kd.R_new' ho38 (Kd.S_lt (so HO_5.out))) (Kd.R_lt (ro HO_6.out))) (below_size bw)); replace HO_5 := sK HO_5 hb; replace HO_6 := rK HO_6 hb; replace BK499 := kb BK499 hb; replace HB := am (below_step bw hb); clear hb ho38))
     repeat (go_quiet (fail); try go_wp2_with (first | ((with_reducible refine gate_dst (N := 73) rfl ?_); refine Kd.R_lit (Kd.slice 22 (Kd.slice 3 (Kd.int .i64))) _ 49 ?hg (N := 73) ?hd (xs := ([] : List (List (List Int)))) (inner := []) (ok := fun _ => True) (okp := fun _ => True) ?hr ?hp (fun _ hk => hk) trivial (Below.refl _ _) (Nat.le_refl _) (by simp) ?_; (case hd => rfl); (case hg => rfl); (case hr => first | (go_simp; done) | (go_simp; rfl)); (case hp => exact (Reps.none _ _)); intro v515 w37 ho38 hb hg_ hnew_; clear hg_ hnew_; (first | rw [← Ny514.out] at ho38 | (simp only [Int.reduceToNat] at ho38; rw [← Ny514.out] at ho38)); have n0_ := am (Kd.S_below (so HO_5.out) hb); have n1_ := am (Kd.R_below (ro HO_6.out) hb); have n2_ := am (Kd.R_lower (Kd.R_new' (Kd.R_new' ho38 (Kd.S_lt (so HO_5.out))) (Kd.R_lt (ro HO_6.out))) (below_size bw)); have n3_ := am (blk_below (g := gb499) (o := .cells #[.slice A0_0 l0_0.length c0_0] 27 (0, 0)) (bo BK499.out) hb); have n4_ := am (below_step bw hb); clear HO_5 HO_6 BK499 HB; have HO_5 := n0_; have HO_6 := n1_; have HO516 := n2_; have BK499 := n3_; have HB := n4_; clear n0_ n1_ n2_ n3_ n4_; clear hb ho38)))
     go_loopg [11, 76] k2 (fun kq v11 v76 w' => ∃ (x11_3 : List (List (List Int))) (x76_3 : Int), v76 = .int .i64 x76_3 ∧ Aside0 (impl_ClassesOf.l4 kq t500 x6_2 x11_3 (t500.length : Int) x76_3 = some r) ∧ Aside0 (kq ≤ k2) ∧ Aside0 (Kd.S (Kd.slice 3 (Kd.int .i64)) 22 w' w.heap.size (fun k_ => some k_ ≠ (v504 : Value).ownBlock) (.slice Ao9 t500.length co9) t500) ∧ Aside0 (Kd.R (Kd.int .i64) 3 w' w.heap.size (fun _ => True) v504 x6_2) ∧ Aside0 (Kd.R (Kd.slice 22 (Kd.slice 3 (Kd.int .i64))) 49 w' w.heap.size (fun k_ => nb k_ Ao9 t500 co9 ∧ some k_ ≠ (v504 : Value).ownBlock) v11 x11_3) ∧ Aside0 (w'.heap[gb499]? = some (.cells #[(.slice A0_0 l0_0.length c0_0)] 27 (0, 0))) ∧ Aside0 (Below w.heap.size w w'))
     case atStart => exact ⟨(y514), (0), rr, H', ⟨Nat.le_refl _⟩, ⟨so HO_5.out⟩, ⟨ro HO_6.out⟩, ⟨by (with_reducible repeat (first | apply Kd.R_alloc | apply Kd.R_drewN | apply Kd.R_drew)); exact Kd.R_mono HO516.out (fun _ hk => by first | exact ⟨hk.1.2, hk.2⟩ | simp_all)⟩, ⟨bo BK499.out⟩, ⟨bw⟩⟩
     case round =>
      clear H'
      try clear c4; try clear c4b0; try clear c4b1; try clear c5; try clear c5b0; try clear c5b1; try clear c12b0; try clear c13b0; try clear c14b0; try clear p15; try clear q15; try clear c19b0; try clear c20b0; try clear c21b0; try clear c22b0; try clear c23b0; try clear c24b0; try clear c25b0; try clear c26b0; try clear c27b0; try clear p30; try clear q30; try clear c36; try clear c36b0; try clear c36b1; try clear c36b2; try clear hcz7_0; try clear hfz7_0; try clear hx15_0; try clear hx30_0; try clear hx507_0; try clear hx508_0; try clear hx509_0; try clear hx510_0; try clear hx512_0; try clear p507; try clear p508; try clear p509; try clear p510; try clear p512; try clear q507; try clear q508; try clear q509; try clear q510; try clear q512
      obtain ⟨x11_3, x76_3, rfl, HA, HK3, HO_5, HO_6, HO_11, BK499, HB⟩ := hrel
      cases gk with
      | zero => exact absurd HA.out (by simp [impl_ClassesOf.l4])
      | succ k3 =>
       have H := HA.out
       clear HA
       simp only [impl_ClassesOf.l4] at H
       replace H := gi H; obtain ⟨c39b0, H⟩ | ⟨c39b0, H⟩ := H
       ·replace H := gd H; obtain ⟨c40b0, H⟩ := H
        replace H := gd H; obtain ⟨c41b0, H⟩ := H
        by_cases c42 : (rd x6_2 x76_3) = x76_3
        ·rw [if_pos c42] at H
         have c42b0 : ((rd x6_2 x76_3) == x76_3) = true := beq_iff_eq.mpr c42
         have c42b1 : ((rd x6_2 x76_3) != x76_3) = false := bne_eq_false_iff_eq.mpr c42
         clear c42
         obtain ⟨y518, hy518⟩ : ∃ y_ : List (List Int), y_ = (([] : List (List Int))) := ⟨_, rfl⟩
         replace H : (impl_ClassesOf.l5 k3 t500 x6_2 x11_3 x76_3 y518 (t500.length : Int) x76_3 (t500.length : Int) 0) = some r := by first | (rw [hy518]; with_reducible first | exact H | exact bs H) | (with_reducible first | exact bs H | exact H) | (rw [hy518]; exact H) | exact H
         have Ny518 := am hy518
         clear hy518
         have H' := am H
         clear H
         obtain ⟨Ao43, co43, eo43⟩ := Kd.R_slice HO_6.out
         subst eo43
         obtain ⟨⟨ad517, e517, hx517_0⟩, p517, q517⟩ := pq (Kd.at_int (Kd.R_reads' HO_6.out).2.2 x76_3)
         cases e517
         go_wp2_with (first | ((with_reducible refine gate_dst (N := 85) rfl ?_); refine Kd.S_lit (Kd.slice 3 (Kd.int .i64)) _ 22 ?hg (N := 85) ?hd (xs := ([] : List (List Int))) (inner := []) (ok := fun _ => True) (okp := fun _ => True) ?hr ?hp (fun _ hk => hk) trivial (Below.refl _ _) (Nat.le_refl _) (by simp) ?_; (case hd => rfl); (case hg => rfl); (case hr => first | (go_simp; done) | (go_simp; rfl)); (case hp => exact (Reps.none _ _)); intro v519 w44 ho45 hb hg_ hnew_; clear hg_ hnew_; (first | rw [← Ny518.out] at ho45 | (simp only [Int.reduceToNat] at ho45; rw [← Ny518.out] at ho45)); replace HO_11 := am (Kd.R_elder' (ro HO_11.out) (Kd.S_base ho45) hb); have HO520 := am (Kd.S_lower (Kd.S_new' (Kd.S_new' ho45 (Kd.S_lt (so HO_5.out))) (Kd.R_lt (ro HO_6.out))) (below_size bw)); replace HO_5 := am (Kd.S_elder' (so HO_5.out) (Kd.S_base ho45) hb); replace HO_6 := rK HO_6 hb; replace BK499 := kb BK499 hb; replace HB := am (below_step bw hb); clear hb ho45))
         repeat (go_quiet (fail); try go_wp2_with (first | ((with_reducible refine gate_dst (N := 85) rfl ?_); refine Kd.S_lit (Kd.slice 3 (Kd.int .i64)) _ 22 ?hg (N := 85) ?hd (xs := ([] : List (List Int))) (inner := []) (ok := fun _ => True) (okp := fun _ => True) ?hr ?hp (fun _ hk => hk) trivial (Below.refl _ _) (Nat.le_refl _) (by simp) ?_; (case hd => rfl); (case hg => rfl); (case hr => first | (go_simp; done) | (go_simp; rfl)); (case hp => exact (Reps.none _ _)); intro v519 w44 ho45 hb hg_ hnew_; clear hg_ hnew_; (first | rw [← Ny518.out] at ho45 | (simp only [Int.reduceToNat] at ho45; rw [← Ny518.out] at ho45)); have n0_ := am (Kd.S_elder' (so HO_5.out) (Kd.S_base ho45) hb); have n1_ := am (Kd.R_below (ro HO_6.out) hb); have n2_ := am (Kd.R_elder' (ro HO_11.out) (Kd.S_base ho45) hb); have n3_ := am (Kd.S_lower (Kd.S_new' (Kd.S_new' ho45 (Kd.S_lt (so HO_5.out))) (Kd.R_lt (ro HO_6.out))) (below_size bw)); have n4_ := am (blk_below (g := gb499) (o := .cells #[.slice A0_0 l0_0.length c0_0] 27 (0, 0)) (bo BK499.out) hb); have n5_ := am (below_step bw hb); clear HO_5 HO_6 HO_11 BK499 HB; have HO_5 := n0_; have HO_6 := n1_; have HO_11 := n2_; have HO520 := n3_; have BK499 := n4_; have HB := n5_; clear n0_ n1_ n2_ n3_ n4_ n5_; clear hb ho45)))
         go_loopg [13, 88] k3 (fun kq v13 v88 w' => ∃ (x13_4 : List (List Int)) (x88_4 : Int), v88 = .int .i64 x88_4 ∧ Aside0 (impl_ClassesOf.l5 kq t500 x6_2 x11_3 x76_3 x13_4 (t500.length : Int) x76_3 (t500.length : Int) x88_4 = some r) ∧ Aside0 (kq ≤ k3) ∧ Aside0 (Kd.S (Kd.slice 3 (Kd.int .i64)) 22 w' w.heap.size (fun k_ => some k_ ≠ ((.slice (some ad517) x6_2.length co43) : Value).ownBlock ∧ some k_ ≠ (v13 : Value).ownBlock) (.slice Ao9 t500.length co9) t500) ∧ Aside0 (Kd.R (Kd.int .i64) 3 w' w.heap.size (fun _ => True) (.slice (some ad517) x6_2.length co43) x6_2) ∧ Aside0 (Kd.R (Kd.slice 22 (Kd.slice 3 (Kd.int .i64))) 49 w' w.heap.size (fun k_ => nb k_ Ao9 t500 co9 ∧ some k_ ≠ ((.slice (some ad517) x6_2.length co43) : Value).ownBlock ∧ some k_ ≠ (v13 : Value).ownBlock) u11 x11_3) ∧ Aside0 (Kd.S (Kd.slice 3 (Kd.int .i64)) 22 w' w.heap.size (fun k_ => nb k_ Ao9 t500 co9 ∧ some k_ ≠ ((.slice (some ad517) x6_2.length co43) : Value).ownBlock) v13 x13_4) ∧ Aside0 (w'.heap[gb499]? = some (.cells #[(.slice A0_0 l0_0.length c0_0)] 27 (0, 0))) ∧ Aside0 (Below w.heap.size w w'))
         case atStart => exact ⟨(y518), (0), rr, H', ⟨Nat.le_refl _⟩, ⟨so HO_5.out⟩, ⟨ro HO_6.out⟩, ⟨by (with_reducible repeat (first | apply Kd.R_alloc | apply Kd.R_drewN | apply Kd.R_drew)); exact Kd.R_mono HO_11.out (fun _ hk => ⟨hk.1.1, ⟨hk.1.2, hk.2⟩⟩)⟩, ⟨by (with_reducible repeat (first | apply Kd.S_alloc | apply Kd.S_drewN | apply Kd.S_drew)); exact Kd.S_mono HO520.out (fun _ hk => by first | exact ⟨hk.1.2, hk.2⟩ | simp_all)⟩, ⟨bo BK499.out⟩, ⟨bw⟩⟩
         case round =>
          clear H'
          try clear c4; try clear c4b0; try clear c4b1; try clear c5; try clear c5b0; try clear c5b1; try clear c12b0; try clear c13b0; try clear c14b0; try clear p15; try clear q15; try clear c19b0; try clear c20b0; try clear c21b0; try clear c22b0; try clear c23b0; try clear c24b0; try clear c25b0; try clear c26b0; try clear c27b0; try clear p30; try clear q30; try clear c36; try clear c36b0; try clear c36b1; try clear c36b2; try clear c39b0; try clear c40b0; try clear c41b0; try clear c42; try clear c42b0; try clear c42b1; try clear hcz7_0; try clear hfz7_0; try clear hx15_0; try clear hx30_0; try clear hx507_0; try clear hx508_0; try clear hx509_0; try clear hx510_0; try clear hx512_0; try clear hx517_0; try clear p507; try clear p508; try clear p509; try clear p510; try clear p512; try clear p517; try clear q507; try clear q508; try clear q509; try clear q510; try clear q512; try clear q517
          obtain ⟨x13_4, x88_4, rfl, HA, HK4, HO_5, HO_6, HO_11, HO_13, BK499, HB⟩ := hrel
          cases gk with
          | zero => exact absurd HA.out (by simp [impl_ClassesOf.l5])
          | succ k4 =>
           have H := HA.out
           clear HA
           simp only [impl_ClassesOf.l5] at H
           replace H := gi H; obtain ⟨c46b0, H⟩ | ⟨c46b0, H⟩ := H
           ·replace H := gd H; obtain ⟨c47b0, H⟩ := H
            replace H := gd H; obtain ⟨c48b0, H⟩ := H
            by_cases c49 : (rd x6_2 x88_4) = x76_3
            ·rw [if_pos c49] at H
             have c49b0 : ((rd x6_2 x88_4) == x76_3) = true := beq_iff_eq.mpr c49
             have c49b1 : ((rd x6_2 x88_4) != x76_3) = false := bne_eq_false_iff_eq.mpr c49
             clear c49
             replace H := gd H; obtain ⟨c50b0, H⟩ := H
             replace H := ga H; obtain ⟨t523, A51, H⟩ := H
             by_cases c52 : x13_4.length < 5864062014805
             rotate_left
             ·rw [if_neg c52] at H
              exact absurd H (by simp)
             rw [if_pos c52] at H
             have LMc52 := am c52
             clear c52
             obtain ⟨y526, hy526⟩ : ∃ y_ : List (List Int), y_ = (x13_4 ++ [t523]) := ⟨_, rfl⟩
             replace H : (impl_ClassesOf.l5 k4 t500 x6_2 x11_3 x76_3 y526 (t500.length : Int) x76_3 (t500.length : Int) (wrap64 (x88_4 + 1))) = some r := by first | (rw [hy526]; with_reducible first | exact H | exact bs H) | (with_reducible first | exact bs H | exact H) | (rw [hy526]; exact H) | exact H
             have Ny526 := am hy526
             clear hy526
             have H' := am H
             clear H
             obtain ⟨⟨ad521, e521, hx521_0⟩, p521, q521⟩ := pq (Kd.at_int (Kd.R_reads' HO_6.out).2.2 x88_4)
             obtain rfl : ad517 = ad521 := (by injection e521)
             have p522 : 0 ≤ (x88_4 : Int) := of_decide_eq_true (by first | (with_reducible assumption) | assumption)
             have q522 : x88_4 < (t500.length : Int) := of_decide_eq_true (by first | (with_reducible assumption) | assumption)
             obtain ⟨ad522, A522_0, c522_0, e522, hx522_0, hl522_0, hi522_0⟩ := at_L2 (Kd.S_reads' HO_5.out).2.2 x88_4 p522 q522
             cases e522
             obtain ⟨ce522, hce522, hMe522, hcc522⟩ := Kd.S_get HO_5.out [] x88_4 p522 (by first | exact q522 | exact of_decide_eq_true (by first | (with_reducible assumption) | assumption) | (have e_ := (Kd.S_reads' HO_5.out).1; omega))
             obtain ⟨ve522_0, rfl, ge522_0⟩ := hMe522
             have hv522_0 := hcc522 0 _ rfl
             rw [Nat.add_zero, show ((Kd.slice 3 (Kd.int .i64))).sz = 1 from rfl, Nat.mul_one] at hv522_0
             replace hv522_0 := Option.some.inj (hv522_0.symm.trans hx522_0)
             rw [hv522_0] at ge522_0
             have HL522_0 := am (show Kd.R (Kd.int .i64) 3 _ _ _ _ (rd_L2 t500 x88_4) from ge522_0)
             clear hv522_0 ge522_0
             clear hcc522 hce522
             have HR522_0 := am hi522_0
             have HC522_0 := am hl522_0
             clear hi522_0 hl522_0
             replace p522 := eq_true p522
             replace q522 := eq_true q522
             go_wp2_with (first | (go_at_call 84; (with_reducible refine (slices_Clone_int_int.calls _ _ (rd_L2 t500 x88_4) t523 _ ?side1 ?side2 A51.out).mono ?_); (case side1 => exact co HR522_0.out); (case side2 => exact HC522_0.out); rintro e w53 ⟨v524, rfl, ho0, hb⟩; replace HO_5 := am (Kd.S_elder' (so HO_5.out) (Kd.R_base ho0) hb); replace HO_11 := am (Kd.R_elder' (ro HO_11.out) (Kd.R_base ho0) hb); replace HO_13 := am (Kd.S_elder' (so HO_13.out) (Kd.R_base ho0) hb); have HO525 := am (Kd.R_lower (Kd.R_new' (Kd.R_new' ho0 (Kd.R_lt (ro HO_6.out))) (Kd.R_lt (ro HL522_0.out))) (below_size bw)); replace HO_6 := am (Kd.R_elder' (ro HO_6.out) (Kd.R_base ho0) hb); replace HL522_0 := am (Kd.R_elder' (ro HL522_0.out) (Kd.R_base ho0) hb); replace BK499 := kb BK499 hb; replace HR522_0 := am (Kd.C_below (co HR522_0.out) hb); replace HB := am (below_step bw hb); clear hb ho0; obtain ⟨Ao55, co55, eo55⟩ := Kd.R_slice HO525.out; subst eo55) | ((with_reducible refine gate_builtin (b := .append) (xs := #[.tmp 97, .tmp 103]) rfl ?_); at_builtin; refine Kd.S_append (Kd.slice 3 (Kd.int .i64)) (w0 := w) w.heap.size rfl (.tmp 97) (.tmp 103) 49 22 (.slice none 0 0) 24 rfl Try.underlying49 info22 rfl (by decide) (by omega) u13 x13_4 t523 [.slice Ao55 t523.length co55] (fun k_ => some k_ ≠ (.slice (some ad522) t500.length co9 : Value).ownBlock ∧ some k_ ≠ (.slice (some ad517) x6_2.length co43 : Value).ownBlock) (fun k_ => some k_ = (.slice Ao55 t523.length co55 : Value).ownBlock) rfl rfl ?aP (fun k_ hk_ => ((Kd.R_mono (ok' := fun k_ => ((fun k_ => some k_ ≠ (.slice (some ad522) t500.length co9 : Value).ownBlock ∧ some k_ ≠ (.slice (some ad517) x6_2.length co43 : Value).ownBlock)) k_ ∧ some k_ ≠ (u13 : Value).ownBlock) (Kd.R_apart' (Kd.R_apart' (HO525.out) (Kd.S_typed HO_5.out) (by decide)) (Kd.S_typed HO_13.out) (by decide)) (fun k_ hk => ⟨⟨hk.1.2, hk.1.1.1.2⟩, hk.2⟩))).1 k_ hk_.symm) ?aF ?aO ?aB ?aS ?aL ?_; (case aP => exact Kd.M_row (Kd.R_mono (Kd.R_tight rfl (Kd.R_mono (ok' := fun k_ => ((fun k_ => some k_ ≠ (.slice (some ad522) t500.length co9 : Value).ownBlock ∧ some k_ ≠ (.slice (some ad517) x6_2.length co43 : Value).ownBlock)) k_ ∧ some k_ ≠ (u13 : Value).ownBlock) (Kd.R_apart' (Kd.R_apart' (HO525.out) (Kd.S_typed HO_5.out) (by decide)) (Kd.S_typed HO_13.out) (by decide)) (fun k_ hk => ⟨⟨hk.1.2, hk.1.1.1.2⟩, hk.2⟩))) (fun _ h_ => h_))); (case aB => exact bw); (case aF => exact (fun k_ hk => ⟨Kd.fresh' (Kd.S_lt (so HO_5.out)) k_ hk, Kd.fresh' (Kd.R_lt (ro HO_6.out)) k_ hk⟩)); (case aO => exact (by (with_reducible repeat (first | apply Kd.S_alloc | apply Kd.S_drewN | apply Kd.S_drew)); exact Kd.S_mono HO_13.out (fun k_ hk => ⟨⟨hk.1.1, hk.1.2⟩, fun e_ => hk.2 e_⟩))); (case aS => exact (below_size bw)); (case aL => have := LMc52.out; omega); intro v527 w54 ho hb hg hat; rw [← Ny526.out] at ho; replace HO_5 := am (Kd.S_after (ok := (fun k_ => some k_ ≠ (.slice (some ad517) x6_2.length co43 : Value).ownBlock ∧ nb k_ Ao55 t523 co55)) (by (with_reducible repeat (first | apply Kd.S_alloc | apply Kd.S_drewN | apply Kd.S_drew)); exact Kd.S_mono HO_5.out (fun _ hk => ⟨⟨hk.1.1, hk.2⟩, hk.1.2⟩)) hg hat); replace HO_6 := am (Kd.R_over' (ro HO_6.out) (Kd.S_typed (so HO_13.out)) (by decide) hg); replace HO_11 := am (Kd.R_after (ok := (fun k_ => some k_ ≠ (.slice (some ad522) t500.length co9 : Value).ownBlock ∧ some k_ ≠ (.slice (some ad517) x6_2.length co43 : Value).ownBlock ∧ nb k_ Ao55 t523 co55)) (by (with_reducible repeat (first | apply Kd.R_alloc | apply Kd.R_drewN | apply Kd.R_drew)); exact Kd.R_mono HO_11.out (fun _ hk => ⟨⟨hk.1.1, ⟨hk.1.2.1, hk.2⟩⟩, hk.1.2.2⟩)) hg hat); replace BK499 := am (blk_grown (g := gb499) (o := .cells #[.slice A0_0 l0_0.length c0_0] 27 (0, 0)) (bo BK499.out) hg (Kd.S_ne HO_13.out BK499.out (by decide))); replace HL522_0 := am (Kd.R_after (ok := (fun k_ => some k_ ≠ (.slice (some ad522) t500.length co9 : Value).ownBlock ∧ some k_ ≠ (.slice (some ad517) x6_2.length co43 : Value).ownBlock ∧ nb k_ Ao55 t523 co55)) (by (with_reducible repeat (first | apply Kd.R_alloc | apply Kd.R_drewN | apply Kd.R_drew)); exact Kd.R_mono HL522_0.out (fun _ hk => ⟨⟨hk.1.2, ⟨hk.1.1.1, hk.2⟩⟩, hk.1.1.2⟩)) hg hat); replace HB := am (hb); have HO528 := am (ho); clear HO_13 HO525 ho hb hg hat))
             repeat (go_quiet (first | (go_at_call 84; (with_reducible refine (slices_Clone_int_int.calls _ _ (rd_L2 t500 x88_4) t523 _ ?side1 ?side2 A51.out).mono ?_); (case side1 => exact co HR522_0.out); (case side2 => exact HC522_0.out); rintro e w53 ⟨v524, rfl, ho0, hb⟩; have n0_ := am (Kd.S_elder' (so HO_5.out) (Kd.R_base ho0) hb); have n1_ := am (Kd.R_elder' (ro HO_6.out) (Kd.R_base ho0) hb); have n2_ := am (Kd.R_elder' (ro HO_11.out) (Kd.R_base ho0) hb); have n3_ := am (Kd.S_elder' (so HO_13.out) (Kd.R_base ho0) hb); have n4_ := am (Kd.R_elder' (ro HL522_0.out) (Kd.R_base ho0) hb); have n5_ := am (Kd.R_lower (Kd.R_new' (Kd.R_new' ho0 (Kd.R_lt (ro HO_6.out))) (Kd.R_lt (ro HL522_0.out))) (below_size bw)); have n6_ := am (blk_below (g := gb499) (o := .cells #[.slice A0_0 l0_0.length c0_0] 27 (0, 0)) (bo BK499.out) hb); have n7_ := am (Kd.C_below (co HR522_0.out) hb); have n8_ := am (below_step bw hb); clear HO_5 HO_6 HO_11 HO_13 HL522_0 BK499 HR522_0 HB; have HO_5 := n0_; have HO_6 := n1_; have HO_11 := n2_; have HO_13 := n3_; have HL522_0 := n4_; have HO525 := n5_; have BK499 := n6_; have HR522_0 := n7_; have HB := n8_; clear n0_ n1_ n2_ n3_ n4_ n5_ n6_ n7_ n8_; (try clear hb); (try clear hb2); (try clear hk); (try clear hi); (try clear ho0); obtain ⟨Ao55, co55, eo55⟩ := Kd.R_slice HO525.out; subst eo55)); try go_wp2_with (first | (go_at_call 84; (with_reducible refine (slices_Clone_int_int.calls _ _ (rd_L2 t500 x88_4) t523 _ ?side1 ?side2 A51.out).mono ?_); (case side1 => exact co HR522_0.out); (case side2 => exact HC522_0.out); rintro e w53 ⟨v524, rfl, ho0, hb⟩; have n0_ := am (Kd.S_elder' (so HO_5.out) (Kd.R_base ho0) hb); have n1_ := am (Kd.R_elder' (ro HO_6.out) (Kd.R_base ho0) hb); have n2_ := am (Kd.R_elder' (ro HO_11.out) (Kd.R_base ho0) hb); have n3_ := am (Kd.S_elder' (so HO_13.out) (Kd.R_base ho0) hb); have n4_ := am (Kd.R_elder' (ro HL522_0.out) (Kd.R_base ho0) hb); have n5_ := am (Kd.R_lower (Kd.R_new' (Kd.R_new' ho0 (Kd.R_lt (ro HO_6.out))) (Kd.R_lt (ro HL522_0.out))) (below_size bw)); have n6_ := am (blk_below (g := gb499) (o := .cells #[.slice A0_0 l0_0.length c0_0] 27 (0, 0)) (bo BK499.out) hb); have n7_ := am (Kd.C_below (co HR522_0.out) hb); have n8_ := am (below_step bw hb); clear HO_5 HO_6 HO_11 HO_13 HL522_0 BK499 HR522_0 HB; have HO_5 := n0_; have HO_6 := n1_; have HO_11 := n2_; have HO_13 := n3_; have HL522_0 := n4_; have HO525 := n5_; have BK499 := n6_; have HR522_0 := n7_; have HB := n8_; clear n0_ n1_ n2_ n3_ n4_ n5_ n6_ n7_ n8_; (try clear hb); (try clear hb2); (try clear hk); (try clear hi); (try clear ho0); obtain ⟨Ao55, co55, eo55⟩ := Kd.R_slice HO525.out; subst eo55) | ((with_reducible refine gate_builtin (b := .append) (xs := #[.tmp 97, .tmp 103]) rfl ?_); at_builtin; refine Kd.S_append (Kd.slice 3 (Kd.int .i64)) (w0 := w) w.heap.size rfl (.tmp 97) (.tmp 103) 49 22 (.slice none 0 0) 24 rfl Try.underlying49 info22 rfl (by decide) (by omega) u13 x13_4 t523 [.slice Ao55 t523.length co55] (fun k_ => some k_ ≠ (.slice (some ad522) t500.length co9 : Value).ownBlock ∧ some k_ ≠ (.slice (some ad517) x6_2.length co43 : Value).ownBlock) (fun k_ => some k_ = (.slice Ao55 t523.length co55 : Value).ownBlock) rfl rfl ?aP (fun k_ hk_ => ((Kd.R_mono (ok' := fun k_ => ((fun k_ => some k_ ≠ (.slice (some ad522) t500.length co9 : Value).ownBlock ∧ some k_ ≠ (.slice (some ad517) x6_2.length co43 : Value).ownBlock)) k_ ∧ some k_ ≠ (u13 : Value).ownBlock) (Kd.R_apart' (Kd.R_apart' (HO525.out) (Kd.S_typed HO_5.out) (by decide)) (Kd.S_typed HO_13.out) (by decide)) (fun k_ hk => ⟨⟨hk.1.2, hk.1.1.1.2⟩, hk.2⟩))).1 k_ hk_.symm) ?aF ?aO ?aB ?aS ?aL ?_; (case aP => exact Kd.M_row (Kd.R_mono (Kd.R_tight rfl (Kd.R_mono (ok' := fun k_ => ((fun k_ => some k_ ≠ (.slice (some ad522) t500.length co9 : Value).ownBlock ∧ some k_ ≠ (.slice (some ad517) x6_2.length co43 : Value).ownBlock)) k_ ∧ some k_ ≠ (u13 : Value).ownBlock) (Kd.R_apart' (Kd.R_apart' (HO525.out) (Kd.S_typed HO_5.out) (by decide)) (Kd.S_typed HO_13.out) (by decide)) (fun k_ hk => ⟨⟨hk.1.2, hk.1.1.1.2⟩, hk.2⟩))) (fun _ h_ => h_))); (case aB => exact bw); (case aF => exact (fun k_ hk => ⟨Kd.fresh' (Kd.S_lt (so HO_5.out)) k_ hk, Kd.fresh' (Kd.R_lt (ro HO_6.out)) k_ hk⟩)); (case aO => exact (by (with_reducible repeat (first | apply Kd.S_alloc | apply Kd.S_drewN | apply Kd.S_drew)); exact Kd.S_mono HO_13.out (fun k_ hk => ⟨⟨hk.1.1, hk.1.2⟩, fun e_ => hk.2 e_⟩))); (case aS => exact (below_size bw)); (case aL => have := LMc52.out; omega); intro v527 w54 ho hb hg hat; rw [← Ny526.out] at ho; have n0_ := am (Kd.S_after (ok := (fun k_ => some k_ ≠ (.slice (some ad517) x6_2.length co43 : Value).ownBlock ∧ nb k_ Ao55 t523 co55)) (by (with_reducible repeat (first | apply Kd.S_alloc | apply Kd.S_drewN | apply Kd.S_drew)); exact Kd.S_mono HO_5.out (fun _ hk => ⟨⟨hk.1.1, hk.2⟩, hk.1.2⟩)) hg hat); have n1_ := am (Kd.R_over' (ro HO_6.out) (Kd.S_typed (so HO_13.out)) (by decide) hg); have n2_ := am (Kd.R_after (ok := (fun k_ => some k_ ≠ (.slice (some ad522) t500.length co9 : Value).ownBlock ∧ some k_ ≠ (.slice (some ad517) x6_2.length co43 : Value).ownBlock ∧ nb k_ Ao55 t523 co55)) (by (with_reducible repeat (first | apply Kd.R_alloc | apply Kd.R_drewN | apply Kd.R_drew)); exact Kd.R_mono HO_11.out (fun _ hk => ⟨⟨hk.1.1, ⟨hk.1.2.1, hk.2⟩⟩, hk.1.2.2⟩)) hg hat); have n3_ := am (blk_grown (g := gb499) (o := .cells #[.slice A0_0 l0_0.length c0_0] 27 (0, 0)) (bo BK499.out) hg (Kd.S_ne HO_13.out BK499.out (by decide))); have n4_ := am (Kd.R_after (ok := (fun k_ => some k_ ≠ (.slice (some ad522) t500.length co9 : Value).ownBlock ∧ some k_ ≠ (.slice (some ad517) x6_2.length co43 : Value).ownBlock ∧ nb k_ Ao55 t523 co55)) (by (with_reducible repeat (first | apply Kd.R_alloc | apply Kd.R_drewN | apply Kd.R_drew)); exact Kd.R_mono HL522_0.out (fun _ hk => ⟨⟨hk.1.2, ⟨hk.1.1.1, hk.2⟩⟩, hk.1.1.2⟩)) hg hat); have n5_ := am (hb); have n6_ := am (ho); clear HO_5 HO_6 HO_11 BK499 HL522_0 HB HO_13 HO525; have HO_5 := n0_; have HO_6 := n1_; have HO_11 := n2_; have BK499 := n3_; have HL522_0 := n4_; have HB := n5_; have HO528 := n6_; clear n0_ n1_ n2_ n3_ n4_ n5_ n6_; clear ho hb hg hat)))
             go_roundg k4
             case measure => have := HK1.out; have := HK2.out; have := HK3.out; have := HK4.out; omega
             case rel => exact ⟨(y526), (wrap64 (x88_4 + 1)), rr, H', ⟨by have := HK1.out; have := HK2.out; have := HK3.out; have := HK4.out; omega⟩, ⟨by (with_reducible repeat (first | apply Kd.S_alloc | apply Kd.S_drewN | apply Kd.S_drew)); exact Kd.S_mono HO_5.out (fun _ hk => by first | exact ⟨hk.1.1, hk.2⟩ | simp_all)⟩, ⟨by (with_reducible repeat (first | apply Kd.R_alloc | apply Kd.R_drewN | apply Kd.R_drew)); exact Kd.R_mono HO_6.out (fun _ hk => trivial)⟩, ⟨by (with_reducible repeat (first | apply Kd.R_alloc | apply Kd.R_drewN | apply Kd.R_drew)); exact Kd.R_mono HO_11.out (fun _ hk => ⟨hk.1.1, ⟨hk.1.2.1, hk.2⟩⟩)⟩, ⟨so HO528.out⟩, ⟨bo BK499.out⟩, ⟨bw⟩⟩
            rw [if_neg c49] at H
            have c49b0 : ((rd x6_2 x88_4) == x76_3) = false := beq_eq_false_iff_ne.mpr c49
            have c49b1 : ((rd x6_2 x88_4) != x76_3) = true := bne_iff_ne.mpr c49
            have H' := am H
            clear H
            obtain ⟨⟨ad521, e521, hx521_0⟩, p521, q521⟩ := pq (Kd.at_int (Kd.R_reads' HO_6.out).2.2 x88_4)
            obtain rfl : ad517 = ad521 := (by injection e521)
            go_wp2
            repeat (go_quiet (fail); try go_wp2)
            go_roundg k4
            case measure => have := HK1.out; have := HK2.out; have := HK3.out; have := HK4.out; omega
            case rel => exact ⟨(x13_4), (wrap64 (x88_4 + 1)), rr, H', ⟨by have := HK1.out; have := HK2.out; have := HK3.out; have := HK4.out; omega⟩, ⟨so HO_5.out⟩, ⟨ro HO_6.out⟩, ⟨ro HO_11.out⟩, ⟨so HO_13.out⟩, ⟨bo BK499.out⟩, ⟨bw⟩⟩
           by_cases c56 : x11_3.length < 5864062014805
           rotate_left
           ·rw [if_neg c56] at H
            exact absurd H (by simp)
           rw [if_pos c56] at H
           have LMc56 := am c56
           clear c56
           obtain ⟨y529, hy529⟩ : ∃ y_ : List (List (List Int)), y_ = (x11_3 ++ [x13_4]) := ⟨_, rfl⟩
           replace H : (impl_ClassesOf.l4 k4 t500 x6_2 y529 (t500.length : Int) (wrap64 (x76_3 + 1))) = some r := by first | (rw [hy529]; with_reducible first | exact H | exact bs H) | (with_reducible first | exact bs H | exact H) | (rw [hy529]; exact H) | exact H
           have Ny529 := am hy529
           clear hy529
           have H' := am H
           clear H
           obtain ⟨Ao58, co58, eo58⟩ := Kd.S_slice HO_13.out
           subst eo58
           go_wp2_with (first | ((with_reducible refine gate_builtin (b := .append) (xs := #[.tmp 106, .tmp 108]) rfl ?_); at_builtin; refine Kd.R_append (Kd.slice 22 (Kd.slice 3 (Kd.int .i64))) (w0 := w) w.heap.size rfl (.tmp 106) (.tmp 108) 38 49 (.slice none 0 0) 24 rfl Try.underlying38 info49 rfl (by decide) (by omega) u11 x11_3 x13_4 [.slice Ao58 x13_4.length co58] (fun k_ => nb k_ Ao9 t500 co9 ∧ some k_ ≠ (.slice (some ad517) x6_2.length co43 : Value).ownBlock) (fun k_ => ((fun k_ => nb k_ Ao9 t500 co9 ∧ some k_ ≠ (.slice (some ad517) x6_2.length co43 : Value).ownBlock)) k_ ∧ some k_ ≠ (u11 : Value).ownBlock) rfl rfl ?aP (fun _ hk => hk) ?aF ?aO ?aB ?aS ?aL ?_; (case aP => exact Kd.M_row (Kd.R_mono (Kd.R_apart' ((Kd.S_R HO_13.out)) (Kd.R_typed HO_11.out) (by decide)) (fun k_ hk => ⟨⟨hk.1.1, hk.1.2⟩, hk.2⟩))); (case aB => exact bw); (case aF => exact (fun k_ hk => ⟨Kd.fresh' (Kd.S_lt (so HO_5.out)) k_ hk, Kd.fresh' (Kd.R_lt (ro HO_6.out)) k_ hk⟩)); (case aO => exact (by (with_reducible repeat (first | apply Kd.R_alloc | apply Kd.R_drewN | apply Kd.R_drew)); exact Kd.R_mono HO_11.out (fun _ hk => by first | exact ⟨hk.1, hk.2.1⟩ | simp_all))); (case aS => exact (below_size bw)); (case aL => have := LMc56.out; omega); intro v530 w57 ho hb hg hat; rw [← Ny529.out] at ho; replace HO_5 := am (Kd.S_over' (so HO_5.out) (Kd.R_typed (ro HO_11.out)) (by decide) hg); replace HO_6 := am (Kd.R_over' (ro HO_6.out) (Kd.R_typed (ro HO_11.out)) (by decide) hg); replace BK499 := am (blk_grown (g := gb499) (o := .cells #[.slice A0_0 l0_0.length c0_0] 27 (0, 0)) (bo BK499.out) hg (Kd.R_ne HO_11.out BK499.out (by decide))); replace HB := am (hb); have HO531 := am (ho); clear HO_11 HO_13 ho hb hg hat))
           repeat (go_quiet (fail); try go_wp2_with (first | ((with_reducible refine gate_builtin (b := .append) (xs := #[.tmp 106, .tmp 108]) rfl ?_); at_builtin; refine Kd.R_append (Kd.slice 22 (Kd.slice 3 (Kd.int .i64))) (w0 := w) w.heap.size rfl (.tmp 106) (.tmp 108) 38 49 (.slice none 0 0) 24 rfl Try.underlying38 info49 rfl (by decide) (by omega) u11 x11_3 x13_4 [.slice Ao58 x13_4.length co58] (fun k_ => nb k_ Ao9 t500 co9 ∧ some k_ ≠ (.slice (some ad517) x6_2.length co43 : Value).ownBlock) (fun k_ => ((fun k_ => nb k_ Ao9 t500 co9 ∧ some k_ ≠ (.slice (some ad517) x6_2.length co43 : Value).ownBlock)) k_ ∧ some k_ ≠ (u11 : Value).ownBlock) rfl rfl ?aP (fun _ hk => hk) ?aF ?aO ?aB ?aS ?aL ?_; (case aP => exact Kd.M_row (Kd.R_mono (Kd.R_apart' ((Kd.S_R HO_13.out)) (Kd.R_typed HO_11.out) (by decide)) (fun k_ hk => ⟨⟨hk.1.1, hk.1.2⟩, hk.2⟩))); (case aB => exact bw); (case aF => exact (fun k_ hk => ⟨Kd.fresh' (Kd.S_lt (so HO_5.out)) k_ hk, Kd.fresh' (Kd.R_lt (ro HO_6.out)) k_ hk⟩)); (case aO => exact (by (with_reducible repeat (first | apply Kd.R_alloc | apply Kd.R_drewN | apply Kd.R_drew)); exact Kd.R_mono HO_11.out (fun _ hk => by first | exact ⟨hk.1, hk.2.1⟩ | simp_all))); (case aS => exact (below_size bw)); (case aL => have := LMc56.out; omega); intro v530 w57 ho hb hg hat; rw [← Ny529.out] at ho; have n0_ := am (Kd.S_over' (so HO_5.out) (Kd.R_typed (ro HO_11.out)) (by decide) hg); have n1_ := am (Kd.R_over' (ro HO_6.out) (Kd.R_typed (ro HO_11.out)) (by decide) hg); have n2_ := am (blk_grown (g := gb499) (o := .cells #[.slice A0_0 l0_0.length c0_0] 27 (0, 0)) (bo BK499.out) hg (Kd.R_ne HO_11.out BK499.out (by decide))); have n3_ := am (hb); have n4_ := am (ho); clear HO_5 HO_6 BK499 HB HO_11 HO_13; have HO_5 := n0_; have HO_6 := n1_; have BK499 := n2_; have HB := n3_; have HO531 := n4_; clear n0_ n1_ n2_ n3_ n4_; clear ho hb hg hat)))
           go_roundg k4
           case measure => have := HK1.out; have := HK2.out; have := HK3.out; have := HK4.out; omega
           case rel => exact ⟨(y529), (wrap64 (x76_3 + 1)), rr, H', ⟨by have := HK1.out; have := HK2.out; have := HK3.out; have := HK4.out; omega⟩, ⟨by (with_reducible repeat (first | apply Kd.S_alloc | apply Kd.S_drewN | apply Kd.S_drew)); exact Kd.S_mono HO_5.out (fun _ hk => hk.1)⟩, ⟨ro HO_6.out⟩, ⟨ro HO531.out⟩, ⟨bo BK499.out⟩, ⟨bw⟩⟩
        rw [if_neg c42] at H
        have c42b0 : ((rd x6_2 x76_3) == x76_3) = false := beq_eq_false_iff_ne.mpr c42
        have c42b1 : ((rd x6_2 x76_3) != x76_3) = true := bne_iff_ne.mpr c42
        have H' := am H
        clear H
        obtain ⟨Ao59, co59, eo59⟩ := Kd.R_slice HO_6.out
        subst eo59
        obtain ⟨⟨ad517, e517, hx517_0⟩, p517, q517⟩ := pq (Kd.at_int (Kd.R_reads' HO_6.out).2.2 x76_3)
        cases e517
        go_wp2
        repeat (go_quiet (fail); try go_wp2)
        go_roundg k3
        case measure => have := HK1.out; have := HK2.out; have := HK3.out; omega
        case rel => exact ⟨(x11_3), (wrap64 (x76_3 + 1)), rr, H', ⟨by have := HK1.out; have := HK2.out; have := HK3.out; omega⟩, ⟨so HO_5.out⟩, ⟨ro HO_6.out⟩, ⟨ro HO_11.out⟩, ⟨bo BK499.out⟩, ⟨bw⟩⟩
       obtain rfl := Option.some.inj H
       go_wp2
       repeat (go_quiet (fail); try go_wp2)
       go_ret
       exact ⟨_, re, by (with_reducible repeat (first | apply Kd.R_alloc | apply Kd.R_drewN | apply Kd.R_drew)); exact Kd.R_mono HO_11.out (fun _ hk => trivial), bw⟩

end Go.Proofs.Ytlfdipnhlmjiaaa.C
