/- Contracts of functions of the program: impl_table, impl_Gaps, impl_FrobeniusOf, impl_BettiElements, impl_PresentationOf, laws_eqRelation. -/
import Derived.Test.YtlfdipnhlmjiaaaC0
import Derived.Test.YtlfdipnhlmjiaaaC1
import Derived.Test.YtlfdipnhlmjiaaaC6
import Derived.Test.YtlfdipnhlmjiaaaC8
import Derived.Test.YtlfdipnhlmjiaaaC10
namespace Go.Proofs.Ytlfdipnhlmjiaaa.C
open Go.RowKit Go.Proofs.YtlfdipnhlmjiaaaW.PrintWords Go.Proofs.YtlfdipnhlmjiaaaW.PrintLast Go.Proofs.YtlfdipnhlmjiaaaW.PrintMore
attribute [local go_sem] max2_int min2_int max_two min_two max_three min_three max_four min_four
set_option linter.unusedVariables false
set_option linter.unusedSimpArgs false

/-! ### impl_table: function 121 -/
def impl_table.l0 : Nat → List Int → List Bool → Int → Int → List Int → Option (List Bool)
 | 0, _, _, _, _, _ => none
 | k + 1, x5, x6, x19, x20, x533000 => if x20 < x19 then (if 0 < (x533000.length : Int) then (if (rd x533000 0) = 0 then (none) else (if 0 ≤ (Int.tmod x20 (rd x533000 0)) then (if (Int.tmod x20 (rd x533000 0)) < (x5.length : Int) then (if 0 ≤ x20 then (if x20 < (x6.length : Int) then (impl_table.l0 k x5 (x6.set (x20 : Int).toNat (decide ((rd x5 (Int.tmod x20 (rd x533000 0))) ≤ x20))) x19 (wrap64 (x20 + 1)) x533000) else (none)) else (none)) else (none)) else (none))) else (none)) else (some x6)
def impl_table.f (k : Nat) (l0_0 : List Int) (a1 : Int) : Option (List Bool) := if 0 < (l0_0.length : Int) then ((impl_leasts.f k l0_0 (rd l0_0 0)).bind fun t534 => (if 0 ≤ (wrap64 (a1 + 1)) then (if (wrap64 (a1 + 1) : Int).toNat ≤ 281474976710656 then ((some (List.replicate (wrap64 (a1 + 1) : Int).toNat false : List Bool)).bind fun y537 => (impl_table.l0 k t534 y537 (y537.length : Int) 0 l0_0)) else (none)) else (none))) else (none)
def impl_table.T1 : Bool × List (List Nat × List Nat) := (true, [([], []), ([0], [0]), ([], []), ([2], [2]), ([3], [3]), ([4], [4]), ([1, 5], [1, 5]), ([6, 6, 0, 1, 2, 3, 4, 5, 6], [6])])
def impl_table.B1 : List Nat := [0, 1, 0, 4, 12, 28, 63, 127]
theorem impl_table.tab1 : rtab .any (opsOf Try.f121 1) = impl_table.T1 := by kernel_rfl
theorem impl_table.bits1 : waitsOk impl_table.T1.2 impl_table.B1 = true := by kernel_rfl
set_option maxHeartbeats 8000000 in
set_option maxRecDepth 100000 in
theorem impl_table.calls (k : Nat) (A0_0 : Option Addr) (c0_0 : Nat) (l0_0 : List Int) (a1 : Int) (r : List Bool) (w : World) (hr0_0 : Kd.C (Kd.int .i64) w A0_0 l0_0.length l0_0) (hc0_0 : l0_0.length ≤ c0_0) (h : impl_table.f k l0_0 a1 = some r) :
  Calls Try.prog 121 #[.agg #[.slice A0_0 l0_0.length c0_0], .int .i64 a1] w fun e w' => ∃ v0_ : Value, e = .returned (v0_) ∧ Kd.R Kd.bool 4 w' w.heap.size (fun _ => True) v0_ r ∧ Below w.heap.size w w' := by
 have hu27 := Try.underlying27
 have HR0_0 := am hr0_0
 have HC0_0 := am hc0_0
 clear hr0_0 hc0_0
 have HB := am (Below.refl w.heap.size w)
 have H : (if 0 < (l0_0.length : Int) then ((impl_leasts.f k l0_0 (rd l0_0 0)).bind fun t534 => (if 0 ≤ (wrap64 (a1 + 1)) then (if (wrap64 (a1 + 1) : Int).toNat ≤ 281474976710656 then ((some (List.replicate (wrap64 (a1 + 1) : Int).toNat false : List Bool)).bind fun y537 => (impl_table.l0 k t534 y537 (y537.length : Int) 0 l0_0)) else (none)) else (none))) else (none)) = some r := h
 clear h
 replace H := gp H; obtain ⟨c3, H⟩ := H
 have c3b0 : decide (0 < (l0_0.length : Int)) = true := decide_eq_true c3
 have c3b1 : decide (0 < l0_0.length) = true := decide_eq_true (by omega)
 clear c3
 replace H := ga H; obtain ⟨t534, A4, H⟩ := H
 obtain ⟨ji5, hji5⟩ : ∃ j_ : Int, (wrap64 (a1 + 1)) = j_ := ⟨_, rfl⟩
 replace H : (if 0 ≤ (ji5) then (if (ji5 : Int).toNat ≤ 281474976710656 then ((some (List.replicate (ji5 : Int).toNat false : List Bool)).bind fun y537 => (impl_table.l0 k t534 y537 (y537.length : Int) 0 l0_0)) else (none)) else (none)) = some r := by first | (rw [hji5] at H; exact H) | (simp only [hji5] at H ⊢; exact H)
 (try rw [hji5] at A4)
 have hji5w : (IntKind.i64.wrap (a1 + 1)) = ji5 := (i64_w _).trans hji5
 replace H := gp H; obtain ⟨c6, H⟩ := H
 have c6b0 := eq_true c6
 have c6b1 : decide (0 ≤ (ji5)) = true := decide_eq_true c6
 clear c6
 replace H := gp H; obtain ⟨c7, H⟩ := H
 have c7b0 := eq_true c7
 have c7b1 : decide ((ji5 : Int).toNat ≤ 281474976710656) = true := decide_eq_true c7
 clear c7
 obtain ⟨y537, hy537⟩ : ∃ y_ : List Bool, y_ = (List.replicate (ji5 : Int).toNat false) := ⟨_, rfl⟩
 replace H : (impl_table.l0 k t534 y537 (y537.length : Int) 0 l0_0) = some r := by first | (rw [hy537]; with_reducible first | exact H | exact bs H) | (with_reducible first | exact bs H | exact H) | (rw [hy537]; exact H) | exact H
 have Ny537 := am hy537
 clear hy537
 have H' := am H
 clear H
 go_enter Try.func121, Try.ntmps121
 try go_wp2_with (first | ((with_reducible refine gate_dst (N := 2) rfl ?_); refine bx 2 #[.slice A0_0 l0_0.length c0_0] 27 ?_; intro gb532 hg w8 hbox hb; have BK532 := am (hbox); have GW532 := am (gs hg : w.heap.size ≤ gb532); have GE532 := GW532; replace HB := am (below_step bw hb); clear hb hbox hg))
 replace BK532 := bd BK532
 replace HB := am (below_drew1 HB.out)
 have p533 : 0 ≤ (0 : Int) := (by omega)
 have q533 : 0 < (l0_0.length : Int) := of_decide_eq_true (by first | (with_reducible assumption) | assumption)
 obtain ⟨ad533, e533, hx533_0⟩ := Kd.at_int HR0_0.out 0 p533 q533
 have hw533_0 := hx533_0
 (try rw [show ((0 : Int)).toNat = 0 from rfl] at hw533_0)
 (try rw [show 0 * 1 = 0 from rfl] at hw533_0)
 (try rw [Addr.add_zero'] at hw533_0)
 cases e533
 have qi533 : (0 < l0_0.length) = True := eq_true (by omega)
 (try rw [show ((0 : Int)).toNat = 0 from rfl] at hx533_0)
 (try rw [Addr.add_zero'] at hx533_0)
 replace hx533_0 := hw HB hx533_0
 replace p533 := eq_true p533
 replace q533 := eq_true q533
 refine start_ (n := 8) (S := fun w' => w'.cell? ⟨gb532, 0, none⟩ = some (.slice (some ad533) l0_0.length c0_0) ∧ w'.cell? ad533 = some (.int .i64 (rd l0_0 0))) (ds := []) (yz 8 0) (by kernel_rfl) rfl rfl ⟨bc BK532 0 _, ((HB.out.cell (World.block_lt_of_cell? w _ hw533_0)).trans hw533_0)⟩ (fun hHeld => ?_); refine with_tabW impl_table.tab1 impl_table.bits1 (fun HT_ HW_ => ?_)
 generalize w8.drew = w9 at BK532 HB hx533_0 hHeld ⊢
 refine pa 0 (some 8) (yz 8 1) HT_ ?_
 refine pa 2 (some 10) (yz 8 5) HT_ ?_
 refine tk 1 (some 9) (yz 8 7) HT_ HW_ hHeld ?_
 refine tk 3 (some 11) (yz 8 15) HT_ HW_ hHeld ?_
 refine pa 4 (some 12) (yz 8 31) HT_ ?_
 refine tk 5 (some 13) (yz 8 63) HT_ HW_ hHeld ?_
 refine oa 6 (some 14) (yz 8 127) HT_ (fun K hK => ?_)
 refine gm Try.func116 #[.slice (some ad533) l0_0.length c0_0, .int .i64 (rd l0_0 0)] ?_
 with_reducible refine (impl_leasts.calls k _ _ l0_0 (rd l0_0 0) t534 _ ?side1 ?side2 A4.out).mono ?_
 (case side1 => exact co (Kd.C_below HR0_0.out HB.out))
 (case side2 => exact HC0_0.out)
 rintro e w10 ⟨v535, rfl, ho0, hb⟩
 refine ⟨_, rfl, ?_⟩
 have HO536 := am (Kd.R_lower ho0 (below_size bw))
 replace BK532 := kb BK532 hb
 replace HB := am (below_step bw hb)
 clear hb ho0
 refine hK.out _ _ ⟨bc BK532 0 _, ((HB.out.cell (World.block_lt_of_cell? w _ hw533_0)).trans hw533_0)⟩ (fun hHeld => ?_)
 clear hK K
 refine nm (some 14) ?_
 refine pa 7 (some 5) (yz 8 255) HT_ ?_
 refine done_ (done_of HT_.out (by kernel_rfl)) ?_
 try go_wp2_with (first | ((with_reducible refine gate_dst (N := 17) rfl ?_); refine Kd.R_make Kd.bool _ 4 rfl (N := 17) rfl 90 _ _ rfl ji5 rfl rfl Try.underlying90 (.bool false) 1 info4 rfl (by decide) (by omega) false (ok := fun _ => True) (okp := fun _ => True) rfl (fun _ hk => hk) trivial (of_decide_eq_true (by first | (with_reducible assumption) | assumption)) (Nat.le_trans (Nat.mul_le_mul_right _ (of_decide_eq_true (by first | (with_reducible assumption) | assumption) : ji5.toNat ≤ 281474976710656)) (by omega)) (Below.refl _ _) (Nat.le_refl _) ?_; intro v538 w11 ho12 hb hg_ hnew_; clear hg_ hnew_; (first | rw [← Ny537.out] at ho12 | (simp only [Int.reduceToNat] at ho12; rw [← Ny537.out] at ho12)); replace HO536 := rK HO536 hb; have HO539 := am (Kd.R_lower ho12 (below_size bw)); replace BK532 := kb BK532 hb; replace HB := am (below_step bw hb); clear hb ho12; obtain ⟨Ao13, co13, eo13⟩ := Kd.R_slice HO539.out; subst eo13))
 go_loopg [20] k (fun kq v20 w' => ∃ (x6_1 : List Bool) (x20_1 : Int), v20 = .int .i64 x20_1 ∧ Aside0 (impl_table.l0 kq t534 x6_1 (y537.length : Int) x20_1 l0_0 = some r) ∧ Aside0 (kq ≤ k) ∧ Aside0 (Kd.R (Kd.int .i64) 3 w' w.heap.size (fun _ => True) v535 t534) ∧ Aside0 (Kd.R Kd.bool 4 w' w.heap.size (fun _ => True) (.slice Ao13 y537.length co13) x6_1) ∧ Aside0 (w'.heap[gb532]? = some (.cells #[(.slice (some ad533) l0_0.length c0_0)] 27 (0, 0))) ∧ Aside0 (Below w.heap.size w w'))
 case atStart => exact ⟨(y537), (0), rr, H', ⟨Nat.le_refl _⟩, ⟨ro HO536.out⟩, ⟨ro HO539.out⟩, ⟨bo BK532.out⟩, ⟨bw⟩⟩
 case round =>
  clear H'
  try clear c3; try clear c3b0; try clear c3b1; try clear c6; try clear c6b0; try clear c6b1; try clear c7; try clear c7b0; try clear c7b1; try clear hx533_0; try clear p533; try clear q533
  obtain ⟨x6_1, x20_1, rfl, HA, HK1, HO_5, HO_6, BK532, HB⟩ := hrel
  have hl6_1 := (Kd.R_reads' HO_6.out).1
  rw [hl6_1] at HO_6
  (try simp only [hl6_1])
  (try simp only [hl6_1] at BK532)
  (try simp only [hl6_1] at HO_5)
  cases gk with
  | zero => exact absurd HA.out (by simp [impl_table.l0])
  | succ k1 =>
   have H := HA.out
   clear HA
   simp only [impl_table.l0] at H
   by_cases c14 : x20_1 < (y537.length : Int)
   ·rw [if_pos c14] at H
    have c14b0 : decide (x20_1 < (y537.length : Int)) = true := decide_eq_true c14
    (try simp only [hl6_1] at c14b0)
    clear c14
    replace H := gp H; obtain ⟨c15, H⟩ := H
    have c15b0 : decide (0 < (l0_0.length : Int)) = true := decide_eq_true c15
    have c15b1 : decide (0 < l0_0.length) = true := decide_eq_true (by omega)
    clear c15
    by_cases c16 : (rd l0_0 0) = 0
    ·rw [if_pos c16] at H
     exact absurd H (by simp)
    rw [if_neg c16] at H
    have c16b0 : ((rd l0_0 0) == 0) = false := beq_eq_false_iff_ne.mpr c16
    have c16b1 : ((rd l0_0 0) != 0) = true := bne_iff_ne.mpr c16
    obtain ⟨ji17, hji17⟩ : ∃ j_ : Int, (Int.tmod x20_1 (rd l0_0 0)) = j_ := ⟨_, rfl⟩
    replace H : (if 0 ≤ (ji17) then (if (ji17) < (t534.length : Int) then (if 0 ≤ x20_1 then (if x20_1 < (x6_1.length : Int) then (impl_table.l0 k1 t534 (x6_1.set (x20_1 : Int).toNat (decide ((rd t534 (ji17)) ≤ x20_1))) (y537.length : Int) (wrap64 (x20_1 + 1)) l0_0) else (none)) else (none)) else (none)) else (none)) = some r := by first | (rw [hji17] at H; exact H) | (simp only [hji17] at H ⊢; exact H)
    replace H := gd H; obtain ⟨c18b0, H⟩ := H
    replace H := gd H; obtain ⟨c19b0, H⟩ := H
    replace H := gd H; obtain ⟨c20b0, H⟩ := H
    by_cases c21 : x20_1 < (x6_1.length : Int)
    rotate_left
    ·rw [if_neg c21] at H
     exact absurd H (by simp)
    rw [if_pos c21] at H
    have c21b0 : decide (x20_1 < (x6_1.length : Int)) = true := decide_eq_true c21
    (try simp only [hl6_1] at c21b0)
    clear c21
    obtain ⟨y542, hy542⟩ : ∃ y_ : List Bool, y_ = (x6_1.set (x20_1 : Int).toNat (decide ((rd t534 (ji17)) ≤ x20_1))) := ⟨_, rfl⟩
    replace H : (impl_table.l0 k1 t534 y542 (y537.length : Int) (wrap64 (x20_1 + 1)) l0_0) = some r := by first | (rw [hy542]; with_reducible first | exact H | exact bs H) | (with_reducible first | exact bs H | exact H) | (rw [hy542]; exact H) | exact H
    have Ny542 := am hy542
    clear hy542
    have H' := am H
    clear H
    have hcz23_0 := bc BK532 0 (.slice (some ad533) l0_0.length c0_0)
    have hfz23_0 := blk_frozen BK532.out 0
    have p540 : 0 ≤ (0 : Int) := (by omega)
    have q540 : 0 < (l0_0.length : Int) := of_decide_eq_true (by first | (with_reducible assumption) | assumption)
    obtain ⟨ad540, e540, hx540_0⟩ := Kd.at_int HR0_0.out 0 p540 q540
    obtain rfl : ad533 = ad540 := (by injection e540)
    have qi540 : (0 < l0_0.length) = True := eq_true (by omega)
    (try rw [show ((0 : Int)).toNat = 0 from rfl] at hx540_0)
    (try rw [Addr.add_zero'] at hx540_0)
    replace hx540_0 := hw HB hx540_0
    replace p540 := eq_true p540
    replace q540 := eq_true q540
    obtain ⟨Ao24, co24, eo24⟩ := Kd.R_slice HO_5.out
    subst eo24
    obtain ⟨⟨ad541, e541, hx541_0⟩, p541, q541⟩ := pq (Kd.at_int (Kd.R_reads' HO_5.out).2.2 (ji17))
    cases e541
    have p22 : 0 ≤ (x20_1 : Int) := of_decide_eq_true (by first | (with_reducible assumption) | assumption)
    have q22 : (x20_1 : Int) < ((x6_1.length : Int) : Int) := of_decide_eq_true (by first | (with_reducible assumption) | assumption)
    obtain ⟨go22, co22, eo22, gb22, gl22, cl22, HG22⟩ := Kd.R_form HO_6.out (by omega)
    (first | cases eo22 | (injection eo22 with ea_ en_ ec_; (first | subst ea_ | (injection ea_ with ea_; subst ea_)); subst ec_; clear en_))
    have GB22 := am gb22
    have GG22 := am HG22
    clear gb22 gl22 HG22
    obtain ⟨hx22_0, hf22_0⟩ := Kd.R_celln false HO_6.out (x20_1 : Int) p22 q22
    replace p22 := eq_true p22
    replace q22 := eq_true q22
    have HP25 := Kd.R_putg HO_6.out (x20_1 : Int) (decide ((rd t534 (ji17)) ≤ x20_1))
    go_wp2_with (first | ((with_reducible refine gate_store (t := 4) (p := 36) rfl ?_); refine store_event (t := 4) (p := 36) (v := ?vo_w26) (w1 := (wr.setCell ⟨go22, (x20_1 : Int).toNat, none⟩ (.bool (decide ((rd t534 (ji17)) ≤ x20_1))))) ?hg ?ho ?hn ?hr ?_; (case ho => rfl); (case hg => rfl); (case hn => rfl); (case hr => first | (go_simp; done) | (go_simp; rfl)); intro w26 hw; have hg : wr.grownBy w26 (some go22) := (by rw [hw]; exact HP25.2); have hp_ : Kd.R Kd.bool 4 w26 w.heap.size (fun _ => True) (.slice (some ⟨go22, 0, none⟩) x6_1.length co13) y542 := (by rw [hw, Ny542.out]; exact HP25.1); clear HP25; replace HO_5 := am (Kd.R_over' (v := (.slice (some ⟨go22, 0, none⟩) x6_1.length co13)) (ro HO_5.out) (Kd.R_typed HO_6.out) (by decide) hg); replace BK532 := am (blk_grown (g := gb532) (o := .cells #[.slice (some ad533) l0_0.length c0_0] 27 (0, 0)) (bo BK532.out) hg (Kd.R_ne HO_6.out BK532.out (by decide))); replace HO_6 := am (hp_); replace HB := am ((by rw [hw]; exact below_set (HB.out) GB22.out : Below w.heap.size w w26)); clear hg hw hp_))
    (try simp only [← hl6_1])
    go_roundg k1
    case measure => have := HK1.out; omega
    case rel => exact ⟨(y542), (wrap64 (x20_1 + 1)), rr, H', ⟨by have := HK1.out; omega⟩, ⟨by (try simp only [hl6_1]); (with_reducible repeat (first | apply Kd.R_alloc | apply Kd.R_drewN | apply Kd.R_drew)); exact HO_5.out⟩, ⟨by (try simp only [hl6_1]); (with_reducible repeat (first | apply Kd.R_alloc | apply Kd.R_drewN | apply Kd.R_drew)); exact HO_6.out⟩, ⟨by (try simp only [hl6_1]); (with_reducible repeat (first | refine blk_drewN ?_ _ | refine blk_drew ?_ | refine blk_alloc ?_ _)); exact BK532.out⟩, ⟨bw⟩⟩
   rw [if_neg c14] at H
   have c14b0 : decide (x20_1 < (y537.length : Int)) = false := decide_eq_false c14
   (try simp only [hl6_1] at c14b0)
   clear c14
   obtain rfl := Option.some.inj H
   go_wp2
   go_ret
   exact ⟨_, by first | rfl | (simp [errW_none, errW_some] <;> rfl) | (simp only [← hji5]; first | rfl | (simp [errW_none, errW_some] <;> rfl)) | (simp [*, errW_none, errW_some] <;> rfl), ro HO_6.out, bw⟩


/-! ### impl_Gaps: function 79 -/
def impl_Gaps.l0 : Nat → List Int → List Bool → Int → Int → Option (List Int)
 | 0, _, _, _, _ => none
 | k + 1, x3, x11, x12, x13 => if x13 < x12 then (if 0 ≤ x13 then (if x13 < (x11.length : Int) then (if rdOf false x11 x13 = true then (impl_Gaps.l0 k x3 x11 x12 (wrap64 (x13 + 1))) else (if x3.length < 17592186044416 then (impl_Gaps.l0 k (x3 ++ [x13]) x11 x12 (wrap64 (x13 + 1))) else (none))) else (none)) else (none)) else (some x3)
def impl_Gaps.f (k : Nat) (l0_0 : List Int) : Option (List Int) := (impl_IsSemigroup.f k l0_0).bind fun t544 => (if t544 = true then ((impl_table.f k l0_0 200).bind fun t548 => (impl_Gaps.l0 k (([] : List Int)) t548 (t548.length : Int) 0)) else (some ([] : List Int)))
set_option maxHeartbeats 8000000 in
set_option maxRecDepth 100000 in
theorem impl_Gaps.calls (k : Nat) (A0_0 : Option Addr) (c0_0 : Nat) (l0_0 : List Int) (r : List Int) (w : World) (hr0_0 : Kd.C (Kd.int .i64) w A0_0 l0_0.length l0_0) (hc0_0 : l0_0.length ≤ c0_0) (h : impl_Gaps.f k l0_0 = some r) :
  Calls Try.prog 79 #[.agg #[.slice A0_0 l0_0.length c0_0]] w fun e w' => ∃ v0_ : Value, e = .returned (v0_) ∧ Kd.R (Kd.int .i64) 3 w' w.heap.size (fun _ => True) v0_ r ∧ Below w.heap.size w w' := by
 have hu27 := Try.underlying27
 have HR0_0 := am hr0_0
 have HC0_0 := am hc0_0
 clear hr0_0 hc0_0
 have HB := am (Below.refl w.heap.size w)
 have H : ((impl_IsSemigroup.f k l0_0).bind fun t544 => (if t544 = true then ((impl_table.f k l0_0 200).bind fun t548 => (impl_Gaps.l0 k (([] : List Int)) t548 (t548.length : Int) 0)) else (some ([] : List Int)))) = some r := h
 clear h
 replace H := ga H; obtain ⟨t544, A2, H⟩ := H
 replace H := gb H; obtain ⟨rfl, H⟩ | ⟨rfl, H⟩ := H
 ·obtain ⟨y545, hy545⟩ : ∃ y_ : List Int, y_ = (([] : List Int)) := ⟨_, rfl⟩
  replace H : ((impl_table.f k l0_0 200).bind fun t548 => (impl_Gaps.l0 k y545 t548 (t548.length : Int) 0)) = some r := by first | (rw [hy545]; with_reducible first | exact H | exact bs H) | (with_reducible first | exact bs H | exact H) | (rw [hy545]; exact H) | exact H
  have Ny545 := am hy545
  clear hy545
  replace H := ga H; obtain ⟨t548, A4, H⟩ := H
  have H' := am H
  clear H
  go_enter Try.func79, Try.ntmps79
  go_wp2_with (first | ((with_reducible refine gate_dst (N := 1) rfl ?_); refine bx 1 #[.slice A0_0 l0_0.length c0_0] 27 ?_; intro gb543 hg w5 hbox hb; have BK543 := am (hbox); have GW543 := am (gs hg : w.heap.size ≤ gb543); have GE543 := GW543; replace HB := am (below_step bw hb); clear hb hbox hg; have hcz6_0 := bc BK543 0 (.slice A0_0 l0_0.length c0_0); have hfz6_0 := blk_frozen BK543.out 0) | ((with_reducible refine gate_callee (f := 62) rfl ?_); refine gl (some 7) Try.func62 #[.agg #[.slice A0_0 l0_0.length c0_0]] ?_; (with_reducible refine (impl_IsSemigroup.calls k _ _ l0_0 true _ ?side1 ?side2 A2.out).mono ?_); (case side1 => exact co (Kd.C_below HR0_0.out HB.out)); (case side2 => exact HC0_0.out); rintro e w7 ⟨rfl, hb⟩; refine ⟨_, rfl, ?_⟩; replace BK543 := kb BK543 hb; replace HB := am (below_step bw hb); clear hb) | ((with_reducible refine gate_dst (N := 9) rfl ?_); refine Kd.R_lit (Kd.int .i64) _ 3 ?hg (N := 9) ?hd (xs := ([] : List Int)) (inner := []) (ok := fun _ => True) (okp := fun _ => True) ?hr ?hp (fun _ hk => hk) trivial (Below.refl _ _) (Nat.le_refl _) (by simp) ?_; (case hd => rfl); (case hg => rfl); (case hr => first | (go_simp; done) | (go_simp; rfl)); (case hp => exact (Reps.none _ _)); intro v546 w8 ho9 hb hg_ hnew_; clear hg_ hnew_; (first | rw [← Ny545.out] at ho9 | (simp only [Int.reduceToNat] at ho9; rw [← Ny545.out] at ho9)); have HO547 := am (Kd.R_lower ho9 (below_size bw)); replace BK543 := kb BK543 hb; replace HB := am (below_step bw hb); clear hb ho9; have hcz10_0 := bc BK543 0 (.slice A0_0 l0_0.length c0_0); have hfz10_0 := blk_frozen BK543.out 0) | ((with_reducible refine gate_callee (f := 121) rfl ?_); refine gl (some 11) Try.func121 #[.agg #[.slice A0_0 l0_0.length c0_0], .int .i64 200] ?_; (with_reducible refine (impl_table.calls k _ _ l0_0 200 t548 _ ?side1 ?side2 A4.out).mono ?_); (case side1 => exact co (Kd.C_below HR0_0.out HB.out)); (case side2 => exact HC0_0.out); rintro e w11 ⟨v549, rfl, ho0, hb⟩; refine ⟨_, rfl, ?_⟩; replace HO547 := rK HO547 hb; have HO550 := am (Kd.R_lower ho0 (below_size bw)); replace BK543 := kb BK543 hb; replace HB := am (below_step bw hb); clear hb ho0; obtain ⟨Ao12, co12, eo12⟩ := Kd.R_slice HO550.out; subst eo12))
  go_loopg [3, 13] k (fun kq v3 v13 w' => ∃ (x3_1 : List Int) (x13_1 : Int), v13 = .int .i64 x13_1 ∧ Aside0 (impl_Gaps.l0 kq x3_1 t548 (t548.length : Int) x13_1 = some r) ∧ Aside0 (kq ≤ k) ∧ Aside0 (Kd.R (Kd.int .i64) 3 w' w.heap.size (fun _ => True) v3 x3_1) ∧ Aside0 (Kd.R Kd.bool 4 w' w.heap.size (fun _ => True) (.slice Ao12 t548.length co12) t548) ∧ Aside0 (w'.heap[gb543]? = some (.cells #[(.slice A0_0 l0_0.length c0_0)] 27 (0, 0))) ∧ Aside0 (Below w.heap.size w w'))
  case atStart => exact ⟨(y545), (0), rr, H', ⟨Nat.le_refl _⟩, ⟨ro HO547.out⟩, ⟨ro HO550.out⟩, ⟨bo BK543.out⟩, ⟨bw⟩⟩
  case round =>
   clear H'
   try clear hcz10_0; try clear hcz6_0; try clear hfz10_0; try clear hfz6_0
   obtain ⟨x3_1, x13_1, rfl, HA, HK1, HO_3, HO_11, BK543, HB⟩ := hrel
   cases gk with
   | zero => exact absurd HA.out (by simp [impl_Gaps.l0])
   | succ k1 =>
    have H := HA.out
    clear HA
    simp only [impl_Gaps.l0] at H
    replace H := gi H; obtain ⟨c13b0, H⟩ | ⟨c13b0, H⟩ := H
    ·replace H := gd H; obtain ⟨c14b0, H⟩ := H
     replace H := gd H; obtain ⟨c15b0, H⟩ := H
     obtain ⟨bq16, hbq16⟩ : ∃ b_ : Bool, b_ = (rdOf false t548 x13_1) := ⟨_, rfl⟩
     replace H : (if bq16 = true then (impl_Gaps.l0 k1 x3_1 t548 (t548.length : Int) (wrap64 (x13_1 + 1))) else (if x3_1.length < 17592186044416 then (impl_Gaps.l0 k1 (x3_1 ++ [x13_1]) t548 (t548.length : Int) (wrap64 (x13_1 + 1))) else (none))) = some r := by rw [← hbq16] at H; exact H
     have Nbq16 := am hbq16
     clear hbq16
     replace H := gb H; obtain ⟨rfl, H⟩ | ⟨rfl, H⟩ := H
     ·have H' := am H
      clear H
      obtain ⟨⟨ad551, e551, hx551_0⟩, p551, q551⟩ := pq (Kd.at_bool (Kd.R_reads' HO_11.out).2.2 x13_1)
      (try rw [← Nbq16.out] at hx551_0)
      cases e551
      go_wp2
      go_roundg k1
      case measure => have := HK1.out; omega
      case rel => exact ⟨(x3_1), (wrap64 (x13_1 + 1)), rr, H', ⟨by have := HK1.out; omega⟩, ⟨ro HO_3.out⟩, ⟨ro HO_11.out⟩, ⟨bo BK543.out⟩, ⟨bw⟩⟩
     by_cases c18 : x3_1.length < 17592186044416
     rotate_left
     ·rw [if_neg c18] at H
      exact absurd H (by simp)
     rw [if_pos c18] at H
     have LMc18 := am c18
     clear c18
     obtain ⟨y552, hy552⟩ : ∃ y_ : List Int, y_ = (x3_1 ++ [x13_1]) := ⟨_, rfl⟩
     replace H : (impl_Gaps.l0 k1 y552 t548 (t548.length : Int) (wrap64 (x13_1 + 1))) = some r := by first | (rw [hy552]; with_reducible first | exact H | exact bs H) | (with_reducible first | exact bs H | exact H) | (rw [hy552]; exact H) | exact H
     have Ny552 := am hy552
     clear hy552
     have H' := am H
     clear H
     obtain ⟨⟨ad551, e551, hx551_0⟩, p551, q551⟩ := pq (Kd.at_bool (Kd.R_reads' HO_11.out).2.2 x13_1)
     (try rw [← Nbq16.out] at hx551_0)
     cases e551
     go_wp2_with (first | ((with_reducible refine gate_builtin (b := .append) (xs := #[.tmp 20, .tmp 22]) rfl ?_); at_builtin; refine Kd.R_append (Kd.int .i64) (w0 := w) w.heap.size rfl (.tmp 20) (.tmp 22) 22 3 (.int .i64 0) 8 rfl Try.underlying22 info3 rfl (by decide) (by omega) u3 x3_1 x13_1 [.int .i64 x13_1] (fun _ => True) (fun _ => False) rfl rfl ?aP (fun _ hk => hk.elim) ?aF ?aO ?aB ?aS ?aL ?_; (case aP => exact rfl); (case aB => exact bw); (case aF => exact (fun _ _ => trivial)); (case aO => exact (ro HO_3.out)); (case aS => exact (below_size bw)); (case aL => have := LMc18.out; omega); intro v553 w19 ho hb hg hat; rw [← Ny552.out] at ho; replace HO_11 := am (Kd.R_over' (ro HO_11.out) (Kd.R_typed (ro HO_3.out)) (by decide) hg); replace BK543 := am (blk_grown (g := gb543) (o := .cells #[.slice A0_0 l0_0.length c0_0] 27 (0, 0)) (bo BK543.out) hg (Kd.R_ne HO_3.out BK543.out (by decide))); replace HB := am (hb); have HO554 := am (ho); clear HO_3 ho hb hg hat))
     go_roundg k1
     case measure => have := HK1.out; omega
     case rel => exact ⟨(y552), (wrap64 (x13_1 + 1)), rr, H', ⟨by have := HK1.out; omega⟩, ⟨ro HO554.out⟩, ⟨ro HO_11.out⟩, ⟨bo BK543.out⟩, ⟨bw⟩⟩
    obtain rfl := Option.some.inj H
    go_wp2
    go_ret
    exact ⟨_, re, ro HO_3.out, bw⟩
 obtain rfl := Option.some.inj H
 go_enter Try.func79, Try.ntmps79
 go_wp2_with (first | ((with_reducible refine gate_dst (N := 1) rfl ?_); refine bx 1 #[.slice A0_0 l0_0.length c0_0] 27 ?_; intro gb543 hg w20 hbox hb; have BK543 := am (hbox); have GW543 := am (gs hg : w.heap.size ≤ gb543); have GE543 := GW543; replace HB := am (below_step bw hb); clear hb hbox hg; have hcz21_0 := bc BK543 0 (.slice A0_0 l0_0.length c0_0); have hfz21_0 := blk_frozen BK543.out 0) | ((with_reducible refine gate_callee (f := 62) rfl ?_); refine gl (some 7) Try.func62 #[.agg #[.slice A0_0 l0_0.length c0_0]] ?_; (with_reducible refine (impl_IsSemigroup.calls k _ _ l0_0 false _ ?side1 ?side2 A2.out).mono ?_); (case side1 => exact co (Kd.C_below HR0_0.out HB.out)); (case side2 => exact HC0_0.out); rintro e w22 ⟨rfl, hb⟩; refine ⟨_, rfl, ?_⟩; replace BK543 := kb BK543 hb; replace HB := am (below_step bw hb); clear hb))
 go_ret
 exact ⟨_, re, by first | exact Kd.R_nil _ _ _ _ _ | exact Kd.N_nil _ _ _ _ _ | exact Kd.V_nil _ _ _ _ _ | exact Kd.Q_nil _ _ _ _ _ | exact Kd.S_nil _ _ _ _ _, bw⟩


/-! ### impl_FrobeniusOf: function 70 -/
def impl_FrobeniusOf.f (k : Nat) (l0_0 : List Int) : Option (Int) := (impl_Gaps.f k l0_0).bind fun t556 => (if (t556.length : Int) = 0 then (some (-1)) else (if 0 ≤ (wrap64 ((t556.length : Int) - 1)) then (if (wrap64 ((t556.length : Int) - 1)) < (t556.length : Int) then (some (rd t556 (wrap64 ((t556.length : Int) - 1)))) else (none)) else (none)))
set_option maxHeartbeats 8000000 in
set_option maxRecDepth 100000 in
theorem impl_FrobeniusOf.calls (k : Nat) (A0_0 : Option Addr) (c0_0 : Nat) (l0_0 : List Int) (r : Int) (w : World) (hr0_0 : Kd.C (Kd.int .i64) w A0_0 l0_0.length l0_0) (hc0_0 : l0_0.length ≤ c0_0) (h : impl_FrobeniusOf.f k l0_0 = some r) :
  Calls Try.prog 70 #[.agg #[.slice A0_0 l0_0.length c0_0]] w fun e w' => e = .returned (.int .i64 r) ∧ Below w.heap.size w w' := by
 have hu27 := Try.underlying27
 have HR0_0 := am hr0_0
 have HC0_0 := am hc0_0
 clear hr0_0 hc0_0
 have HB := am (Below.refl w.heap.size w)
 have H : ((impl_Gaps.f k l0_0).bind fun t556 => (if (t556.length : Int) = 0 then (some (-1)) else (if 0 ≤ (wrap64 ((t556.length : Int) - 1)) then (if (wrap64 ((t556.length : Int) - 1)) < (t556.length : Int) then (some (rd t556 (wrap64 ((t556.length : Int) - 1)))) else (none)) else (none)))) = some r := h
 clear h
 replace H := ga H; obtain ⟨t556, A2, H⟩ := H
 by_cases c3 : (t556.length : Int) = 0
 ·rw [if_pos c3] at H
  have c3b0 : ((t556.length : Int) == 0) = true := beq_iff_eq.mpr c3
  have c3b1 : ((t556.length : Int) != 0) = false := bne_eq_false_iff_eq.mpr c3
  clear c3
  obtain rfl := Option.some.inj H
  go_enter Try.func70, Try.ntmps70
  go_wp2_with (first | ((with_reducible refine gate_dst (N := 1) rfl ?_); refine bx 1 #[.slice A0_0 l0_0.length c0_0] 27 ?_; intro gb555 hg w4 hbox hb; have BK555 := am (hbox); have GW555 := am (gs hg : w.heap.size ≤ gb555); have GE555 := GW555; replace HB := am (below_step bw hb); clear hb hbox hg; have hcz5_0 := bc BK555 0 (.slice A0_0 l0_0.length c0_0); have hfz5_0 := blk_frozen BK555.out 0) | ((with_reducible refine gate_callee (f := 79) rfl ?_); refine gl (some 5) Try.func79 #[.agg #[.slice A0_0 l0_0.length c0_0]] ?_; (with_reducible refine (impl_Gaps.calls k _ _ l0_0 t556 _ ?side1 ?side2 A2.out).mono ?_); (case side1 => exact co (Kd.C_below HR0_0.out HB.out)); (case side2 => exact HC0_0.out); rintro e w6 ⟨v557, rfl, ho0, hb⟩; refine ⟨_, rfl, ?_⟩; have HO558 := am (Kd.R_lower ho0 (below_size bw)); replace BK555 := kb BK555 hb; replace HB := am (below_step bw hb); clear hb ho0; obtain ⟨Ao7, co7, eo7⟩ := Kd.R_slice HO558.out; subst eo7))
  go_ret
  exact ⟨re, bw⟩
 rw [if_neg c3] at H
 have c3b0 : ((t556.length : Int) == 0) = false := beq_eq_false_iff_ne.mpr c3
 have c3b1 : ((t556.length : Int) != 0) = true := bne_iff_ne.mpr c3
 have c3b2 : ¬ (t556 = []) := fun h_ => c3 (by rw [h_]; rfl)
 obtain ⟨ji8, hji8⟩ : ∃ j_ : Int, (wrap64 ((t556.length : Int) - 1)) = j_ := ⟨_, rfl⟩
 replace H : (if 0 ≤ (ji8) then (if (ji8) < (t556.length : Int) then (some (rd t556 (ji8))) else (none)) else (none)) = some r := by first | (rw [hji8] at H; exact H) | (simp only [hji8] at H ⊢; exact H)
 (try rw [hji8] at A2)
 have hji8w : (IntKind.i64.wrap ((t556.length : Int) - 1)) = ji8 := (i64_w _).trans hji8
 replace H := gd H; obtain ⟨c9b0, H⟩ := H
 replace H := gd H; obtain ⟨c10b0, H⟩ := H
 obtain rfl := Option.some.inj H
 go_enter Try.func70, Try.ntmps70
 go_wp2_with (first | ((with_reducible refine gate_dst (N := 1) rfl ?_); refine bx 1 #[.slice A0_0 l0_0.length c0_0] 27 ?_; intro gb555 hg w11 hbox hb; have BK555 := am (hbox); have GW555 := am (gs hg : w.heap.size ≤ gb555); have GE555 := GW555; replace HB := am (below_step bw hb); clear hb hbox hg; have hcz12_0 := bc BK555 0 (.slice A0_0 l0_0.length c0_0); have hfz12_0 := blk_frozen BK555.out 0) | ((with_reducible refine gate_callee (f := 79) rfl ?_); refine gl (some 5) Try.func79 #[.agg #[.slice A0_0 l0_0.length c0_0]] ?_; (with_reducible refine (impl_Gaps.calls k _ _ l0_0 t556 _ ?side1 ?side2 A2.out).mono ?_); (case side1 => exact co (Kd.C_below HR0_0.out HB.out)); (case side2 => exact HC0_0.out); rintro e w13 ⟨v557, rfl, ho0, hb⟩; refine ⟨_, rfl, ?_⟩; have HO558 := am (Kd.R_lower ho0 (below_size bw)); replace BK555 := kb BK555 hb; replace HB := am (below_step bw hb); clear hb ho0; obtain ⟨Ao14, co14, eo14⟩ := Kd.R_slice HO558.out; subst eo14; have p559 : 0 ≤ ((ji8) : Int) := of_decide_eq_true (by first | (with_reducible assumption) | assumption); have q559 : (ji8) < (t556.length : Int) := of_decide_eq_true (by first | (with_reducible assumption) | assumption); obtain ⟨ad559, e559, hx559_0⟩ := Kd.at_int (Kd.R_reads' HO558.out).2.2 (ji8) p559 q559; cases e559; replace p559 := eq_true p559; replace q559 := eq_true q559))
 go_ret
 exact ⟨by first | rfl | (simp [errW_none, errW_some] <;> rfl) | (simp only [← hji8]; first | rfl | (simp [errW_none, errW_some] <;> rfl)) | (simp [*, errW_none, errW_some] <;> rfl), bw⟩


/-! ### impl_BettiElements: function 36 -/
def impl_BettiElements.l0 : Nat → Int → List Int → Int → List Int → Option (List Int × Bool)
 | 0, _, _, _, _ => none
 | k + 1, x4, x5, x6, x561000 => if x6 ≤ x4 then ((impl_ClassesOf.f k x561000 x6).bind fun t568 => (if (t568.length : Int) > 1 then (if x5.length < 17592186044416 then (impl_BettiElements.l0 k x4 (x5 ++ [x6]) (wrap64 (x6 + 1)) x561000) else (none)) else (impl_BettiElements.l0 k x4 x5 (wrap64 (x6 + 1)) x561000))) else (some (x5, true))
def impl_BettiElements.f (k : Nat) (l0_0 : List Int) : Option (List Int × Bool) := (impl_IsSemigroup.f k l0_0).bind fun t561 => (if t561 = true then ((impl_FrobeniusOf.f k l0_0).bind fun t562 => (if 0 < (l0_0.length : Int) then (if 0 ≤ (wrap64 ((l0_0.length : Int) - 1)) then (if (wrap64 ((l0_0.length : Int) - 1)) < (l0_0.length : Int) then (if (wrap64 ((wrap64 (t562 + (rd l0_0 0))) + (wrap64 (2 * (rd l0_0 (wrap64 ((l0_0.length : Int) - 1))))))) > 100 then (some (([] : List Int), false)) else (impl_BettiElements.l0 k (wrap64 ((wrap64 (t562 + (rd l0_0 0))) + (wrap64 (2 * (rd l0_0 (wrap64 ((l0_0.length : Int) - 1))))))) (([] : List Int)) 0 l0_0)) else (none)) else (none)) else (none))) else (some (([] : List Int), false)))
def impl_BettiElements.T3 : Bool × List (List Nat × List Nat) := (true, [([], []), ([0], [0]), ([], []), ([2], [2]), ([3], [3]), ([4], [4]), ([1, 5], [1, 5]), ([], []), ([7], [7]), ([], []), ([9], [9]), ([10], [10]), ([11], [11]), ([8, 12], [8, 12]), ([13], [13]), ([14], [14]), ([6, 15], [6, 15]), ([16, 1, 0, 1, 2, 3, 4, 5, 6, 7, 8, 9, 10, 11, 12, 13, 14, 15, 16], [16])])
def impl_BettiElements.B3 : List Nat := [0, 1, 0, 4, 12, 28, 63, 0, 128, 0, 512, 1536, 3584, 8064, 16256, 32640, 65535, 131071]
theorem impl_BettiElements.tab3 : rtab .any (opsOf Try.f36 3) = impl_BettiElements.T3 := by kernel_rfl
theorem impl_BettiElements.bits3 : waitsOk impl_BettiElements.T3.2 impl_BettiElements.B3 = true := by kernel_rfl
set_option maxHeartbeats 8000000 in
set_option maxRecDepth 100000 in
theorem impl_BettiElements.calls (k : Nat) (A0_0 : Option Addr) (c0_0 : Nat) (l0_0 : List Int) (r1 : List Int) (r2 : Bool) (w : World) (hr0_0 : Kd.C (Kd.int .i64) w A0_0 l0_0.length l0_0) (hc0_0 : l0_0.length ≤ c0_0) (h : impl_BettiElements.f k l0_0 = some (r1, r2)) :
  Calls Try.prog 36 #[.agg #[.slice A0_0 l0_0.length c0_0]] w fun e w' => ∃ v0_ : Value, e = .returned (.tuple #[v0_, .bool r2]) ∧ Kd.R (Kd.int .i64) 3 w' w.heap.size (fun _ => True) v0_ r1 ∧ Below w.heap.size w w' := by
 have hu27 := Try.underlying27
 have HR0_0 := am hr0_0
 have HC0_0 := am hc0_0
 clear hr0_0 hc0_0
 have HB := am (Below.refl w.heap.size w)
 have H : ((impl_IsSemigroup.f k l0_0).bind fun t561 => (if t561 = true then ((impl_FrobeniusOf.f k l0_0).bind fun t562 => (if 0 < (l0_0.length : Int) then (if 0 ≤ (wrap64 ((l0_0.length : Int) - 1)) then (if (wrap64 ((l0_0.length : Int) - 1)) < (l0_0.length : Int) then (if (wrap64 ((wrap64 (t562 + (rd l0_0 0))) + (wrap64 (2 * (rd l0_0 (wrap64 ((l0_0.length : Int) - 1))))))) > 100 then (some (([] : List Int), false)) else (impl_BettiElements.l0 k (wrap64 ((wrap64 (t562 + (rd l0_0 0))) + (wrap64 (2 * (rd l0_0 (wrap64 ((l0_0.length : Int) - 1))))))) (([] : List Int)) 0 l0_0)) else (none)) else (none)) else (none))) else (some (([] : List Int), false)))) = some (r1, r2) := h
 clear h
 replace H := ga H; obtain ⟨t561, A2, H⟩ := H
 replace H := gb H; obtain ⟨rfl, H⟩ | ⟨rfl, H⟩ := H
 ·replace H := ga H; obtain ⟨t562, A4, H⟩ := H
  replace H := gp H; obtain ⟨c5, H⟩ := H
  have c5b0 : decide (0 < (l0_0.length : Int)) = true := decide_eq_true c5
  have c5b1 : decide (0 < l0_0.length) = true := decide_eq_true (by omega)
  clear c5
  obtain ⟨ji6, hji6⟩ : ∃ j_ : Int, (wrap64 ((l0_0.length : Int) - 1)) = j_ := ⟨_, rfl⟩
  replace H : (if 0 ≤ (ji6) then (if (ji6) < (l0_0.length : Int) then (if (wrap64 ((wrap64 (t562 + (rd l0_0 0))) + (wrap64 (2 * (rd l0_0 (ji6)))))) > 100 then (some (([] : List Int), false)) else (impl_BettiElements.l0 k (wrap64 ((wrap64 (t562 + (rd l0_0 0))) + (wrap64 (2 * (rd l0_0 (ji6)))))) (([] : List Int)) 0 l0_0)) else (none)) else (none)) = some (r1, r2) := by first | (rw [hji6] at H; exact H) | (simp only [hji6] at H ⊢; exact H)
  (try rw [hji6] at A2)
  (try rw [hji6] at A4)
  have hji6w : (IntKind.i64.wrap ((l0_0.length : Int) - 1)) = ji6 := (i64_w _).trans hji6
  replace H := gd H; obtain ⟨c7b0, H⟩ := H
  replace H := gd H; obtain ⟨c8b0, H⟩ := H
  replace H := gj H; obtain ⟨c9, H⟩ | ⟨c9, H⟩ := H
  ·have c9b0 : decide (100 < (wrap64 ((wrap64 (t562 + (rd l0_0 0))) + (wrap64 (2 * (rd l0_0 (ji6))))))) = true := decide_eq_true c9
   clear c9
   simp only [Option.some.injEq, Prod.mk.injEq] at H
   obtain ⟨rfl, rfl⟩ := H
   go_enter Try.func36, Try.ntmps36
   try go_wp2_with (first | ((with_reducible refine gate_dst (N := 1) rfl ?_); refine bx 1 #[.slice A0_0 l0_0.length c0_0] 27 ?_; intro gb560 hg w10 hbox hb; have BK560 := am (hbox); have GW560 := am (gs hg : w.heap.size ≤ gb560); have GE560 := GW560; replace HB := am (below_step bw hb); clear hb hbox hg; have hcz11_0 := bc BK560 0 (.slice A0_0 l0_0.length c0_0); have hfz11_0 := blk_frozen BK560.out 0) | ((with_reducible refine gate_callee (f := 62) rfl ?_); refine gl (some 8) Try.func62 #[.agg #[.slice A0_0 l0_0.length c0_0]] ?_; (with_reducible refine (impl_IsSemigroup.calls k _ _ l0_0 true _ ?side1 ?side2 A2.out).mono ?_); (case side1 => exact co (Kd.C_below HR0_0.out HB.out)); (case side2 => exact HC0_0.out); rintro e w12 ⟨rfl, hb⟩; refine ⟨_, rfl, ?_⟩; replace BK560 := kb BK560 hb; replace HB := am (below_step bw hb); clear hb))
   replace BK560 := bd BK560
   replace HB := am (below_drew1 HB.out)
   have p563 : 0 ≤ (0 : Int) := (by omega)
   have q563 : 0 < (l0_0.length : Int) := of_decide_eq_true (by first | (with_reducible assumption) | assumption)
   obtain ⟨ad563, e563, hx563_0⟩ := Kd.at_int HR0_0.out 0 p563 q563
   have hw563_0 := hx563_0
   (try rw [show ((0 : Int)).toNat = 0 from rfl] at hw563_0)
   (try rw [show 0 * 1 = 0 from rfl] at hw563_0)
   (try rw [Addr.add_zero'] at hw563_0)
   cases e563
   have qi563 : (0 < l0_0.length) = True := eq_true (by omega)
   (try rw [show ((0 : Int)).toNat = 0 from rfl] at hx563_0)
   (try rw [Addr.add_zero'] at hx563_0)
   replace hx563_0 := hw HB hx563_0
   replace p563 := eq_true p563
   replace q563 := eq_true q563
   obtain ⟨⟨ad564, e564, hx564_0⟩, p564, q564⟩ := pq (Kd.at_int HR0_0.out (ji6))
   have hw564_0 := hx564_0
   obtain rfl : ad563 = ad564 := (by injection e564)
   replace hx564_0 := hw HB hx564_0
   refine start_ (n := 18) (S := fun w' => w'.cell? ⟨gb560, 0, none⟩ = some (.slice (some ad563) l0_0.length c0_0) ∧ w'.cell? ad563 = some (.int .i64 (rd l0_0 0)) ∧ w'.cell? (ad563.add ((ji6)).toNat) = some (.int .i64 (rd l0_0 (ji6)))) (ds := []) (yz 18 0) (by kernel_rfl) rfl rfl ⟨bc BK560 0 _, ((HB.out.cell (World.block_lt_of_cell? w _ hw563_0)).trans hw563_0), ((HB.out.cell (World.block_lt_of_cell? w _ hw564_0)).trans hw564_0)⟩ (fun hHeld => ?_); refine with_tabW impl_BettiElements.tab3 impl_BettiElements.bits3 (fun HT_ HW_ => ?_)
   generalize w12.drew = w13 at BK560 HB hx563_0 hx564_0 hHeld ⊢
   refine pa 2 (some 12) (yz 18 4) HT_ ?_
   refine pa 7 (some 17) (yz 18 132) HT_ ?_
   refine pa 9 (some 19) (yz 18 644) HT_ ?_
   refine tk 0 (some 10) (yz 18 645) HT_ HW_ hHeld ?_
   refine tk 3 (some 13) (yz 18 653) HT_ HW_ hHeld ?_
   refine pa 4 (some 14) (yz 18 669) HT_ ?_
   refine tk 5 (some 15) (yz 18 701) HT_ HW_ hHeld ?_
   refine tk 8 (some 18) (yz 18 957) HT_ HW_ hHeld ?_
   refine tk 10 (some 20) (yz 18 1981) HT_ HW_ hHeld ?_
   refine pa 11 (some 21) (yz 18 4029) HT_ ?_
   refine pa 12 (some 22) (yz 18 8125) HT_ ?_
   refine pa 13 (some 23) (yz 18 16317) HT_ ?_
   refine tk 14 (some 24) (yz 18 32701) HT_ HW_ hHeld ?_
   refine pa 15 (some 25) (yz 18 65469) HT_ ?_
   refine oa 1 (some 11) (yz 18 65471) HT_ (fun K hK => ?_)
   refine gm Try.func70 #[.agg #[.slice (some ad563) l0_0.length c0_0]] ?_
   with_reducible refine (impl_FrobeniusOf.calls k _ _ l0_0 t562 _ ?side1 ?side2 A4.out).mono ?_
   (case side1 => exact co (Kd.C_below HR0_0.out HB.out))
   (case side2 => exact HC0_0.out)
   rintro e w14 ⟨rfl, hb⟩
   refine ⟨_, rfl, ?_⟩
   replace BK560 := kb BK560 hb
   replace HB := am (below_step bw hb)
   clear hb
   refine hK.out _ _ ⟨bc BK560 0 _, ((HB.out.cell (World.block_lt_of_cell? w _ hw563_0)).trans hw563_0), ((HB.out.cell (World.block_lt_of_cell? w _ hw564_0)).trans hw564_0)⟩ (fun hHeld => ?_)
   clear hK K
   refine nm (some 11) ?_
   refine pa 6 (some 16) (yz 18 65535) HT_ ?_
   refine pa 16 (some 26) (yz 18 131071) HT_ ?_
   refine pa 17 (some 4) (yz 18 262143) HT_ ?_
   refine done_ (done_of HT_.out (by kernel_rfl)) ?_
   try go_wp2
   go_ret2
   exact ⟨_, by first | rfl | (simp [errW_none, errW_some] <;> rfl) | (simp only [← hji6]; first | rfl | (simp [errW_none, errW_some] <;> rfl)) | (simp [*, errW_none, errW_some] <;> rfl), by first | exact Kd.R_nil _ _ _ _ _ | exact Kd.N_nil _ _ _ _ _ | exact Kd.V_nil _ _ _ _ _ | exact Kd.Q_nil _ _ _ _ _ | exact Kd.S_nil _ _ _ _ _, bw⟩
  have c9b0 : decide (100 < (wrap64 ((wrap64 (t562 + (rd l0_0 0))) + (wrap64 (2 * (rd l0_0 (ji6))))))) = false := decide_eq_false c9
  clear c9
  obtain ⟨y565, hy565⟩ : ∃ y_ : List Int, y_ = (([] : List Int)) := ⟨_, rfl⟩
  replace H : (impl_BettiElements.l0 k (wrap64 ((wrap64 (t562 + (rd l0_0 0))) + (wrap64 (2 * (rd l0_0 (ji6)))))) y565 0 l0_0) = some (r1, r2) := by first | (rw [hy565]; with_reducible first | exact H | exact bs H) | (with_reducible first | exact bs H | exact H) | (rw [hy565]; exact H) | exact H
  have Ny565 := am hy565
  clear hy565
  have H' := am H
  clear H
  go_enter Try.func36, Try.ntmps36
  try go_wp2_with (first | ((with_reducible refine gate_dst (N := 1) rfl ?_); refine bx 1 #[.slice A0_0 l0_0.length c0_0] 27 ?_; intro gb560 hg w15 hbox hb; have BK560 := am (hbox); have GW560 := am (gs hg : w.heap.size ≤ gb560); have GE560 := GW560; replace HB := am (below_step bw hb); clear hb hbox hg; have hcz16_0 := bc BK560 0 (.slice A0_0 l0_0.length c0_0); have hfz16_0 := blk_frozen BK560.out 0) | ((with_reducible refine gate_callee (f := 62) rfl ?_); refine gl (some 8) Try.func62 #[.agg #[.slice A0_0 l0_0.length c0_0]] ?_; (with_reducible refine (impl_IsSemigroup.calls k _ _ l0_0 true _ ?side1 ?side2 A2.out).mono ?_); (case side1 => exact co (Kd.C_below HR0_0.out HB.out)); (case side2 => exact HC0_0.out); rintro e w17 ⟨rfl, hb⟩; refine ⟨_, rfl, ?_⟩; replace BK560 := kb BK560 hb; replace HB := am (below_step bw hb); clear hb))
  replace BK560 := bd BK560
  replace HB := am (below_drew1 HB.out)
  have p563 : 0 ≤ (0 : Int) := (by omega)
  have q563 : 0 < (l0_0.length : Int) := of_decide_eq_true (by first | (with_reducible assumption) | assumption)
  obtain ⟨ad563, e563, hx563_0⟩ := Kd.at_int HR0_0.out 0 p563 q563
  have hw563_0 := hx563_0
  (try rw [show ((0 : Int)).toNat = 0 from rfl] at hw563_0)
  (try rw [show 0 * 1 = 0 from rfl] at hw563_0)
  (try rw [Addr.add_zero'] at hw563_0)
  cases e563
  have qi563 : (0 < l0_0.length) = True := eq_true (by omega)
  (try rw [show ((0 : Int)).toNat = 0 from rfl] at hx563_0)
  (try rw [Addr.add_zero'] at hx563_0)
  replace hx563_0 := hw HB hx563_0
  replace p563 := eq_true p563
  replace q563 := eq_true q563
  obtain ⟨⟨ad564, e564, hx564_0⟩, p564, q564⟩ := pq (Kd.at_int HR0_0.out (ji6))
  have hw564_0 := hx564_0
  obtain rfl : ad563 = ad564 := (by injection e564)
  replace hx564_0 := hw HB hx564_0
  refine start_ (n := 18) (S := fun w' => w'.cell? ⟨gb560, 0, none⟩ = some (.slice (some ad563) l0_0.length c0_0) ∧ w'.cell? ad563 = some (.int .i64 (rd l0_0 0)) ∧ w'.cell? (ad563.add ((ji6)).toNat) = some (.int .i64 (rd l0_0 (ji6)))) (ds := []) (yz 18 0) (by kernel_rfl) rfl rfl ⟨bc BK560 0 _, ((HB.out.cell (World.block_lt_of_cell? w _ hw563_0)).trans hw563_0), ((HB.out.cell (World.block_lt_of_cell? w _ hw564_0)).trans hw564_0)⟩ (fun hHeld => ?_); refine with_tabW impl_BettiElements.tab3 impl_BettiElements.bits3 (fun HT_ HW_ => ?_)
  generalize w17.drew = w18 at BK560 HB hx563_0 hx564_0 hHeld ⊢
  refine pa 2 (some 12) (yz 18 4) HT_ ?_
  refine pa 7 (some 17) (yz 18 132) HT_ ?_
  refine pa 9 (some 19) (yz 18 644) HT_ ?_
  refine tk 0 (some 10) (yz 18 645) HT_ HW_ hHeld ?_
  refine tk 3 (some 13) (yz 18 653) HT_ HW_ hHeld ?_
  refine pa 4 (some 14) (yz 18 669) HT_ ?_
  refine tk 5 (some 15) (yz 18 701) HT_ HW_ hHeld ?_
  refine tk 8 (some 18) (yz 18 957) HT_ HW_ hHeld ?_
  refine tk 10 (some 20) (yz 18 1981) HT_ HW_ hHeld ?_
  refine pa 11 (some 21) (yz 18 4029) HT_ ?_
  refine pa 12 (some 22) (yz 18 8125) HT_ ?_
  refine pa 13 (some 23) (yz 18 16317) HT_ ?_
  refine tk 14 (some 24) (yz 18 32701) HT_ HW_ hHeld ?_
  refine pa 15 (some 25) (yz 18 65469) HT_ ?_
  refine oa 1 (some 11) (yz 18 65471) HT_ (fun K hK => ?_)
  refine gm Try.func70 #[.agg #[.slice (some ad563) l0_0.length c0_0]] ?_
  with_reducible refine (impl_FrobeniusOf.calls k _ _ l0_0 t562 _ ?side1 ?side2 A4.out).mono ?_
  (case side1 => exact co (Kd.C_below HR0_0.out HB.out))
  (case side2 => exact HC0_0.out)
  rintro e w19 ⟨rfl, hb⟩
  refine ⟨_, rfl, ?_⟩
  replace BK560 := kb BK560 hb
  replace HB := am (below_step bw hb)
  clear hb
  refine hK.out _ _ ⟨bc BK560 0 _, ((HB.out.cell (World.block_lt_of_cell? w _ hw563_0)).trans hw563_0), ((HB.out.cell (World.block_lt_of_cell? w _ hw564_0)).trans hw564_0)⟩ (fun hHeld => ?_)
  clear hK K
  refine nm (some 11) ?_
  refine pa 6 (some 16) (yz 18 65535) HT_ ?_
  refine pa 16 (some 26) (yz 18 131071) HT_ ?_
  refine pa 17 (some 4) (yz 18 262143) HT_ ?_
  refine done_ (done_of HT_.out (by kernel_rfl)) ?_
  try go_wp2_with (first | ((with_reducible refine gate_dst (N := 29) rfl ?_); refine Kd.R_lit (Kd.int .i64) _ 3 ?hg (N := 29) ?hd (xs := ([] : List Int)) (inner := []) (ok := fun _ => True) (okp := fun _ => True) ?hr ?hp (fun _ hk => hk) trivial (Below.refl _ _) (Nat.le_refl _) (by simp) ?_; (case hd => rfl); (case hg => rfl); (case hr => first | (go_simp; done) | (go_simp; rfl)); (case hp => exact (Reps.none _ _)); intro v566 w20 ho21 hb hg_ hnew_; clear hg_ hnew_; (first | rw [← Ny565.out] at ho21 | (simp only [Int.reduceToNat] at ho21; rw [← Ny565.out] at ho21)); have HO567 := am (Kd.R_lower ho21 (below_size bw)); replace BK560 := kb BK560 hb; replace HB := am (below_step bw hb); clear hb ho21))
  go_loopg [5, 6] k (fun kq v5 v6 w' => ∃ (x5_1 : List Int) (x6_1 : Int), v6 = .int .i64 x6_1 ∧ Aside0 (impl_BettiElements.l0 kq (wrap64 ((wrap64 (t562 + (rd l0_0 0))) + (wrap64 (2 * (rd l0_0 (ji6)))))) x5_1 x6_1 l0_0 = some (r1, r2)) ∧ Aside0 (kq ≤ k) ∧ Aside0 (Kd.R (Kd.int .i64) 3 w' w.heap.size (fun _ => True) v5 x5_1) ∧ Aside0 (w'.heap[gb560]? = some (.cells #[(.slice (some ad563) l0_0.length c0_0)] 27 (0, 0))) ∧ Aside0 (Below w.heap.size w w'))
  case atStart => exact ⟨(y565), (0), rr, H', ⟨Nat.le_refl _⟩, ⟨ro HO567.out⟩, ⟨bo BK560.out⟩, ⟨bw⟩⟩
  case round =>
   clear H'
   try clear c5; try clear c5b0; try clear c5b1; try clear c7b0; try clear c8b0; try clear c9; try clear c9b0; try clear hcz11_0; try clear hcz16_0; try clear hfz11_0; try clear hfz16_0; try clear hx563_0; try clear hx564_0; try clear p563; try clear p564; try clear q563; try clear q564
   obtain ⟨x5_1, x6_1, rfl, HA, HK1, HO_5, BK560, HB⟩ := hrel
   cases gk with
   | zero => exact absurd HA.out (by simp [impl_BettiElements.l0])
   | succ k1 =>
    have H := HA.out
    clear HA
    simp only [impl_BettiElements.l0] at H
    replace H := gi H; obtain ⟨c22b0, H⟩ | ⟨c22b0, H⟩ := H
    ·replace H := ga H; obtain ⟨t568, A23, H⟩ := H
     replace H := gj H; obtain ⟨c24, H⟩ | ⟨c24, H⟩ := H
     ·have c24b0 : decide (1 < (t568.length : Int)) = true := decide_eq_true c24
      have c24b1 : decide (1 < t568.length) = true := decide_eq_true (by omega)
      clear c24
      by_cases c25 : x5_1.length < 17592186044416
      rotate_left
      ·rw [if_neg c25] at H
       exact absurd H (by simp)
      rw [if_pos c25] at H
      have LMc25 := am c25
      clear c25
      obtain ⟨y571, hy571⟩ : ∃ y_ : List Int, y_ = (x5_1 ++ [x6_1]) := ⟨_, rfl⟩
      replace H : (impl_BettiElements.l0 k1 (wrap64 ((wrap64 (t562 + (rd l0_0 0))) + (wrap64 (2 * (rd l0_0 (ji6)))))) y571 (wrap64 (x6_1 + 1)) l0_0) = some (r1, r2) := by first | (rw [hy571]; with_reducible first | exact H | exact bs H) | (with_reducible first | exact bs H | exact H) | (rw [hy571]; exact H) | exact H
      have Ny571 := am hy571
      clear hy571
      have H' := am H
      clear H
      have hcz26_0 := bc BK560 0 (.slice (some ad563) l0_0.length c0_0)
      have hfz26_0 := blk_frozen BK560.out 0
      go_wp2_with (first | ((with_reducible refine gate_callee (f := 31) rfl ?_); refine gl (some 37) Try.func31 #[.agg #[.slice (some ad563) l0_0.length c0_0], .int .i64 x6_1] ?_; (with_reducible refine (impl_ClassesOf.calls k1 _ _ l0_0 x6_1 t568 _ ?side1 ?side2 A23.out).mono ?_); (case side1 => exact co (Kd.C_below HR0_0.out HB.out)); (case side2 => exact HC0_0.out); rintro e w27 ⟨v569, rfl, ho0, hb⟩; refine ⟨_, rfl, ?_⟩; have HO570 := am (Kd.R_lower (Kd.R_new' ho0 (Kd.R_lt (ro HO_5.out))) (below_size bw)); replace HO_5 := rK HO_5 hb; replace BK560 := kb BK560 hb; replace HB := am (below_step bw hb); clear hb ho0; obtain ⟨Ao28, co28, eo28⟩ := Kd.R_slice HO570.out; subst eo28) | ((with_reducible refine gate_builtin (b := .append) (xs := #[.tmp 40, .tmp 42]) rfl ?_); at_builtin; refine Kd.R_append (Kd.int .i64) (w0 := w) w.heap.size rfl (.tmp 40) (.tmp 42) 22 3 (.int .i64 0) 8 rfl Try.underlying22 info3 rfl (by decide) (by omega) u5 x5_1 x6_1 [.int .i64 x6_1] (fun _ => True) (fun _ => False) rfl rfl ?aP (fun _ hk => hk.elim) ?aF ?aO ?aB ?aS ?aL ?_; (case aP => exact rfl); (case aB => exact bw); (case aF => exact (fun _ _ => trivial)); (case aO => exact (ro HO_5.out)); (case aS => exact (below_size bw)); (case aL => have := LMc25.out; omega); intro v572 w29 ho hb hg hat; rw [← Ny571.out] at ho; replace BK560 := am (blk_grown (g := gb560) (o := .cells #[.slice (some ad563) l0_0.length c0_0] 27 (0, 0)) (bo BK560.out) hg (Kd.R_ne HO_5.out BK560.out (by decide))); replace HO570 := am (Kd.R_after (ok := (fun _ => True)) (ro HO570.out) hg hat); replace HB := am (hb); have HO573 := am (ho); clear HO_5 ho hb hg hat))
      go_roundg k1
      case measure => have := HK1.out; omega
      case rel => exact ⟨(y571), (wrap64 (x6_1 + 1)), rr, H', ⟨by have := HK1.out; omega⟩, ⟨ro HO573.out⟩, ⟨bo BK560.out⟩, ⟨bw⟩⟩
     have c24b0 : decide (1 < (t568.length : Int)) = false := decide_eq_false c24
     have c24b1 : decide (1 < t568.length) = false := decide_eq_false (by omega)
     clear c24
     have H' := am H
     clear H
     have hcz30_0 := bc BK560 0 (.slice (some ad563) l0_0.length c0_0)
     have hfz30_0 := blk_frozen BK560.out 0
     go_wp2_with (first | ((with_reducible refine gate_callee (f := 31) rfl ?_); refine gl (some 37) Try.func31 #[.agg #[.slice (some ad563) l0_0.length c0_0], .int .i64 x6_1] ?_; (with_reducible refine (impl_ClassesOf.calls k1 _ _ l0_0 x6_1 t568 _ ?side1 ?side2 A23.out).mono ?_); (case side1 => exact co (Kd.C_below HR0_0.out HB.out)); (case side2 => exact HC0_0.out); rintro e w31 ⟨v569, rfl, ho0, hb⟩; refine ⟨_, rfl, ?_⟩; have HO570 := am (Kd.R_lower (Kd.R_new' ho0 (Kd.R_lt (ro HO_5.out))) (below_size bw)); replace HO_5 := rK HO_5 hb; replace BK560 := kb BK560 hb; replace HB := am (below_step bw hb); clear hb ho0; obtain ⟨Ao32, co32, eo32⟩ := Kd.R_slice HO570.out; subst eo32))
     go_roundg k1
     case measure => have := HK1.out; omega
     case rel => exact ⟨(x5_1), (wrap64 (x6_1 + 1)), rr, H', ⟨by have := HK1.out; omega⟩, ⟨ro HO_5.out⟩, ⟨bo BK560.out⟩, ⟨bw⟩⟩
    simp only [Option.some.injEq, Prod.mk.injEq] at H
    obtain ⟨rfl, rfl⟩ := H
    go_wp2
    go_ret2
    exact ⟨_, by first | rfl | (simp [errW_none, errW_some] <;> rfl) | (simp only [← hji6]; first | rfl | (simp [errW_none, errW_some] <;> rfl)) | (simp [*, errW_none, errW_some] <;> rfl), ro HO_5.out, bw⟩
 simp only [Option.some.injEq, Prod.mk.injEq] at H
 obtain ⟨rfl, rfl⟩ := H
 go_enter Try.func36, Try.ntmps36
 go_wp2_with (first | ((with_reducible refine gate_dst (N := 1) rfl ?_); refine bx 1 #[.slice A0_0 l0_0.length c0_0] 27 ?_; intro gb560 hg w33 hbox hb; have BK560 := am (hbox); have GW560 := am (gs hg : w.heap.size ≤ gb560); have GE560 := GW560; replace HB := am (below_step bw hb); clear hb hbox hg; have hcz34_0 := bc BK560 0 (.slice A0_0 l0_0.length c0_0); have hfz34_0 := blk_frozen BK560.out 0) | ((with_reducible refine gate_callee (f := 62) rfl ?_); refine gl (some 8) Try.func62 #[.agg #[.slice A0_0 l0_0.length c0_0]] ?_; (with_reducible refine (impl_IsSemigroup.calls k _ _ l0_0 false _ ?side1 ?side2 A2.out).mono ?_); (case side1 => exact co (Kd.C_below HR0_0.out HB.out)); (case side2 => exact HC0_0.out); rintro e w35 ⟨rfl, hb⟩; refine ⟨_, rfl, ?_⟩; replace BK560 := kb BK560 hb; replace HB := am (below_step bw hb); clear hb))
 go_ret2
 exact ⟨_, re, by first | exact Kd.R_nil _ _ _ _ _ | exact Kd.N_nil _ _ _ _ _ | exact Kd.V_nil _ _ _ _ _ | exact Kd.Q_nil _ _ _ _ _ | exact Kd.S_nil _ _ _ _ _, bw⟩


/-! ### impl_PresentationOf: function 51 -/
mutual
def impl_PresentationOf.l0 : Nat → List (S86) → List Int → Int → Int → List Int → Option ((List (S86)) × Bool)
 | 0, _, _, _, _, _ => none
 | k + 1, x6, x20, x21, x22, x575000 => if x22 < x21 then (if 0 ≤ x22 then (if x22 < (x20.length : Int) then ((impl_ClassesOf.f k x575000 (rd x20 x22)).bind fun t583 => (if 1 ≤ (t583.length : Int) then ((some (t583.drop 1 : List (List (List Int)))).bind fun y586 => (impl_PresentationOf.l1 k x6 t583 x20 x21 x22 y586 (y586.length : Int) 0 x575000)) else (none))) else (none)) else (none)) else (some (x6, true))
def impl_PresentationOf.l1 : Nat → List (S86) → List (List (List Int)) → List Int → Int → Int → List (List (List Int)) → Int → Int → List Int → Option ((List (S86)) × Bool)
 | 0, _, _, _, _, _, _, _, _, _ => none
 | k + 1, x6, x9, x20, x21, x22, x30, x31, x32, x575000 => if x32 < x31 then (if 0 ≤ x32 then (if x32 < (x30.length : Int) then (if 0 < (x9.length : Int) then (if 0 < ((rd_L4 x9 0).length : Int) then ((slices_Clone_int_int.f (rd_L2 (rd_L4 x9 0) 0)).bind fun t593 => (if 0 < ((rd_L4 x30 x32).length : Int) then ((slices_Clone_int_int.f (rd_L2 (rd_L4 x30 x32) 0)).bind fun t597 => (if x6.length < 2932031007402 then (impl_PresentationOf.l1 k (x6 ++ [(⟨t593, t597⟩ : S86)]) x9 x20 x21 x22 x30 x31 (wrap64 (x32 + 1)) x575000) else (none))) else (none))) else (none)) else (none)) else (none)) else (none)) else (impl_PresentationOf.l0 k x6 x20 x21 (wrap64 (x22 + 1)) x575000)
end
def impl_PresentationOf.f (k : Nat) (l0_0 : List Int) : Option ((List (S86)) × Bool) := (impl_BettiElements.f k l0_0).bind fun bt575 => (if bt575.2 = true then (impl_PresentationOf.l0 k (([] : List (S86))) bt575.1 (bt575.1.length : Int) 0 l0_0) else (some (([] : List (S86)), false)))
def impl_PresentationOf.T12 : Bool × List (List Nat × List Nat) := (true, [([], []), ([], []), ([1], [1]), ([2], [2]), ([3], [3]), ([4], [4]), ([5], [5]), ([], []), ([7], [7]), ([8], [8]), ([9, 6], [9]), ([6, 10], [6, 10]), ([11], [11]), ([0, 12, 10], [0, 12]), ([13, 13, 0, 1, 2, 3, 4, 5, 6, 7, 8, 9, 10, 11, 12, 13], [0, 13])])
def impl_PresentationOf.B12 : List Nat := [0, 0, 2, 6, 14, 30, 62, 0, 128, 384, 1022, 2046, 4094, 8191, 16383]
theorem impl_PresentationOf.tab12 : rtab .any (opsOf Try.f51 12) = impl_PresentationOf.T12 := by kernel_rfl
theorem impl_PresentationOf.bits12 : waitsOk impl_PresentationOf.T12.2 impl_PresentationOf.B12 = true := by kernel_rfl
set_option maxHeartbeats 8000000 in
set_option maxRecDepth 100000 in
theorem impl_PresentationOf.calls (k : Nat) (A0_0 : Option Addr) (c0_0 : Nat) (l0_0 : List Int) (r1 : List (S86)) (r2 : Bool) (w : World) (hr0_0 : Kd.C (Kd.int .i64) w A0_0 l0_0.length l0_0) (hc0_0 : l0_0.length ≤ c0_0) (h : impl_PresentationOf.f k l0_0 = some (r1, r2)) :
  Calls Try.prog 51 #[.agg #[.slice A0_0 l0_0.length c0_0]] w fun e w' => ∃ v0_ : Value, e = .returned (.tuple #[v0_, .bool r2]) ∧ Kd.S kpr 86 w' w.heap.size (fun _ => True) v0_ r1 ∧ Below w.heap.size w w' := by
 have hu27 := Try.underlying27
 have hu86 := Try.underlying86
 have HR0_0 := am hr0_0
 have HC0_0 := am hc0_0
 clear hr0_0 hc0_0
 have HB := am (Below.refl w.heap.size w)
 have H : ((impl_BettiElements.f k l0_0).bind fun bt575 => (if bt575.2 = true then (impl_PresentationOf.l0 k (([] : List (S86))) bt575.1 (bt575.1.length : Int) 0 l0_0) else (some (([] : List (S86)), false)))) = some (r1, r2) := h
 clear h
 replace H := ga H; obtain ⟨⟨t575, t578⟩, A2, H⟩ := H
 replace H : (if t578 = true then (impl_PresentationOf.l0 k (([] : List (S86))) t575 (t575.length : Int) 0 l0_0) else (some (([] : List (S86)), false))) = some (r1, r2) := H
 replace H := gb H; obtain ⟨rfl, H⟩ | ⟨rfl, H⟩ := H
 ·obtain ⟨y579, hy579⟩ : ∃ y_ : List (S86), y_ = (([] : List (S86))) := ⟨_, rfl⟩
  replace H : (impl_PresentationOf.l0 k y579 t575 (t575.length : Int) 0 l0_0) = some (r1, r2) := by first | (rw [hy579]; with_reducible first | exact H | exact bs H) | (with_reducible first | exact bs H | exact H) | (rw [hy579]; exact H) | exact H
  have Ny579 := am hy579
  clear hy579
  have H' := am H
  clear H
  go_enter Try.func51, Try.ntmps51
  go_wp2_with (first | ((with_reducible refine gate_dst (N := 1) rfl ?_); refine bx 1 #[.slice A0_0 l0_0.length c0_0] 27 ?_; intro gb574 hg w4 hbox hb; have BK574 := am (hbox); have GW574 := am (gs hg : w.heap.size ≤ gb574); have GE574 := GW574; replace HB := am (below_step bw hb); clear hb hbox hg; have hcz5_0 := bc BK574 0 (.slice A0_0 l0_0.length c0_0); have hfz5_0 := blk_frozen BK574.out 0) | ((with_reducible refine gate_callee (f := 36) rfl ?_); refine gl (some 14) Try.func36 #[.agg #[.slice A0_0 l0_0.length c0_0]] ?_; (with_reducible refine (impl_BettiElements.calls k _ _ l0_0 t575 true _ ?side1 ?side2 A2.out).mono ?_); (case side1 => exact co (Kd.C_below HR0_0.out HB.out)); (case side2 => exact HC0_0.out); rintro e w6 ⟨v576, rfl, ho0, hb⟩; refine ⟨_, rfl, ?_⟩; have HO577 := am (Kd.R_lower ho0 (below_size bw)); replace BK574 := kb BK574 hb; replace HB := am (below_step bw hb); clear hb ho0) | ((with_reducible refine gate_dst (N := 19) rfl ?_); refine Kd.S_lit kpr _ 86 ?hg (N := 19) ?hd (xs := ([] : List (S86))) (inner := []) (ok := fun _ => True) (okp := fun _ => True) ?hr ?hp (fun _ hk => hk) trivial (Below.refl _ _) (Nat.le_refl _) (by simp) ?_; (case hd => rfl); (case hg => rfl); (case hr => first | (go_simp; done) | (go_simp; rfl)); (case hp => exact (Reps.none _ _)); intro v580 w7 ho8 hb hg_ hnew_; clear hg_ hnew_; (first | rw [← Ny579.out] at ho8 | (simp only [Int.reduceToNat] at ho8; rw [← Ny579.out] at ho8)); have HO581 := am (Kd.S_lower (Kd.S_new' ho8 (Kd.R_lt (ro HO577.out))) (below_size bw)); replace HO577 := rK HO577 hb; replace BK574 := kb BK574 hb; replace HB := am (below_step bw hb); clear hb ho8; obtain ⟨Ao9, co9, eo9⟩ := Kd.R_slice HO577.out; subst eo9))
  go_loopg [6, 22] k (fun kq v6 v22 w' => ∃ (x6_1 : List (S86)) (x22_1 : Int), v22 = .int .i64 x22_1 ∧ Aside0 (impl_PresentationOf.l0 kq x6_1 t575 (t575.length : Int) x22_1 l0_0 = some (r1, r2)) ∧ Aside0 (kq ≤ k) ∧ Aside0 (Kd.S kpr 86 w' w.heap.size (fun k_ => nb k_ Ao9 t575 co9) v6 x6_1) ∧ Aside0 (Kd.R (Kd.int .i64) 3 w' w.heap.size (fun _ => True) (.slice Ao9 t575.length co9) t575) ∧ Aside0 (w'.heap[gb574]? = some (.cells #[(.slice A0_0 l0_0.length c0_0)] 27 (0, 0))) ∧ Aside0 (Below w.heap.size w w'))
  case atStart => exact ⟨(y579), (0), rr, H', ⟨Nat.le_refl _⟩, ⟨by (with_reducible repeat (first | apply Kd.S_alloc | apply Kd.S_drewN | apply Kd.S_drew)); exact Kd.S_mono HO581.out (fun _ hk => hk.2)⟩, ⟨ro HO577.out⟩, ⟨bo BK574.out⟩, ⟨bw⟩⟩
  case round =>
   clear H'
   try clear hcz5_0; try clear hfz5_0
   obtain ⟨x6_1, x22_1, rfl, HA, HK1, HO_6, HO_20, BK574, HB⟩ := hrel
   cases gk with
   | zero => exact absurd HA.out (by simp [impl_PresentationOf.l0])
   | succ k1 =>
    have H := HA.out
    clear HA
    simp only [impl_PresentationOf.l0] at H
    replace H := gi H; obtain ⟨c10b0, H⟩ | ⟨c10b0, H⟩ := H
    ·replace H := gd H; obtain ⟨c11b0, H⟩ := H
     replace H := gd H; obtain ⟨c12b0, H⟩ := H
     replace H := ga H; obtain ⟨t583, A13, H⟩ := H
     replace H := gp H; obtain ⟨c14, H⟩ := H
     have c14b0 := eq_true c14
     have c14b1 : decide (1 ≤ (t583.length : Int)) = true := decide_eq_true c14
     clear c14
     obtain ⟨y586, hy586⟩ : ∃ y_ : List (List (List Int)), y_ = (t583.drop 1) := ⟨_, rfl⟩
     replace H : (impl_PresentationOf.l1 k1 x6_1 t583 t575 (t575.length : Int) x22_1 y586 (y586.length : Int) 0 l0_0) = some (r1, r2) := by first | (rw [hy586]; with_reducible first | exact H | exact bs H) | (with_reducible first | exact bs H | exact H) | (rw [hy586]; exact H) | exact H
     have Ny586 := am hy586
     clear hy586
     have H' := am H
     clear H
     obtain ⟨⟨ad582, e582, hx582_0⟩, p582, q582⟩ := pq (Kd.at_int (Kd.R_reads' HO_20.out).2.2 x22_1)
     cases e582
     have hcz15_0 := bc BK574 0 (.slice A0_0 l0_0.length c0_0)
     have hfz15_0 := blk_frozen BK574.out 0
     go_wp2_with (first | ((with_reducible refine gate_callee (f := 31) rfl ?_); refine gl (some 28) Try.func31 #[.agg #[.slice A0_0 l0_0.length c0_0], .int .i64 (rd t575 x22_1)] ?_; (with_reducible refine (impl_ClassesOf.calls k1 _ _ l0_0 (rd t575 x22_1) t583 _ ?side1 ?side2 A13.out).mono ?_); (case side1 => exact co (Kd.C_below HR0_0.out HB.out)); (case side2 => exact HC0_0.out); rintro e w16 ⟨v584, rfl, ho0, hb⟩; refine ⟨_, rfl, ?_⟩; replace HO_6 := sK HO_6 hb; have HO585 := am (Kd.R_lower (Kd.R_new' ho0 (Kd.R_lt (ro HO_20.out))) (below_size bw)); replace HO_20 := rK HO_20 hb; replace BK574 := kb BK574 hb; replace HB := am (below_step bw hb); clear hb ho0; obtain ⟨Ao18, co18, eo18⟩ := Kd.R_slice HO585.out; subst eo18; have q17 : (1 : Int) ≤ ((t583.length : Int) : Int) := of_decide_eq_true (by first | (with_reducible assumption) | assumption); obtain ⟨i017, hi017, _, hsz17, _⟩ := info_parts info49; have hroom17 : t583.length ≤ co18 := (Kd.R_reads' HO585.out).2.1; have hC17 : Kd.C (Kd.slice 22 (Kd.slice 3 (Kd.int .i64))) _ Ao18 t583.length t583 := (Kd.R_reads' HO585.out).2.2; have hcut17 := cut_from (P := Try.prog) 38 49 .i64 Try.underlying38 hi017 1 hsz17 Ao18 t583.length co18 1 (by omega) q17; have hr17 := Kd.C_drop (m := (1 : Int).toNat) (c := co18) hC17 (by omega) hroom17; obtain ⟨A17, hA17⟩ : ∃ A1, A1 = (if co18 = (1 : Int).toNat then Ao18 else (Ao18 : Option Addr).map (·.add ((1 : Int).toNat * 1))) := ⟨_, rfl⟩; obtain ⟨c17, hc17⟩ : ∃ c1, c1 = co18 - (1 : Int).toNat := ⟨_, rfl⟩; have hy17 : y586.length = t583.length - (1 : Int).toNat := (by rw [Ny586.out, List.length_drop] <;> omega); rw [show (t583).drop (1 : Int).toNat = y586 from Ny586.out.symm] at hr17; replace hr17 : Kd.C (Kd.slice 22 (Kd.slice 3 (Kd.int .i64))) _ A17 y586.length y586 := (by rw [hA17]; exact hr17); rw [← hy17, ← hA17, ← hc17] at hcut17; have HR589 := am hr17; have HC589 := am (show y586.length ≤ c17 from by rw [hy17, hc17]; exact Nat.sub_le_sub_right hroom17 _); clear hr17 hC17 hroom17 hi017 hsz17 hc17; have KY17 := am hy17; have KA17 := am hA17; clear hy17 hA17; have KL17 := am (show 1 ≤ t583.length from by omega); replace q17 := eq_true q17))
     go_loopg [6, 32] k1 (fun kq v6 v32 w' => ∃ (x6_2 : List (S86)) (x32_2 : Int), v32 = .int .i64 x32_2 ∧ Aside0 (impl_PresentationOf.l1 kq x6_2 t583 t575 (t575.length : Int) x22_1 y586 (y586.length : Int) x32_2 l0_0 = some (r1, r2)) ∧ Aside0 (kq ≤ k1) ∧ Aside0 (Kd.S kpr 86 w' w.heap.size (fun k_ => some k_ ≠ ((.slice (some ad582) t575.length co9) : Value).ownBlock) v6 x6_2) ∧ Aside0 (Kd.R (Kd.slice 22 (Kd.slice 3 (Kd.int .i64))) 49 w' w.heap.size (fun k_ => some k_ ≠ ((.slice (some ad582) t575.length co9) : Value).ownBlock) (.slice Ao18 t583.length co18) t583) ∧ Aside0 (Kd.R (Kd.int .i64) 3 w' w.heap.size (fun _ => True) (.slice (some ad582) t575.length co9) t575) ∧ Aside0 (w'.heap[gb574]? = some (.cells #[(.slice A0_0 l0_0.length c0_0)] 27 (0, 0))) ∧ Aside0 (Below w.heap.size w w'))
     case atStart => exact ⟨(x6_1), (0), rr, H', ⟨Nat.le_refl _⟩, ⟨so HO_6.out⟩, ⟨by (with_reducible repeat (first | apply Kd.R_alloc | apply Kd.R_drewN | apply Kd.R_drew)); exact Kd.R_mono HO585.out (fun _ hk => hk.2)⟩, ⟨ro HO_20.out⟩, ⟨bo BK574.out⟩, ⟨bw⟩⟩
     case round =>
      clear H'
      try clear c1; try clear c10b0; try clear c11b0; try clear c12b0; try clear c14; try clear c14b0; try clear c14b1; try clear c17; try clear q17; try clear hcz15_0; try clear hcz5_0; try clear hfz15_0; try clear hfz5_0; try clear hx582_0; try clear p582; try clear q582
      obtain ⟨x6_2, x32_2, rfl, HA, HK2, HO_6, HO_9, HO_20, BK574, HB⟩ := hrel
      cases gk with
      | zero => exact absurd HA.out (by simp [impl_PresentationOf.l1])
      | succ k2 =>
       have H := HA.out
       clear HA
       simp only [impl_PresentationOf.l1] at H
       replace H := gi H; obtain ⟨c19b0, H⟩ | ⟨c19b0, H⟩ := H
       ·replace H := gd H; obtain ⟨c20b0, H⟩ := H
        replace H := gd H; obtain ⟨c21b0, H⟩ := H
        replace H := gp H; obtain ⟨c22, H⟩ := H
        have c22b0 : decide (0 < (t583.length : Int)) = true := decide_eq_true c22
        have c22b1 : decide (0 < t583.length) = true := decide_eq_true (by omega)
        clear c22
        replace H := gp H; obtain ⟨c23, H⟩ := H
        have c23b0 : decide (0 < ((rd_L4 t583 0).length : Int)) = true := decide_eq_true c23
        have c23b1 : decide (0 < (rd_L4 t583 0).length) = true := decide_eq_true (by omega)
        clear c23
        replace H := ga H; obtain ⟨t593, A24, H⟩ := H
        replace H := gp H; obtain ⟨c25, H⟩ := H
        have c25b0 : decide (0 < ((rd_L4 y586 x32_2).length : Int)) = true := decide_eq_true c25
        have c25b1 : decide (0 < (rd_L4 y586 x32_2).length) = true := decide_eq_true (by omega)
        clear c25
        replace H := ga H; obtain ⟨t597, A26, H⟩ := H
        by_cases c27 : x6_2.length < 2932031007402
        rotate_left
        ·rw [if_neg c27] at H
         exact absurd H (by simp)
        rw [if_pos c27] at H
        have LMc27 := am c27
        clear c27
        obtain ⟨y600, hy600⟩ : ∃ y_ : List (S86), y_ = (x6_2 ++ [(⟨t593, t597⟩ : S86)]) := ⟨_, rfl⟩
        replace H : (impl_PresentationOf.l1 k2 y600 t583 t575 (t575.length : Int) x22_1 y586 (y586.length : Int) (wrap64 (x32_2 + 1)) l0_0) = some (r1, r2) := by first | (rw [hy600]; with_reducible first | exact H | exact bs H) | (with_reducible first | exact bs H | exact H) | (rw [hy600]; exact H) | exact H
        have Ny600 := am hy600
        clear hy600
        have H' := am H
        clear H
        have hrz := Kd.C_drop (m := (1 : Int).toNat) (c := co18) (Kd.R_reads' HO_9.out).2.2 (by have := KL17.out; omega) (Kd.R_reads' HO_9.out).2.1
        rw [show (t583).drop (1 : Int).toNat = y586 from Ny586.out.symm] at hrz
        have HRz := am (show Kd.C (Kd.slice 22 (Kd.slice 3 (Kd.int .i64))) _ A17 y586.length y586 from (by rw [KA17.out]; exact hrz))
        clear hrz
        have HBz := am (show Below wr.heap.size wr wr from Below.refl _ _)
        obtain ⟨⟨ad590, A590_0, c590_0, e590, hx590_0, hl590_0, hi590_0⟩, p590, q590⟩ := pq (at_L4 HRz.out x32_2)
        cases e590
        have HR590_0 := am hi590_0
        have HC590_0 := am hl590_0
        clear hi590_0 hl590_0
        try go_wp2
        replace HO_6 := am (Kd.S_drew HO_6.out)
        replace HO_9 := am (Kd.R_drew HO_9.out)
        replace HO_20 := am (Kd.R_drew HO_20.out)
        replace BK574 := bd BK574
        replace HB := am (below_drew1 HB.out)
        replace HBz := am (below_drew1 HBz.out)
        have p591 : 0 ≤ (0 : Int) := (by omega)
        have q591 : 0 < (t583.length : Int) := of_decide_eq_true (by first | (with_reducible assumption) | assumption)
        obtain ⟨ad591, A591_0, c591_0, e591, hx591_0, hl591_0, hi591_0⟩ := at_L4 (Kd.R_reads' HO_9.out).2.2 0 p591 q591
        cases e591
        obtain ⟨ce591, hce591, hMe591, hcc591⟩ := Kd.R_get HO_9.out [] 0 p591 (by first | exact q591 | exact of_decide_eq_true (by first | (with_reducible assumption) | assumption) | (have e_ := (Kd.R_reads' HO_9.out).1; omega))
        obtain ⟨ve591_0, rfl, ge591_0⟩ := hMe591
        have hv591_0 := hcc591 0 _ rfl
        rw [Nat.add_zero, show ((Kd.slice 22 (Kd.slice 3 (Kd.int .i64)))).sz = 1 from rfl, Nat.mul_one] at hv591_0
        replace hv591_0 := Option.some.inj (hv591_0.symm.trans hx591_0)
        rw [hv591_0] at ge591_0
        have HL591_0 := am (show Kd.R (Kd.slice 3 (Kd.int .i64)) 22 _ _ _ _ (rd_L4 t583 0) from ge591_0)
        clear hv591_0 ge591_0
        clear hcc591 hce591
        have qi591 : (0 < t583.length) = True := eq_true (by omega)
        (try rw [show ((0 : Int)).toNat = 0 from rfl] at hx591_0)
        (try rw [Addr.add_zero'] at hx591_0)
        have HR591_0 := am hi591_0
        have HC591_0 := am hl591_0
        clear hi591_0 hl591_0
        replace p591 := eq_true p591
        replace q591 := eq_true q591
        have p592 : 0 ≤ (0 : Int) := (by omega)
        have q592 : 0 < ((rd_L4 t583 0).length : Int) := of_decide_eq_true (by first | (with_reducible assumption) | assumption)
        obtain ⟨ad592, A592_0, c592_0, e592, hx592_0, hl592_0, hi592_0⟩ := at_L2 (co HR591_0.out) 0 p592 q592
        cases e592
        obtain ⟨ce592, hce592, hMe592, hcc592⟩ := Kd.R_get HL591_0.out [] 0 p592 (by first | exact q592 | exact of_decide_eq_true (by first | (with_reducible assumption) | assumption) | (have e_ := (Kd.R_reads' HL591_0.out).1; omega))
        obtain ⟨ve592_0, rfl, ge592_0⟩ := hMe592
        have hv592_0 := hcc592 0 _ rfl
        rw [Nat.add_zero, show ((Kd.slice 3 (Kd.int .i64))).sz = 1 from rfl, Nat.mul_one] at hv592_0
        replace hv592_0 := Option.some.inj (hv592_0.symm.trans hx592_0)
        rw [hv592_0] at ge592_0
        have HL592_0 := am (show Kd.R (Kd.int .i64) 3 _ _ _ _ (rd_L2 (rd_L4 t583 0) 0) from ge592_0)
        clear hv592_0 ge592_0
        clear hcc592 hce592
        have qi592 : (0 < (rd_L4 t583 0).length) = True := eq_true (by omega)
        (try rw [show ((0 : Int)).toNat = 0 from rfl] at hx592_0)
        (try rw [Addr.add_zero'] at hx592_0)
        have HR592_0 := am hi592_0
        have HC592_0 := am hl592_0
        clear hi592_0 hl592_0
        replace p592 := eq_true p592
        replace q592 := eq_true q592
        have p596 : 0 ≤ (0 : Int) := (by omega)
        have q596 : 0 < ((rd_L4 y586 x32_2).length : Int) := of_decide_eq_true (by first | (with_reducible assumption) | assumption)
        obtain ⟨ad596, A596_0, c596_0, e596, hx596_0, hl596_0, hi596_0⟩ := at_L2 HR590_0.out 0 p596 q596
        have hw596_0 := hx596_0
        (try rw [show ((0 : Int)).toNat = 0 from rfl] at hw596_0)
        (try rw [show 0 * 1 = 0 from rfl] at hw596_0)
        (try rw [Addr.add_zero'] at hw596_0)
        cases e596
        have qi596 : (0 < (rd_L4 y586 x32_2).length) = True := eq_true (by omega)
        (try rw [show ((0 : Int)).toNat = 0 from rfl] at hx596_0)
        (try rw [Addr.add_zero'] at hx596_0)
        replace hx596_0 := hw HBz hx596_0
        have HR596_0 := am hi596_0
        have HC596_0 := am hl596_0
        clear hi596_0 hl596_0
        replace p596 := eq_true p596
        replace q596 := eq_true q596
        refine start_ (n := 15) (S := fun w' => w'.cell? ad591 = some (.slice (some ad592) (rd_L4 t583 0).length c591_0) ∧ w'.cell? ad592 = some (.slice A592_0 (rd_L2 (rd_L4 t583 0) 0).length c592_0) ∧ w'.cell? ad596 = some (.slice A596_0 (rd_L2 (rd_L4 y586 x32_2) 0).length c596_0)) (ds := [12, 13]) (yz 15 0) (by kernel_rfl) rfl rfl ⟨hx591_0, hx592_0, ((HBz.out.cell (World.block_lt_of_cell? _ _ hw596_0)).trans hw596_0)⟩ (fun hHeld => ?_); refine with_tabW impl_PresentationOf.tab12 impl_PresentationOf.bits12 (fun HT_ HW_ => ?_)
        generalize wr.drew = w28 at HO_6 HO_9 HO_20 BK574 HB HBz HL591_0 HL592_0 HR591_0 HR592_0 HR596_0 hx591_0 hx592_0 hx596_0 hHeld ⊢
        refine pa 0 (some 36) (yz 15 1) HT_ ?_
        refine pa 1 (some 37) (yz 15 3) HT_ ?_
        refine pa 2 (some 38) (yz 15 7) HT_ ?_
        refine pa 7 (some 43) (yz 15 135) HT_ ?_
        refine pa 8 (some 44) (yz 15 391) HT_ ?_
        refine tk 3 (some 39) (yz 15 399) HT_ HW_ hHeld ?_
        refine pa 4 (some 40) (yz 15 415) HT_ ?_
        refine tk 5 (some 41) (yz 15 447) HT_ HW_ hHeld ?_
        refine tk 9 (some 45) (yz 15 959) HT_ HW_ hHeld ?_
        refine oa 6 (some 42) (yz 15 1023) HT_ (fun K hK => ?_)
        refine gm Try.func84 #[.slice A592_0 (rd_L2 (rd_L4 t583 0) 0).length c592_0] ?_
        with_reducible refine (slices_Clone_int_int.calls _ _ (rd_L2 (rd_L4 t583 0) 0) t593 _ ?side1 ?side2 A24.out).mono ?_
        (case side1 => exact co HR592_0.out)
        (case side2 => exact HC592_0.out)
        rintro e w29 ⟨v594, rfl, ho0, hb⟩
        have HS0_ := (hb.cell (World.block_lt_of_cell? _ _ (hHeld.1))).trans (hHeld.1)
        have HS1_ := (hb.cell (World.block_lt_of_cell? _ _ (hHeld.2.1))).trans (hHeld.2.1)
        refine ⟨_, rfl, ?_⟩
        replace HO_6 := am (Kd.S_elder' (so HO_6.out) (Kd.R_base ho0) hb)
        replace HO_9 := am (Kd.R_elder' (ro HO_9.out) (Kd.R_base ho0) hb)
        replace HL591_0 := am (Kd.R_elder' (ro HL591_0.out) (Kd.R_base ho0) hb)
        have HO595 := am (Kd.R_lower (Kd.R_new' (Kd.R_new' ho0 (Kd.R_lt (ro HO_20.out))) (Kd.R_lt (ro HL592_0.out))) (below_size bw))
        replace HO_20 := am (Kd.R_elder' (ro HO_20.out) (Kd.R_base ho0) hb)
        replace HL592_0 := am (Kd.R_elder' (ro HL592_0.out) (Kd.R_base ho0) hb)
        replace BK574 := kb BK574 hb
        replace HR591_0 := am (Kd.C_below (co HR591_0.out) hb)
        replace HR592_0 := am (Kd.C_below (co HR592_0.out) hb)
        replace HB := am (below_step bw hb)
        replace HBz := am (below_step HBz.out hb)
        clear hb ho0
        refine hK.out _ _ ⟨HS0_, HS1_, ((HBz.out.cell (World.block_lt_of_cell? _ _ hw596_0)).trans hw596_0)⟩ (fun hHeld => ?_)
        clear hK K
        refine nm (some 42) ?_
        refine oa 10 (some 46) (yz 15 2047) HT_ (fun K hK => ?_)
        refine gm Try.func84 #[.slice A596_0 (rd_L2 (rd_L4 y586 x32_2) 0).length c596_0] ?_
        with_reducible refine (slices_Clone_int_int.calls _ _ (rd_L2 (rd_L4 y586 x32_2) 0) t597 _ ?side1 ?side2 A26.out).mono ?_
        (case side1 => exact co (Kd.C_below HR596_0.out HBz.out))
        (case side2 => exact HC596_0.out)
        rintro e w30 ⟨v598, rfl, ho0, hb⟩
        have HS0_ := (hb.cell (World.block_lt_of_cell? _ _ (hHeld.1))).trans (hHeld.1)
        have HS1_ := (hb.cell (World.block_lt_of_cell? _ _ (hHeld.2.1))).trans (hHeld.2.1)
        refine ⟨_, rfl, ?_⟩
        replace HO_6 := am (Kd.S_elder' (so HO_6.out) (Kd.R_base ho0) hb)
        replace HO_9 := am (Kd.R_elder' (ro HO_9.out) (Kd.R_base ho0) hb)
        replace HL591_0 := am (Kd.R_elder' (ro HL591_0.out) (Kd.R_base ho0) hb)
        have HO599 := am (Kd.R_lower (Kd.R_new' (Kd.R_new' (Kd.R_new' ho0 (Kd.R_lt (ro HO_20.out))) (Kd.R_lt (ro HL592_0.out))) (Kd.R_lt (ro HO595.out))) (below_size bw))
        replace HO_20 := am (Kd.R_elder' (ro HO_20.out) (Kd.R_base ho0) hb)
        replace HL592_0 := am (Kd.R_elder' (ro HL592_0.out) (Kd.R_base ho0) hb)
        replace HO595 := am (Kd.R_elder' (ro HO595.out) (Kd.R_base ho0) hb)
        replace BK574 := kb BK574 hb
        replace HR591_0 := am (Kd.C_below (co HR591_0.out) hb)
        replace HR592_0 := am (Kd.C_below (co HR592_0.out) hb)
        replace HB := am (below_step bw hb)
        replace HBz := am (below_step HBz.out hb)
        clear hb ho0
        obtain ⟨Ao31, co31, eo31⟩ := Kd.R_slice HO599.out
        (first | subst eo31 | (injection eo31 with f1_ f2_ f3_; have f4_ := f1_.symm; have f5_ := f3_.symm; clear f1_ f2_ f3_; subst f4_; subst f5_))
        obtain ⟨Ao32, co32, eo32⟩ := Kd.R_slice HO595.out
        (first | subst eo32 | (injection eo32 with f1_ f2_ f3_; have f4_ := f1_.symm; have f5_ := f3_.symm; clear f1_ f2_ f3_; subst f4_; subst f5_))
        refine hK.out _ _ ⟨HS0_, HS1_, ((HBz.out.cell (World.block_lt_of_cell? _ _ hw596_0)).trans hw596_0)⟩ (fun hHeld => ?_)
        clear hK K
        refine nm (some 46) ?_
        refine pa 11 (some 47) (yz 15 4095) HT_ ?_
        refine last_ (i := 12) (N := some 48) (yz 15 8191) rfl rfl (one_of HT_.out (by kernel_rfl)) (by decide) (fun K hK => ?_)
        refine value_ (w1 := ?_) (v := ?_) (by rfl) rfl ?_ ?_
        rotate_left 2
        ·go_simp
         constructor
         ·rfl
         rfl
        refine hK.out _ _ ?_
        clear hK K
        refine nm (some 48) ?_
        refine last_ (i := 13) (N := some 49) (yz 15 16383) rfl rfl (one_of HT_.out (by kernel_rfl)) (by decide) (fun K hK => ?_)
        refine Kd.S_append_step kpr (w0 := w) w.heap.size (by rfl) (.tmp 36) (.tmp 48) 56 86 (.agg #[(.slice none 0 0), (.slice none 0 0)]) 48 rfl Try.underlying56 info86 rfl (by decide) (by omega) u6 x6_2 (⟨t593, t597⟩ : S86) [.slice Ao32 t593.length co32, .slice Ao31 t597.length co31] (fun k_ => some k_ ≠ (.slice (some ad582) t575.length co9 : Value).ownBlock) (fun k_ => some k_ = (.slice Ao32 t593.length co32 : Value).ownBlock ∨ some k_ = (.slice Ao31 t597.length co31 : Value).ownBlock) rfl rfl ?aP (fun k_ hk_ => hk_.elim (fun h_ => ((Kd.R_mono (ok' := fun k_ => ((fun k_ => some k_ ≠ (.slice (some ad582) t575.length co9 : Value).ownBlock)) k_ ∧ some k_ ≠ (u6 : Value).ownBlock) (Kd.R_apart' (HO595.out) (Kd.S_typed HO_6.out) (by decide)) (fun k_ hk => ⟨hk.1.1.1.2, hk.2⟩))).1 k_ h_.symm) (fun h_ => ((Kd.R_mono (ok' := fun k_ => ((fun k_ => some k_ ≠ (.slice (some ad582) t575.length co9 : Value).ownBlock)) k_ ∧ some k_ ≠ (u6 : Value).ownBlock) (Kd.R_apart' (HO599.out) (Kd.S_typed HO_6.out) (by decide)) (fun k_ hk => ⟨hk.1.1.1.2, hk.2⟩))).1 k_ h_.symm)) ?aF ?aO ?aB ?aS ?aL ?_
        (case aP => exact kpr_mkM _ _ _ (⟨t593, t597⟩ : S86) (Kd.R_mono (Kd.R_tight rfl (Kd.R_mono (ok' := fun k_ => ((fun k_ => some k_ ≠ (.slice (some ad582) t575.length co9 : Value).ownBlock)) k_ ∧ some k_ ≠ (u6 : Value).ownBlock) (Kd.R_apart' (HO595.out) (Kd.S_typed HO_6.out) (by decide)) (fun k_ hk => ⟨hk.1.1.1.2, hk.2⟩))) (fun _ h_ => Or.inl h_)) (Kd.R_mono (Kd.R_tight rfl (Kd.R_mono (ok' := fun k_ => ((fun k_ => some k_ ≠ (.slice (some ad582) t575.length co9 : Value).ownBlock)) k_ ∧ some k_ ≠ (u6 : Value).ownBlock) (Kd.R_apart' (HO599.out) (Kd.S_typed HO_6.out) (by decide)) (fun k_ hk => ⟨hk.1.1.1.2, hk.2⟩))) (fun _ h_ => Or.inr (h_))) (fun k_ h_ e_ => (HO595.out.1 k_ h_).2 e_.symm))
        (case aB => exact bw)
        (case aF => exact (fun k_ hk => Kd.fresh' (Kd.R_lt (ro HO_20.out)) k_ hk))
        (case aO => exact (by (with_reducible repeat (first | apply Kd.S_alloc | apply Kd.S_drewN | apply Kd.S_drew)); exact Kd.S_mono HO_6.out (fun k_ hk => ⟨hk.1.1, fun e_ => e_.elim (fun h_ => hk.1.2 h_) (fun h_ => hk.2 h_)⟩)))
        (case aS => exact (below_size bw))
        (case aL => have := LMc27.out; omega)
        intro v601 w33 ho hb hg hat
        rw [← Ny600.out] at ho
        replace HO_9 := am (Kd.R_over' (ro HO_9.out) (Kd.S_typed (so HO_6.out)) (by decide) hg)
        replace HO_20 := am (Kd.R_over' (ro HO_20.out) (Kd.S_typed (so HO_6.out)) (by decide) hg)
        replace BK574 := am (blk_grown (g := gb574) (o := .cells #[.slice A0_0 l0_0.length c0_0] 27 (0, 0)) (bo BK574.out) hg (Kd.S_ne HO_6.out BK574.out (by decide)))
        replace HL591_0 := am (Kd.R_over' (ro HL591_0.out) (Kd.S_typed (so HO_6.out)) (by decide) hg)
        replace HL592_0 := am (Kd.R_over' (ro HL592_0.out) (Kd.S_typed (so HO_6.out)) (by decide) hg)
        replace HB := am (hb)
        have HO602 := am (ho)
        clear HO_6 HO595 HO599 ho hb hg hat
        refine hK.out _ _ ?_
        clear hK K
        refine nm (some 49) ?_
        refine pa 14 (some 6) (yz 15 32767) HT_ ?_
        refine done_ (done_of HT_.out (by kernel_rfl)) ?_
        try go_wp2
        go_roundg k2
        case measure => have := HK1.out; have := HK2.out; omega
        case rel => exact ⟨(y600), (wrap64 (x32_2 + 1)), rr, H', ⟨by have := HK1.out; have := HK2.out; omega⟩, ⟨so HO602.out⟩, ⟨by (with_reducible repeat (first | apply Kd.R_alloc | apply Kd.R_drewN | apply Kd.R_drew)); exact Kd.R_mono HO_9.out (fun _ hk => by first | exact hk.1.1 | simp_all)⟩, ⟨by (with_reducible repeat (first | apply Kd.R_alloc | apply Kd.R_drewN | apply Kd.R_drew)); exact Kd.R_mono HO_20.out (fun _ hk => trivial)⟩, ⟨bo BK574.out⟩, ⟨bw⟩⟩
       have H' := am H
       clear H
       go_wp2
       go_roundg k2
       case measure => have := HK1.out; have := HK2.out; omega
       case rel => exact ⟨(x6_2), (wrap64 (x22_1 + 1)), rr, H', ⟨by have := HK1.out; have := HK2.out; omega⟩, ⟨so HO_6.out⟩, ⟨ro HO_20.out⟩, ⟨bo BK574.out⟩, ⟨bw⟩⟩
    simp only [Option.some.injEq, Prod.mk.injEq] at H
    obtain ⟨rfl, rfl⟩ := H
    go_wp2
    go_ret2
    exact ⟨_, re, by (with_reducible repeat (first | apply Kd.S_alloc | apply Kd.S_drewN | apply Kd.S_drew)); exact Kd.S_mono HO_6.out (fun _ hk => trivial), bw⟩
 simp only [Option.some.injEq, Prod.mk.injEq] at H
 obtain ⟨rfl, rfl⟩ := H
 go_enter Try.func51, Try.ntmps51
 go_wp2_with (first | ((with_reducible refine gate_dst (N := 1) rfl ?_); refine bx 1 #[.slice A0_0 l0_0.length c0_0] 27 ?_; intro gb574 hg w34 hbox hb; have BK574 := am (hbox); have GW574 := am (gs hg : w.heap.size ≤ gb574); have GE574 := GW574; replace HB := am (below_step bw hb); clear hb hbox hg; have hcz35_0 := bc BK574 0 (.slice A0_0 l0_0.length c0_0); have hfz35_0 := blk_frozen BK574.out 0) | ((with_reducible refine gate_callee (f := 36) rfl ?_); refine gl (some 14) Try.func36 #[.agg #[.slice A0_0 l0_0.length c0_0]] ?_; (with_reducible refine (impl_BettiElements.calls k _ _ l0_0 t575 false _ ?side1 ?side2 A2.out).mono ?_); (case side1 => exact co (Kd.C_below HR0_0.out HB.out)); (case side2 => exact HC0_0.out); rintro e w36 ⟨v576, rfl, ho0, hb⟩; refine ⟨_, rfl, ?_⟩; have HO577 := am (Kd.R_lower ho0 (below_size bw)); replace BK574 := kb BK574 hb; replace HB := am (below_step bw hb); clear hb ho0))
 go_ret2
 exact ⟨_, re, by first | exact Kd.S_nil _ _ _ _ _ | exact Kd.N_nil _ _ _ _ _ | exact Kd.V_nil _ _ _ _ _ | exact Kd.Q_nil _ _ _ _ _ | exact Kd.R_nil _ _ _ _ _, bw⟩


/-! ### laws_eqRelation: function 103 -/
def laws_eqRelation.f (k : Nat) (l0_0 : List Int) (l0_1 : List Int) (l1_0 : List Int) (l1_1 : List Int) : Option (Bool) := (laws_eqIntS.f k l0_0 l1_0).bind fun t605 => (if t605 = true then ((laws_eqIntS.f k l0_1 l1_1).bind fun t606 => (if t606 = true then (some true) else (some false))) else (some false))
set_option maxHeartbeats 8000000 in
set_option maxRecDepth 100000 in
theorem laws_eqRelation.calls (k : Nat) (A0_0 : Option Addr) (c0_0 : Nat) (l0_0 : List Int) (A0_1 : Option Addr) (c0_1 : Nat) (l0_1 : List Int) (A1_0 : Option Addr) (c1_0 : Nat) (l1_0 : List Int) (A1_1 : Option Addr) (c1_1 : Nat) (l1_1 : List Int) (r : Bool) (w : World) (hr0_0 : Kd.C (Kd.int .i64) w A0_0 l0_0.length l0_0) (hc0_0 : l0_0.length ≤ c0_0) (hr0_1 : Kd.C (Kd.int .i64) w A0_1 l0_1.length l0_1) (hc0_1 : l0_1.length ≤ c0_1) (hr1_0 : Kd.C (Kd.int .i64) w A1_0 l1_0.length l1_0) (hc1_0 : l1_0.length ≤ c1_0) (hr1_1 : Kd.C (Kd.int .i64) w A1_1 l1_1.length l1_1) (hc1_1 : l1_1.length ≤ c1_1) (h : laws_eqRelation.f k l0_0 l0_1 l1_0 l1_1 = some r) :
  Calls Try.prog 103 #[.agg #[.slice A0_0 l0_0.length c0_0, .slice A0_1 l0_1.length c0_1], .agg #[.slice A1_0 l1_0.length c1_0, .slice A1_1 l1_1.length c1_1]] w fun e w' => e = .returned (.bool r) ∧ Below w.heap.size w w' := by
 have hu86 := Try.underlying86
 have HR0_0 := am hr0_0
 have HC0_0 := am hc0_0
 clear hr0_0 hc0_0
 have HR0_1 := am hr0_1
 have HC0_1 := am hc0_1
 clear hr0_1 hc0_1
 have HR1_0 := am hr1_0
 have HC1_0 := am hc1_0
 clear hr1_0 hc1_0
 have HR1_1 := am hr1_1
 have HC1_1 := am hc1_1
 clear hr1_1 hc1_1
 have HB := am (Below.refl w.heap.size w)
 have H : ((laws_eqIntS.f k l0_0 l1_0).bind fun t605 => (if t605 = true then ((laws_eqIntS.f k l0_1 l1_1).bind fun t606 => (if t606 = true then (some true) else (some false))) else (some false))) = some r := h
 clear h
 replace H := ga H; obtain ⟨t605, A3, H⟩ := H
 replace H := gb H; obtain ⟨rfl, H⟩ | ⟨rfl, H⟩ := H
 ·replace H := ga H; obtain ⟨t606, A5, H⟩ := H
  replace H := gb H; obtain ⟨rfl, H⟩ | ⟨rfl, H⟩ := H
  ·obtain rfl := Option.some.inj H
   go_enter Try.func103, Try.ntmps103
   go_wp2_with (first | ((with_reducible refine gate_dst (N := 2) rfl ?_); refine bx 2 #[.slice A0_0 l0_0.length c0_0, .slice A0_1 l0_1.length c0_1] 86 ?_; intro gb603 hg w7 hbox hb; have BK603 := am (hbox); have GW603 := am (gs hg : w.heap.size ≤ gb603); have GE603 := GW603; replace HB := am (below_step bw hb); clear hb hbox hg) | ((with_reducible refine gate_dst (N := 3) rfl ?_); refine bx 3 #[.slice A1_0 l1_0.length c1_0, .slice A1_1 l1_1.length c1_1] 86 ?_; intro gb604 hg w8 hbox hb; have BK604 := am (hbox); have GW604 := am (gs hg : w.heap.size ≤ gb604); have GE604 := GW604; replace HB := am (below_step bw hb); have NB603_604 := nl hg BK603; have NB604_603 := ns NB603_604; replace BK603 := kb BK603 hb; clear hb hbox hg; have hnb9 := NB603_604.out; have hnc9 := NB604_603.out; have hcz10_0 := bc BK603 0 (.slice A0_0 l0_0.length c0_0); have hcz10_1 := bc BK603 1 (.slice A0_1 l0_1.length c0_1); have hfz10_0 := blk_frozen BK603.out 0; have hfz10_1 := blk_frozen BK603.out 1; have hcz11_0 := bc BK604 0 (.slice A1_0 l1_0.length c1_0); have hcz11_1 := bc BK604 1 (.slice A1_1 l1_1.length c1_1); have hfz11_0 := blk_frozen BK604.out 0; have hfz11_1 := blk_frozen BK604.out 1) | ((with_reducible refine gate_callee (f := 21) rfl ?_); refine gl (some 9) Try.func21 #[.slice A0_0 l0_0.length c0_0, .slice A1_0 l1_0.length c1_0] ?_; (with_reducible refine (laws_eqIntS.calls k _ _ l0_0 _ _ l1_0 true _ ?side1 ?side2 ?side3 ?side4 A3.out).mono ?_); (case side1 => exact co (Kd.C_below HR0_0.out HB.out)); (case side2 => exact HC0_0.out); (case side3 => exact co (Kd.C_below HR1_0.out HB.out)); (case side4 => exact HC1_0.out); rintro e w' ⟨rfl, ⟨nd, rfl⟩⟩; refine ⟨_, rfl, ?_⟩) | ((with_reducible refine gate_callee (f := 21) rfl ?_); refine gl (some 15) Try.func21 #[.slice A0_1 l0_1.length c0_1, .slice A1_1 l1_1.length c1_1] ?_; (with_reducible refine (laws_eqIntS.calls k _ _ l0_1 _ _ l1_1 true _ ?side1 ?side2 ?side3 ?side4 A5.out).mono ?_); (case side1 => exact co (Kd.C_below HR0_1.out bw)); (case side2 => exact HC0_1.out); (case side3 => exact co (Kd.C_below HR1_1.out bw)); (case side4 => exact HC1_1.out); rintro e w' ⟨rfl, ⟨nd, rfl⟩⟩; refine ⟨_, rfl, ?_⟩))
   go_ret
   exact ⟨re, bw⟩
  obtain rfl := Option.some.inj H
  go_enter Try.func103, Try.ntmps103
  go_wp2_with (first | ((with_reducible refine gate_dst (N := 2) rfl ?_); refine bx 2 #[.slice A0_0 l0_0.length c0_0, .slice A0_1 l0_1.length c0_1] 86 ?_; intro gb603 hg w12 hbox hb; have BK603 := am (hbox); have GW603 := am (gs hg : w.heap.size ≤ gb603); have GE603 := GW603; replace HB := am (below_step bw hb); clear hb hbox hg) | ((with_reducible refine gate_dst (N := 3) rfl ?_); refine bx 3 #[.slice A1_0 l1_0.length c1_0, .slice A1_1 l1_1.length c1_1] 86 ?_; intro gb604 hg w13 hbox hb; have BK604 := am (hbox); have GW604 := am (gs hg : w.heap.size ≤ gb604); have GE604 := GW604; replace HB := am (below_step bw hb); have NB603_604 := nl hg BK603; have NB604_603 := ns NB603_604; replace BK603 := kb BK603 hb; clear hb hbox hg; have hnb14 := NB603_604.out; have hnc14 := NB604_603.out; have hcz15_0 := bc BK603 0 (.slice A0_0 l0_0.length c0_0); have hcz15_1 := bc BK603 1 (.slice A0_1 l0_1.length c0_1); have hfz15_0 := blk_frozen BK603.out 0; have hfz15_1 := blk_frozen BK603.out 1; have hcz16_0 := bc BK604 0 (.slice A1_0 l1_0.length c1_0); have hcz16_1 := bc BK604 1 (.slice A1_1 l1_1.length c1_1); have hfz16_0 := blk_frozen BK604.out 0; have hfz16_1 := blk_frozen BK604.out 1) | ((with_reducible refine gate_callee (f := 21) rfl ?_); refine gl (some 9) Try.func21 #[.slice A0_0 l0_0.length c0_0, .slice A1_0 l1_0.length c1_0] ?_; (with_reducible refine (laws_eqIntS.calls k _ _ l0_0 _ _ l1_0 true _ ?side1 ?side2 ?side3 ?side4 A3.out).mono ?_); (case side1 => exact co (Kd.C_below HR0_0.out HB.out)); (case side2 => exact HC0_0.out); (case side3 => exact co (Kd.C_below HR1_0.out HB.out)); (case side4 => exact HC1_0.out); rintro e w' ⟨rfl, ⟨nd, rfl⟩⟩; refine ⟨_, rfl, ?_⟩) | ((with_reducible refine gate_callee (f := 21) rfl ?_); refine gl (some 15) Try.func21 #[.slice A0_1 l0_1.length c0_1, .slice A1_1 l1_1.length c1_1] ?_; (with_reducible refine (laws_eqIntS.calls k _ _ l0_1 _ _ l1_1 false _ ?side1 ?side2 ?side3 ?side4 A5.out).mono ?_); (case side1 => exact co (Kd.C_below HR0_1.out bw)); (case side2 => exact HC0_1.out); (case side3 => exact co (Kd.C_below HR1_1.out bw)); (case side4 => exact HC1_1.out); rintro e w' ⟨rfl, ⟨nd, rfl⟩⟩; refine ⟨_, rfl, ?_⟩))
  go_ret
  exact ⟨re, bw⟩
 obtain rfl := Option.some.inj H
 go_enter Try.func103, Try.ntmps103
 go_wp2_with (first | ((with_reducible refine gate_dst (N := 2) rfl ?_); refine bx 2 #[.slice A0_0 l0_0.length c0_0, .slice A0_1 l0_1.length c0_1] 86 ?_; intro gb603 hg w17 hbox hb; have BK603 := am (hbox); have GW603 := am (gs hg : w.heap.size ≤ gb603); have GE603 := GW603; replace HB := am (below_step bw hb); clear hb hbox hg) | ((with_reducible refine gate_dst (N := 3) rfl ?_); refine bx 3 #[.slice A1_0 l1_0.length c1_0, .slice A1_1 l1_1.length c1_1] 86 ?_; intro gb604 hg w18 hbox hb; have BK604 := am (hbox); have GW604 := am (gs hg : w.heap.size ≤ gb604); have GE604 := GW604; replace HB := am (below_step bw hb); have NB603_604 := nl hg BK603; have NB604_603 := ns NB603_604; replace BK603 := kb BK603 hb; clear hb hbox hg; have hnb19 := NB603_604.out; have hnc19 := NB604_603.out; have hcz20_0 := bc BK603 0 (.slice A0_0 l0_0.length c0_0); have hcz20_1 := bc BK603 1 (.slice A0_1 l0_1.length c0_1); have hfz20_0 := blk_frozen BK603.out 0; have hfz20_1 := blk_frozen BK603.out 1; have hcz21_0 := bc BK604 0 (.slice A1_0 l1_0.length c1_0); have hcz21_1 := bc BK604 1 (.slice A1_1 l1_1.length c1_1); have hfz21_0 := blk_frozen BK604.out 0; have hfz21_1 := blk_frozen BK604.out 1) | ((with_reducible refine gate_callee (f := 21) rfl ?_); refine gl (some 9) Try.func21 #[.slice A0_0 l0_0.length c0_0, .slice A1_0 l1_0.length c1_0] ?_; (with_reducible refine (laws_eqIntS.calls k _ _ l0_0 _ _ l1_0 false _ ?side1 ?side2 ?side3 ?side4 A3.out).mono ?_); (case side1 => exact co (Kd.C_below HR0_0.out HB.out)); (case side2 => exact HC0_0.out); (case side3 => exact co (Kd.C_below HR1_0.out HB.out)); (case side4 => exact HC1_0.out); rintro e w' ⟨rfl, ⟨nd, rfl⟩⟩; refine ⟨_, rfl, ?_⟩))
 go_ret
 exact ⟨re, bw⟩

end Go.Proofs.Ytlfdipnhlmjiaaa.C
