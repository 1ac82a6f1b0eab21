/- Contracts of functions of the program: slices_Clip_int_int, impl_EulerList. -/
import Derived.Test.YtlfdipnhlmjiaaaC0
import Derived.Test.YtlfdipnhlmjiaaaC5
import Derived.Test.YtlfdipnhlmjiaaaC6
namespace Go.Proofs.Ytlfdipnhlmjiaaa.C
open Go.RowKit Go.Proofs.YtlfdipnhlmjiaaaW.PrintWords Go.Proofs.YtlfdipnhlmjiaaaW.PrintLast Go.Proofs.YtlfdipnhlmjiaaaW.PrintMore
attribute [local go_sem] max2_int min2_int max_two min_two max_three min_three max_four min_four
set_option linter.unusedVariables false
set_option linter.unusedSimpArgs false

/-! ### slices_Clip_int_int: function 72 -/
/-- A row of one's own whose room behind its end is cut away: told beside the uncut row. -/
def Kd.Z {α : Type} (d : Kd α) (e : Nat) (w : World) (base : Nat) (ok : Nat → Prop) (v : Value) (xs : List α) : Prop := (∀ k, v.ownBlock = some k → ok k) ∧ ∃ A n c, v = .slice A n n ∧ d.R e w base ok (.slice A n c) xs
section
variable {α : Type} {d : Kd α} {e : Nat} {w w1 : World} {base : Nat} {ok ok' S : Nat → Prop} {v : Value} {xs : List α}
theorem Kd.zb {A : Option Addr} {n m c c' : Nat} : (Value.slice A n c).ownBlock = (Value.slice A m c').ownBlock := by cases A <;> rfl
theorem Kd.Z_nil (d : Kd α) (e : Nat) (w : World) (base : Nat) (ok : Nat → Prop) : Kd.Z d e w base ok (.slice none 0 0) [] := ⟨fun k hk => by simp [Value.ownBlock] at hk, none, 0, 0, rfl, Kd.R_nil ..⟩
theorem Kd.Z_imp (h : Kd.Z d e w base ok v xs) (hok : ∀ k, ok k → ok' k) (hR : ∀ v, d.R e w base ok v xs → d.R e w1 base ok' v xs) : Kd.Z d e w1 base ok' v xs := by
 obtain ⟨h0, A, n, c, rfl, h⟩ := h
 exact ⟨fun k hk => hok k (h0 k hk), A, n, c, rfl, hR _ h⟩
theorem Kd.Z_mono (h : Kd.Z d e w base ok v xs) (hok : ∀ k, ok k → ok' k) : Kd.Z d e w base ok' v xs := Kd.Z_imp h hok (fun _ h => Kd.R_mono h hok)
theorem Kd.Z_below (h : Kd.Z d e w base ok v xs) (hb : Below w.heap.size w w1) : Kd.Z d e w1 base ok v xs := Kd.Z_imp h (fun _ h => h) (fun _ h => Kd.R_below h hb)
theorem Kd.Z_alloc (h : Kd.Z d e w base ok v xs) (o : Obj) : Kd.Z d e (w.alloc o) base ok v xs := Kd.Z_below h (below_alloc (Below.refl _ _) o)
theorem Kd.Z_drew (h : Kd.Z d e w base ok v xs) : Kd.Z d e w.drew base ok v xs := Kd.Z_below h (below_drew (Below.refl _ _))
theorem Kd.Z_drewN (h : Kd.Z d e w base ok v xs) (m : Nat) : Kd.Z d e (w.drewN m) base ok v xs := Kd.Z_below h (pw_below_drewN (Below.refl _ _) m)
theorem Kd.Z_far (h : Kd.Z d e w base ok v xs) {p : Addr} (hok : ∀ k, ok k → k ≠ p.block) (u : Value) : Kd.Z d e (w.setCell p u) base ok v xs := Kd.Z_imp h (fun _ h => h) (fun _ h => Kd.R_far h hok u)
theorem Kd.Z_kept (h : Kd.Z d e w base ok v xs) (hk : Kept w w1 S) (hne : ∀ k, ok k → ¬ S k) : Kd.Z d e w1 base ok v xs := Kd.Z_imp h (fun _ h => h) (fun _ h => Kd.R_kept h hk hne)
theorem Kd.Z_lower {base' : Nat} (h : Kd.Z d e w base ok v xs) (hb : base' ≤ base) : Kd.Z d e w base' ok v xs := by
 obtain ⟨h0, A, n, c, rfl, h⟩ := h
 exact ⟨h0, A, n, c, rfl, Kd.R_lower h hb⟩
theorem Kd.Z_bound (h : Kd.Z d e w base ok v xs) : Kd.Z d e w base (fun k => ok k ∧ base ≤ k ∧ k < w.heap.size ∧ ∃ q, q ∈ e :: d.E ∧ ∃ cells, w.heap[k]? = some (.cells cells q (0, 0))) v xs := by
 obtain ⟨h0, A, n, c, rfl, h⟩ := h
 have h2 := Kd.R_bound h
 exact ⟨fun k hk => h2.1 k (Kd.zb.trans hk), A, n, c, rfl, h2⟩
theorem Kd.Z_reads' {A : Option Addr} {n c : Nat} (h : Kd.Z d e w base ok (.slice A n c) xs) : n = xs.length ∧ n ≤ c ∧ d.C w A xs.length xs := by
 obtain ⟨h0, A', n', c', e, h⟩ := h
 injection e with e1 e2 e3
 subst e1 e2 e3
 have h2 := Kd.R_reads' h
 exact ⟨h2.1, Nat.le_refl _, h2.2.2⟩
theorem Kd.Z_slice (h : Kd.Z d e w base ok v xs) : ∃ A c, v = .slice A xs.length c := by
 obtain ⟨h0, A, n, c, rfl, h⟩ := h
 obtain rfl := (Kd.R_reads' h).1
 exact ⟨A, _, rfl⟩
end
def slices_Clip_int_int.f (l0 : List Int) : Option (List Int) := some l0
theorem slices_Clip_int_int.calls (P0_ : Nat → Prop) (u9000_ : Value) (l0 : List Int) (r : List Int) (w0 w : World) (hB : Below w0.heap.size w0 w) (ho0 : Kd.R (Kd.int .i64) 3 w w0.heap.size P0_ u9000_ l0) (h : slices_Clip_int_int.f l0 = some r) :
  Calls Try.prog 72 #[u9000_] w fun e w' => ∃ v0_ : Value, e = .returned (v0_) ∧ Kd.Z (Kd.int .i64) 3 w' w0.heap.size (fun k_ => (P0_ k_ ∨ w.heap.size ≤ k_)) v0_ r ∧ Below w0.heap.size w0 w' ∧ Kept w w' (fun k_ => P0_ k_) := by
 obtain rfl := Option.some.inj h
 obtain ⟨A, c, rfl⟩ := Kd.R_slice ho0
 have hlc : l0.length ≤ c := (Kd.R_reads' ho0).2.1
 go_enter Try.func72, Try.ntmps72
 go_wp2
 go_ret
 exact ⟨_, rfl, ⟨fun k hk => .inl (ho0.1 k (Kd.zb.trans hk)), A, _, c, rfl, Kd.R_mono ho0 (fun _ h => .inl h)⟩, hB, Kept.refl ..⟩


/-! ### impl_EulerList: function 20 -/
mutual
def impl_EulerList.l0 : Nat → List Int → List Int → Int → Int → List Int → Option (List Int)
 | 0, _, _, _, _, _ => none
 | k + 1, x3, x16, x17, x18, x412000 => if x18 < x17 then (if 0 ≤ x18 then (if x18 < (x16.length : Int) then (if 0 ≤ (wrap64 ((rd x16 x18) + 1)) then (if (wrap64 ((rd x16 x18) + 1) : Int).toNat ≤ 35184372088832 then ((some (List.replicate (wrap64 ((rd x16 x18) + 1) : Int).toNat 0 : List Int)).bind fun y417 => (if 0 < (y417.length : Int) then (if 0 ≤ (rd x16 x18) then (if (rd x16 x18) < (y417.length : Int) then ((impl_product.f k x3 ((y417.set (0 : Int).toNat 1).set ((rd x16 x18) : Int).toNat (-1))).bind fun t422 => (impl_EulerList.l0 k t422 x16 x17 (wrap64 (x18 + 1)) x412000)) else (none)) else (none)) else (none))) else (none)) else (none)) else (none)) else (none)) else ((impl_FrobeniusOf.f k x412000).bind fun t428 => ((impl_total.f k x412000).bind fun t429 => (impl_EulerList.l1 k x3 (([] : List Int)) 0 (wrap64 ((wrap64 (t428 + t429)) + 1)) 0)))
def impl_EulerList.l1 : Nat → List Int → List Int → Int → Int → Int → Option (List Int)
 | 0, _, _, _, _, _ => none
 | k + 1, x3, x7, x8, x41, x42 => if x42 < x41 then (if x42 < (x3.length : Int) then (if 0 ≤ x42 then (if x7.length < 17592186044416 then (impl_EulerList.l1 k x3 (x7 ++ [wrap64 (x8 + (rd x3 x42))]) (wrap64 (x8 + (rd x3 x42))) x41 (wrap64 (x42 + 1))) else (none)) else (none)) else (if x7.length < 17592186044416 then (impl_EulerList.l1 k x3 (x7 ++ [x8]) x8 x41 (wrap64 (x42 + 1))) else (none))) else ((slices_Clip_int_int.f x7).bind fun t437 => (some t437))
end
def impl_EulerList.f (k : Nat) (l0_0 : List Int) : Option (List Int) := (impl_IsSemigroup.f k l0_0).bind fun t412 => (if t412 = true then ((impl_NumeratorOf.f k l0_0).bind fun t413 => (impl_EulerList.l0 k t413 l0_0 (l0_0.length : Int) 0 l0_0)) else (some ([] : List Int)))
def impl_EulerList.T13 : Bool × List (List Nat × List Nat) := (true, [([], []), ([0], [0]), ([], []), ([2], [2]), ([3, 1], [3]), ([1, 4], [1, 4]), ([5], [5]), ([], [])])
def impl_EulerList.B13 : List Nat := [0, 1, 0, 4, 15, 31, 63, 0]
theorem impl_EulerList.tab13 : rtab .any (opsOf Try.f20 13) = impl_EulerList.T13 := by kernel_rfl
theorem impl_EulerList.bits13 : waitsOk impl_EulerList.T13.2 impl_EulerList.B13 = true := by kernel_rfl
set_option maxHeartbeats 8000000 in
set_option maxRecDepth 100000 in
theorem impl_EulerList.calls (k : Nat) (A0_0 : Option Addr) (c0_0 : Nat) (l0_0 : List Int) (r : List Int) (w : World) (hr0_0 : Kd.C (Kd.int .i64) w A0_0 l0_0.length l0_0) (hc0_0 : l0_0.length ≤ c0_0) (h : impl_EulerList.f k l0_0 = some r) :
  Calls Try.prog 20 #[.agg #[.slice A0_0 l0_0.length c0_0]] w fun e w' => ∃ v0_ : Value, e = .returned (v0_) ∧ Kd.Z (Kd.int .i64) 3 w' w.heap.size (fun _ => True) v0_ r ∧ Below w.heap.size w w' := by
 have hu27 := Try.underlying27
 have HR0_0 := am hr0_0
 have HC0_0 := am hc0_0
 clear hr0_0 hc0_0
 have HB := am (Below.refl w.heap.size w)
 have H : ((impl_IsSemigroup.f k l0_0).bind fun t412 => (if t412 = true then ((impl_NumeratorOf.f k l0_0).bind fun t413 => (impl_EulerList.l0 k t413 l0_0 (l0_0.length : Int) 0 l0_0)) else (some ([] : List Int)))) = some r := h
 clear h
 replace H := ga H; obtain ⟨t412, A2, H⟩ := H
 replace H := gb H; obtain ⟨rfl, H⟩ | ⟨rfl, H⟩ := H
 ·replace H := ga H; obtain ⟨t413, A4, H⟩ := H
  have H' := am H
  clear H
  go_enter Try.func20, Try.ntmps20
  go_wp2_with (first | ((with_reducible refine gate_dst (N := 1) rfl ?_); refine bx 1 #[.slice A0_0 l0_0.length c0_0] 27 ?_; intro gb411 hg w5 hbox hb; have BK411 := am (hbox); have GW411 := am (gs hg : w.heap.size ≤ gb411); have GE411 := GW411; replace HB := am (below_step bw hb); clear hb hbox hg; have hcz6_0 := bc BK411 0 (.slice A0_0 l0_0.length c0_0); have hfz6_0 := blk_frozen BK411.out 0) | ((with_reducible refine gate_callee (f := 62) rfl ?_); refine gl (some 11) Try.func62 #[.agg #[.slice A0_0 l0_0.length c0_0]] ?_; (with_reducible refine (impl_IsSemigroup.calls k _ _ l0_0 true _ ?side1 ?side2 A2.out).mono ?_); (case side1 => exact co (Kd.C_below HR0_0.out HB.out)); (case side2 => exact HC0_0.out); rintro e w7 ⟨rfl, hb⟩; refine ⟨_, rfl, ?_⟩; replace BK411 := kb BK411 hb; replace HB := am (below_step bw hb); clear hb; have hcz8_0 := bc BK411 0 (.slice A0_0 l0_0.length c0_0); have hfz8_0 := blk_frozen BK411.out 0) | ((with_reducible refine gate_callee (f := 68) rfl ?_); refine gl (some 14) Try.func68 #[.agg #[.slice A0_0 l0_0.length c0_0]] ?_; (with_reducible refine (impl_NumeratorOf.calls k _ _ l0_0 t413 _ ?side1 ?side2 A4.out).mono ?_); (case side1 => exact co (Kd.C_below HR0_0.out HB.out)); (case side2 => exact HC0_0.out); rintro e w9 ⟨v414, rfl, ho0, hb⟩; refine ⟨_, rfl, ?_⟩; have HO415 := am (Kd.R_lower ho0 (below_size bw)); replace BK411 := kb BK411 hb; replace HB := am (below_step bw hb); clear hb ho0; have hcz10_0 := bc BK411 0 (.slice A0_0 l0_0.length c0_0); have hfz10_0 := blk_frozen BK411.out 0))
  go_loopg [3, 18] k (fun kq v3 v18 w' => ∃ (x3_1 : List Int) (x18_1 : Int), v18 = .int .i64 x18_1 ∧ Aside0 (impl_EulerList.l0 kq x3_1 l0_0 (l0_0.length : Int) x18_1 l0_0 = some r) ∧ Aside0 (kq ≤ k) ∧ Aside0 (Kd.R (Kd.int .i64) 3 w' w.heap.size (fun _ => True) v3 x3_1) ∧ Aside0 (w'.heap[gb411]? = some (.cells #[(.slice A0_0 l0_0.length c0_0)] 27 (0, 0))) ∧ Aside0 (Below w.heap.size w w'))
  case atStart => exact ⟨(t413), (0), rr, H', ⟨Nat.le_refl _⟩, ⟨ro HO415.out⟩, ⟨bo BK411.out⟩, ⟨bw⟩⟩
  case round =>
   clear H'
   try clear hcz10_0; try clear hcz6_0; try clear hcz8_0; try clear hfz10_0; try clear hfz6_0; try clear hfz8_0
   obtain ⟨x3_1, x18_1, rfl, HA, HK1, HO_3, BK411, HB⟩ := hrel
   cases gk with
   | zero => exact absurd HA.out (by simp [impl_EulerList.l0])
   | succ k1 =>
    have H := HA.out
    clear HA
    simp only [impl_EulerList.l0] at H
    replace H := gi H; obtain ⟨c11b0, H⟩ | ⟨c11b0, H⟩ := H
    ·replace H := gd H; obtain ⟨c12b0, H⟩ := H
     replace H := gd H; obtain ⟨c13b0, H⟩ := H
     obtain ⟨ji14, hji14⟩ : ∃ j_ : Int, (wrap64 ((rd l0_0 x18_1) + 1)) = j_ := ⟨_, rfl⟩
     replace H : (if 0 ≤ (ji14) then (if (ji14 : Int).toNat ≤ 35184372088832 then ((some (List.replicate (ji14 : Int).toNat 0 : List Int)).bind fun y417 => (if 0 < (y417.length : Int) then (if 0 ≤ (rd l0_0 x18_1) then (if (rd l0_0 x18_1) < (y417.length : Int) then ((impl_product.f k1 x3_1 ((y417.set (0 : Int).toNat 1).set ((rd l0_0 x18_1) : Int).toNat (-1))).bind fun t422 => (impl_EulerList.l0 k1 t422 l0_0 (l0_0.length : Int) (wrap64 (x18_1 + 1)) l0_0)) else (none)) else (none)) else (none))) else (none)) else (none)) = some r := by first | (rw [hji14] at H; exact H) | (simp only [hji14] at H ⊢; exact H)
     have hji14w : (IntKind.i64.wrap ((rd l0_0 x18_1) + 1)) = ji14 := (i64_w _).trans hji14
     replace H := gp H; obtain ⟨c15, H⟩ := H
     have c15b0 := eq_true c15
     have c15b1 : decide (0 ≤ (ji14)) = true := decide_eq_true c15
     clear c15
     replace H := gp H; obtain ⟨c16, H⟩ := H
     have c16b0 := eq_true c16
     have c16b1 : decide ((ji14 : Int).toNat ≤ 35184372088832) = true := decide_eq_true c16
     clear c16
     obtain ⟨y417, hy417⟩ : ∃ y_ : List Int, y_ = (List.replicate (ji14 : Int).toNat 0) := ⟨_, rfl⟩
     replace H : (if 0 < (y417.length : Int) then (if 0 ≤ (rd l0_0 x18_1) then (if (rd l0_0 x18_1) < (y417.length : Int) then ((impl_product.f k1 x3_1 ((y417.set (0 : Int).toNat 1).set ((rd l0_0 x18_1) : Int).toNat (-1))).bind fun t422 => (impl_EulerList.l0 k1 t422 l0_0 (l0_0.length : Int) (wrap64 (x18_1 + 1)) l0_0)) else (none)) else (none)) else (none)) = some r := by first | (rw [hy417]; with_reducible first | exact H | exact bs H) | (with_reducible first | exact bs H | exact H) | (rw [hy417]; exact H) | exact H
     have Ny417 := am hy417
     clear hy417
     replace H := gp H; obtain ⟨c17, H⟩ := H
     have c17b0 : decide (0 < (y417.length : Int)) = true := decide_eq_true c17
     have c17b1 : decide (0 < y417.length) = true := decide_eq_true (by omega)
     clear c17
     obtain ⟨y420, hy420⟩ : ∃ y_ : List Int, y_ = (y417.set (0 : Int).toNat 1) := ⟨_, rfl⟩
     replace H : (if 0 ≤ (rd l0_0 x18_1) then (if (rd l0_0 x18_1) < (y417.length : Int) then ((impl_product.f k1 x3_1 (y420.set ((rd l0_0 x18_1) : Int).toNat (-1))).bind fun t422 => (impl_EulerList.l0 k1 t422 l0_0 (l0_0.length : Int) (wrap64 (x18_1 + 1)) l0_0)) else (none)) else (none)) = some r := by first | (rw [hy420]; with_reducible first | exact H | exact bs H) | (with_reducible first | exact bs H | exact H) | (rw [hy420]; exact H) | exact H
     have Ny420 := am hy420
     clear hy420
     replace H := gd H; obtain ⟨c19b0, H⟩ := H
     replace H := gd H; obtain ⟨c20b0, H⟩ := H
     obtain ⟨y421, hy421⟩ : ∃ y_ : List Int, y_ = (y420.set ((rd l0_0 x18_1) : Int).toNat (-1)) := ⟨_, rfl⟩
     replace H : ((impl_product.f k1 x3_1 y421).bind fun t422 => (impl_EulerList.l0 k1 t422 l0_0 (l0_0.length : Int) (wrap64 (x18_1 + 1)) l0_0)) = some r := by first | (rw [hy421]; with_reducible first | exact H | exact bs H) | (with_reducible first | exact bs H | exact H) | (rw [hy421]; exact H) | exact H
     have Ny421 := am hy421
     clear hy421
     replace H := ga H; obtain ⟨t422, A22, H⟩ := H
     have H' := am H
     clear H
     obtain ⟨⟨ad416, e416, hx416_0⟩, p416, q416⟩ := pq (Kd.at_int HR0_0.out x18_1)
     cases e416
     replace hx416_0 := hw HB hx416_0
     go_wp2_with (first | ((with_reducible refine gate_dst (N := 24) rfl ?_); refine Kd.R_make (Kd.int .i64) _ 3 rfl (N := 24) rfl 22 _ _ rfl ji14 rfl rfl Try.underlying22 (.int .i64 0) 8 info3 rfl (by decide) (by omega) 0 (ok := fun _ => True) (okp := fun _ => True) rfl (fun _ hk => hk) trivial (of_decide_eq_true (by first | (with_reducible assumption) | assumption)) (Nat.le_trans (Nat.mul_le_mul_right _ (of_decide_eq_true (by first | (with_reducible assumption) | assumption) : ji14.toNat ≤ 35184372088832)) (by omega)) (Below.refl _ _) (Nat.le_refl _) ?_; intro v418 w23 ho24 hb hg_ hnew_; clear hg_ hnew_; (first | rw [← Ny417.out] at ho24 | (simp only [Int.reduceToNat] at ho24; rw [← Ny417.out] at ho24)); have HO419 := am (Kd.R_lower (Kd.R_new' ho24 (Kd.R_lt (ro HO_3.out))) (below_size bw)); replace HO_3 := am (Kd.R_elder' (ro HO_3.out) (Kd.R_base ho24) hb); replace BK411 := kb BK411 hb; replace HB := am (below_step bw hb); clear hb ho24; have p18 : 0 ≤ (0 : Int) := (by omega); have q18 : (0 : Int) < ((y417.length : Int) : Int) := of_decide_eq_true (by first | (with_reducible assumption) | assumption); have qi18 : (0 < y417.length) = True := eq_true (by omega); obtain ⟨go18, co18, eo18, gb18, gl18, cl18, HG18⟩ := Kd.R_form HO419.out (by omega); (first | cases eo18 | (injection eo18 with ea_ en_ ec_; (first | subst ea_ | (injection ea_ with ea_; subst ea_)); subst ec_; clear en_)); have GB18 := am gb18; have GG18 := am HG18; clear gb18 gl18 HG18; obtain ⟨hx18_0, hf18_0⟩ := Kd.R_celln 0 HO419.out (0 : Int) p18 q18; (try rw [show ((0 : Int)).toNat = 0 from rfl] at hx18_0); (try simp only [Nat.reduceMul, Nat.zero_mul, Nat.zero_add, Nat.reduceAdd] at hx18_0); (try rw [show ((0 : Int)).toNat = 0 from rfl] at hf18_0); (try simp only [Nat.reduceMul, Nat.zero_mul, Nat.zero_add, Nat.reduceAdd] at hf18_0); replace p18 := eq_true p18; replace q18 := eq_true q18; have n_ := am (Kd.R_mono (ok' := (fun k_ => some k_ ≠ (u3 : Value).ownBlock)) HO419.out (fun k_ hk => hk.2)); clear HO419; have HO419 := n_; clear n_; obtain ⟨hy25_, hz25_⟩ := Kd.R_celln 0 HO419.out (0 : Int) (by omega) (of_decide_eq_true (by first | (with_reducible assumption) | assumption)); (try simp only [Int.reduceToNat, Int.toNat_zero, Int.toNat_ofNat, Nat.reduceMul, Nat.zero_mul, Nat.zero_add] at hy25_ hz25_); (try rw [show ((0 : Int)).toNat = 0 from rfl] at hy25_); (try rw [show ((0 : Int)).toNat = 0 from rfl] at hz25_); have HP25 := Kd.R_putg HO419.out (0 : Int) 1) | ((with_reducible refine gate_store (t := 3) (p := 28) rfl ?_); refine store_event (t := 3) (p := 28) (v := ?vo_w26) (w1 := (w23.setCell ⟨go18, (0 : Int).toNat, none⟩ (.int .i64 1))) ?hg ?ho ?hn ?hr ?_; (case ho => rfl); (case hg => rfl); (case hn => rfl); (case hr => first | (go_simp; done) | (go_simp; rfl)); intro w26 hw; have hg : w23.grownBy w26 (some go18) := (by rw [hw]; exact HP25.2); have hp_ : Kd.R (Kd.int .i64) 3 w26 w.heap.size (fun k_ => some k_ ≠ (u3 : Value).ownBlock) (.slice (some ⟨go18, 0, none⟩) y417.length co18) y420 := (by rw [hw, Ny420.out]; exact HP25.1); clear HP25; replace HO_3 := am (Kd.R_after (v := (.slice (some ⟨go18, 0, none⟩) y417.length co18)) (v1 := (.slice (some ⟨go18, 0, none⟩) y417.length co18)) (ok := (fun _ => True)) (ro HO_3.out) hg (.inl rfl)); replace BK411 := am (blk_grown (g := gb411) (o := .cells #[.slice (some ad416) l0_0.length c0_0] 27 (0, 0)) (bo BK411.out) hg (Kd.R_ne HO419.out BK411.out (by decide))); replace HO419 := am (hp_); replace HB := am ((by rw [hw]; exact below_set (HB.out) GB18.out : Below w.heap.size w w26)); clear hg hw hp_; have p21 : 0 ≤ ((rd l0_0 x18_1) : Int) := of_decide_eq_true (by first | (with_reducible assumption) | assumption); have q21 : ((rd l0_0 x18_1) : Int) < ((y417.length : Int) : Int) := of_decide_eq_true (by first | (with_reducible assumption) | assumption); obtain ⟨hx21_0, hf21_0⟩ := Kd.R_celln 0 HO419.out ((rd l0_0 x18_1) : Int) p21 q21; replace p21 := eq_true p21; replace q21 := eq_true q21; obtain ⟨hy27_, hz27_⟩ := Kd.R_celln 0 HO419.out ((rd l0_0 x18_1) : Int) (of_decide_eq_true (by first | (with_reducible assumption) | assumption)) (of_decide_eq_true (by first | (with_reducible assumption) | assumption)); have HP27 := Kd.R_putg HO419.out ((rd l0_0 x18_1) : Int) (-1)) | ((with_reducible refine gate_store (t := 3) (p := 29) rfl ?_); refine store_event (t := 3) (p := 29) (v := ?vo_w28) (w1 := (w26.setCell ⟨go18, ((rd l0_0 x18_1) : Int).toNat, none⟩ (.int .i64 (-1)))) ?hg ?ho ?hn ?hr ?_; (case ho => rfl); (case hg => rfl); (case hn => rfl); (case hr => first | (go_simp; done) | (go_simp; rfl)); intro w28 hw; have hg : w26.grownBy w28 (some go18) := (by rw [hw]; exact HP27.2); have hp_ : Kd.R (Kd.int .i64) 3 w28 w.heap.size (fun k_ => some k_ ≠ (u3 : Value).ownBlock) (.slice (some ⟨go18, 0, none⟩) y417.length co18) y421 := (by rw [hw, Ny421.out]; exact HP27.1); clear HP27; replace HO_3 := am (Kd.R_after (v := (.slice (some ⟨go18, 0, none⟩) y417.length co18)) (v1 := (.slice (some ⟨go18, 0, none⟩) y417.length co18)) (ok := (fun _ => True)) (ro HO_3.out) hg (.inl rfl)); replace BK411 := am (blk_grown (g := gb411) (o := .cells #[.slice (some ad416) l0_0.length c0_0] 27 (0, 0)) (bo BK411.out) hg (Kd.R_ne HO419.out BK411.out (by decide))); replace HO419 := am (hp_); replace HB := am ((by rw [hw]; exact below_set (HB.out) GB18.out : Below w.heap.size w w28)); clear hg hw hp_; obtain ⟨Ao29, co29, eo29⟩ := Kd.R_slice HO_3.out; subst eo29) | ((with_reducible refine gate_callee (f := 69) rfl ?_); refine goesL_ (some 32) rfl rfl Try.func69 (by kernel_rfl) rfl #[.slice Ao29 x3_1.length co29, .slice (some ⟨go18, 0, none⟩) y421.length co18] rfl (by (try simp only [List.map_toArray, List.map_cons, List.map_nil]); first | done | (rw [show y421.length = y417.length from (Kd.R_reads' HO419.out).1.symm] <;> rfl) | rfl | (simp only [List.length_drop, List.length_take]; rfl)) ?_; (with_reducible refine (impl_product.calls k1 _ _ x3_1 _ _ y421 t422 _ ?side1 ?side2 ?side3 ?side4 A22.out).mono ?_); (case side1 => exact co (Kd.R_reads' HO_3.out).2.2); (case side2 => exact (Kd.R_reads' HO_3.out).2.1); (case side3 => exact co (Kd.R_reads' HO419.out).2.2); (case side4 => rw [show y421.length = y417.length from (Kd.R_reads' HO419.out).1.symm]; exact (Kd.R_reads' HO419.out).2.1); rintro e w30 ⟨v423, rfl, ho0, hb⟩; refine ⟨_, rfl, ?_⟩; have HO424 := am (Kd.R_lower (Kd.R_new' (Kd.R_new' ho0 (Kd.R_lt (ro HO_3.out))) (Kd.R_lt (ro HO419.out))) (below_size bw)); replace HO_3 := am (Kd.R_elder' (ro HO_3.out) (Kd.R_base ho0) hb); replace HO419 := am (Kd.R_elder' (ro HO419.out) (Kd.R_base ho0) hb); replace BK411 := kb BK411 hb; replace HB := am (below_step bw hb); clear hb ho0))
     go_roundg k1
     case measure => have := HK1.out; omega
     case rel => exact ⟨(t422), (wrap64 (x18_1 + 1)), rr, H', ⟨by have := HK1.out; omega⟩, ⟨by (with_reducible repeat (first | apply Kd.R_alloc | apply Kd.R_drewN | apply Kd.R_drew)); exact Kd.R_mono HO424.out (fun _ hk => trivial)⟩, ⟨bo BK411.out⟩, ⟨bw⟩⟩
    obtain ⟨y425, hy425⟩ : ∃ y_ : List Int, y_ = (([] : List Int)) := ⟨_, rfl⟩
    replace H : ((impl_FrobeniusOf.f k1 l0_0).bind fun t428 => ((impl_total.f k1 l0_0).bind fun t429 => (impl_EulerList.l1 k1 x3_1 y425 0 (wrap64 ((wrap64 (t428 + t429)) + 1)) 0))) = some r := by first | (rw [hy425]; with_reducible first | exact H | exact bs H) | (with_reducible first | exact bs H | exact H) | (rw [hy425]; exact H) | exact H
    have Ny425 := am hy425
    clear hy425
    replace H := ga H; obtain ⟨t428, A31, H⟩ := H
    replace H := ga H; obtain ⟨t429, A32, H⟩ := H
    have H' := am H
    clear H
    try go_wp2_with (first | ((with_reducible refine gate_dst (N := 34) rfl ?_); refine Kd.R_lit (Kd.int .i64) _ 3 ?hg (N := 34) ?hd (xs := ([] : List Int)) (inner := []) (ok := fun _ => True) (okp := fun _ => True) ?hr ?hp (fun _ hk => hk) trivial (Below.refl _ _) (Nat.le_refl _) (by simp) ?_; (case hd => rfl); (case hg => rfl); (case hr => first | (go_simp; done) | (go_simp; rfl)); (case hp => exact (Reps.none _ _)); intro v426 w33 ho34 hb hg_ hnew_; clear hg_ hnew_; (first | rw [← Ny425.out] at ho34 | (simp only [Int.reduceToNat] at ho34; rw [← Ny425.out] at ho34)); have HO427 := am (Kd.R_lower (Kd.R_new' ho34 (Kd.R_lt (ro HO_3.out))) (below_size bw)); replace HO_3 := am (Kd.R_elder' (ro HO_3.out) (Kd.R_base ho34) hb); replace BK411 := kb BK411 hb; replace HB := am (below_step bw hb); clear hb ho34))
    replace HO_3 := am (Kd.R_drew HO_3.out)
    replace HO427 := am (Kd.R_drew HO427.out)
    replace BK411 := bd BK411
    replace HB := am (below_drew1 HB.out)
    refine start_ (n := 8) (S := fun w' => w'.cell? ⟨gb411, 0, none⟩ = some (.slice A0_0 l0_0.length c0_0)) (ds := []) (yz 8 0) (by kernel_rfl) rfl rfl (bc BK411 0 _) (fun hHeld => ?_); refine with_tabW impl_EulerList.tab13 impl_EulerList.bits13 (fun HT_ HW_ => ?_)
    generalize w33.drew = w35 at HO_3 HO427 BK411 HB hHeld ⊢
    refine pa 2 (some 37) (yz 8 4) HT_ ?_
    refine pa 7 (some 42) (yz 8 132) HT_ ?_
    refine tK 0 (some 35) (yz 8 133) HT_ HW_ hHeld ?_
    refine tK 3 (some 38) (yz 8 141) HT_ HW_ hHeld ?_
    refine oa 1 (some 36) (yz 8 143) HT_ (fun K hK => ?_)
    refine gm Try.func70 #[.agg #[.slice A0_0 l0_0.length c0_0]] ?_
    with_reducible refine (impl_FrobeniusOf.calls k1 _ _ l0_0 t428 _ ?side1 ?side2 A31.out).mono ?_
    (case side1 => exact co (Kd.C_below HR0_0.out HB.out))
    (case side2 => exact HC0_0.out)
    rintro e w36 ⟨rfl, hb⟩
    refine ⟨_, rfl, ?_⟩
    replace HO_3 := rK HO_3 hb
    replace HO427 := rK HO427 hb
    replace BK411 := kb BK411 hb
    replace HB := am (below_step bw hb)
    clear hb
    refine hK.out _ _ (bc BK411 0 _) (fun hHeld => ?_)
    clear hK K
    refine nm (some 36) ?_
    refine oa 4 (some 39) (yz 8 159) HT_ (fun K hK => ?_)
    refine gm Try.func71 #[.slice A0_0 l0_0.length c0_0] ?_
    with_reducible refine (impl_total.calls k1 _ _ l0_0 t429 _ ?side1 ?side2 A32.out).mono ?_
    (case side1 => exact co (Kd.C_below HR0_0.out HB.out))
    (case side2 => exact HC0_0.out)
    rintro e w' ⟨rfl, ⟨nd, rfl⟩⟩
    refine ⟨_, rfl, ?_⟩
    refine hK.out _ _ (bc BK411 0 _) (fun hHeld => ?_)
    clear hK K
    refine nm (some 39) ?_
    refine pa 5 (some 40) (yz 8 191) HT_ ?_
    refine pa 6 (some 41) (yz 8 255) HT_ ?_
    refine done_ (done_of HT_.out (by kernel_rfl)) ?_
    try go_wp2
    go_loopg [7, 8, 42] k1 (fun kq v7 v8 v42 w' => ∃ (x7_2 : List Int) (x8_2 : Int) (x42_2 : Int), v8 = .int .i64 x8_2 ∧ v42 = .int .i64 x42_2 ∧ Aside0 (impl_EulerList.l1 kq x3_1 x7_2 x8_2 (wrap64 ((wrap64 (t428 + t429)) + 1)) x42_2 = some r) ∧ Aside0 (kq ≤ k1) ∧ Aside0 (Kd.R (Kd.int .i64) 3 w' w.heap.size (fun k_ => some k_ ≠ (v7 : Value).ownBlock) u3 x3_1) ∧ Aside0 (Kd.R (Kd.int .i64) 3 w' w.heap.size (fun k_ => some k_ ≠ (u3 : Value).ownBlock) v7 x7_2) ∧ Aside0 (w'.heap[gb411]? = some (.cells #[(.slice A0_0 l0_0.length c0_0)] 27 (0, 0))) ∧ Aside0 (Below w.heap.size w w'))
    case atStart => exact ⟨(y425), (0), (0), rr, rr, H', ⟨Nat.le_refl _⟩, ⟨by (with_reducible repeat (first | apply Kd.R_alloc | apply Kd.R_drewN | apply Kd.R_drew)); exact Kd.R_mono HO_3.out (fun _ hk => hk.2)⟩, ⟨by (with_reducible repeat (first | apply Kd.R_alloc | apply Kd.R_drewN | apply Kd.R_drew)); exact Kd.R_mono HO427.out (fun _ hk => hk.2)⟩, ⟨bo BK411.out⟩, ⟨bw⟩⟩
    case round =>
     clear H'
     try clear c11b0; try clear c12b0; try clear c13b0; try clear c15; try clear c15b0; try clear c15b1; try clear c16; try clear c16b0; try clear c16b1; try clear c17; try clear c17b0; try clear c17b1; try clear p18; try clear q18; try clear qi18; try clear c19b0; try clear c20b0; try clear p21; try clear q21; try clear hcz10_0; try clear hcz6_0; try clear hcz8_0; try clear hfz10_0; try clear hfz6_0; try clear hfz8_0; try clear hx18_0; try clear hx21_0; try clear hx416_0; try clear p416; try clear q416
     obtain ⟨x7_2, x8_2, x42_2, rfl, rfl, HA, HK2, HO_3, HO_7, BK411, HB⟩ := hrel
     cases gk with
     | zero => exact absurd HA.out (by simp [impl_EulerList.l1])
     | succ k2 =>
      have H := HA.out
      clear HA
      simp only [impl_EulerList.l1] at H
      replace H := gi H; obtain ⟨c37b0, H⟩ | ⟨c37b0, H⟩ := H
      ·replace H := gi H; obtain ⟨c38b0, H⟩ | ⟨c38b0, H⟩ := H
       ·replace H := gd H; obtain ⟨c39b0, H⟩ := H
        by_cases c40 : x7_2.length < 17592186044416
        rotate_left
        ·rw [if_neg c40] at H
         exact absurd H (by simp)
        rw [if_pos c40] at H
        have LMc40 := am c40
        clear c40
        obtain ⟨y431, hy431⟩ : ∃ y_ : List Int, y_ = (x7_2 ++ [wrap64 (x8_2 + (rd x3_1 x42_2))]) := ⟨_, rfl⟩
        replace H : (impl_EulerList.l1 k2 x3_1 y431 (wrap64 (x8_2 + (rd x3_1 x42_2))) (wrap64 ((wrap64 (t428 + t429)) + 1)) (wrap64 (x42_2 + 1))) = some r := by first | (rw [hy431]; with_reducible first | exact H | exact bs H) | (with_reducible first | exact bs H | exact H) | (rw [hy431]; exact H) | exact H
        have Ny431 := am hy431
        clear hy431
        have H' := am H
        clear H
        obtain ⟨Ao41, co41, eo41⟩ := Kd.R_slice HO_3.out
        subst eo41
        obtain ⟨⟨ad430, e430, hx430_0⟩, p430, q430⟩ := pq (Kd.at_int (Kd.R_reads' HO_3.out).2.2 x42_2)
        cases e430
        go_wp2_with (first | ((with_reducible refine gate_builtin (b := .append) (xs := #[.tmp 55, .tmp 57]) rfl ?_); at_builtin; refine Kd.R_append (Kd.int .i64) (w0 := w) w.heap.size rfl (.tmp 55) (.tmp 57) 22 3 (.int .i64 0) 8 rfl Try.underlying22 info3 rfl (by decide) (by omega) u7 x7_2 (wrap64 (x8_2 + (rd x3_1 x42_2))) [.int .i64 (wrap64 (x8_2 + (rd x3_1 x42_2)))] (fun k_ => some k_ ≠ (.slice (some ad430) x3_1.length co41 : Value).ownBlock) (fun _ => False) rfl rfl ?aP (fun _ hk => hk.elim) ?aF ?aO ?aB ?aS ?aL ?_; (case aP => exact rfl); (case aB => exact bw); (case aF => exact (fun k_ hk => Kd.fresh' (Kd.R_lt (ro HO_3.out)) k_ hk)); (case aO => exact (ro HO_7.out)); (case aS => exact (below_size bw)); (case aL => have := LMc40.out; omega); intro v432 w42 ho hb hg hat; rw [← Ny431.out] at ho; replace HO_3 := am (Kd.R_after (ok := (fun _ => True)) (by (with_reducible repeat (first | apply Kd.R_alloc | apply Kd.R_drewN | apply Kd.R_drew)); exact Kd.R_mono HO_3.out (fun _ hk => ⟨trivial, by first | exact hk | exact (by intro a n m c x h; cases a <;> exact h : ∀ (a : Option Addr) (n m c x : Nat), some x ≠ (Value.slice a n c).ownBlock → some x ≠ (Value.slice a m c).ownBlock) _ _ _ _ _ hk⟩)) hg hat); replace BK411 := am (blk_grown (g := gb411) (o := .cells #[.slice A0_0 l0_0.length c0_0] 27 (0, 0)) (bo BK411.out) hg (Kd.R_ne HO_7.out BK411.out (by decide))); replace HB := am (hb); have HO433 := am (ho); clear HO_7 ho hb hg hat))
        go_roundg k2
        case measure => have := HK1.out; have := HK2.out; omega
        case rel => exact ⟨(y431), (wrap64 (x8_2 + (rd x3_1 x42_2))), (wrap64 (x42_2 + 1)), rr, rr, H', ⟨by have := HK1.out; have := HK2.out; omega⟩, ⟨by (with_reducible repeat (first | apply Kd.R_alloc | apply Kd.R_drewN | apply Kd.R_drew)); exact Kd.R_mono HO_3.out (fun _ hk => hk.2)⟩, ⟨ro HO433.out⟩, ⟨bo BK411.out⟩, ⟨bw⟩⟩
       by_cases c43 : x7_2.length < 17592186044416
       rotate_left
       ·rw [if_neg c43] at H
        exact absurd H (by simp)
       rw [if_pos c43] at H
       have LMc43 := am c43
       clear c43
       obtain ⟨y434, hy434⟩ : ∃ y_ : List Int, y_ = (x7_2 ++ [x8_2]) := ⟨_, rfl⟩
       replace H : (impl_EulerList.l1 k2 x3_1 y434 x8_2 (wrap64 ((wrap64 (t428 + t429)) + 1)) (wrap64 (x42_2 + 1))) = some r := by first | (rw [hy434]; with_reducible first | exact H | exact bs H) | (with_reducible first | exact bs H | exact H) | (rw [hy434]; exact H) | exact H
       have Ny434 := am hy434
       clear hy434
       have H' := am H
       clear H
       obtain ⟨Ao44, co44, eo44⟩ := Kd.R_slice HO_3.out
       subst eo44
       go_wp2_with (first | ((with_reducible refine gate_builtin (b := .append) (xs := #[.tmp 55, .tmp 57]) rfl ?_); at_builtin; refine Kd.R_append (Kd.int .i64) (w0 := w) w.heap.size rfl (.tmp 55) (.tmp 57) 22 3 (.int .i64 0) 8 rfl Try.underlying22 info3 rfl (by decide) (by omega) u7 x7_2 x8_2 [.int .i64 x8_2] (fun k_ => nb k_ Ao44 x3_1 co44) (fun _ => False) rfl rfl ?aP (fun _ hk => hk.elim) ?aF ?aO ?aB ?aS ?aL ?_; (case aP => exact rfl); (case aB => exact bw); (case aF => exact (fun k_ hk => Kd.fresh' (Kd.R_lt (ro HO_3.out)) k_ hk)); (case aO => exact (ro HO_7.out)); (case aS => exact (below_size bw)); (case aL => have := LMc43.out; omega); intro v435 w45 ho hb hg hat; rw [← Ny434.out] at ho; replace HO_3 := am (Kd.R_after (ok := (fun _ => True)) (by (with_reducible repeat (first | apply Kd.R_alloc | apply Kd.R_drewN | apply Kd.R_drew)); exact Kd.R_mono HO_3.out (fun _ hk => ⟨trivial, by first | exact hk | exact (by intro a n m c x h; cases a <;> exact h : ∀ (a : Option Addr) (n m c x : Nat), some x ≠ (Value.slice a n c).ownBlock → some x ≠ (Value.slice a m c).ownBlock) _ _ _ _ _ hk⟩)) hg hat); replace BK411 := am (blk_grown (g := gb411) (o := .cells #[.slice A0_0 l0_0.length c0_0] 27 (0, 0)) (bo BK411.out) hg (Kd.R_ne HO_7.out BK411.out (by decide))); replace HB := am (hb); have HO436 := am (ho); clear HO_7 ho hb hg hat))
       go_roundg k2
       case measure => have := HK1.out; have := HK2.out; omega
       case rel => exact ⟨(y434), (x8_2), (wrap64 (x42_2 + 1)), rr, rr, H', ⟨by have := HK1.out; have := HK2.out; omega⟩, ⟨by (with_reducible repeat (first | apply Kd.R_alloc | apply Kd.R_drewN | apply Kd.R_drew)); exact Kd.R_mono HO_3.out (fun _ hk => hk.2)⟩, ⟨ro HO436.out⟩, ⟨bo BK411.out⟩, ⟨bw⟩⟩
      replace H := ga H; obtain ⟨t437, A46, H⟩ := H
      obtain rfl := Option.some.inj H
      obtain ⟨Ao47, co47, eo47⟩ := Kd.R_slice HO_7.out
      subst eo47
      go_wp2_with (first | ((with_reducible refine gate_callee (f := 72) rfl ?_); refine gl (some 61) Try.func72 #[.slice Ao47 x7_2.length co47] ?_; (with_reducible refine (slices_Clip_int_int.calls (fun k_ => some k_ = (.slice Ao47 x7_2.length co47 : Value).ownBlock) (.slice Ao47 x7_2.length co47) x7_2 t437 w _ ?side1 ?side2 A46.out).mono ?_); (case side1 => exact bw); (case side2 => exact Kd.R_tight rfl HO_7.out); rintro e w48 ⟨v438, rfl, ho0, hb, hkp⟩; refine ⟨_, rfl, ?_⟩; replace BK411 := am (blk_kept (bo BK411.out) hkp (fun hs_ => (fun e_ => (Kd.R_ne HO_7.out BK411.out (by decide)) e_) hs_)); have HO439 := am (Kd.Z_mono (ok' := fun k_ => some k_ ≠ (u3 : Value).ownBlock) ho0 (fun k_ hk_ => Or.elim hk_ (fun hs_ => fun e_ => (((HO_3.out).1 k_ e_.symm)) hs_) (fun hn_ => (Kd.fresh' (Kd.R_lt (ro HO_3.out)) k_ hn_)))); replace HO_3 := am (Kd.R_mono (ok' := fun k_ => some k_ ≠ (v438 : Value).ownBlock) (Kd.R_keptB (HO_3.out) hkp (fun k_ hk_ hs_ => (hk_) hs_)) (fun k_ hk_ => fun e_ => Or.elim (ho0.1 k_ e_.symm) (fun hs_ => hk_.2.1 hs_) (fun hn_ => Nat.not_le.2 hk_.2.2 hn_))); replace HB := am (hb); clear HO_7 hb hkp ho0))
      go_ret
      exact ⟨_, re, Kd.Z_mono HO439.out (fun _ _ => trivial), bw⟩
 obtain rfl := Option.some.inj H
 go_enter Try.func20, Try.ntmps20
 go_wp2_with (first | ((with_reducible refine gate_dst (N := 1) rfl ?_); refine bx 1 #[.slice A0_0 l0_0.length c0_0] 27 ?_; intro gb411 hg w49 hbox hb; have BK411 := am (hbox); have GW411 := am (gs hg : w.heap.size ≤ gb411); have GE411 := GW411; replace HB := am (below_step bw hb); clear hb hbox hg; have hcz50_0 := bc BK411 0 (.slice A0_0 l0_0.length c0_0); have hfz50_0 := blk_frozen BK411.out 0) | ((with_reducible refine gate_callee (f := 62) rfl ?_); refine gl (some 11) Try.func62 #[.agg #[.slice A0_0 l0_0.length c0_0]] ?_; (with_reducible refine (impl_IsSemigroup.calls k _ _ l0_0 false _ ?side1 ?side2 A2.out).mono ?_); (case side1 => exact co (Kd.C_below HR0_0.out HB.out)); (case side2 => exact HC0_0.out); rintro e w51 ⟨rfl, hb⟩; refine ⟨_, rfl, ?_⟩; replace BK411 := kb BK411 hb; replace HB := am (below_step bw hb); clear hb))
 go_ret
 exact ⟨_, re, Kd.Z_nil _ _ _ _ _, bw⟩

end Go.Proofs.Ytlfdipnhlmjiaaa.C
