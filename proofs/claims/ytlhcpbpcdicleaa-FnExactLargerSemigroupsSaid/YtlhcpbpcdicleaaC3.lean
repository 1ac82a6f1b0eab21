/- Contracts of functions of the program: spec_l19Put, laws_szIntS, laws_szSemigroup, laws_toIntS, laws_toSemigroup, laws_eqIntS, laws_eqSemigroup, laws_markIntS, laws_markSemigroup. -/
import Derived.Test.YtlhcpbpcdicleaaC0
import Derived.Test.YtlhcpbpcdicleaaC2
namespace Go.Proofs.Ytlhcpbpcdicleaa.C
open Go.RowKit Go.Proofs.YtlhcpbpcdicleaaW.PrintWords Go.Proofs.YtlhcpbpcdicleaaW.PrintLast Go.Proofs.YtlhcpbpcdicleaaW.PrintMore
attribute [local go_sem] max2_int min2_int max_two min_two max_three min_three max_four min_four
set_option linter.unusedVariables false
set_option linter.unusedSimpArgs false
set_option maxHeartbeats 8000000
set_option maxRecDepth 100000

/-! ### spec_l19Put: function 42 -/
mutual
def spec_l19Put.j1 : Nat → List (S26) → Int → List Int → Option ((List (S26)))
 | 0, _, _, _ => none
 | k + 1, x0, x6, x4 => if 0 ≤ x6 then (if x6 ≤ (x0.length : Int) then (if x6 < (x0.length : Int) then ((spec_EqualSemigroup.f k ((rd_T26 x0 x6).f0) x4).bind fun t4 => (if t4 = true then some x0 else ((spec_l3Copy.f x4).bind fun t5 => if x0.length + 1 < 5864062014805 then some ((x0.take x6.toNat ++ [(⟨t5⟩ : S26)]) ++ x0.drop x6.toNat) else none))) else ((spec_l3Copy.f x4).bind fun t5 => if x0.length + 1 < 5864062014805 then some ((x0.take x6.toNat ++ [(⟨t5⟩ : S26)]) ++ x0.drop x6.toNat) else none)) else none) else none
def spec_l19Put.l0 : Nat → List (S26) → List Int → Int → List Int → Option ((List (S26)))
 | 0, _, _, _, _ => none
 | k + 1, x0, x5, x6, x460000 => if x6 < (x0.length : Int) then (if 0 ≤ x6 then ((spec_l4Gaps.f k ((rd_T26 x0 x6).f0)).bind fun t464 => ((spec_l19Before.f k t464 x5).bind fun t467 => (if t467 = true then (spec_l19Put.l0 k x0 x5 (wrap64 (x6 + 1)) x460000) else (spec_l19Put.j1 k x0 x6 x460000)))) else (none)) else (spec_l19Put.j1 k x0 x6 x460000)
end
def spec_l19Put.f (k : Nat) (l0 : List (S26)) (l1_0 : List Int) : Option ((List (S26))) := (spec_l4Gaps.f k l1_0).bind fun t460 => (spec_l19Put.l0 k l0 t460 0 l1_0)
def spec_l19Put.T5 : Bool × List (List Nat × List Nat) := (true, [([], []), ([], []), ([1], [1]), ([0, 2], [0, 2]), ([3], [3]), ([4], [4]), ([4], [4]), ([5, 6, 4], [4, 5, 6]), ([7, 4], [4, 7]), ([4], [4]), ([8, 9, 4, 4], [4, 8, 9]), ([4, 10], [4, 10])])
def spec_l19Put.B5 : List Nat := [0, 0, 2, 7, 15, 31, 31, 127, 255, 31, 1023, 2047]
theorem spec_l19Put.tab5 : rtab .any (opsOf Try.f42 5) = spec_l19Put.T5 := by kernel_rfl
theorem spec_l19Put.bits5 : waitsOk spec_l19Put.T5.2 spec_l19Put.B5 = true := by kernel_rfl
def spec_l19Put.T8 : Bool × List (List Nat × List Nat) := (true, [([], []), ([], []), ([0, 1], [0, 1]), ([], []), ([3], [3]), ([4], [4]), ([2, 5, 4], [2, 5]), ([], []), ([6, 7, 6], [6, 7]), ([8, 8, 0, 1, 2, 3, 4, 5, 6, 7, 8], [8])])
def spec_l19Put.B8 : List Nat := [0, 0, 3, 0, 8, 24, 63, 0, 255, 511]
theorem spec_l19Put.tab8 : rtab .any (opsOf Try.f42 8) = spec_l19Put.T8 := by kernel_rfl
theorem spec_l19Put.bits8 : waitsOk spec_l19Put.T8.2 spec_l19Put.B8 = true := by kernel_rfl
theorem spec_l19Put.grown {w W W1 W2 : World} {row r1 r2 : Option Nat} (hB : Below w.heap.size w W) (h1 : W.grownBy W1 row) (a1 : r1 = row ∨ ∃ b, r1 = some b ∧ W.heap.size ≤ b) (h2 : W1.grownBy W2 r1) (a2 : r2 = r1 ∨ ∃ b, r2 = some b ∧ W1.heap.size ≤ b) : w.grownBy W2 row ∧ (r2 = row ∨ ∃ b, r2 = some b ∧ w.heap.size ≤ b) := by
 refine ⟨⟨h2.os.trans (h1.os.trans hB.os), h2.tape.trans (h1.tape.trans hB.tape), h2.output.trans (h1.output.trans hB.output), Nat.le_trans hB.size (Nat.le_trans h1.size h2.size), fun k hk hne => ?_⟩, ?_⟩
 ·have hk1 := Nat.lt_of_lt_of_le hk hB.size
  have hk2 := Nat.lt_of_lt_of_le hk1 h1.size
  rw [h2.block k hk2 ?_, h1.block k hk1 hne, hB.block k hk]
  rcases a1 with e | ⟨b, e, hb⟩
  ·rw [e]
   exact hne
  ·rw [e]
   intro h
   injection h with h
   omega
 ·rcases a2 with e | ⟨b, e, hb⟩
  ·rcases a1 with e1 | ⟨b, e1, hb⟩
   ·exact .inl (e.trans e1)
   ·exact .inr ⟨b, e.trans e1, Nat.le_trans hB.size hb⟩
  ·exact .inr ⟨b, e, Nat.le_trans hB.size (Nat.le_trans h1.size hb)⟩
theorem spec_l19Put.below_grown {w W : World} (hB : Below w.heap.size w W) (row : Option Nat) : w.grownBy W row := ⟨hB.os, hB.tape, hB.output, hB.size, fun k hk _ => hB.block k hk⟩
/-- A row of another owner, read: its cells as they lie, its elements by themselves. -/
def spec_l19Put.Q {α : Type} (d : Kd α) (W : World) (okp : Nat → Prop) (A : Option Addr) (m : Nat) (ys : List α) : Prop := ∃ news : List (List Value), news.length = ys.length ∧ (Kd.raw d.sz).C W A m news ∧ ∀ (j : Nat) (x : α) (c : List Value), ys[j]? = some x → news[j]? = some c → Kd.FK d W okp x c
theorem spec_l19Put.Q_of {α : Type} {d : Kd α} {e base n c : Nat} {w : World} {ok : Nat → Prop} {A : Option Addr} {xs : List α} (h : Kd.N d e w base ok (.slice A n c) xs) : spec_l19Put.Q d w (fun k => ok k ∧ some k ≠ (Value.slice A n c).ownBlock) A xs.length xs := by
 obtain ⟨h0, rows, hl, hR, hf⟩ := h
 have := (Kd.R_reads' hR).2.2
 rw [hl] at this
 exact ⟨rows, hl, this, hf⟩
theorem spec_l19Put.Q_drop {α : Type} {d : Kd α} {W : World} {okp : Nat → Prop} {A : Option Addr} {xs : List α} {m c : Nat} (h : spec_l19Put.Q d W okp A xs.length xs) (hm : m ≤ xs.length) (hc : xs.length ≤ c) : spec_l19Put.Q d W okp (if c = m then A else A.map (·.add (m * d.sz))) (xs.drop m).length (xs.drop m) := by
 obtain ⟨news, hl, hC, hf⟩ := h
 rw [← hl] at hC
 have := Kd.C_drop (m := m) (c := c) hC (by omega) (by omega)
 refine ⟨news.drop m, by rw [List.length_drop, List.length_drop, hl], ?_, fun j x c hx hc => hf _ x c (by rwa [List.getElem?_drop] at hx) (by rwa [List.getElem?_drop] at hc)⟩
 rw [List.length_drop, ← hl, ← List.length_drop]
 exact this
theorem spec_l19Put.Q_mono {α : Type} {d : Kd α} {W : World} {okp okq : Nat → Prop} {A : Option Addr} {m : Nat} {xs : List α} (h : spec_l19Put.Q d W okp A m xs) (hk : ∀ k, okp k → okq k) : spec_l19Put.Q d W okq A m xs := by
 obtain ⟨news, hl, hC, hf⟩ := h
 exact ⟨news, hl, hC, fun j x c hx hc => Kd.FK_mono (hf j x c hx hc) hk⟩
theorem spec_l19Put.own (A : Option Addr) (n m : Nat) {c : Nat} : (Value.slice A n c).ownBlock = (Value.slice A m c).ownBlock := by cases A <;> rfl
theorem spec_l19Put.Q_new {α : Type} {d : Kd α} {W : World} {okp : Nat → Prop} {A : Option Addr} {m : Nat} {xs : List α} {u : Value} {N_ : Nat} (h : spec_l19Put.Q d W (fun k => okp k ∧ k < N_) A m xs) (hk : ∀ k, u.ownBlock = some k → N_ ≤ k) : spec_l19Put.Q d W (fun k => okp k ∧ some k ≠ u.ownBlock) A m xs := spec_l19Put.Q_mono h (fun k h_ => ⟨h_.1, fun e => by have := hk k e.symm; have := h_.2; omega⟩)
theorem spec_l19Put.append {P : Program} {ops : Array Oper} {rest : List Oper} {o : Oper} {a : Act} {Q : Exit → Act → World → Prop} {α : Type} (d : Kd α) {w0 W : World} (base : Nat) (hgd : o.guard = none) (s x : Operand) (t e : TypeId) (z : Value) (bytes : Nat)
  (ho : o.op = .call { callee := .builtin .append, args := #[s, x], argTypes := #[t, t] })
  (ht : P.underlying t = some (.slice e)) (hinfo : (P.info? e).map (fun i => (i.zero, i.size, i.bytes)) = some (some z, d.sz, bytes)) (hz : z.cells.size = d.sz) (hs0 : 0 < d.sz) (hb0 : 0 < bytes)
  (v : Value) (xs ys : List α) (A : Option Addr) (m c : Nat) (ok okp : Nat → Prop) (hs : a.eval s = v) (hx : a.eval x = .slice A m c)
  (HO : Kd.N d e W base ok v xs) (HR : spec_l19Put.Q d W okp A m ys) (hokp : ∀ k, okp k → ok k ∧ some k ≠ v.ownBlock) (hfresh : ∀ k, W.heap.size ≤ k → ok k)
  (HB : Below base w0 W) (hbase : base ≤ W.heap.size) (hl : (xs.length + m) * bytes ≤ 140737488355328)
  (h : ∀ v1 w1, Kd.N d e w1 base ok v1 (xs ++ ys) → Below base w0 w1 → W.grownBy w1 v.ownBlock → (v1.ownBlock = v.ownBlock ∨ ∃ b, v1.ownBlock = some b ∧ W.heap.size ≤ b) → wpList P ops Q rest (a.put o.dst v1) w1) :
  wpList P ops Q (o :: rest) a W := by
 obtain ⟨h0, rows, hlr, hR, hf⟩ := HO
 obtain ⟨news, hnl, hnr, hnf⟩ := HR
 refine Kd.R_append_rows (Kd.raw d.sz) base hgd s x t e z bytes ho ht hinfo hz hs0 hb0 v rows news A m c (fun _ => True) (fun _ => False) hs hx (Kd.raw_any hR) hnr (fun _ _ hk => hk) (fun _ hk => hk.elim) (fun _ _ => trivial) HB hbase (by rw [hlr]; exact hl) ?_
 intro v1 w1 hr hb hg hat
 exact h v1 w1 (Kd.N_appended h0 hlr hf hnl hnf hokp hfresh hr hg hat) hb hg hat
theorem spec_l19Put.calls (k : Nat) (P0_ : Nat → Prop) (u0_ : Value) (l0 : List (S26)) (A1_0 : Option Addr) (c1_0 : Nat) (l1_0 : List Int) (r : List (S26)) (w0 w : World) (hB : Below w0.heap.size w0 w) (hN : Kd.N k26 26 w w0.heap.size P0_ u0_ l0) (hF : ∀ q, w.heap.size ≤ q → P0_ q) (hr1_0 : Kd.C (Kd.int .i64) w A1_0 l1_0.length l1_0) (hc1_0 : l1_0.length ≤ c1_0) (h : spec_l19Put.f k l0 l1_0 = some r) :
  Calls Try.prog 42 #[u0_, .agg #[.slice A1_0 l1_0.length c1_0]] w fun e w' => ∃ v1 : Value, e = .returned v1 ∧ Kd.N k26 26 w' w0.heap.size P0_ v1 r ∧ Below w0.heap.size w0 w' ∧ w.grownBy w' u0_.ownBlock ∧ (v1.ownBlock = u0_.ownBlock ∨ ∃ b, v1.ownBlock = some b ∧ w.heap.size ≤ b) := by
 have hu26 := Try.underlying26
 obtain ⟨A0, c0, rfl⟩ := Kd.N_slice hN
 have HR0 := am (Kd.N_reads' hN).2.2
 have HC0 := am (Kd.N_reads' hN).2.1
 have HN := am hN
 have HBB := am hB
 have HFF := am hF
 clear hN hB hF
 have HR1_0 := am hr1_0
 have HC1_0 := am hc1_0
 clear hr1_0 hc1_0
 have HB := am (Below.refl w.heap.size w)
 unfold spec_l19Put.f at h
 have H := h
 clear h
 replace H := ga H; obtain ⟨t460, A3, H⟩ := H
 have HC4 := am H
 clear H
 go_enter Try.func42, Try.ntmps42
 go_upto_block 0 with (first | ((with_reducible refine gate_dst (N := 3) rfl ?_); refine bx 3 #[.slice A1_0 l1_0.length c1_0] 26 ?_; intro gb459 hg w5 hbox hb; have BK459 := am (hbox); have GW459 := am (gs hg : w.heap.size ≤ gb459); have GE459 := GW459; replace HB := am (below_step bw hb); clear hb hbox hg; have hcz6_0 := bc BK459 0 (.slice A1_0 l1_0.length c1_0); have hfz6_0 := blk_frozen BK459.out 0) | ((with_reducible refine gate_callee (f := 25) rfl ?_); refine gl (some 9) Try.func25 #[.agg #[.slice A1_0 l1_0.length c1_0]] ?_; (with_reducible refine (spec_l4Gaps.calls k _ _ l1_0 t460 _ ?side1 ?side2 A3.out).mono ?_); (case side1 => exact co (Kd.C_below HR1_0.out HB.out)); (case side2 => exact HC1_0.out); rintro e w7 ⟨v461, rfl, ho0, hb⟩; refine ⟨_, rfl, ?_⟩; have HO462 := am (Kd.R_lower (Kd.R_newM (M := fun k_ => (w.heap.size ≤ k_)) ho0 (below_size bw) (fun k_ h_ => h_)) (below_size bw)); replace BK459 := kb BK459 hb; replace HB := am (below_step bw hb); clear hb ho0))
 (try simp only [Act.put, List.setIfInBounds_toArray, List.set_cons_zero, List.set_cons_succ])
 go_cut [6] (fun v6 wc => ∃ (kq : Nat) (x6_3 : Int), v6 = .int .i64 x6_3 ∧ Aside0 (spec_l19Put.j1 kq l0 x6_3 l1_0 = some r) ∧ Aside0 (kq ≤ k) ∧ Aside0 (wc.heap[gb459]? = some (.cells #[(.slice A1_0 l1_0.length c1_0)] 26 (0, 0))) ∧ Aside0 (Below w.heap.size w wc))
 case first =>
  have H := HC4.out
  clear HC4
  have H' := am H
  clear H
  go_wp2
  go_loopg [6] k (fun kq v6 w' => ∃ (x6_1 : Int), v6 = .int .i64 x6_1 ∧ Aside0 (spec_l19Put.l0 kq l0 t460 x6_1 l1_0 = some r) ∧ Aside0 (kq ≤ k) ∧ Aside0 (Kd.R (Kd.int .i64) 3 w' w.heap.size (fun k_ => (w.heap.size ≤ k_)) v461 t460) ∧ Aside0 (w'.heap[gb459]? = some (.cells #[(.slice A1_0 l1_0.length c1_0)] 26 (0, 0))) ∧ Aside0 (Below w.heap.size w w'))
  case atStart => exact ⟨(0), rr, H', ⟨Nat.le_refl _⟩, ⟨rM HO462.out (fun _ hk => hk.1)⟩, ⟨bo BK459.out⟩, ⟨bw⟩⟩
  case round =>
   clear H'
   try clear hcz6_0; try clear hfz6_0
   obtain ⟨x6_1, rfl, HA, HK1, HO_5, BK459, HB⟩ := hrel
   cases gk with
   | zero => exact absurd HA.out (by simp [spec_l19Put.l0])
   | succ k1 =>
    have H := HA.out
    clear HA
    simp only [spec_l19Put.l0] at H
    replace H := gi H; obtain ⟨c8b0, H⟩ | ⟨c8b0, H⟩ := H
    ·(first | rw [c8b0] | (simp only [i64_w, i32_w]; rw [c8b0]) | skip)
     replace H := gd H; obtain ⟨c9b0, H⟩ := H
     replace H := ga H; obtain ⟨t464, A10, H⟩ := H
     replace H := ga H; obtain ⟨t467, A11, H⟩ := H
     replace H := gb H; obtain ⟨rfl, H⟩ | ⟨rfl, H⟩ := H
     ·have H' := am H
      clear H
      obtain ⟨⟨ad463, A463_0, c463_0, e463, hx463_0, hl463_0, hi463_0⟩, p463, q463⟩ := pq (at_T26 HR0.out x6_1)
      cases e463
      replace hx463_0 := hw HB hx463_0
      have HR463_0 := am hi463_0
      have HC463_0 := am hl463_0
      clear hi463_0 hl463_0
      go_wp2_with (first | (go_at_call 25; (with_reducible refine (spec_l4Gaps.calls k1 _ _ ((rd_T26 l0 x6_1).f0) t464 _ ?side1 ?side2 A10.out).mono ?_); (case side1 => exact co (Kd.C_below HR463_0.out HB.out)); (case side2 => exact HC463_0.out); rintro e w13 ⟨v465, rfl, ho0, hb⟩; have HO466 := am (Kd.R_lower (Kd.R_new' (Kd.R_newM (M := fun k_ => (w.heap.size ≤ k_)) ho0 (below_size bw) (fun k_ h_ => h_)) (Kd.R_lt (ro HO_5.out))) (below_size bw)); replace HO_5 := am (Kd.R_elder' (ro HO_5.out) (Kd.R_base ho0) hb); replace BK459 := kb BK459 hb; replace HB := am (below_step bw hb); clear hb ho0; obtain ⟨Ao14, co14, eo14⟩ := Kd.R_slice HO466.out; subst eo14; obtain ⟨Ao15, co15, eo15⟩ := Kd.R_slice HO_5.out; subst eo15) | (go_at_call 71; (with_reducible refine (spec_l19Before.calls k1 _ _ t464 _ _ t460 true _ ?side1 ?side2 ?side3 ?side4 A11.out).mono ?_); (case side1 => exact co (Kd.R_reads' HO466.out).2.2); (case side2 => exact (Kd.R_reads' HO466.out).2.1); (case side3 => exact co (Kd.R_reads' HO_5.out).2.2); (case side4 => exact (Kd.R_reads' HO_5.out).2.1); rintro e w' ⟨rfl, ⟨nd, rfl⟩⟩))
      go_roundg k1
      case measure => have := HK1.out; omega
      case rel => exact ⟨(wrap64 (x6_1 + 1)), rr, H', ⟨by have := HK1.out; omega⟩, ⟨rM HO_5.out (fun _ hk => hk.1)⟩, ⟨bo BK459.out⟩, ⟨bw⟩⟩
     have H' := am H
     clear H
     obtain ⟨⟨ad463, A463_0, c463_0, e463, hx463_0, hl463_0, hi463_0⟩, p463, q463⟩ := pq (at_T26 HR0.out x6_1)
     cases e463
     replace hx463_0 := hw HB hx463_0
     have HR463_0 := am hi463_0
     have HC463_0 := am hl463_0
     clear hi463_0 hl463_0
     go_wp2_with (first | (go_at_call 25; (with_reducible refine (spec_l4Gaps.calls k1 _ _ ((rd_T26 l0 x6_1).f0) t464 _ ?side1 ?side2 A10.out).mono ?_); (case side1 => exact co (Kd.C_below HR463_0.out HB.out)); (case side2 => exact HC463_0.out); rintro e w16 ⟨v465, rfl, ho0, hb⟩; have HO466 := am (Kd.R_lower (Kd.R_new' (Kd.R_newM (M := fun k_ => (w.heap.size ≤ k_)) ho0 (below_size bw) (fun k_ h_ => h_)) (Kd.R_lt (ro HO_5.out))) (below_size bw)); replace HO_5 := am (Kd.R_elder' (ro HO_5.out) (Kd.R_base ho0) hb); replace BK459 := kb BK459 hb; replace HB := am (below_step bw hb); clear hb ho0; obtain ⟨Ao17, co17, eo17⟩ := Kd.R_slice HO466.out; subst eo17; obtain ⟨Ao18, co18, eo18⟩ := Kd.R_slice HO_5.out; subst eo18) | (go_at_call 71; (with_reducible refine (spec_l19Before.calls k1 _ _ t464 _ _ t460 false _ ?side1 ?side2 ?side3 ?side4 A11.out).mono ?_); (case side1 => exact co (Kd.R_reads' HO466.out).2.2); (case side2 => exact (Kd.R_reads' HO466.out).2.1); (case side3 => exact co (Kd.R_reads' HO_5.out).2.2); (case side4 => exact (Kd.R_reads' HO_5.out).2.1); rintro e w' ⟨rfl, ⟨nd, rfl⟩⟩))
     go_meet
     case rel => exact ⟨_, (x6_1), rr, H', ⟨by have := HK1.out; first | omega | exact Nat.le_refl _⟩, ⟨bo BK459.out⟩, ⟨bw⟩⟩
    ·(first | rw [c8b0] | (simp only [i64_w, i32_w]; rw [c8b0]) | skip)
     have H' := am H
     clear H
     go_wp2
     go_meet
     case rel => exact ⟨_, (x6_1), rr, H', ⟨by have := HK1.out; first | omega | exact Nat.le_refl _⟩, ⟨bo BK459.out⟩, ⟨bw⟩⟩
 case rest =>
  clear HC4
  try clear c8b0; try clear c9b0; try clear hcz6_0; try clear hfz6_0; try clear hx463_0; try clear p463; try clear q463
  obtain ⟨kq, x6_3, rfl, HA, HJ3, BK459, HB⟩ := hcut
  cases kq with
  | zero => exact absurd HA.out (by simp [spec_l19Put.j1])
  | succ kj3 =>
   have H := HA.out
   clear HA
   simp only [spec_l19Put.j1] at H
   by_cases d1 : 0 ≤ x6_3
   rotate_left
   ·rw [if_neg d1] at H
    cases H
   rw [if_pos d1] at H
   by_cases d2 : x6_3 ≤ (l0.length : Int)
   rotate_left
   ·rw [if_neg d2] at H
    cases H
   rw [if_pos d2] at H
   have D1 := am d1
   have D2 := am d2
   have c20b0 : decide (0 ≤ x6_3) = true := decide_eq_true d1
   clear d1 d2
   replace H := gi H; obtain ⟨c19b0, H⟩ | ⟨c19b0, H⟩ := H
   ·replace H := ga H; obtain ⟨t469, A21, H⟩ := H
    replace H := gb H; obtain ⟨rfl, H⟩ | ⟨rfl, H⟩ := H
    ·obtain rfl := Option.some.inj H
     try go_wp2
     replace BK459 := bd BK459
     replace HB := am (below_drew1 HB.out)
     have p468 : 0 ≤ (x6_3 : Int) := od
     have q468 : x6_3 < (l0.length : Int) := od
     obtain ⟨ad468, A468_0, c468_0, e468, hx468_0, hl468_0, hi468_0⟩ := at_T26 HR0.out x6_3 p468 q468
     have hw468_0 := hx468_0
     cases e468
     replace hx468_0 := hw HB hx468_0
     have HR468_0 := am hi468_0
     have HC468_0 := am hl468_0
     clear hi468_0 hl468_0
     replace p468 := eq_true p468
     replace q468 := eq_true q468
     refine start_ (n := 12) (S := fun w' => w'.cell? ⟨gb459, 0, none⟩ = some (.slice A1_0 l1_0.length c1_0) ∧ w'.cell? (ad468.add (x6_3).toNat) = some (.slice A468_0 ((rd_T26 l0 x6_3).f0).length c468_0)) (ds := []) (yz 12 0) (by kernel_rfl) rfl rfl ⟨bc BK459 0 _, ((HB.out.cell (World.block_lt_of_cell? w _ hw468_0)).trans hw468_0)⟩ (fun hHeld => ?_); refine with_tabW spec_l19Put.tab5 spec_l19Put.bits5 (fun HT_ HW_ => ?_)
     generalize wc.drew = w23 at BK459 HB HR468_0 hx468_0 hHeld ⊢
     refine pa 0 (some 25) (yz 12 1) HT_ ?_
     refine pa 1 (some 26) (yz 12 3) HT_ ?_
     refine pa 2 (some 27) (yz 12 7) HT_ ?_
     refine pa 3 (some 28) (yz 12 15) HT_ ?_
     refine pa 4 (some 29) (yz 12 31) HT_ ?_
     refine pa 5 (some 30) (yz 12 63) HT_ ?_
     refine pa 6 (some 31) (yz 12 127) HT_ ?_
     refine pa 7 (some 32) (yz 12 255) HT_ ?_
     refine tk 8 (some 33) (yz 12 511) HT_ HW_ hHeld ?_
     refine tk 9 (some 34) (yz 12 1023) HT_ HW_ hHeld ?_
     refine oa 10 (some 35) (yz 12 2047) HT_ (fun K hK => ?_)
     refine gm Try.func72 #[.agg #[.slice A468_0 ((rd_T26 l0 x6_3).f0).length c468_0], .agg #[.slice A1_0 l1_0.length c1_0]] ?_
     with_reducible refine (spec_EqualSemigroup.calls kj3 _ _ ((rd_T26 l0 x6_3).f0) _ _ l1_0 true _ ?side1 ?side2 ?side3 ?side4 A21.out).mono ?_
     (case side1 => exact co (Kd.C_below HR468_0.out HB.out))
     (case side2 => exact HC468_0.out)
     (case side3 => exact co (Kd.C_below HR1_0.out HB.out))
     (case side4 => exact HC1_0.out)
     rintro e w24 ⟨rfl, hb⟩
     refine ⟨_, rfl, ?_⟩
     replace BK459 := kb BK459 hb
     replace HB := am (below_step bw hb)
     clear hb
     refine hK.out _ _ ⟨bc BK459 0 _, ((HB.out.cell (World.block_lt_of_cell? w _ hw468_0)).trans hw468_0)⟩ (fun hHeld => ?_)
     clear hK K
     refine nm (some 35) ?_
     refine pa 11 (some 36) (yz 12 4095) HT_ ?_
     refine done_ (done_of HT_.out (by kernel_rfl)) ?_
     try go_wp2
     go_ret
     exact ⟨_, re, Kd.N_below HN.out HB.out, HBB.out.trans (HB.out.mono HBB.out.size), spec_l19Put.below_grown HB.out _, .inl rfl⟩
    replace H := ga H; obtain ⟨t473, A27, H⟩ := H
    by_cases cL : l0.length + 1 < 5864062014805
    rotate_left
    ·rw [if_neg cL] at H
     exact absurd H (by simp)
    rw [if_pos cL] at H
    have LM := am cL
    clear cL
    obtain ⟨yd, hyd⟩ : ∃ y_ : List S26, y_ = l0.drop x6_3.toNat := ⟨_, rfl⟩
    rw [← hyd] at H
    have Nyd := am hyd
    clear hyd
    obtain rfl := Option.some.inj H
    try go_wp2
    replace BK459 := bd BK459
    replace HB := am (below_drew1 HB.out)
    have p468 : 0 ≤ (x6_3 : Int) := od
    have q468 : x6_3 < (l0.length : Int) := od
    obtain ⟨ad468, A468_0, c468_0, e468, hx468_0, hl468_0, hi468_0⟩ := at_T26 HR0.out x6_3 p468 q468
    have hw468_0 := hx468_0
    cases e468
    replace hx468_0 := hw HB hx468_0
    have HR468_0 := am hi468_0
    have HC468_0 := am hl468_0
    clear hi468_0 hl468_0
    replace p468 := eq_true p468
    replace q468 := eq_true q468
    refine start_ (n := 12) (S := fun w' => w'.cell? ⟨gb459, 0, none⟩ = some (.slice A1_0 l1_0.length c1_0) ∧ w'.cell? (ad468.add (x6_3).toNat) = some (.slice A468_0 ((rd_T26 l0 x6_3).f0).length c468_0)) (ds := []) (yz 12 0) (by kernel_rfl) rfl rfl ⟨bc BK459 0 _, ((HB.out.cell (World.block_lt_of_cell? w _ hw468_0)).trans hw468_0)⟩ (fun hHeld => ?_); refine with_tabW spec_l19Put.tab5 spec_l19Put.bits5 (fun HT_ HW_ => ?_)
    generalize wc.drew = w28 at BK459 HB HR468_0 hx468_0 hHeld ⊢
    refine pa 0 (some 25) (yz 12 1) HT_ ?_
    refine pa 1 (some 26) (yz 12 3) HT_ ?_
    refine pa 2 (some 27) (yz 12 7) HT_ ?_
    refine pa 3 (some 28) (yz 12 15) HT_ ?_
    refine pa 4 (some 29) (yz 12 31) HT_ ?_
    refine pa 5 (some 30) (yz 12 63) HT_ ?_
    refine pa 6 (some 31) (yz 12 127) HT_ ?_
    refine pa 7 (some 32) (yz 12 255) HT_ ?_
    refine tk 8 (some 33) (yz 12 511) HT_ HW_ hHeld ?_
    refine tk 9 (some 34) (yz 12 1023) HT_ HW_ hHeld ?_
    refine oa 10 (some 35) (yz 12 2047) HT_ (fun K hK => ?_)
    refine gm Try.func72 #[.agg #[.slice A468_0 ((rd_T26 l0 x6_3).f0).length c468_0], .agg #[.slice A1_0 l1_0.length c1_0]] ?_
    with_reducible refine (spec_EqualSemigroup.calls kj3 _ _ ((rd_T26 l0 x6_3).f0) _ _ l1_0 false _ ?side1 ?side2 ?side3 ?side4 A21.out).mono ?_
    (case side1 => exact co (Kd.C_below HR468_0.out HB.out))
    (case side2 => exact HC468_0.out)
    (case side3 => exact co (Kd.C_below HR1_0.out HB.out))
    (case side4 => exact HC1_0.out)
    rintro e w29 ⟨rfl, hb⟩
    refine ⟨_, rfl, ?_⟩
    replace BK459 := kb BK459 hb
    replace HB := am (below_step bw hb)
    clear hb
    refine hK.out _ _ ⟨bc BK459 0 _, ((HB.out.cell (World.block_lt_of_cell? w _ hw468_0)).trans hw468_0)⟩ (fun hHeld => ?_)
    clear hK K
    refine nm (some 35) ?_
    refine pa 11 (some 36) (yz 12 4095) HT_ ?_
    refine done_ (done_of HT_.out (by kernel_rfl)) ?_
    try go_wp2_with (first | ((with_reducible refine gate_dst (N := 38) rfl ?_); refine Kd.N_lit k26 _ 26 ?hg (N' := 38) ?hd (xs := ([] : List (S26))) (inner := []) (ok := (fun k_ => P0_ k_ ∧ some k_ ≠ (Value.slice (some ad468) l0.length c0).ownBlock)) (okp := (fun _ => False)) ?hr ?hp (fun _ hk => hk.elim) ((show ∀ k_, w29.heap.size ≤ k_ → (fun k_ => P0_ k_ ∧ some k_ ≠ (Value.slice (some ad468) l0.length c0).ownBlock) k_ from fun k_ hk => ⟨HFF.out k_ (Nat.le_trans (below_size bw) hk), fun e_ => by have := Kd.N_lt HN.out k_ e_.symm; have := HB.out.size; omega⟩) _ (Nat.le_refl _)) (Below.refl _ _) (Nat.le_refl _) (by simp) ?_; (case hd => rfl); (case hg => rfl); (case hr => first | (go_simp; done) | (go_simp; rfl)); (case hp => exact (Reps.none _ _)); intro v38 w38 ho26 hb hg_ hnew_; clear hg_ hnew_; have HV38 := am (fun k_ (hk_ : v38.ownBlock = some k_) => Nat.le_trans (below_size bw) (Kd.N_base ho26 k_ hk_)); have HW38 := am (fun k_ (hk_ : v38.ownBlock = some k_) => Kd.freshB (g := gb459) (o := .cells #[.slice A1_0 l1_0.length c1_0] 26 (0, 0)) (bo BK459.out) k_ (Kd.N_base ho26 k_ hk_)); have HO38 := am (Kd.N_lower ho26 (Nat.le_trans HBB.out.size (below_size bw))); replace BK459 := kb BK459 hb; have HB5 := am (below_step bw hb); clear HB; have HB := HB5; clear HB5 hb ho26; have q27 : x6_3 ≤ ((l0.length : Int) : Int) := D2.out; obtain ⟨i027, hi027, _, hsz27, _⟩ := info_parts info26; have q027 : (0 : Int) ≤ x6_3 := D1.out; have hcut27 := cut_from (P := Try.prog) 33 26 .i64 Try.underlying33 hi027 1 hsz27 (some ad468) l0.length c0 x6_3 q027 q27; have hq := spec_l19Put.Q_drop (m := x6_3.toNat) (c := c0) (spec_l19Put.Q_mono (spec_l19Put.Q_of (Kd.N_below (Kd.N_bound HN.out) HB.out)) (fun k_ h_ => (⟨⟨h_.1.1, h_.2⟩, h_.1.2⟩ : (P0_ k_ ∧ some k_ ≠ (Value.slice (some ad468) l0.length c0).ownBlock) ∧ k_ < w.heap.size))) (by omega) HC0.out; obtain ⟨Az_, hAz_⟩ : ∃ A1, A1 = (if c0 = x6_3.toNat then (some ad468) else (some ad468).map (·.add (x6_3.toNat * 1))) := ⟨_, rfl⟩; replace hq : spec_l19Put.Q k26 _ _ Az_ (l0.drop x6_3.toNat).length (l0.drop x6_3.toNat) := (by rw [hAz_]; exact hq); rw [← Nyd.out] at hq; have hy27 : yd.length = l0.length - x6_3.toNat := (by rw [Nyd.out, List.length_drop]); rw [← hAz_, ← hy27] at hcut27; have HQ := am (spec_l19Put.Q_new hq (u := v38) (fun k_ hk_ => HV38.out k_ hk_)); clear hy27; clear hq hi027 hsz27 q27 q027 hAz_) | ((with_reducible refine gate_builtin (b := .append) (xs := #[.tmp 38, .tmp 41]) rfl ?_); at_builtin; refine spec_l19Put.append k26 (w0 := w0) w0.heap.size rfl (.tmp 38) (.tmp 41) 33 26 (.agg #[(.slice none 0 0)]) 24 rfl Try.underlying33 info26 rfl (by decide) (by omega) v38 ([] : List S26) yd _ _ _ (fun k_ => P0_ k_ ∧ some k_ ≠ (Value.slice (some ad468) l0.length c0).ownBlock) (fun k_ => (P0_ k_ ∧ some k_ ≠ (Value.slice (some ad468) l0.length c0).ownBlock) ∧ some k_ ≠ v38.ownBlock) rfl rfl ?aO ?aR (fun _ h => h) ?aF ?aB ?aS ?aL ?_; (case aR => exact HQ.out); (case aB => exact HBB.out.trans (HB.out.mono HBB.out.size)); (case aF => exact (fun k_ hk => ⟨HFF.out k_ (Nat.le_trans (below_size bw) hk), fun e_ => by have := Kd.N_lt HN.out k_ e_.symm; have := HB.out.size; omega⟩)); (case aO => exact HO38.out); (case aS => exact Nat.le_trans HBB.out.size (below_size bw)); (case aL => have := LM.out; have hy_ : yd.length = l0.length - x6_3.toNat := (by rw [Nyd.out, List.length_drop]); simp only [List.length_nil]; omega); intro v42 w42 ho hb hg hat; rw [List.nil_append] at ho; have HBz := am (Below.grown (bw) hg (below_size bw) (fun k_ hk_ => HV38.out k_ hk_)); clear HB; have HB := HBz; clear HBz; replace BK459 := am (blk_grown (g := gb459) (o := .cells #[.slice A1_0 l1_0.length c1_0] 26 (0, 0)) (bo BK459.out) hg (fun e_ => HW38.out gb459 e_.symm rfl)); have HO42 := am ho; clear HO38 ho hb hg hat HQ))
    replace BK459 := bd BK459
    replace HB := am (below_drew1 HB.out)
    replace HO42 := am (Kd.N_drew HO42.out)
    have q30 := D2.out
    have q030 := D1.out
    obtain ⟨i030, hi030, _, hsz30, _⟩ := info_parts info26
    have hcut30 := cut_to (P := Try.prog) 33 26 .i64 Try.underlying33 hi030 (some ad468) l0.length c0 x6_3 q030 q30 HC0.out
    clear hi030 hsz30 q30 q030
    have HO45 := am (Kd.N_take (m := x6_3.toNat) (Kd.N_below HN.out HB.out) (by have := D1.out; have := D2.out; omega))
    obtain ⟨A42, c42, e42⟩ := Kd.N_slice HO42.out
    subst e42
    refine start_ (n := 10) (S := fun w' => w'.cell? ⟨gb459, 0, none⟩ = some (.slice A1_0 l1_0.length c1_0)) (ds := []) (yz 10 0) (by kernel_rfl) rfl rfl (bc BK459 0 _) (fun hHeld => ?_); refine with_tabW spec_l19Put.tab8 spec_l19Put.bits8 (fun HT_ HW_ => ?_)
    generalize w42.drew = w30 at BK459 HB HO42 HO45 hHeld ⊢
    refine pa 0 (some 43) (yz 10 1) HT_ ?_
    refine pa 1 (some 44) (yz 10 3) HT_ ?_
    refine pa 2 (some 45) (yz 10 7) HT_ ?_
    refine pa 7 (some 50) (yz 10 135) HT_ ?_
    refine tK 3 (some 46) (yz 10 143) HT_ HW_ hHeld ?_
    refine oa 4 (some 47) (yz 10 159) HT_ (fun K hK => ?_)
    refine gm Try.func39 #[.agg #[.slice A1_0 l1_0.length c1_0]] ?_
    with_reducible refine (spec_l3Copy.calls _ _ l1_0 t473 _ ?side1 ?side2 A27.out).mono ?_
    (case side1 => exact co (Kd.C_below HR1_0.out HB.out))
    (case side2 => exact HC1_0.out)
    rintro e w31 ⟨v474, rfl, ho0, hb⟩
    refine ⟨_, rfl, ?_⟩
    have HO475 := am (Kd.R_lower (Kd.R_newM (M := fun k_ => (w.heap.size ≤ k_)) ho0 (below_size bw) (fun k_ h_ => h_)) (below_size bw))
    replace BK459 := kb BK459 hb
    replace HO42 := am (Kd.N_below HO42.out hb)
    replace HO45 := am (Kd.N_below HO45.out hb)
    replace HB := am (below_step bw hb)
    clear hb ho0
    obtain ⟨Ao32, co32, eo32⟩ := Kd.R_slice HO475.out
    (first | subst eo32 | (injection eo32 with f1_ f2_ f3_; have f4_ := f1_.symm; have f5_ := f3_.symm; clear f1_ f2_ f3_; subst f4_; subst f5_))
    refine hK.out _ _ (bc BK459 0 _) (fun hHeld => ?_)
    clear hK K
    refine nm (some 47) ?_
    refine oa 5 (some 48) (yz 10 191) HT_ (fun K hK => ?_)
    refine value_ (w1 := ?_) (v := ?_) (by rfl) rfl ?_ ?_
    rotate_left 2
    ·go_simp
     constructor
     ·rfl
     rfl
    refine hK.out _ _ ((World.cell?_alloc_lt _ _ _ (World.block_lt_of_cell? _ _ (bc BK459 0 _))).trans (bc BK459 0 _)) (fun hHeld => ?_)
    clear hK K
    refine nm (some 48) ?_
    refine oa 6 (some 49) (yz 10 255) HT_ (fun K hK => ?_)
    refine Kd.N_append_step k26 (w0 := w0) w0.heap.size (by rfl) (.tmp 45) (.tmp 48) 33 26 (.agg #[(.slice none 0 0)]) 24 rfl Try.underlying33 info26 rfl (by decide) (by omega) (.slice (some ad468) x6_3.toNat c0) (l0.take x6_3.toNat) (⟨t473⟩ : S26) [.slice Ao32 t473.length co32] P0_ (fun k_ => w.heap.size ≤ k_) rfl rfl ?aP (fun k_ hk_ => ⟨HFF.out k_ hk_, fun e_ => by rw [spec_l19Put.own (some ad468) x6_3.toNat l0.length] at e_; have := Kd.N_lt HN.out k_ e_.symm; omega⟩) ?aF ?aO ?aB ?aS ?aL ?_
    (case aP => exact k26_mkF _ _ (⟨t473⟩ : S26) (Kd.R_reads' HO475.out).2.1 (Kd.R_F (Kd.R_mono HO475.out (fun k_ hk => hk.1))))
    (case aB => exact HBB.out.trans (HB.out.mono HBB.out.size))
    (case aF => exact (fun k_ hk => HFF.out k_ (Nat.le_trans (below_size bw) hk)))
    (case aO => exact HO45.out)
    (case aS => exact Nat.le_trans HBB.out.size (below_size bw))
    (case aL => have := LM.out; rw [List.length_take]; omega)
    intro v49 w49 ho hb hg hat
    have HLT := am (show gb459 < w31.heap.size from World.block_lt_of_cell? _ _ (bc BK459 0 _))
    replace BK459 := am (blk_grown (g := gb459) (o := .cells #[.slice A1_0 l1_0.length c1_0] 26 (0, 0)) (bo BK459.out) hg (fun e_ => by rw [spec_l19Put.own (some ad468) x6_3.toNat l0.length] at e_; have := Kd.N_lt HN.out gb459 e_.symm; have := GW459.out; omega))
    replace HO42 := am (Kd.N_after (Kd.N_mono HO42.out (fun k_ hk_ => ⟨hk_.1, by rw [spec_l19Put.own (some ad468) x6_3.toNat l0.length]; exact hk_.2⟩)) hg hat)
    have HG1 := am hg
    have HA1 := am hat
    have HB1 := am hb
    have HO49 := am ho
    clear HO45 ho hb hg hat
    refine hK.out _ _ (bc BK459 0 _) (fun hHeld => ?_)
    clear hK K
    refine nm (some 49) ?_
    refine oa 8 (some 51) (yz 10 511) HT_ (fun K hK => ?_)
    refine Kd.N_append_rows_step k26 (w0 := w0) w0.heap.size (by rfl) (.tmp 49) (.tmp 50) 33 26 (.agg #[(.slice none 0 0)]) 24 rfl Try.underlying33 info26 rfl (by decide) (by omega) v49 (l0.take x6_3.toNat ++ [(⟨t473⟩ : S26)]) yd _ _ _ P0_ (fun k_ => P0_ k_ ∧ some k_ ≠ v49.ownBlock) rfl rfl ?aO ?aR (fun _ h => h) ?aF ?aB ?aS ?aL ?_
    (case aR => exact Kd.N_F HO42.out)
    (case aB => exact HB1.out)
    (case aF => exact (fun k_ hk => HFF.out k_ (Nat.le_trans (below_size bw) (Nat.le_trans HG1.out.size hk))))
    (case aO => exact HO49.out)
    (case aS => exact Nat.le_trans HBB.out.size (Nat.le_trans (below_size bw) HG1.out.size))
    (case aL => have := LM.out; have := D1.out; have := D2.out; rw [Nyd.out, List.length_append, List.length_take, List.length_drop, List.length_singleton]; omega)
    intro v51 w51 ho hb hg hat
    have hne : some gb459 ≠ v49.ownBlock := by
     rcases HA1.out with e | ⟨b, e, hb2⟩
     ·rw [e, spec_l19Put.own (some ad468) x6_3.toNat l0.length]
      intro e_
      have := Kd.N_lt HN.out gb459 e_.symm
      have := GW459.out
      omega
     ·rw [e]
      intro h
      injection h with h
      have := HLT.out
      omega
    replace BK459 := am (blk_grown (g := gb459) (o := .cells #[.slice A1_0 l1_0.length c1_0] 26 (0, 0)) (bo BK459.out) hg hne)
    have HZ := am (spec_l19Put.grown HB.out HG1.out HA1.out hg hat)
    have HB2 := am hb
    have HO51 := am ho
    clear hne ho hb hg hat
    refine hK.out _ _ (bc BK459 0 _) (fun hHeld => ?_)
    clear hK K
    refine nm (some 51) ?_
    refine pa 9 (some 4) (yz 10 1023) HT_ ?_
    refine done_ (done_of HT_.out (by kernel_rfl)) ?_
    try go_wp2
    go_ret
    rw [spec_l19Put.own (some ad468) x6_3.toNat l0.length] at HZ
    exact ⟨_, re, HO51.out, HB2.out, HZ.out⟩
   replace H := ga H; obtain ⟨t479, A35, H⟩ := H
   by_cases cL : l0.length + 1 < 5864062014805
   rotate_left
   ·rw [if_neg cL] at H
    exact absurd H (by simp)
   rw [if_pos cL] at H
   have LM := am cL
   clear cL
   obtain ⟨yd, hyd⟩ : ∃ y_ : List S26, y_ = l0.drop x6_3.toNat := ⟨_, rfl⟩
   rw [← hyd] at H
   have Nyd := am hyd
   clear hyd
   obtain rfl := Option.some.inj H
   try go_wp2
   replace BK459 := bd BK459
   replace HB := am (below_drew1 HB.out)
   refine start_ (n := 12) (S := fun w' => True) (ds := []) (yz 12 0) (by kernel_rfl) rfl rfl trivial (fun hHeld => ?_); refine with_tabW spec_l19Put.tab5 spec_l19Put.bits5 (fun HT_ HW_ => ?_)
   generalize wc.drew = w36 at BK459 HB hHeld ⊢
   refine pa 0 (some 25) (yz 12 1) HT_ ?_
   refine pa 1 (some 26) (yz 12 3) HT_ ?_
   refine pa 2 (some 27) (yz 12 7) HT_ ?_
   refine pa 3 (some 28) (yz 12 15) HT_ ?_
   refine pa 4 (some 29) (yz 12 31) HT_ ?_
   refine pu 5 (some 30) (yz 12 63) HT_ ?_
   refine pu 6 (some 31) (yz 12 127) HT_ ?_
   refine pu 7 (some 32) (yz 12 255) HT_ ?_
   refine pu 8 (some 33) (yz 12 511) HT_ ?_
   refine pu 9 (some 34) (yz 12 1023) HT_ ?_
   refine pu 10 (some 35) (yz 12 2047) HT_ ?_
   refine pa 11 (some 36) (yz 12 4095) HT_ ?_
   refine done_ (done_of HT_.out (by kernel_rfl)) ?_
   try go_wp2_with (first | ((with_reducible refine gate_dst (N := 38) rfl ?_); refine Kd.N_lit k26 _ 26 ?hg (N' := 38) ?hd (xs := ([] : List (S26))) (inner := []) (ok := (fun k_ => P0_ k_ ∧ some k_ ≠ (Value.slice A0 l0.length c0).ownBlock)) (okp := (fun _ => False)) ?hr ?hp (fun _ hk => hk.elim) ((show ∀ k_, w36.heap.size ≤ k_ → (fun k_ => P0_ k_ ∧ some k_ ≠ (Value.slice A0 l0.length c0).ownBlock) k_ from fun k_ hk => ⟨HFF.out k_ (Nat.le_trans (below_size bw) hk), fun e_ => by have := Kd.N_lt HN.out k_ e_.symm; have := HB.out.size; omega⟩) _ (Nat.le_refl _)) (Below.refl _ _) (Nat.le_refl _) (by simp) ?_; (case hd => rfl); (case hg => rfl); (case hr => first | (go_simp; done) | (go_simp; rfl)); (case hp => exact (Reps.none _ _)); intro v38 w38 ho26 hb hg_ hnew_; clear hg_ hnew_; have HV38 := am (fun k_ (hk_ : v38.ownBlock = some k_) => Nat.le_trans (below_size bw) (Kd.N_base ho26 k_ hk_)); have HW38 := am (fun k_ (hk_ : v38.ownBlock = some k_) => Kd.freshB (g := gb459) (o := .cells #[.slice A1_0 l1_0.length c1_0] 26 (0, 0)) (bo BK459.out) k_ (Kd.N_base ho26 k_ hk_)); have HO38 := am (Kd.N_lower ho26 (Nat.le_trans HBB.out.size (below_size bw))); replace BK459 := kb BK459 hb; have HB5 := am (below_step bw hb); clear HB; have HB := HB5; clear HB5 hb ho26; have q27 : x6_3 ≤ ((l0.length : Int) : Int) := D2.out; obtain ⟨i027, hi027, _, hsz27, _⟩ := info_parts info26; have q027 : (0 : Int) ≤ x6_3 := D1.out; have hcut27 := cut_from (P := Try.prog) 33 26 .i64 Try.underlying33 hi027 1 hsz27 A0 l0.length c0 x6_3 q027 q27; have hq := spec_l19Put.Q_drop (m := x6_3.toNat) (c := c0) (spec_l19Put.Q_mono (spec_l19Put.Q_of (Kd.N_below (Kd.N_bound HN.out) HB.out)) (fun k_ h_ => (⟨⟨h_.1.1, h_.2⟩, h_.1.2⟩ : (P0_ k_ ∧ some k_ ≠ (Value.slice A0 l0.length c0).ownBlock) ∧ k_ < w.heap.size))) (by omega) HC0.out; obtain ⟨Az_, hAz_⟩ : ∃ A1, A1 = (if c0 = x6_3.toNat then A0 else A0.map (·.add (x6_3.toNat * 1))) := ⟨_, rfl⟩; replace hq : spec_l19Put.Q k26 _ _ Az_ (l0.drop x6_3.toNat).length (l0.drop x6_3.toNat) := (by rw [hAz_]; exact hq); rw [← Nyd.out] at hq; have hy27 : yd.length = l0.length - x6_3.toNat := (by rw [Nyd.out, List.length_drop]); rw [← hAz_, ← hy27] at hcut27; have HQ := am (spec_l19Put.Q_new hq (u := v38) (fun k_ hk_ => HV38.out k_ hk_)); clear hy27; clear hq hi027 hsz27 q27 q027 hAz_) | ((with_reducible refine gate_builtin (b := .append) (xs := #[.tmp 38, .tmp 41]) rfl ?_); at_builtin; refine spec_l19Put.append k26 (w0 := w0) w0.heap.size rfl (.tmp 38) (.tmp 41) 33 26 (.agg #[(.slice none 0 0)]) 24 rfl Try.underlying33 info26 rfl (by decide) (by omega) v38 ([] : List S26) yd _ _ _ (fun k_ => P0_ k_ ∧ some k_ ≠ (Value.slice A0 l0.length c0).ownBlock) (fun k_ => (P0_ k_ ∧ some k_ ≠ (Value.slice A0 l0.length c0).ownBlock) ∧ some k_ ≠ v38.ownBlock) rfl rfl ?aO ?aR (fun _ h => h) ?aF ?aB ?aS ?aL ?_; (case aR => exact HQ.out); (case aB => exact HBB.out.trans (HB.out.mono HBB.out.size)); (case aF => exact (fun k_ hk => ⟨HFF.out k_ (Nat.le_trans (below_size bw) hk), fun e_ => by have := Kd.N_lt HN.out k_ e_.symm; have := HB.out.size; omega⟩)); (case aO => exact HO38.out); (case aS => exact Nat.le_trans HBB.out.size (below_size bw)); (case aL => have := LM.out; have hy_ : yd.length = l0.length - x6_3.toNat := (by rw [Nyd.out, List.length_drop]); simp only [List.length_nil]; omega); intro v42 w42 ho hb hg hat; rw [List.nil_append] at ho; have HBz := am (Below.grown (bw) hg (below_size bw) (fun k_ hk_ => HV38.out k_ hk_)); clear HB; have HB := HBz; clear HBz; replace BK459 := am (blk_grown (g := gb459) (o := .cells #[.slice A1_0 l1_0.length c1_0] 26 (0, 0)) (bo BK459.out) hg (fun e_ => HW38.out gb459 e_.symm rfl)); have HO42 := am ho; clear HO38 ho hb hg hat HQ))
   replace BK459 := bd BK459
   replace HB := am (below_drew1 HB.out)
   replace HO42 := am (Kd.N_drew HO42.out)
   have q30 := D2.out
   have q030 := D1.out
   obtain ⟨i030, hi030, _, hsz30, _⟩ := info_parts info26
   have hcut30 := cut_to (P := Try.prog) 33 26 .i64 Try.underlying33 hi030 A0 l0.length c0 x6_3 q030 q30 HC0.out
   clear hi030 hsz30 q30 q030
   have HO45 := am (Kd.N_take (m := x6_3.toNat) (Kd.N_below HN.out HB.out) (by have := D1.out; have := D2.out; omega))
   obtain ⟨A42, c42, e42⟩ := Kd.N_slice HO42.out
   subst e42
   refine start_ (n := 10) (S := fun w' => w'.cell? ⟨gb459, 0, none⟩ = some (.slice A1_0 l1_0.length c1_0)) (ds := []) (yz 10 0) (by kernel_rfl) rfl rfl (bc BK459 0 _) (fun hHeld => ?_); refine with_tabW spec_l19Put.tab8 spec_l19Put.bits8 (fun HT_ HW_ => ?_)
   generalize w42.drew = w37 at BK459 HB HO42 HO45 hHeld ⊢
   refine pa 0 (some 43) (yz 10 1) HT_ ?_
   refine pa 1 (some 44) (yz 10 3) HT_ ?_
   refine pa 2 (some 45) (yz 10 7) HT_ ?_
   refine pa 7 (some 50) (yz 10 135) HT_ ?_
   refine tK 3 (some 46) (yz 10 143) HT_ HW_ hHeld ?_
   refine oa 4 (some 47) (yz 10 159) HT_ (fun K hK => ?_)
   refine gm Try.func39 #[.agg #[.slice A1_0 l1_0.length c1_0]] ?_
   with_reducible refine (spec_l3Copy.calls _ _ l1_0 t479 _ ?side1 ?side2 A35.out).mono ?_
   (case side1 => exact co (Kd.C_below HR1_0.out HB.out))
   (case side2 => exact HC1_0.out)
   rintro e w38 ⟨v480, rfl, ho0, hb⟩
   refine ⟨_, rfl, ?_⟩
   have HO481 := am (Kd.R_lower (Kd.R_newM (M := fun k_ => (w.heap.size ≤ k_)) ho0 (below_size bw) (fun k_ h_ => h_)) (below_size bw))
   replace BK459 := kb BK459 hb
   replace HO42 := am (Kd.N_below HO42.out hb)
   replace HO45 := am (Kd.N_below HO45.out hb)
   replace HB := am (below_step bw hb)
   clear hb ho0
   obtain ⟨Ao39, co39, eo39⟩ := Kd.R_slice HO481.out
   (first | subst eo39 | (injection eo39 with f1_ f2_ f3_; have f4_ := f1_.symm; have f5_ := f3_.symm; clear f1_ f2_ f3_; subst f4_; subst f5_))
   refine hK.out _ _ (bc BK459 0 _) (fun hHeld => ?_)
   clear hK K
   refine nm (some 47) ?_
   refine oa 5 (some 48) (yz 10 191) HT_ (fun K hK => ?_)
   refine value_ (w1 := ?_) (v := ?_) (by rfl) rfl ?_ ?_
   rotate_left 2
   ·go_simp
    constructor
    ·rfl
    rfl
   refine hK.out _ _ ((World.cell?_alloc_lt _ _ _ (World.block_lt_of_cell? _ _ (bc BK459 0 _))).trans (bc BK459 0 _)) (fun hHeld => ?_)
   clear hK K
   refine nm (some 48) ?_
   refine oa 6 (some 49) (yz 10 255) HT_ (fun K hK => ?_)
   refine Kd.N_append_step k26 (w0 := w0) w0.heap.size (by rfl) (.tmp 45) (.tmp 48) 33 26 (.agg #[(.slice none 0 0)]) 24 rfl Try.underlying33 info26 rfl (by decide) (by omega) (.slice A0 x6_3.toNat c0) (l0.take x6_3.toNat) (⟨t479⟩ : S26) [.slice Ao39 t479.length co39] P0_ (fun k_ => w.heap.size ≤ k_) rfl rfl ?aP (fun k_ hk_ => ⟨HFF.out k_ hk_, fun e_ => by rw [spec_l19Put.own A0 x6_3.toNat l0.length] at e_; have := Kd.N_lt HN.out k_ e_.symm; omega⟩) ?aF ?aO ?aB ?aS ?aL ?_
   (case aP => exact k26_mkF _ _ (⟨t479⟩ : S26) (Kd.R_reads' HO481.out).2.1 (Kd.R_F (Kd.R_mono HO481.out (fun k_ hk => hk.1))))
   (case aB => exact HBB.out.trans (HB.out.mono HBB.out.size))
   (case aF => exact (fun k_ hk => HFF.out k_ (Nat.le_trans (below_size bw) hk)))
   (case aO => exact HO45.out)
   (case aS => exact Nat.le_trans HBB.out.size (below_size bw))
   (case aL => have := LM.out; rw [List.length_take]; omega)
   intro v49 w49 ho hb hg hat
   have HLT := am (show gb459 < w38.heap.size from World.block_lt_of_cell? _ _ (bc BK459 0 _))
   replace BK459 := am (blk_grown (g := gb459) (o := .cells #[.slice A1_0 l1_0.length c1_0] 26 (0, 0)) (bo BK459.out) hg (fun e_ => by rw [spec_l19Put.own A0 x6_3.toNat l0.length] at e_; have := Kd.N_lt HN.out gb459 e_.symm; have := GW459.out; omega))
   replace HO42 := am (Kd.N_after (Kd.N_mono HO42.out (fun k_ hk_ => ⟨hk_.1, by rw [spec_l19Put.own A0 x6_3.toNat l0.length]; exact hk_.2⟩)) hg hat)
   have HG1 := am hg
   have HA1 := am hat
   have HB1 := am hb
   have HO49 := am ho
   clear HO45 ho hb hg hat
   refine hK.out _ _ (bc BK459 0 _) (fun hHeld => ?_)
   clear hK K
   refine nm (some 49) ?_
   refine oa 8 (some 51) (yz 10 511) HT_ (fun K hK => ?_)
   refine Kd.N_append_rows_step k26 (w0 := w0) w0.heap.size (by rfl) (.tmp 49) (.tmp 50) 33 26 (.agg #[(.slice none 0 0)]) 24 rfl Try.underlying33 info26 rfl (by decide) (by omega) v49 (l0.take x6_3.toNat ++ [(⟨t479⟩ : S26)]) yd _ _ _ P0_ (fun k_ => P0_ k_ ∧ some k_ ≠ v49.ownBlock) rfl rfl ?aO ?aR (fun _ h => h) ?aF ?aB ?aS ?aL ?_
   (case aR => exact Kd.N_F HO42.out)
   (case aB => exact HB1.out)
   (case aF => exact (fun k_ hk => HFF.out k_ (Nat.le_trans (below_size bw) (Nat.le_trans HG1.out.size hk))))
   (case aO => exact HO49.out)
   (case aS => exact Nat.le_trans HBB.out.size (Nat.le_trans (below_size bw) HG1.out.size))
   (case aL => have := LM.out; have := D1.out; have := D2.out; rw [Nyd.out, List.length_append, List.length_take, List.length_drop, List.length_singleton]; omega)
   intro v51 w51 ho hb hg hat
   have hne : some gb459 ≠ v49.ownBlock := by
    rcases HA1.out with e | ⟨b, e, hb2⟩
    ·rw [e, spec_l19Put.own A0 x6_3.toNat l0.length]
     intro e_
     have := Kd.N_lt HN.out gb459 e_.symm
     have := GW459.out
     omega
    ·rw [e]
     intro h
     injection h with h
     have := HLT.out
     omega
   replace BK459 := am (blk_grown (g := gb459) (o := .cells #[.slice A1_0 l1_0.length c1_0] 26 (0, 0)) (bo BK459.out) hg hne)
   have HZ := am (spec_l19Put.grown HB.out HG1.out HA1.out hg hat)
   have HB2 := am hb
   have HO51 := am ho
   clear hne ho hb hg hat
   refine hK.out _ _ (bc BK459 0 _) (fun hHeld => ?_)
   clear hK K
   refine nm (some 51) ?_
   refine pa 9 (some 4) (yz 10 1023) HT_ ?_
   refine done_ (done_of HT_.out (by kernel_rfl)) ?_
   try go_wp2
   go_ret
   rw [spec_l19Put.own A0 x6_3.toNat l0.length] at HZ
   exact ⟨_, re, HO51.out, HB2.out, HZ.out⟩


/-! ### laws_szIntS: function 20 -/
def laws_szIntS.f (l0 : List Int) (a1 : Int) : Option (Int) := if (wrap64 (a1 - (l0.length : Int))) < 0 then (some (-1)) else (some (wrap64 (a1 - (l0.length : Int))))
theorem laws_szIntS.calls (A0 : Option Addr) (c0 : Nat) (l0 : List Int) (a1 : Int) (r : Int) (w : World) (hr0 : Kd.C (Kd.int .i64) w A0 l0.length l0) (hc0 : l0.length ≤ c0) (h : laws_szIntS.f l0 a1 = some r) :
  Calls Try.prog 20 #[.slice A0 l0.length c0, .int .i64 a1] w fun e w' => e = .returned (.int .i64 r) ∧ Drawn0 w w' := by
 have HR0 := am hr0
 have HC0 := am hc0
 clear hr0 hc0
 unfold laws_szIntS.f at h
 have H := h
 clear h
 replace H := gi H; obtain ⟨c3b0, H⟩ | ⟨c3b0, H⟩ := H
 ·obtain rfl := Option.some.inj H
  go_enter Try.func20, Try.ntmps20
  go_wp2
  go_ret
  exact ⟨rr, dw⟩
 obtain rfl := Option.some.inj H
 go_enter Try.func20, Try.ntmps20
 go_wp2
 go_ret
 exact ⟨rr, dw⟩


/-! ### laws_szSemigroup: function 6 -/
def laws_szSemigroup.f (l0_0 : List Int) (a1 : Int) : Option (Int) := (laws_szIntS.f l0_0 a1).bind fun t227 => (if t227 < 0 then (some (-1)) else (some t227))
theorem laws_szSemigroup.calls (A0_0 : Option Addr) (c0_0 : Nat) (l0_0 : List Int) (a1 : Int) (r : Int) (w : World) (hr0_0 : Kd.C (Kd.int .i64) w A0_0 l0_0.length l0_0) (hc0_0 : l0_0.length ≤ c0_0) (h : laws_szSemigroup.f l0_0 a1 = some r) :
  Calls Try.prog 6 #[.agg #[.slice A0_0 l0_0.length c0_0], .int .i64 a1] w fun e w' => e = .returned (.int .i64 r) ∧ Below w.heap.size w w' := by
 have hu24 := Try.underlying24
 have HR0_0 := am hr0_0
 have HC0_0 := am hc0_0
 clear hr0_0 hc0_0
 have HB := am (Below.refl w.heap.size w)
 unfold laws_szSemigroup.f at h
 have H := h
 clear h
 replace H := ga H; obtain ⟨t227, A3, H⟩ := H
 replace H := gi H; obtain ⟨c4b0, H⟩ | ⟨c4b0, H⟩ := H
 ·obtain rfl := Option.some.inj H
  go_enter Try.func6, Try.ntmps6
  go_wp2_with (first | ((with_reducible refine gate_dst (N := 2) rfl ?_); refine bx 2 #[.slice A0_0 l0_0.length c0_0] 24 ?_; intro gb226 hg w5 hbox hb; have BK226 := am (hbox); have GW226 := am (gs hg : w.heap.size ≤ gb226); have GE226 := GW226; replace HB := am (below_step bw hb); clear hb hbox hg; have hcz6_0 := bc BK226 0 (.slice A0_0 l0_0.length c0_0); have hfz6_0 := blk_frozen BK226.out 0) | ((with_reducible refine gate_callee (f := 20) rfl ?_); refine gl (some 8) Try.func20 #[.slice A0_0 l0_0.length c0_0, .int .i64 a1] ?_; (with_reducible refine (laws_szIntS.calls _ _ l0_0 a1 t227 _ ?side1 ?side2 A3.out).mono ?_); (case side1 => exact co (Kd.C_below HR0_0.out HB.out)); (case side2 => exact HC0_0.out); rintro e w' ⟨rfl, ⟨nd, rfl⟩⟩; refine ⟨_, rfl, ?_⟩))
  go_ret
  exact ⟨re, bw⟩
 obtain rfl := Option.some.inj H
 go_enter Try.func6, Try.ntmps6
 go_wp2_with (first | ((with_reducible refine gate_dst (N := 2) rfl ?_); refine bx 2 #[.slice A0_0 l0_0.length c0_0] 24 ?_; intro gb226 hg w7 hbox hb; have BK226 := am (hbox); have GW226 := am (gs hg : w.heap.size ≤ gb226); have GE226 := GW226; replace HB := am (below_step bw hb); clear hb hbox hg; have hcz8_0 := bc BK226 0 (.slice A0_0 l0_0.length c0_0); have hfz8_0 := blk_frozen BK226.out 0) | ((with_reducible refine gate_callee (f := 20) rfl ?_); refine gl (some 8) Try.func20 #[.slice A0_0 l0_0.length c0_0, .int .i64 a1] ?_; (with_reducible refine (laws_szIntS.calls _ _ l0_0 a1 t227 _ ?side1 ?side2 A3.out).mono ?_); (case side1 => exact co (Kd.C_below HR0_0.out HB.out)); (case side2 => exact HC0_0.out); rintro e w' ⟨rfl, ⟨nd, rfl⟩⟩; refine ⟨_, rfl, ?_⟩))
 go_ret
 exact ⟨re, bw⟩


/-! ### laws_toIntS: function 26 -/
def laws_toIntS.l0 : Nat → List Int → List Int → Int → Option (List Int)
 | 0, _, _, _ => none
 | k + 1, x0, x3, x4 => if x4 < (x0.length : Int) then (if 0 ≤ x4 then (if x4 < (x3.length : Int) then (laws_toIntS.l0 k x0 (x3.set (x4 : Int).toNat (rd x0 x4)) (wrap64 (x4 + 1))) else (none)) else (none)) else (some x3)
def laws_toIntS.f (k : Nat) (l0 : List Int) : Option (List Int) := if 0 ≤ (l0.length : Int) then (if ((l0.length : Int) : Int).toNat ≤ 35184372088832 then (laws_toIntS.l0 k l0 (List.replicate ((l0.length : Int) : Int).toNat 0) 0) else (none)) else (none)
theorem laws_toIntS.calls (k : Nat) (A0 : Option Addr) (c0 : Nat) (l0 : List Int) (r : List Int) (w : World) (hr0 : Kd.C (Kd.int .i64) w A0 l0.length l0) (hc0 : l0.length ≤ c0) (h : laws_toIntS.f k l0 = some r) :
  Calls Try.prog 26 #[.slice A0 l0.length c0] w fun e w' => ∃ v0_ : Value, e = .returned (v0_) ∧ Kd.R (Kd.int .i64) 3 w' w.heap.size (fun _ => True) v0_ r ∧ Below w.heap.size w w' := by
 have HR0 := am hr0
 have HC0 := am hc0
 clear hr0 hc0
 have HB := am (Below.refl w.heap.size w)
 unfold laws_toIntS.f at h
 have H := h
 clear h
 replace H := gp H; obtain ⟨c2, H⟩ := H
 have c2b0 := eq_true c2
 have c2b1 : decide (0 ≤ (l0.length : Int)) = true := decide_eq_true c2
 clear c2
 replace H := gp H; obtain ⟨c3, H⟩ := H
 have c3b0 := eq_true c3
 have c3b1 : decide (((l0.length : Int) : Int).toNat ≤ 35184372088832) = true := decide_eq_true c3
 clear c3
 obtain ⟨y228, hy228⟩ : ∃ y_ : List Int, y_ = (List.replicate ((l0.length : Int) : Int).toNat 0) := ⟨_, rfl⟩
 replace H : (laws_toIntS.l0 k l0 y228 0) = some r := by first | (rw [hy228]; with_reducible first | exact H | exact bs H) | (with_reducible first | exact bs H | exact H) | (rw [hy228]; exact H) | exact H
 have Ny228 := am hy228
 clear hy228
 have H' := am H
 clear H
 go_enter Try.func26, Try.ntmps26
 go_wp2_with (first | ((with_reducible refine gate_dst (N := 7) rfl ?_); refine Kd.R_make (Kd.int .i64) _ 3 rfl (N := 7) rfl 22 _ _ rfl (l0.length : Int) rfl rfl Try.underlying22 (.int .i64 0) 8 info3 rfl (by decide) (by omega) 0 (ok := fun _ => True) (okp := fun _ => True) rfl (fun _ hk => hk) trivial (od) (Nat.le_trans (Nat.mul_le_mul_right _ (od : (l0.length : Int).toNat ≤ 35184372088832)) (by omega)) (Below.refl _ _) (Nat.le_refl _) ?_; intro v229 w4 ho5 hb hg_ hnew_; clear hg_ hnew_; (first | rw [← Ny228.out] at ho5 | (simp only [Int.reduceToNat] at ho5; rw [← Ny228.out] at ho5)); have HO230 := am (Kd.R_lower ho5 (below_size bw)); replace HB := am (below_step bw hb); clear hb ho5))
 go_loopg [4] k (fun kq v4 w' => ∃ (x3_1 : List Int) (x4_1 : Int), v4 = .int .i64 x4_1 ∧ Aside0 (laws_toIntS.l0 kq l0 x3_1 x4_1 = some r) ∧ Aside0 (kq ≤ k) ∧ Aside0 (Kd.R (Kd.int .i64) 3 w' w.heap.size (fun _ => True) v229 x3_1) ∧ Aside0 (Below w.heap.size w w'))
 case atStart => exact ⟨(y228), (0), rr, H', ⟨Nat.le_refl _⟩, ⟨ro HO230.out⟩, ⟨bw⟩⟩
 case round =>
  clear H'
  try clear c2; try clear c2b0; try clear c2b1; try clear c3; try clear c3b0; try clear c3b1
  obtain ⟨x3_1, x4_1, rfl, HA, HK1, HO_3, HB⟩ := hrel
  cases gk with
  | zero => exact absurd HA.out (by simp [laws_toIntS.l0])
  | succ k1 =>
   have H := HA.out
   clear HA
   simp only [laws_toIntS.l0] at H
   replace H := gi H; obtain ⟨c6b0, H⟩ | ⟨c6b0, H⟩ := H
   ·replace H := gd H; obtain ⟨c7b0, H⟩ := H
    replace H := gd H; obtain ⟨c8b0, H⟩ := H
    obtain ⟨y232, hy232⟩ : ∃ y_ : List Int, y_ = (x3_1.set (x4_1 : Int).toNat (rd l0 x4_1)) := ⟨_, rfl⟩
    replace H : (laws_toIntS.l0 k1 l0 y232 (wrap64 (x4_1 + 1))) = some r := by first | (rw [hy232]; with_reducible first | exact H | exact bs H) | (with_reducible first | exact bs H | exact H) | (rw [hy232]; exact H) | exact H
    have Ny232 := am hy232
    clear hy232
    have H' := am H
    clear H
    obtain ⟨⟨ad231, e231, hx231_0⟩, p231, q231⟩ := pq (Kd.at_int HR0.out x4_1)
    cases e231
    replace hx231_0 := hw HB hx231_0
    have p9 : 0 ≤ (x4_1 : Int) := od
    have q9 : (x4_1 : Int) < ((x3_1.length : Int) : Int) := od
    obtain ⟨go9, co9, eo9, gb9, gl9, cl9, HG9⟩ := Kd.R_form HO_3.out (by omega)
    (first | cases eo9 | (injection eo9 with ea_ en_ ec_; (first | subst ea_ | (injection ea_ with ea_; subst ea_)); subst ec_; clear en_))
    have GB9 := am gb9
    have GG9 := am HG9
    clear gb9 gl9 HG9
    obtain ⟨hx9_0, hf9_0⟩ := Kd.R_celln 0 HO_3.out (x4_1 : Int) p9 q9
    replace p9 := eq_true p9
    replace q9 := eq_true q9
    have HP10 := Kd.R_putg HO_3.out (x4_1 : Int) (rd l0 x4_1)
    go_wp2_with (first | ((with_reducible refine gate_store (t := 3) (p := 20) rfl ?_); refine store_event (t := 3) (p := 20) (v := ?vo_w11) (w1 := (wr.setCell ⟨go9, (x4_1 : Int).toNat, none⟩ (.int .i64 (rd l0 x4_1)))) ?hg ?ho ?hn ?hr ?_; (case ho => rfl); (case hg => rfl); (case hn => rfl); (case hr => first | (go_simp; done) | (go_simp; rfl)); intro w11 hw; have hg : wr.grownBy w11 (some go9) := (by rw [hw]; exact HP10.2); have hp_ : Kd.R (Kd.int .i64) 3 w11 w.heap.size (fun _ => True) (.slice (some ⟨go9, 0, none⟩) x3_1.length co9) y232 := (by rw [hw, Ny232.out]; exact HP10.1); clear HP10; replace HO_3 := am (hp_); replace HB := am ((by rw [hw]; exact below_set (HB.out) GB9.out : Below w.heap.size w w11)); clear hg hw hp_))
    go_roundg k1
    case measure => have := HK1.out; omega
    case rel => exact ⟨(y232), (wrap64 (x4_1 + 1)), rr, H', ⟨by have := HK1.out; omega⟩, ⟨ro HO_3.out⟩, ⟨bw⟩⟩
   obtain rfl := Option.some.inj H
   go_wp2
   go_ret
   exact ⟨_, re, ro HO_3.out, bw⟩


/-! ### laws_toSemigroup: function 8 -/
def laws_toSemigroup.f (k : Nat) (l0_0 : List Int) : Option (List Int) := (laws_toIntS.f k l0_0).bind fun t236 => (some t236)
theorem laws_toSemigroup.calls (k : Nat) (A0_0 : Option Addr) (c0_0 : Nat) (l0_0 : List Int) (r : List Int) (w : World) (hr0_0 : Kd.C (Kd.int .i64) w A0_0 l0_0.length l0_0) (hc0_0 : l0_0.length ≤ c0_0) (h : laws_toSemigroup.f k l0_0 = some r) :
  Calls Try.prog 8 #[.agg #[.slice A0_0 l0_0.length c0_0]] w fun e w' => ∃ v0_ : Value, e = .returned (.agg #[v0_]) ∧ Kd.R (Kd.int .i64) 3 w' w.heap.size (fun _ => True) v0_ r ∧ Below w.heap.size w w' := by
 have hu24 := Try.underlying24
 have hu26 := Try.underlying26
 have HR0_0 := am hr0_0
 have HC0_0 := am hc0_0
 clear hr0_0 hc0_0
 have HB := am (Below.refl w.heap.size w)
 unfold laws_toSemigroup.f at h
 have H := h
 clear h
 replace H := ga H; obtain ⟨t236, A2, H⟩ := H
 obtain rfl := Option.some.inj H
 go_enter Try.func8, Try.ntmps8
 go_wp2_with (first | ((with_reducible refine gate_dst (N := 1) rfl ?_); refine bx 1 #[.slice A0_0 l0_0.length c0_0] 24 ?_; intro gb233 hg w3 hbox hb; have BK233 := am (hbox); have GW233 := am (gs hg : w.heap.size ≤ gb233); have GE233 := GW233; replace HB := am (below_step bw hb); clear hb hbox hg) | ((with_reducible refine gate_dst (N := 2) rfl ?_); refine bx 2 #[.slice none 0 0] 26 ?_; intro gb234 hg w4 hbox hb; have BK234 := am (hbox); have GW234 := am (gs hg : w.heap.size ≤ gb234); have GE234 := GW234; replace HB := am (below_step bw hb); have NB233_234 := nl hg BK233; have NB234_233 := ns NB233_234; replace BK233 := kb BK233 hb; clear hb hbox hg) | ((with_reducible refine gate_dst (N := 3) rfl ?_); refine bx 3 #[.slice none 0 0] 26 ?_; intro gb235 hg w5 hbox hb; have BK235 := am (hbox); have GW235 := am (gs hg : w.heap.size ≤ gb235); have GE235 := GW235; replace HB := am (below_step bw hb); have NB233_235 := nl hg BK233; have NB235_233 := ns NB233_235; replace BK233 := kb BK233 hb; have NB234_235 := nl hg BK234; have NB235_234 := ns NB234_235; replace BK234 := kb BK234 hb; clear hb hbox hg; have hnb6 := NB233_234.out; have hnc6 := NB234_233.out; have hnb7 := NB233_235.out; have hnc7 := NB235_233.out; have hcz8_0 := bc BK233 0 (.slice A0_0 l0_0.length c0_0); have hfz8_0 := blk_frozen BK233.out 0) | ((with_reducible refine gate_callee (f := 26) rfl ?_); refine gl (some 6) Try.func26 #[.slice A0_0 l0_0.length c0_0] ?_; (with_reducible refine (laws_toIntS.calls k _ _ l0_0 t236 _ ?side1 ?side2 A2.out).mono ?_); (case side1 => exact co (Kd.C_below HR0_0.out HB.out)); (case side2 => exact HC0_0.out); rintro e w9 ⟨v237, rfl, ho0, hb⟩; refine ⟨_, rfl, ?_⟩; have HO238 := am (Kd.R_lower ho0 (below_size bw)); replace BK233 := kb BK233 hb; replace BK234 := kb BK234 hb; replace BK235 := kb BK235 hb; replace HB := am (below_step bw hb); clear hb ho0; obtain ⟨Ao10, co10, eo10⟩ := Kd.R_slice HO238.out; subst eo10; have hnb11 := NB235_234.out; have hnc11 := NB234_235.out; have hcz12_0 := bc BK235 0 (.slice none 0 0); have hfz12_0 := blk_frozen BK235.out 0; have hcz13_0 := bc BK234 0 (.slice none 0 0); have hfz13_0 := blk_frozen BK234.out 0))
 refine bodyPost_ret (results_cell_row rfl _ _ gb234 26 #[.slice Ao10 t236.length co10] (0, 0) _ rfl (by (with_reducible repeat (first | refine blk_drewN ?_ _ | refine blk_drew ?_ | refine blk_alloc ?_ _)); refine blk_put (cs := #[.slice none 0 0]) ?_ 0 _ rfl; (with_reducible repeat (first | refine blk_drewN ?_ _ | refine blk_drew ?_ | refine blk_alloc ?_ _)); refine blk_far ?_ NB234_235.out _; (with_reducible repeat (first | refine blk_drewN ?_ _ | refine blk_drew ?_ | refine blk_alloc ?_ _)); exact BK234.out) Try.underlying26 rfl (by kernel_rfl)) rfl ?_
 exact ⟨_, re, rM (Kd.R_far (p := ⟨gb234, 0, none⟩) (Kd.R_far (p := ⟨gb235, 0, none⟩) (Kd.R_types (Kd.R_types HO238.out BK235.out (by decide)) BK234.out (by decide)) (fun _ hk => by first | exact hk.1.2 | simp_all) (.slice Ao10 t236.length co10)) (fun _ hk => hk.2) (.slice Ao10 t236.length co10)) (fun _ hk => trivial), bw⟩


/-! ### laws_eqIntS: function 32 -/
def laws_eqIntS.l0 : Nat → List Int → List Int → Int → Option (Bool)
 | 0, _, _, _ => none
 | k + 1, x0, x1, x5 => if x5 < (x0.length : Int) then (if 0 ≤ x5 then (if x5 < (x1.length : Int) then (if (rd x0 x5) = (rd x1 x5) then (laws_eqIntS.l0 k x0 x1 (wrap64 (x5 + 1))) else (some false)) else (none)) else (none)) else (some true)
def laws_eqIntS.f (k : Nat) (l0 : List Int) (l1 : List Int) : Option (Bool) := if (l0.length : Int) = (l1.length : Int) then (laws_eqIntS.l0 k l0 l1 0) else (some false)
theorem laws_eqIntS.calls (k : Nat) (A0 : Option Addr) (c0 : Nat) (l0 : List Int) (A1 : Option Addr) (c1 : Nat) (l1 : List Int) (r : Bool) (w : World) (hr0 : Kd.C (Kd.int .i64) w A0 l0.length l0) (hc0 : l0.length ≤ c0) (hr1 : Kd.C (Kd.int .i64) w A1 l1.length l1) (hc1 : l1.length ≤ c1) (h : laws_eqIntS.f k l0 l1 = some r) :
  Calls Try.prog 32 #[.slice A0 l0.length c0, .slice A1 l1.length c1] w fun e w' => e = .returned (.bool r) ∧ Drawn0 w w' := by
 have HR0 := am hr0
 have HC0 := am hc0
 clear hr0 hc0
 have HR1 := am hr1
 have HC1 := am hc1
 clear hr1 hc1
 unfold laws_eqIntS.f at h
 have H := h
 clear h
 by_cases c3 : (l0.length : Int) = (l1.length : Int)
 ·rw [if_pos c3] at H
  have c3b0 : ((l0.length : Int) == (l1.length : Int)) = true := beq_iff_eq.mpr c3
  have c3b1 : ((l0.length : Int) != (l1.length : Int)) = false := bne_eq_false_iff_eq.mpr c3
  have c3b2 : (l0.length == l1.length) = true := by first | simpa using c3 | (simp at c3 ⊢; omega)
  clear c3
  have H' := am H
  clear H
  go_enter Try.func32, Try.ntmps32
  go_wp2
  repeat (go_quiet (fail); try go_wp2)
  go_loopg [5] k (fun kq v5 w' => ∃ (x5_1 : Int), v5 = .int .i64 x5_1 ∧ Aside0 (laws_eqIntS.l0 kq l0 l1 x5_1 = some r) ∧ Aside0 (kq ≤ k) ∧ Drawn0 w w')
  case atStart => exact ⟨(0), rr, H', ⟨Nat.le_refl _⟩, dw⟩
  case round =>
   clear H'
   try clear c1; try clear c3; try clear c3b0; try clear c3b1; try clear c3b2
   obtain ⟨x5_1, rfl, HA, HK1, ⟨m1, rfl⟩⟩ := hrel
   cases gk with
   | zero => exact absurd HA.out (by simp [laws_eqIntS.l0])
   | succ k1 =>
    have H := HA.out
    clear HA
    simp only [laws_eqIntS.l0] at H
    replace H := gi H; obtain ⟨c4b0, H⟩ | ⟨c4b0, H⟩ := H
    ·replace H := gd H; obtain ⟨c5b0, H⟩ := H
     replace H := gd H; obtain ⟨c6b0, H⟩ := H
     by_cases c7 : (rd l0 x5_1) = (rd l1 x5_1)
     ·rw [if_pos c7] at H
      have c7b0 : ((rd l0 x5_1) == (rd l1 x5_1)) = true := beq_iff_eq.mpr c7
      have c7b1 : ((rd l0 x5_1) != (rd l1 x5_1)) = false := bne_eq_false_iff_eq.mpr c7
      clear c7
      have H' := am H
      clear H
      obtain ⟨⟨ad239, e239, hx239_0⟩, p239, q239⟩ := pq (Kd.at_int HR0.out x5_1)
      cases e239
      obtain ⟨⟨ad240, e240, hx240_0⟩, p240, q240⟩ := pq (Kd.at_int HR1.out x5_1)
      cases e240
      go_wp2
      repeat (go_quiet (fail); try go_wp2)
      go_roundg k1
      case measure => have := HK1.out; omega
      case rel => exact ⟨(wrap64 (x5_1 + 1)), rr, H', ⟨by have := HK1.out; omega⟩, dw⟩
     rw [if_neg c7] at H
     have c7b0 : ((rd l0 x5_1) == (rd l1 x5_1)) = false := beq_eq_false_iff_ne.mpr c7
     have c7b1 : ((rd l0 x5_1) != (rd l1 x5_1)) = true := bne_iff_ne.mpr c7
     obtain rfl := Option.some.inj H
     obtain ⟨⟨ad239, e239, hx239_0⟩, p239, q239⟩ := pq (Kd.at_int HR0.out x5_1)
     cases e239
     obtain ⟨⟨ad240, e240, hx240_0⟩, p240, q240⟩ := pq (Kd.at_int HR1.out x5_1)
     cases e240
     go_wp2
     repeat (go_quiet (fail); try go_wp2)
     go_ret
     exact ⟨rr, dw⟩
    obtain rfl := Option.some.inj H
    go_wp2
    repeat (go_quiet (fail); try go_wp2)
    go_ret
    exact ⟨rr, dw⟩
 rw [if_neg c3] at H
 have c3b0 : ((l0.length : Int) == (l1.length : Int)) = false := beq_eq_false_iff_ne.mpr c3
 have c3b1 : ((l0.length : Int) != (l1.length : Int)) = true := bne_iff_ne.mpr c3
 have c3b2 : (l0.length == l1.length) = false := by first | simpa using c3 | (simp at c3 ⊢; omega)
 obtain rfl := Option.some.inj H
 go_enter Try.func32, Try.ntmps32
 go_wp2
 repeat (go_quiet (fail); try go_wp2)
 go_ret
 exact ⟨rr, dw⟩


/-! ### laws_eqSemigroup: function 10 -/
def laws_eqSemigroup.f (k : Nat) (l0_0 : List Int) (l1_0 : List Int) : Option (Bool) := (laws_eqIntS.f k l0_0 l1_0).bind fun t243 => (if t243 = true then (some true) else (some false))
theorem laws_eqSemigroup.calls (k : Nat) (A0_0 : Option Addr) (c0_0 : Nat) (l0_0 : List Int) (A1_0 : Option Addr) (c1_0 : Nat) (l1_0 : List Int) (r : Bool) (w : World) (hr0_0 : Kd.C (Kd.int .i64) w A0_0 l0_0.length l0_0) (hc0_0 : l0_0.length ≤ c0_0) (hr1_0 : Kd.C (Kd.int .i64) w A1_0 l1_0.length l1_0) (hc1_0 : l1_0.length ≤ c1_0) (h : laws_eqSemigroup.f k l0_0 l1_0 = some r) :
  Calls Try.prog 10 #[.agg #[.slice A0_0 l0_0.length c0_0], .agg #[.slice A1_0 l1_0.length c1_0]] w fun e w' => e = .returned (.bool r) ∧ Below w.heap.size w w' := by
 have hu26 := Try.underlying26
 have HR0_0 := am hr0_0
 have HC0_0 := am hc0_0
 clear hr0_0 hc0_0
 have HR1_0 := am hr1_0
 have HC1_0 := am hc1_0
 clear hr1_0 hc1_0
 have HB := am (Below.refl w.heap.size w)
 unfold laws_eqSemigroup.f at h
 have H := h
 clear h
 replace H := ga H; obtain ⟨t243, A3, H⟩ := H
 replace H := gb H; obtain ⟨rfl, H⟩ | ⟨rfl, H⟩ := H
 ·obtain rfl := Option.some.inj H
  go_enter Try.func10, Try.ntmps10
  go_wp2_with (first | ((with_reducible refine gate_dst (N := 2) rfl ?_); refine bx 2 #[.slice A0_0 l0_0.length c0_0] 26 ?_; intro gb241 hg w5 hbox hb; have BK241 := am (hbox); have GW241 := am (gs hg : w.heap.size ≤ gb241); have GE241 := GW241; replace HB := am (below_step bw hb); clear hb hbox hg) | ((with_reducible refine gate_dst (N := 3) rfl ?_); refine bx 3 #[.slice A1_0 l1_0.length c1_0] 26 ?_; intro gb242 hg w6 hbox hb; have BK242 := am (hbox); have GW242 := am (gs hg : w.heap.size ≤ gb242); have GE242 := GW242; replace HB := am (below_step bw hb); have NB241_242 := nl hg BK241; have NB242_241 := ns NB241_242; replace BK241 := kb BK241 hb; clear hb hbox hg; have hnb7 := NB241_242.out; have hnc7 := NB242_241.out; have hcz8_0 := bc BK241 0 (.slice A0_0 l0_0.length c0_0); have hfz8_0 := blk_frozen BK241.out 0; have hcz9_0 := bc BK242 0 (.slice A1_0 l1_0.length c1_0); have hfz9_0 := blk_frozen BK242.out 0) | ((with_reducible refine gate_callee (f := 32) rfl ?_); refine gl (some 9) Try.func32 #[.slice A0_0 l0_0.length c0_0, .slice A1_0 l1_0.length c1_0] ?_; (with_reducible refine (laws_eqIntS.calls k _ _ l0_0 _ _ l1_0 true _ ?side1 ?side2 ?side3 ?side4 A3.out).mono ?_); (case side1 => exact co (Kd.C_below HR0_0.out HB.out)); (case side2 => exact HC0_0.out); (case side3 => exact co (Kd.C_below HR1_0.out HB.out)); (case side4 => exact HC1_0.out); rintro e w' ⟨rfl, ⟨nd, rfl⟩⟩; refine ⟨_, rfl, ?_⟩))
  go_ret
  exact ⟨re, bw⟩
 obtain rfl := Option.some.inj H
 go_enter Try.func10, Try.ntmps10
 go_wp2_with (first | ((with_reducible refine gate_dst (N := 2) rfl ?_); refine bx 2 #[.slice A0_0 l0_0.length c0_0] 26 ?_; intro gb241 hg w10 hbox hb; have BK241 := am (hbox); have GW241 := am (gs hg : w.heap.size ≤ gb241); have GE241 := GW241; replace HB := am (below_step bw hb); clear hb hbox hg) | ((with_reducible refine gate_dst (N := 3) rfl ?_); refine bx 3 #[.slice A1_0 l1_0.length c1_0] 26 ?_; intro gb242 hg w11 hbox hb; have BK242 := am (hbox); have GW242 := am (gs hg : w.heap.size ≤ gb242); have GE242 := GW242; replace HB := am (below_step bw hb); have NB241_242 := nl hg BK241; have NB242_241 := ns NB241_242; replace BK241 := kb BK241 hb; clear hb hbox hg; have hnb12 := NB241_242.out; have hnc12 := NB242_241.out; have hcz13_0 := bc BK241 0 (.slice A0_0 l0_0.length c0_0); have hfz13_0 := blk_frozen BK241.out 0; have hcz14_0 := bc BK242 0 (.slice A1_0 l1_0.length c1_0); have hfz14_0 := blk_frozen BK242.out 0) | ((with_reducible refine gate_callee (f := 32) rfl ?_); refine gl (some 9) Try.func32 #[.slice A0_0 l0_0.length c0_0, .slice A1_0 l1_0.length c1_0] ?_; (with_reducible refine (laws_eqIntS.calls k _ _ l0_0 _ _ l1_0 false _ ?side1 ?side2 ?side3 ?side4 A3.out).mono ?_); (case side1 => exact co (Kd.C_below HR0_0.out HB.out)); (case side2 => exact HC0_0.out); (case side3 => exact co (Kd.C_below HR1_0.out HB.out)); (case side4 => exact HC1_0.out); rintro e w' ⟨rfl, ⟨nd, rfl⟩⟩; refine ⟨_, rfl, ?_⟩))
 go_ret
 exact ⟨re, bw⟩


/-! ### laws_markIntS: function 33 -/
def laws_markIntS.l0 : Nat → List Int → Int → Int → Option (Int × List Int)
 | 0, _, _, _ => none
 | k + 1, x0, x1, x5 => if x5 < (x0.length : Int) then (if 0 ≤ x5 then (laws_markIntS.l0 k (x0.set (x5 : Int).toNat x1) (wrap64 (x1 + 1)) (wrap64 (x5 + 1))) else (none)) else (some (x1, x0))
def laws_markIntS.f (k : Nat) (l0 : List Int) (a1 : Int) : Option (Int × List Int) := laws_markIntS.l0 k l0 a1 0
theorem laws_markIntS.calls (k : Nat) (P0_ : Nat → Prop) (u9000_ : Value) (l0 : List Int) (a1 : Int) (r1 : Int) (r2 : List Int) (w0 w : World) (hB : Below w0.heap.size w0 w) (ho0 : Kd.R (Kd.int .i64) 3 w w0.heap.size P0_ u9000_ l0) (h : laws_markIntS.f k l0 a1 = some (r1, r2)) :
  Calls Try.prog 33 #[u9000_, .int .i64 a1] w fun e w' => e = .returned (.int .i64 r1) ∧ Kd.R (Kd.int .i64) 3 w' w0.heap.size (fun k_ => (P0_ k_ ∨ w.heap.size ≤ k_)) u9000_ r2 ∧ Below w0.heap.size w0 w' ∧ Kept w w' (fun k_ => P0_ k_) := by
 have HO0 := am (show Kd.R (Kd.int .i64) 3 w w0.heap.size (fun k_ => (P0_ k_ ∨ w.heap.size ≤ k_)) u9000_ l0 from Kd.R_mono ho0 (fun k_ hk => (.inl hk)))
 have HK := am (Kept.refl w (fun k_ => P0_ k_))
 have HW0 := am hB.size
 have HB := am hB
 clear hB
 unfold laws_markIntS.f at h
 have H := h
 clear h
 have H' := am H
 clear H
 go_enter Try.func33, Try.ntmps33
 go_wp2
 go_loopg [1, 5] k (fun kq v1 v5 w' => ∃ (x0_1 : List Int) (x1_1 : Int) (x5_1 : Int), v1 = .int .i64 x1_1 ∧ v5 = .int .i64 x5_1 ∧ Aside0 (laws_markIntS.l0 kq x0_1 x1_1 x5_1 = some (r1, r2)) ∧ Aside0 (kq ≤ k) ∧ Aside0 (Kd.R (Kd.int .i64) 3 w' w0.heap.size (fun k_ => (P0_ k_ ∨ w.heap.size ≤ k_)) u9000_ x0_1) ∧ Aside0 (Kept w w' (fun k_ => P0_ k_)) ∧ Aside0 (Below w0.heap.size w0 w'))
 case atStart => exact ⟨(l0), (a1), (0), rr, rr, H', ⟨Nat.le_refl _⟩, ⟨ro HO0.out⟩, ⟨by repeat (first | (with_reducible first | exact HK.out | apply Kept.alloc | apply Kept.drewN | apply Kept.drew) | exact HK.out)⟩, ⟨bw⟩⟩
 case round =>
  clear H'
  obtain ⟨x0_1, x1_1, x5_1, rfl, rfl, HA, HK1, HO_0, HK, HB⟩ := hrel
  cases gk with
  | zero => exact absurd HA.out (by simp [laws_markIntS.l0])
  | succ k1 =>
   have H := HA.out
   clear HA
   simp only [laws_markIntS.l0] at H
   replace H := gi H; obtain ⟨c3b0, H⟩ | ⟨c3b0, H⟩ := H
   ·replace H := gd H; obtain ⟨c4b0, H⟩ := H
    obtain ⟨y244, hy244⟩ : ∃ y_ : List Int, y_ = (x0_1.set (x5_1 : Int).toNat x1_1) := ⟨_, rfl⟩
    replace H : (laws_markIntS.l0 k1 y244 (wrap64 (x1_1 + 1)) (wrap64 (x5_1 + 1))) = some (r1, r2) := by first | (rw [hy244]; with_reducible first | exact H | exact bs H) | (with_reducible first | exact bs H | exact H) | (rw [hy244]; exact H) | exact H
    have Ny244 := am hy244
    clear hy244
    have H' := am H
    clear H
    obtain ⟨Ao6, co6, eo6⟩ := Kd.R_slice HO_0.out
    subst eo6
    have p5 : 0 ≤ (x5_1 : Int) := od
    have q5 : (x5_1 : Int) < ((x0_1.length : Int) : Int) := od
    obtain ⟨go5, co5, eo5, gb5, gl5, cl5, HG5⟩ := Kd.R_form HO_0.out (by omega)
    (first | cases eo5 | (injection eo5 with ea_ en_ ec_; (first | subst ea_ | (injection ea_ with ea_; subst ea_)); subst ec_; clear en_))
    have GB5 := am gb5
    have GG5 := am HG5
    clear gb5 gl5 HG5
    have HMgo5 := am (show (P0_ go5 ∨ w.heap.size ≤ go5) from (HO_0.out.1 _ rfl))
    obtain ⟨hx5_0, hf5_0⟩ := Kd.R_celln 0 HO_0.out (x5_1 : Int) p5 q5
    replace p5 := eq_true p5
    replace q5 := eq_true q5
    have HP7 := Kd.R_putg HO_0.out (x5_1 : Int) x1_1
    go_wp2_with (first | ((with_reducible refine gate_store (t := 3) (p := 15) rfl ?_); refine store_event (t := 3) (p := 15) (v := ?vo_w8) (w1 := (wr.setCell ⟨go5, (x5_1 : Int).toNat, none⟩ (.int .i64 x1_1))) ?hg ?ho ?hn ?hr ?_; (case ho => rfl); (case hg => rfl); (case hn => rfl); (case hr => first | (go_simp; done) | (go_simp; rfl)); intro w8 hw; have hg : wr.grownBy w8 (some go5) := (by rw [hw]; exact HP7.2); have hp_ : Kd.R (Kd.int .i64) 3 w8 w0.heap.size (fun k_ => (P0_ k_ ∨ w.heap.size ≤ k_)) (.slice (some ⟨go5, 0, none⟩) x0_1.length co6) y244 := (by rw [hw, Ny244.out]; exact HP7.1); clear HP7; replace HB := am ((by rw [hw]; exact below_set (HB.out) GB5.out : Below w0.heap.size w0 w8)); replace HK := am (Kept.of_grown (S := (fun k_ => P0_ k_)) hg (by repeat (first | (with_reducible first | exact HK.out | apply Kept.alloc | apply Kept.drewN | apply Kept.drew) | exact HK.out)) (fun k_ e_ => (HO_0.out.1 k_ e_))); replace HO_0 := am (hp_); clear hg hw hp_))
    go_roundg k1
    case measure => have := HK1.out; omega
    case rel => exact ⟨(y244), (wrap64 (x1_1 + 1)), (wrap64 (x5_1 + 1)), rr, rr, H', ⟨by have := HK1.out; omega⟩, ⟨ro HO_0.out⟩, ⟨by repeat (first | (with_reducible first | exact HK.out | apply Kept.alloc | apply Kept.drewN | apply Kept.drew) | exact HK.out)⟩, ⟨bw⟩⟩
   simp only [Option.some.injEq, Prod.mk.injEq] at H
   obtain ⟨rfl, rfl⟩ := H
   obtain ⟨Ao9, co9, eo9⟩ := Kd.R_slice HO_0.out
   subst eo9
   go_wp2
   go_ret
   exact ⟨re, ro HO_0.out, bw, by repeat (first | (with_reducible first | exact HK.out | apply Kept.alloc | apply Kept.drewN | apply Kept.drew) | exact HK.out)⟩


/-! ### laws_markSemigroup: function 11 -/
def laws_markSemigroup.f (k : Nat) (l0_0 : List Int) (a1 : Int) : Option (Int × List Int) := (laws_markIntS.f k l0_0 a1).bind fun bt246 => (some (bt246.1, bt246.2))
theorem laws_markSemigroup.calls (k : Nat) (P0_0_ : Nat → Prop) (u9000_ : Value) (l0_0 : List Int) (a1 : Int) (r1 : Int) (r2 : List Int) (w0 w : World) (hB : Below w0.heap.size w0 w) (ho0_0 : Kd.R (Kd.int .i64) 3 w w0.heap.size P0_0_ u9000_ l0_0) (h : laws_markSemigroup.f k l0_0 a1 = some (r1, r2)) :
  Calls Try.prog 11 #[.agg #[u9000_], .int .i64 a1] w fun e w' => e = .returned (.int .i64 r1) ∧ Kd.R (Kd.int .i64) 3 w' w0.heap.size (fun k_ => (P0_0_ k_ ∨ w.heap.size ≤ k_)) u9000_ r2 ∧ Below w0.heap.size w0 w' ∧ Kept w w' (fun k_ => P0_0_ k_) := by
 have hu26 := Try.underlying26
 have HO0_0 := am (show Kd.R (Kd.int .i64) 3 w w0.heap.size (fun k_ => (P0_0_ k_ ∨ w.heap.size ≤ k_)) u9000_ l0_0 from Kd.R_mono ho0_0 (fun k_ hk => (.inl hk)))
 have HK := am (Kept.refl w (fun k_ => P0_0_ k_))
 have HW0 := am hB.size
 have HB := am hB
 clear hB
 unfold laws_markSemigroup.f at h
 have H := h
 clear h
 replace H := ga H; obtain ⟨⟨t246, t247⟩, A3, H⟩ := H
 dsimp only at H
 simp only [Option.some.injEq, Prod.mk.injEq] at H
 obtain ⟨rfl, rfl⟩ := H
 obtain ⟨Ao4, co4, eo4⟩ := Kd.R_slice HO0_0.out
 subst eo4
 go_enter Try.func11, Try.ntmps11
 go_wp2_with (first | ((with_reducible refine gate_dst (N := 2) rfl ?_); refine bx 2 #[.slice Ao4 l0_0.length co4] 26 ?_; intro gb245 hg w5 hbox hb; replace HO0_0 := rK HO0_0 hb; have BK245 := am (hbox); have GW245 := am ((by rw [hg]; exact (by first | exact HK.out.1 | exact (show Kept w _ (fun k_ => P0_0_ k_) from by repeat (first | (with_reducible first | exact HK.out | apply Kept.alloc | apply Kept.drewN | apply Kept.drew) | exact HK.out)).1) : w.heap.size ≤ gb245)); replace HK := am (Kept.below (S := (fun k_ => P0_0_ k_)) (by repeat (first | (with_reducible first | exact HK.out | apply Kept.alloc | apply Kept.drewN | apply Kept.drew) | exact HK.out)) hb); have GE245 := am ((by rw [hg]; exact (below_size bw) : w0.heap.size ≤ gb245)); replace HB := am (below_step bw hb); clear hb hbox hg; have hcz6_0 := bc BK245 0 (.slice Ao4 l0_0.length co4); have hfz6_0 := blk_frozen BK245.out 0) | ((with_reducible refine gate_callee (f := 33) rfl ?_); refine gl (some 8) Try.func33 #[.slice Ao4 l0_0.length co4, .int .i64 a1] ?_; (with_reducible refine (laws_markIntS.calls k (fun k_ => some k_ = (.slice Ao4 l0_0.length co4 : Value).ownBlock) (.slice Ao4 l0_0.length co4) l0_0 a1 t246 t247 w0 _ ?side1 ?side2 A3.out).mono ?_); (case side1 => exact bw); (case side2 => exact Kd.R_tight rfl HO0_0.out); rintro e w7 ⟨rfl, hy0, hb, hkp⟩; refine ⟨_, rfl, ?_⟩; replace BK245 := am (blk_kept (bo BK245.out) hkp (fun hs_ => (fun e_ => (Kd.R_ne HO0_0.out BK245.out (by decide)) e_) hs_)); replace HK := am (Kept.then_ (S := (fun k_ => P0_0_ k_)) (by repeat (first | (with_reducible first | exact HK.out | apply Kept.alloc | apply Kept.drewN | apply Kept.drew | refine Kept.setCell ?_ (.inr GW245.out) _) | exact HK.out)) hkp (fun k_ hs_ => (fun e_ => (HO0_0.out.1 k_ e_.symm)) hs_)); replace HO0_0 := am (Kd.R_reok rfl hy0 (fun k_ e_ => HO0_0.out.1 k_ e_)); replace HB := am (hb); clear hb hkp hy0))
 go_ret
 exact ⟨re, ro HO0_0.out, bw, by repeat (first | (with_reducible first | exact HK.out | apply Kept.alloc | apply Kept.drewN | apply Kept.drew | refine Kept.setCell ?_ (.inr GW245.out) _) | exact HK.out)⟩

end Go.Proofs.Ytlhcpbpcdicleaa.C
