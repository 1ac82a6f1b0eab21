/- Plain lemmas (larger3): no program, no memory. -/
import Derived.Test.YtlhcpbpcdicleaaC0
import Derived.Test.YtlhcpbpcdicleaaC1
import Derived.Test.YtlhcpbpcdicleaaC2
import Derived.Test.YtlhcpbpcdicleaaC7
import Derived.Test.YtlhcpbpcdicleaaC8
import Derived.Test.YtlhcpbpcdicleaaC9
import Derived.Test.YtlhcpbpcdicleaaBbase
import Derived.Test.YtlhcpbpcdicleaaBfromgaps
namespace Go.Proofs.Ytlhcpbpcdicleaa.Pure
open Go.RowKit Go.Proofs.Ytlhcpbpcdicleaa.C Go.Proofs.YtlhcpbpcdicleaaW.PrintWords Go.Proofs.YtlhcpbpcdicleaaW.PrintLast Go.Proofs.YtlhcpbpcdicleaaW.PrintMore
set_option linter.unusedVariables false
set_option linter.unusedSimpArgs false
/-! larger3: LargerSemigroups of the program -/
theorem genus_impl (g : List Int) (hlen : g.length ≤ 1048576) : ∃ b, (b = true ↔ SG g) ∧ Ev (fun k => impl_GenusOf.f k g) (if b = true then ((gapL g).length : Int) else -1) ∧ Ev (fun k => impl_IsSemigroup.f k g) b ∧ Ev (fun k => impl_Gaps.f k g) (gapsS b g) := by
 obtain ⟨c, c1, _, c3⟩ := sg_both g hlen
 obtain ⟨b, b1, _, b3⟩ := gaps_both g hlen
 obtain rfl : b = c := bool_same b1 c1
 refine ⟨b, b1, ?_, c3, b3⟩
 unfold impl_GenusOf.f
 cases b with
 | false => exact Ev.bnd c3 (Ev.neg (by decide) (Ev.now _))
 | true => exact Ev.bnd c3 (Ev.pos rfl (Ev.bnd b3 (Ev.now _)))
theorem cmp_is (a b : Int) : cmp_Compare_int.f a b = some (if a < b then -1 else if a > b then 1 else 0) := by
 unfold cmp_Compare_int.f cmp_isNaN_int.f
 simp only [bne_self_eq_false, Option.bind_some, Bool.false_eq_true, if_false]
 by_cases h1 : a < b
 ·rw [if_pos h1, if_pos h1]
 ·by_cases h2 : a > b
  ·rw [if_neg h1, if_neg h1, if_pos h2, if_pos h2]
  ·rw [if_neg h1, if_neg h1, if_neg h2, if_neg h2]
theorem cmp_l0 (a b : List Int) (hab : a.length = b.length) (hl : a.length ≤ 1000) : ∀ d i, i + d = a.length → ∃ c, Ev (fun k => slices_Compare_int_int.l0 k a b a (a.length : Int) (i : Int)) c ∧ (c < 0 ↔ lexB (a.drop i) (b.drop i) = true) := by
 intro d
 induction d with
 | zero =>
  intro i hi
  refine ⟨0, Ev.one (fun k => by rw [slices_Compare_int_int.l0]) ?_, ?_⟩
  ·exact Ev.neg (by omega) (Ev.neg (by omega) (Ev.now _))
  ·rw [List.drop_of_length_le (by omega), List.drop_of_length_le (by omega)]
   exact ⟨fun h => by omega, fun h => by cases h⟩
 | succ d ih =>
  intro i hi
  have h1 : i < a.length := by omega
  have h2 : i < b.length := by omega
  obtain ⟨c, c1, c2⟩ := ih (i + 1) (by omega)
  have hc := cmp_is a[i] b[i]
  rw [List.drop_eq_getElem_cons h1, List.drop_eq_getElem_cons h2, lexB_cons]
  by_cases e : a[i] = b[i]
  ·rw [if_neg (by omega), if_neg (by omega)] at hc
   rw [if_pos e]
   refine ⟨c, Ev.one (fun k => by rw [slices_Compare_int_int.l0]) ?_, c2⟩
   rw [rd_at a i h1, rd_at b i h2, w64_succ i (by omega)]
   exact Ev.pos (by omega) (Ev.pos (by omega) (Ev.pos (by omega) (Ev.neg (by omega) (Ev.pos (by omega) (Ev.bnd (Ev.const hc) (Ev.pos rfl c1))))))
  ·rw [if_neg e]
   refine ⟨if a[i] < b[i] then -1 else if a[i] > b[i] then 1 else 0, Ev.one (fun k => by rw [slices_Compare_int_int.l0]) ?_, ?_⟩
   ·rw [rd_at a i h1, rd_at b i h2]
    refine Ev.pos (by omega) (Ev.pos (by omega) (Ev.pos (by omega) (Ev.neg (by omega) (Ev.pos (by omega) (Ev.bnd (Ev.const hc) (Ev.neg ?_ (Ev.now _)))))))
    by_cases h : a[i] < b[i]
    ·rw [if_pos h]; decide
    ·rw [if_neg h, if_pos (by omega)]; decide
   ·rw [decide_eq_true_eq]
    by_cases h : a[i] < b[i]
    ·rw [if_pos h]; exact ⟨fun _ => h, fun _ => by decide⟩
    ·rw [if_neg h, if_pos (by omega)]; exact ⟨fun h => by omega, fun h' => absurd h' h⟩
theorem order_cmp (a b : List Int) (ha : SG a) (hb : SG b) : ∃ c, Ev (fun k => impl_inOrder_1.f k a b) c ∧ (c < 0 ↔ befB (gapL a) (gapL b) = true) := by
 have la := ha.len2
 have lb := hb.len2
 have ga := gapL_len a
 have gb := gapL_len b
 obtain ⟨p, p1, p2, _, p3⟩ := genus_impl a (by omega)
 obtain ⟨q, q1, q2, _, q3⟩ := genus_impl b (by omega)
 obtain rfl : p = true := p1.2 ha
 obtain rfl : q = true := q1.2 hb
 rw [if_pos rfl] at p2 q2
 rw [show gapsS true a = gapL a from if_pos rfl] at p3
 rw [show gapsS true b = gapL b from if_pos rfl] at q3
 have hw : wrap64 (((gapL a).length : Int) - ((gapL b).length : Int)) = ((gapL a).length : Int) - ((gapL b).length : Int) := w64_of (by omega) (by omega)
 unfold impl_inOrder_1.f befB
 by_cases e : (gapL a).length = (gapL b).length
 ·rw [if_pos e]
  obtain ⟨c, c1, c2⟩ := cmp_l0 (gapL a) (gapL b) e (by omega) (gapL a).length 0 (by omega)
  refine ⟨c, Ev.bnd p2 (Ev.bnd q2 (Ev.pos (by rw [hw]; omega) (Ev.bnd p3 (Ev.bnd q3 (Ev.bnd ?_ (Ev.now _)))))), c2⟩
  exact c1
 ·rw [if_neg e]
  refine ⟨((gapL a).length : Int) - ((gapL b).length : Int), Ev.bnd p2 (Ev.bnd q2 (Ev.neg (by rw [hw]; omega) ?_)), ?_⟩
  ·rw [hw]; exact Ev.now _
  ·rw [decide_eq_true_eq]; omega
theorem ev_fin (G : Nat → Nat → Prop) : ∀ n, (∀ i, i < n → ∃ K, ∀ k, K ≤ k → G k i) → ∃ K, ∀ k, K ≤ k → ∀ i, i < n → G k i := by
 intro n
 induction n with
 | zero => exact fun _ => ⟨0, fun _ _ i hi => by omega⟩
 | succ n ih =>
  intro h
  obtain ⟨K, hK⟩ := ih (fun i hi => h i (by omega))
  obtain ⟨J, hJ⟩ := h n (by omega)
  refine ⟨max K J, fun k hk i hi => ?_⟩
  by_cases e : i = n
  ·rw [e]; exact hJ k (by omega)
  ·exact hK k (by omega) i (by omega)
theorem order_f {k : Nat} {l r : List S26} (h : impl_inOrder.ok k l r) : impl_inOrder.f k l = some r := by
 unfold impl_inOrder.f
 split
 ·rename_i e
  have hc := e.choose_spec
  congr 1
  refine (impl_inOrder.uniq hc h.1 ?_).symm
  rintro i j hi hj q ⟨c, hc', hl⟩
  obtain ⟨c2, h2, h3⟩ := h.2.2.2 j i hj hi
  rw [hc'] at h2
  obtain rfl := Option.some.inj h2
  have := h3.1 hl
  omega
 ·rename_i e
  exact absurd ⟨r, h⟩ e
theorem order_ev (l r : List S26) (hp : r.Perm l) (hr : r.Pairwise ltT) (hS : ∀ x ∈ r, SG x.f0) (h0 : 0 < l.length) (h1 : l.length ≤ 1000) : Ev (fun k => impl_inOrder.f k l) r := by
 have hone : ∀ i, i < r.length → ∀ j, j < r.length → ∃ K, ∀ k, K ≤ k → ∀ (hi : i < r.length) (hj : j < r.length), ∃ c, impl_inOrder_1.f k r[i].f0 r[j].f0 = some c ∧ (c < 0 ↔ i < j) := by
  intro i hi j hj
  obtain ⟨c, ⟨K, hK⟩, c2⟩ := order_cmp r[i].f0 r[j].f0 (hS _ (List.getElem_mem hi)) (hS _ (List.getElem_mem hj))
  refine ⟨K, fun k hk _ _ => ⟨c, hK k hk, ?_⟩⟩
  rw [c2]
  have hpw := List.pairwise_iff_getElem.1 hr
  constructor
  ·intro h
   rcases Nat.lt_trichotomy i j with q | q | q
   ·exact q
   ·subst q
    rw [befB_irr] at h; cases h
   ·have := befB_asym _ _ (show befB (gapL r[j].f0) (gapL r[i].f0) = true from hpw j i hj hi q)
    rw [this] at h; cases h
  ·exact fun q => hpw i j hi hj q
 obtain ⟨K, hK⟩ := ev_fin (fun k i => ∀ j, j < r.length → ∀ (hi : i < r.length) (hj : j < r.length), ∃ c, impl_inOrder_1.f k r[i].f0 r[j].f0 = some c ∧ (c < 0 ↔ i < j)) r.length (fun i hi => ev_fin (fun k j => ∀ (hi : i < r.length) (hj : j < r.length), ∃ c, impl_inOrder_1.f k r[i].f0 r[j].f0 = some c ∧ (c < 0 ↔ i < j)) r.length (fun j hj => hone i hi j hj))
 exact ⟨K, fun k hk => order_f ⟨hp, h0, by omega, fun i j hi hj => hK k hk i hi j hj hi hj⟩⟩
theorem bit_all : ((List.range 512).all fun s => (List.range 9).all fun i => decide (Go.bits .and .i64 (shr .i64 (s : Int) (i : Int)) 1 = 1) == s.testBit i) = true := by kernel_rfl
theorem bit_test (s i : Nat) (hs : s < 512) (hi : i < 9) : (Go.bits .and .i64 (shr .i64 (s : Int) (i : Int)) 1 = 1) ↔ s.testBit i = true := by
 have h := List.all_eq_true.1 (List.all_eq_true.1 bit_all s (List.mem_range.2 hs)) i (List.mem_range.2 hi)
 rw [beq_iff_eq] at h
 rw [← h, decide_eq_true_eq]
theorem shl_all : ((List.range 10).all fun n => shl .i64 1 (n : Int) == ((2 ^ n : Nat) : Int)) = true := by kernel_rfl
theorem shl_is (n : Nat) (h : n ≤ 9) : shl .i64 1 (n : Int) = ((2 ^ n : Nat) : Int) := by
 have := List.all_eq_true.1 shl_all n (List.mem_range.2 (by omega))
 rwa [beq_iff_eq] at this
theorem pow_small (n : Nat) (h : n ≤ 9) : 2 ^ n ≤ 512 := Nat.pow_le_pow_right (by omega) h
theorem large_i1 (G : List Int) (hG : G.length ≤ 9) (acc : List S26) (s : Nat) (hs : s < 512) (N : Int) {r : List S26 × Bool}
  (hc : Ev (fun k => (impl_FromGaps.f k (subS G s)).bind fun bt => (if bt.2 = true then (if acc.length < 5864062014805 then (impl_LargerSemigroups.l0 k G (acc ++ [(⟨bt.1⟩ : S26)]) N (wrap64 ((s : Int) + 1))) else (none)) else (impl_LargerSemigroups.l0 k G acc N (wrap64 ((s : Int) + 1))))) r) :
  ∀ d i, i + d = G.length → Ev (fun k => impl_LargerSemigroups.l1 k G acc (s : Int) (pick (fun i => s.testBit i) (fun i => G.getD i 0) i) N (s : Int) G (G.length : Int) (i : Int)) r := by
 intro d
 induction d with
 | zero =>
  intro i hi
  obtain rfl : i = G.length := by omega
  refine Ev.one (fun k => by rw [impl_LargerSemigroups.l1]) ?_
  exact Ev.neg (by omega) hc
 | succ d ih =>
  intro i hi
  have hil : i < G.length := by omega
  have ih := ih (i + 1) (by omega)
  have hl := pick_len (fun i => s.testBit i) (fun i => G.getD i 0) i
  have hg : G.getD i 0 = G[i] := by rw [List.getD_eq_getElem?_getD, List.getElem?_eq_getElem hil, Option.getD_some]
  have hb := bit_test s i hs (by omega)
  refine Ev.one (fun k => by rw [impl_LargerSemigroups.l1]) ?_
  rw [rd_at G i hil, w64_succ i (by omega)]
  refine Ev.pos (by omega) (Ev.pos (by omega) (Ev.pos (by omega) ?_))
  cases e : s.testBit i with
  | true =>
   rw [pick_pos _ _ i e, hg] at ih
   exact Ev.pos (hb.2 e) (Ev.pos (by omega) ih)
  | false =>
   rw [pick_neg _ _ i e] at ih
   exact Ev.neg (fun h => by rw [hb.1 h] at e; cases e) ih
theorem large_i0 (G : List Int) (hG : G.length ≤ 9) {o : List S26} (ho : Ev (fun k => impl_inOrder.f k (overL G (2 ^ G.length))) o) : ∀ d s, s + d = 2 ^ G.length → Ev (fun k => impl_LargerSemigroups.l0 k G (overL G s) ((2 ^ G.length : Nat) : Int) (s : Int)) (o, true) := by
 have hp := pow_small G.length hG
 intro d
 induction d with
 | zero =>
  intro s hs
  obtain rfl : s = 2 ^ G.length := by omega
  refine Ev.one (fun k => by rw [impl_LargerSemigroups.l0]) ?_
  exact Ev.neg (by omega) (Ev.bnd ho (Ev.now _))
 | succ d ih =>
  intro s hs
  have ih := ih (s + 1) (by omega)
  have hol := overL_len G s
  have hsl := pick_len (fun i => s.testBit i) (fun i => G.getD i 0) G.length
  refine Ev.one (fun k => by rw [impl_LargerSemigroups.l0]) ?_
  refine Ev.pos (by omega) ?_
  refine large_i1 G hG (overL G s) s (by omega) ((2 ^ G.length : Nat) : Int) ?_ G.length 0 (by omega)
  rw [w64_succ s (by omega)]
  obtain ⟨q, q0, _, q2⟩ := from_both (subS G s) (Nat.le_trans hsl (by omega))
  have hq : gsetB (subS G s) = q := by
   refine bool_same (gsetB_iff _) (q0.trans ⟨fun h => ⟨h.1, h.2.1⟩, fun h => ⟨h.1, h.2, ?_⟩⟩)
   exact sg_small _ h.1 h.2 (Nat.le_trans hsl hG)
  cases q with
  | true =>
   have e : overL G (s + 1) = overL G s ++ [(⟨genL (subS G s) 401⟩ : S26)] := pick_pos _ _ s hq
   rw [e] at ih
   exact Ev.bnd q2 (Ev.pos rfl (Ev.pos (by omega) ih))
  | false =>
   have e : overL G (s + 1) = overL G s := pick_neg _ _ s hq
   rw [e] at ih
   exact Ev.bnd q2 (Ev.neg (by simp [fromS]) ih)
theorem large_both (g : List Int) (hlen : g.length ≤ 1048576) : ∃ r : List S26 × Bool, r.1.length ≤ 512 ∧ (∀ x ∈ r.1, x.f0.length ≤ 1000) ∧ Ev (fun k => spec_LargerSemigroups.f k g) r ∧ Ev (fun k => impl_LargerSemigroups.f k g) r := by
 obtain ⟨b, b1, b2, b3, b4⟩ := genus_impl g hlen
 by_cases h : SG g ∧ (gapL g).length ≤ 9
 ·obtain ⟨hS, hg⟩ := h
  obtain rfl : b = true := b1.2 hS
  rw [if_pos rfl] at b2
  rw [show gapsS true g = gapL g from if_pos rfl] at b4
  obtain ⟨o, o1, o2, o3⟩ := large_spec_in g hS hg
  have hO : ∀ x ∈ o, Over g x.f0 := fun x hx => ((o3 x).1 hx).1
  have hol := over_room g hS hg o o2 hO
  have hperm : o.Perm (overL (gapL g) (2 ^ (gapL g).length)) := by
   refine (List.perm_ext_iff_of_nodup ?_ (overL_nodup g)).2 fun x => ?_
   ·refine List.Pairwise.imp ?_ o2
    intro a b h e
    subst e
    exact ltT_irr _ h
   ·rw [o3, overL_mem g hS hg]
    exact ⟨fun h => h.1, fun h => ⟨h, Nat.zero_le _⟩⟩
  have hmem : (⟨g⟩ : S26) ∈ o := (o3 ⟨g⟩).2 ⟨over_self g hS, Nat.zero_le _⟩
  have hpos := List.length_pos_of_mem hmem
  have hpl := hperm.length_eq
  have he := order_ev _ o hperm o2 (fun x hx => (hO x hx).1) (by omega) (by omega)
  have h0 := large_i0 (gapL g) hg he (2 ^ (gapL g).length) 0 (by omega)
  refine ⟨(o, true), hol, fun x hx => Nat.le_trans ((hO x hx).1.len2) (by omega), o1, ?_⟩
  unfold impl_LargerSemigroups.f
  refine Ev.bnd b3 (Ev.pos rfl (Ev.bnd b2 ?_))
  refine Ev.one (fun k => by rw [impl_LargerSemigroups.j0]) ?_
  refine Ev.neg (by simp only [decide_eq_true_eq]; omega) (Ev.bnd b4 ?_)
  rw [shl_is _ hg]
  exact h0
 ·refine ⟨([], false), by simp, (fun x hx => by cases hx), large_spec_out g hlen h, ?_⟩
  have hj : Ev (fun k => impl_LargerSemigroups.j0 k true g) ([], false) := by
   refine Ev.one (fun k => by rw [impl_LargerSemigroups.j0]) ?_
   exact Ev.pos rfl (Ev.now _)
  unfold impl_LargerSemigroups.f
  cases b with
  | false => exact Ev.bnd b3 (Ev.neg (by decide) hj)
  | true =>
   have hS := b1.1 rfl
   rw [if_pos rfl] at b2
   have h9 : 9 < (gapL g).length := Nat.lt_of_not_le fun e => h ⟨hS, e⟩
   refine Ev.bnd b3 (Ev.pos rfl (Ev.bnd b2 ?_))
   rw [show decide (((gapL g).length : Int) > 9) = true from by simp only [decide_eq_true_eq]; omega]
   exact hj
end Go.Proofs.Ytlhcpbpcdicleaa.Pure
