/- Plain lemmas (fromboth): no program, no memory. -/
import Derived.Test.YtlhcpbpcdicleaaC0
import Derived.Test.YtlhcpbpcdicleaaC4
import Derived.Test.YtlhcpbpcdicleaaC7
import Derived.Test.YtlhcpbpcdicleaaBissg
import Derived.Test.YtlhcpbpcdicleaaBshell
import Derived.Test.YtlhcpbpcdicleaaBgaps
import Derived.Test.YtlhcpbpcdicleaaBfromgaps
import Derived.Test.YtlhcpbpcdicleaaBgapgens
import Derived.Test.YtlhcpbpcdicleaaBbase
namespace Go.Proofs.Ytlhcpbpcdicleaa.Pure
open Go.RowKit Go.Proofs.Ytlhcpbpcdicleaa.C Go.Proofs.YtlhcpbpcdicleaaW.PrintWords Go.Proofs.YtlhcpbpcdicleaaW.PrintLast Go.Proofs.YtlhcpbpcdicleaaW.PrintMore
set_option linter.unusedVariables false
set_option linter.unusedSimpArgs false
/-! fromboth: FromGaps of both sides -/
theorem impl_FromGaps_t (l gs : List Int) (n : Nat) (hn : n ≤ 400) (r : List Int × Bool) (h : Ev (fun k => impl_FromGaps.l1 k l (mk l 401) ((n + 1 : Nat) : Int) gs) r) (a : Nat) :
    Ev (fun k => impl_FromGaps.l2 k l (mk l 401) (n : Int) true (a : Int) gs) r := by
  refine Ev.one (fun k => by rw [impl_FromGaps.l2]) ?_
  rw [w64_succ n (by omega)]
  by_cases e : wrap64 (2 * (a : Int)) ≤ (n : Int)
  · exact Ev.pos e (Ev.pos rfl h)
  · exact Ev.neg e (Ev.pos rfl h)
theorem no_pair (l : List Int) (n a : Nat) (h1 : 1 ≤ n) (hn : (n : Int) ∉ l) (h2 : n < 2 * a) (hs : ∀ q : Nat, 1 ≤ q → q < a → (q : Int) ∈ l ∨ (n : Int) - (q : Int) ∈ l) : irr l (n : Int) := by
  refine ⟨by omega, hn, ?_⟩
  rintro ⟨x, y, hx, hy, e, hxl, hyl⟩
  rcases Int.le_total x y with o | o
  · have := hs x.toNat (by omega) (by omega)
    rw [show ((x.toNat : Nat) : Int) = x from by omega, show (n : Int) - x = y from by omega] at this
    exact this.elim hxl hyl
  · have := hs y.toNat (by omega) (by omega)
    rw [show ((y.toNat : Nat) : Int) = y from by omega, show (n : Int) - y = x from by omega] at this
    exact this.elim hyl hxl
theorem impl_FromGaps_l2 (l : List Int) (n : Nat) (h1 : 1 ≤ n) (hn : n ≤ 400) (hnl : (n : Int) ∉ l) (r : List Int × Bool) (h : Ev (fun k => impl_FromGaps.l1 k l (mk l 401) ((n + 1 : Nat) : Int) (genL l (n + 1))) r) :
    ∀ (d a : Nat), n < 2 * a + 2 * d → 1 ≤ a → a ≤ 401 → (∀ q : Nat, 1 ≤ q → q < a → (q : Int) ∈ l ∨ (n : Int) - (q : Int) ∈ l) →
    Ev (fun k => impl_FromGaps.l2 k l (mk l 401) (n : Int) false (a : Int) (genL l n)) r := by
  have hgl := genL_len l n
  have hml := mk_len l 401
  have last : ∀ a : Nat, n < 2 * a → a ≤ 401 → (∀ q : Nat, 1 ≤ q → q < a → (q : Int) ∈ l ∨ (n : Int) - (q : Int) ∈ l) → Ev (fun k => impl_FromGaps.l2 k l (mk l 401) (n : Int) false (a : Int) (genL l n)) r := by
    intro a h2 h3 hs
    have hi := no_pair l n a h1 hnl h2 hs
    rw [genL_pos1 l n hi] at h
    refine Ev.one (fun k => by rw [impl_FromGaps.l2]) ?_
    rw [w64_succ n (by omega), w64_of (x := 2 * (a : Int)) (by omega) (by omega)]
    exact Ev.neg (by omega) (Ev.neg (by decide) (Ev.pos (by omega) h))
  intro d
  induction d with
  | zero =>
    intro a h2 h3 h4 hs
    exact last a (by omega) h4 hs
  | succ d ih =>
    intro a h2 h3 h4 hs
    by_cases hq : n < 2 * a
    · exact last a hq h4 hs
    have e1 : (n : Int) - (a : Int) = ((n - a : Nat) : Int) := by omega
    have step : ((a : Int) ∈ l ∨ (n : Int) - (a : Int) ∈ l) → Ev (fun k => impl_FromGaps.l2 k l (mk l 401) (n : Int) false ((a + 1 : Nat) : Int) (genL l n)) r := by
      intro hp
      refine ih (a + 1) (by omega) (by omega) (by omega) (fun q q1 q2 => ?_)
      by_cases e : q = a
      · subst e; exact hp
      · exact hs q q1 (by omega)
    refine Ev.one (fun k => by rw [impl_FromGaps.l2]) ?_
    rw [w64_succ a (by omega), w64_of (x := 2 * (a : Int)) (by omega) (by omega), mk_at l 401 a (by omega), w64_of (x := (n : Int) - (a : Int)) (by omega) (by omega), e1, mk_at l 401 (n - a) (by omega), ← e1]
    refine Ev.pos (by omega) (Ev.neg (by decide) (Ev.pos (by omega) (Ev.pos (by omega) ?_)))
    by_cases hA : (a : Int) ∈ l
    · rw [decide_eq_true hA]
      exact Ev.pos rfl (step (.inl hA))
    · rw [decide_eq_false hA]
      refine Ev.neg (by decide) (Ev.pos (by omega) (Ev.pos (by omega) ?_))
      by_cases hB : (n : Int) - (a : Int) ∈ l
      · rw [decide_eq_true hB]
        exact step (.inr hB)
      · rw [decide_eq_false hB]
        have hi : ¬ irr l (n : Int) := fun hi => hi.2.2 ⟨(a : Int), (n : Int) - (a : Int), by omega, by omega, by omega, hA, hB⟩
        rw [genL_neg1 l n hi] at h
        exact impl_FromGaps_t l _ n hn r h (a + 1)
theorem impl_FromGaps_l1 (l : List Int) (ok : okL l) (hc : ¬ clP l 1) (b : Bool) (hb : b = true ↔ SG (genL l 401)) :
    ∀ (d i : Nat), i + d = 401 → 1 ≤ i → Ev (fun k => impl_FromGaps.l1 k l (mk l 401) (i : Int) (genL l i)) (fromS l b) := by
  have hml := mk_len l 401
  intro d
  induction d with
  | zero =>
    intro i hi h1
    obtain rfl : i = 401 := by omega
    have hgl := genL_len l 401
    obtain ⟨c, c1, _, c2⟩ := sg_both (genL l 401) (by omega)
    have e : c = b := bool_same c1 hb
    subst e
    refine Ev.one (fun k => by rw [impl_FromGaps.l1]) ?_
    rw [hml]
    refine Ev.neg (by omega) (Ev.bnd c2 ?_)
    unfold fromS
    cases c with
    | false => exact Ev.neg (by decide) (Ev.now _)
    | true =>
      obtain ⟨c', d1, d2⟩ := impl_gaps_ev (genL l 401) (by omega)
      have e' : c' = true := d1.2 (hb.1 rfl)
      subst e'
      have eg : gapsS true (genL l 401) = l := by
        unfold gapsS
        rw [if_pos rfl]
        exact gapL_gens l ok hc 401 (by omega)
      rw [eg] at d2
      have hll : l.length ≤ 1048576 := by
        have := gapsS_len true (genL l 401)
        rw [eg] at this
        omega
      obtain ⟨q, q1, q2⟩ := equal_ev l l hll
      have eq : q = true := q1.2 rfl
      subst eq
      exact Ev.pos rfl (Ev.bnd d2 (Ev.bnd q2 (Ev.pos rfl (Ev.now _))))
  | succ d ih =>
    intro i hi h1
    have ih := ih (i + 1) (by omega) (by omega)
    refine Ev.one (fun k => by rw [impl_FromGaps.l1]) ?_
    rw [hml, mk_at l 401 i (by omega)]
    refine Ev.pos (by omega) (Ev.pos (by omega) ?_)
    by_cases hn : (i : Int) ∈ l
    · rw [decide_eq_true hn]
      rw [genL_neg1 l i (fun e => e.2.1 hn)] at ih
      exact impl_FromGaps_t l _ i (by omega) _ ih 1
    · rw [decide_eq_false hn]
      exact impl_FromGaps_l2 l i h1 (by omega) hn _ ih i 1 (by omega) (by omega) (by omega) (fun q q1 q2 => by omega)
theorem impl_FromGaps_l0 (l : List Int) (hl : l.length ≤ 1048576) (ok : okL l) (hc : ¬ clP l 1) (b : Bool) (hb : b = true ↔ SG (genL l 401)) :
    ∀ (d i : Nat), i + d = l.length → Ev (fun k => impl_FromGaps.l0 k l (mk (l.take i) 401) l (l.length : Int) (i : Int)) (fromS l b) := by
  intro d
  induction d with
  | zero =>
    intro i hi
    refine Ev.one (fun k => by rw [impl_FromGaps.l0]) ?_
    rw [List.take_of_length_le (by omega)]
    have h := impl_FromGaps_l1 l ok hc b hb 400 1 (by omega) (by omega)
    rw [genL_one] at h
    exact Ev.neg (by omega) h
  | succ d ih =>
    intro i hi
    have ih := ih (i + 1) (by omega)
    have a1 := ok.2 _ (List.getElem_mem (show i < l.length by omega))
    refine Ev.one (fun k => by rw [impl_FromGaps.l0]) ?_
    rw [rd_at l i (by omega), mk_next l 401 i (by omega) (by omega), w64_succ i (by omega), mk_len]
    exact Ev.pos (by omega) (Ev.pos (by omega) (Ev.pos (by omega) (Ev.pos (by omega) (Ev.pos (by omega) ih))))
theorem from_both (l : List Int) (hl : l.length ≤ 1048576) : ∃ b, (b = true ↔ okL l ∧ ¬ clP l 1 ∧ SG (genL l 401)) ∧ Ev (fun k => spec_FromGaps.f k l) (fromS l b) ∧ Ev (fun k => impl_FromGaps.f k l) (fromS l b) := by
  obtain ⟨r, r1, r2⟩ := spec_GapClash_ev l hl
  obtain ⟨s, s1, s2⟩ := impl_GapClash_ev l hl
  obtain ⟨c, c1, c2⟩ := spec_l8Gaps_ev l hl
  obtain ⟨e, e1, e2⟩ := impl_gapList_ev l hl
  obtain rfl : c = e := bool_same c1 e1
  have rs : r.2.2 = s.2.2 := bool_same r1 s1
  have outS : Ev (fun k => spec_FromGaps.j0 k l true) (fromS l false) := by
    refine Ev.one (fun k => by rw [spec_FromGaps.j0]) ?_
    exact Ev.pos rfl (Ev.now _)
  have outI : Ev (fun k => impl_FromGaps.j0 k l true) (fromS l false) := by
    refine Ev.one (fun k => by rw [impl_FromGaps.j0]) ?_
    exact Ev.pos rfl (Ev.now _)
  unfold spec_FromGaps.f impl_FromGaps.f
  cases hcl : r.2.2 with
  | true =>
    have ho := r1.1 hcl
    have hs : s.2.2 = true := by rw [← rs]; exact hcl
    refine ⟨false, ⟨(fun e => by cases e), fun e => absurd ho.2 e.2.1⟩, Ev.bnd r2 (Ev.bnd c2 (Ev.pos (c1.2 ho.1) ?_)), Ev.bnd s2 (Ev.pos hs outI)⟩
    rw [hcl]
    exact outS
  | false =>
    have hs : s.2.2 = false := by rw [← rs]; exact hcl
    cases hc : c with
    | false =>
      rw [hc] at c1 c2 e2
      refine ⟨false, ⟨(fun e => by cases e), fun e => c1.2 e.1⟩, Ev.bnd r2 (Ev.bnd c2 (Ev.neg (by decide) outS)), Ev.bnd s2 (Ev.neg (by rw [hs]; decide) (Ev.bnd e2 outI))⟩
    | true =>
      rw [hc] at c1 c2 e2
      have ok := c1.1 rfl
      have ncl : ¬ clP l 1 := fun h => by have := r1.2 ⟨ok, h⟩; rw [hcl] at this; cases this
      have hgl := genL_len l 401
      obtain ⟨b, b1, _, _⟩ := sg_both (genL l 401) (by omega)
      refine ⟨b, by rw [b1]; exact ⟨fun h => ⟨ok, ncl, h⟩, fun h => h.2.2⟩, Ev.bnd r2 (Ev.bnd c2 (Ev.pos rfl ?_)), Ev.bnd s2 (Ev.neg (by rw [hs]; decide) (Ev.bnd e2 ?_))⟩
      · rw [hcl]
        refine Ev.one (fun k => by rw [spec_FromGaps.j0]) ?_
        have far : ∀ most : Nat, most ≤ 199 → (∀ x ∈ l, x ≤ (most : Int)) → Ev (fun k => spec_FromGaps.j1 k l [] (most : Int)) (fromS l b) := by
          intro most hm hx
          have eg : genL l 401 = genL l (2 * most + 3) := by
            have := genL_far l most hx (401 - (2 * most + 3))
            rw [show 2 * most + 3 + (401 - (2 * most + 3)) = 401 from by omega] at this
            exact this
          refine Ev.one (fun k => by rw [spec_FromGaps.j1]) ?_
          have h := spec_FromGaps_l0 l hl ncl most hm b (by rw [b1, eg]) (2 * most + 2) 1 (by omega) (by omega)
          rw [genL_one] at h
          unfold fromS
          rw [eg]
          exact h
        refine Ev.neg (by decide) (Ev.some ?_)
        by_cases h0 : l.length = 0
        · refine Ev.neg (by omega) (far 0 (by omega) (fun x hx => ?_))
          rw [List.length_eq_zero_iff] at h0
          rw [h0] at hx
          simp at hx
        · obtain ⟨most, m1, m2, m3, m4⟩ := okL_top l ok (by omega)
          have e1 : wrap64 ((l.length : Int) - 1) = ((l.length - 1 : Nat) : Int) := by rw [w64_of (by omega) (by omega)]; omega
          rw [e1, m1]
          exact Ev.pos (by omega) (Ev.pos (by omega) (Ev.pos (by omega) (far most m3 m4)))
      · refine Ev.one (fun k => by rw [impl_FromGaps.j0]) ?_
        have h := impl_FromGaps_l0 l hl ok ncl b b1 l.length 0 (by omega)
        rw [List.take_zero, mk_nil] at h
        exact Ev.neg (by decide) (Ev.pos (by omega) h)
end Go.Proofs.Ytlhcpbpcdicleaa.Pure
