/- Plain lemmas (value): no program, no memory. -/
import Derived.Test.YtolbllafeblmdaaC0
import Derived.Test.YtolbllafeblmdaaC10
import Derived.Test.YtolbllafeblmdaaBwithin
import Derived.Test.YtolbllafeblmdaaBallwithin
import Derived.Test.YtolbllafeblmdaaBissg
import Derived.Test.YtolbllafeblmdaaBshell
import Derived.Test.YtolbllafeblmdaaBbase
namespace Go.Proofs.Ytolbllafeblmdaa.Pure
open Go.RowKit Go.Proofs.Ytolbllafeblmdaa.C Go.Proofs.YtolbllafeblmdaaW.PrintWords Go.Proofs.YtolbllafeblmdaaW.PrintLast Go.Proofs.YtolbllafeblmdaaW.PrintMore
set_option linter.unusedVariables false
set_option linter.unusedSimpArgs false
/-! value: ValueOf of both sides -/
/-- The sum of the products of two lists. -/
def dot : List Int → List Int → Int
  | x :: a, y :: b => x * y + dot a b
  | _, _ => 0
theorem dot_cons (x : Int) (a : List Int) (y : Int) (b : List Int) : dot (x :: a) (y :: b) = x * y + dot a b := rfl
theorem dot_nil (b : List Int) : dot [] b = 0 := by cases b <;> rfl
theorem mul_le60 {x y : Int} (hx : 0 ≤ x ∧ x ≤ 1000000) (hy : 1 ≤ y ∧ y ≤ 60) : 0 ≤ x * y ∧ x * y ≤ 60000000 := by
  have h1 : 0 ≤ x * y := Int.mul_nonneg hx.1 (by omega)
  have h2 : x * y ≤ 1000000 * 60 := Int.mul_le_mul hx.2 hy.2 (by omega) (by omega)
  omega
theorem spec_ValueOf_l0 (l g : List Int) (hl : l.length = g.length) (h12 : g.length ≤ 12) (hg : ∀ x ∈ g, 1 ≤ x ∧ x ≤ 60) :
    ∀ (d i : Nat) (s : Int), i + d = l.length → 0 ≤ s → s ≤ 60000000 * (i : Int) → Ev (fun k => spec_ValueOf.l0 k l s (i : Int) g) (if allIn (l.drop i) 0 1000000 = true then s + dot (l.drop i) (g.drop i) else -1) := by
  intro d
  induction d with
  | zero =>
    intro i s hi h0 h1
    rw [List.drop_eq_nil_of_le (show l.length ≤ i by omega), dot_nil, if_pos (show allIn [] 0 1000000 = true from rfl), Int.add_zero]
    refine Ev.one (fun k => by rw [spec_ValueOf.l0]) ?_
    exact Ev.neg (by omega) (Ev.now _)
  | succ d ih =>
    intro i s hi h0 h1
    rw [List.drop_eq_getElem_cons (show i < l.length by omega), List.drop_eq_getElem_cons (show i < g.length by omega), dot_cons]
    refine Ev.one (fun k => by rw [spec_ValueOf.l0]) ?_
    rw [rd_at l i (by omega), rd_at g i (by omega), w64_succ i (by omega)]
    refine Ev.pos (by omega) (Ev.pos (by omega) (Ev.bnd (spec_l1In_ev _ _ _) ?_))
    by_cases h : 0 ≤ l[i] ∧ l[i] ≤ 1000000
    · have hm := mul_le60 h (hg g[i] (List.getElem_mem _))
      rw [allIn_cons _ _ _ _ h, w64_of (x := l[i] * g[i]) (by omega) (by omega), w64_of (x := s + l[i] * g[i]) (by omega) (by omega), ← Int.add_assoc]
      exact Ev.pos (decide_eq_true h) (Ev.pos (by omega) (ih (i + 1) _ (by omega) (by omega) (by omega)))
    · rw [allIn_cons_not _ _ _ _ h, if_neg (by decide)]
      exact Ev.neg (by rw [decide_eq_false h]; decide) (Ev.now _)
theorem impl_ValueOf_l0 (l g : List Int) (hl : l.length = g.length) (h12 : g.length ≤ 12) (hg : ∀ x ∈ g, 1 ≤ x ∧ x ≤ 60) (hin : ∀ x ∈ l, 0 ≤ x ∧ x ≤ 1000000) :
    ∀ (d i : Nat) (s : Int), i + d = l.length → 0 ≤ s → s ≤ 60000000 * (i : Int) → Ev (fun k => impl_ValueOf.l0 k s l (l.length : Int) (i : Int) g) (s + dot (l.drop i) (g.drop i)) := by
  intro d
  induction d with
  | zero =>
    intro i s hi h0 h1
    rw [List.drop_eq_nil_of_le (show l.length ≤ i by omega), dot_nil, Int.add_zero]
    refine Ev.one (fun k => by rw [impl_ValueOf.l0]) ?_
    exact Ev.neg (by omega) (Ev.now _)
  | succ d ih =>
    intro i s hi h0 h1
    rw [List.drop_eq_getElem_cons (show i < l.length by omega), List.drop_eq_getElem_cons (show i < g.length by omega), dot_cons]
    refine Ev.one (fun k => by rw [impl_ValueOf.l0]) ?_
    rw [rd_at l i (by omega), rd_at g i (by omega), w64_succ i (by omega)]
    have hm := mul_le60 (hin l[i] (List.getElem_mem _)) (hg g[i] (List.getElem_mem _))
    rw [w64_of (x := l[i] * g[i]) (by omega) (by omega), w64_of (x := s + l[i] * g[i]) (by omega) (by omega), ← Int.add_assoc]
    exact Ev.pos (by omega) (Ev.pos (by omega) (Ev.pos (by omega) (Ev.pos (by omega) (ih (i + 1) _ (by omega) (by omega) (by omega)))))
/-- What ValueOf answers. -/
def valS (b : Bool) (g l : List Int) : Int := if b = true ∧ l.length = g.length ∧ allIn l 0 1000000 = true then dot l g else -1
theorem value_both (g l : List Int) (hlen : g.length ≤ 1048576) (hl : l.length ≤ 1048576) : ∃ b, (b = true ↔ SG g) ∧ Ev (fun k => spec_ValueOf.f k g l) (valS b g l) ∧ Ev (fun k => impl_ValueOf.f k g l) (valS b g l) := by
  obtain ⟨b, b1, b2, b3⟩ := sg_both g hlen
  refine ⟨b, b1, ?_⟩
  unfold spec_ValueOf.f impl_ValueOf.f valS
  cases b with
  | false =>
    refine ⟨Ev.bnd b2 (Ev.neg (by decide) (Ev.one (fun k => by rw [spec_ValueOf.j0]) ?_)), Ev.bnd b3 (Ev.neg (by decide) (Ev.one (fun k => by rw [impl_ValueOf.j0]) ?_))⟩
    · exact Ev.pos rfl (Ev.now _)
    · exact Ev.pos rfl (Ev.now _)
  | true =>
    have hS := b1.1 rfl
    by_cases h1 : l.length = g.length
    · have h12 := hS.len2
      refine ⟨Ev.bnd b2 (Ev.pos rfl (Ev.one (fun k => by rw [spec_ValueOf.j0]) ?_)), Ev.bnd b3 (Ev.pos rfl (Ev.pos (by omega) (Ev.bnd (impl_allWithin_ev l 0 1000000 (by omega)) (Ev.one (fun k => by rw [impl_ValueOf.j0]) ?_))))⟩
      · refine Ev.neg (by rw [h1]; simp) ?_
        have h := spec_ValueOf_l0 l g h1 h12 hS.rng l.length 0 0 (by omega) (by omega) (by omega)
        rw [Int.zero_add] at h
        simp only [h1, true_and]
        exact h
      · by_cases h2 : allIn l 0 1000000 = true
        · rw [if_pos ⟨rfl, h1, h2⟩, h2]
          have h := impl_ValueOf_l0 l g h1 h12 hS.rng ((allIn_iff _ _ _).1 h2) l.length 0 0 (by omega) (by omega) (by omega)
          rw [Int.zero_add] at h
          exact Ev.neg (by decide) h
        · rw [if_neg (fun e => h2 e.2.2), Bool.eq_false_iff.2 h2]
          exact Ev.pos rfl (Ev.now _)
    · rw [if_neg (fun e => h1 e.2.1)]
      refine ⟨Ev.bnd b2 (Ev.pos rfl (Ev.one (fun k => by rw [spec_ValueOf.j0]) ?_)), Ev.bnd b3 (Ev.pos rfl (Ev.neg (by omega) (Ev.one (fun k => by rw [impl_ValueOf.j0]) ?_)))⟩
      · exact Ev.pos (by simp; omega) (Ev.now _)
      · exact Ev.pos rfl (Ev.now _)
end Go.Proofs.Ytolbllafeblmdaa.Pure
