/- For every semigroup value and all numbers the program's IsBelow returns what the reference's returns and leaves its arguments as they were; no condition besides the row's own. -/
import Derived.Test.YtolbllafeblmdaaC0
import Derived.Test.YtolbllafeblmdaaC10
import Derived.Test.YtolbllafeblmdaaC14
import Derived.Test.YtolbllafeblmdaaC15
import Derived.Test.YtolbllafeblmdaaC6
import Derived.Test.YtolbllafeblmdaaBbase
import Derived.Test.YtolbllafeblmdaaBlaws0
import Derived.Test.YtolbllafeblmdaaBsz
import Derived.Test.YtolbllafeblmdaaBwithin
import Derived.Test.YtolbllafeblmdaaBallwithin
import Derived.Test.YtolbllafeblmdaaBsums
import Derived.Test.YtolbllafeblmdaaBtable
import Derived.Test.YtolbllafeblmdaaBgcd
import Derived.Test.YtolbllafeblmdaaBasc
import Derived.Test.YtolbllafeblmdaaBleasts
import Derived.Test.YtolbllafeblmdaaBsortspec
import Derived.Test.YtolbllafeblmdaaBminimal
import Derived.Test.YtolbllafeblmdaaBissg
import Derived.Test.YtolbllafeblmdaaBhas
import Derived.Test.YtolbllafeblmdaaBsemig
namespace Go.Proofs.Ytolbllafeblmdaa.Pure
open Go.RowKit Go.Proofs.Ytolbllafeblmdaa.C Go.Proofs.YtolbllafeblmdaaW.PrintWords Go.Proofs.YtolbllafeblmdaaW.PrintLast Go.Proofs.YtolbllafeblmdaaW.PrintMore
set_option linter.unusedVariables false
set_option linter.unusedSimpArgs false
theorem bool_same {b c : Bool} {p : Prop} (h : b = true ↔ p) (k : c = true ↔ p) : b = c := by
  cases b <;> cases c
  · rfl
  · exact absurd (h.2 (k.1 rfl)) (by decide)
  · exact absurd (k.2 (h.1 rfl)) (by decide)
  · rfl
theorem below_both (g : List Int) (hlen : g.length ≤ 1048576) (a b : Int) : ∃ r, Ev (fun k => spec_IsBelow.f k g a b) r ∧ Ev (fun k => impl_IsBelow.f k g a b) r := by
  obtain ⟨s, s1, s2⟩ := spec_IsSemigroup_ev g hlen
  unfold spec_IsBelow.f impl_IsBelow.f
  by_cases h : (-1000000 ≤ a ∧ a ≤ 1000000) ∧ (-1000000 ≤ b ∧ b ≤ 1000000)
  · have e1 : wrap64 (b - a) = b - a := w64_of (by omega) (by omega)
    have hin : allIn [a, b] (-1000000) 1000000 = true := by rw [allIn_iff]; simp only [List.mem_cons, List.not_mem_nil, or_false]; rintro x (rfl | rfl); exact h.1; exact h.2
    rw [e1]
    obtain ⟨c, c1, c2⟩ := impl_Contains_ev g hlen (b - a) (by omega)
    have himpl : Ev (fun k => (impl_allWithin.f k [a, b] (-1000000) 1000000).bind fun t288 => if t288 = true then (impl_Contains.f k g (b - a)).bind fun t289 => some t289 else some false) c :=
      Ev.bnd (impl_allWithin_ev _ _ _ (by simp)) (Ev.pos hin (Ev.bnd c2 (Ev.now _)))
    cases s with
    | false =>
      have : c = false := by
        cases c with
        | false => rfl
        | true => have := s1.2 (c1.1 rfl).1; cases this
      subst this
      exact ⟨false, Ev.bnd s2 (Ev.neg (by decide) (Ev.now _)), himpl⟩
    | true =>
      have hS := s1.1 rfl
      obtain ⟨d, d1, d2⟩ := spec_l3Has_ev g hS (b - a)
      obtain rfl : d = c := bool_same (p := Sums g (b - a)) (d1.trans ⟨fun e => e.1, fun e => ⟨e, by omega⟩⟩) (c1.trans ⟨fun e => e.2, fun e => ⟨hS, e⟩⟩)
      exact ⟨d, Ev.bnd s2 (Ev.pos rfl (Ev.bnd (spec_l2Small_ev a) (Ev.pos (decide_eq_true h.1) (Ev.bnd (spec_l2Small_ev b) (Ev.pos (decide_eq_true h.2) (Ev.bnd d2 (Ev.now _))))))), himpl⟩
  · refine ⟨false, ?_, Ev.bnd (impl_allWithin_ev _ _ _ (by simp)) (Ev.neg (fun e => h ?_) (Ev.now _))⟩
    · cases s with
      | false => exact Ev.bnd s2 (Ev.neg (by decide) (Ev.now _))
      | true =>
        by_cases ha : -1000000 ≤ a ∧ a ≤ 1000000
        · have hb : ¬ (-1000000 ≤ b ∧ b ≤ 1000000) := fun e => h ⟨ha, e⟩
          exact Ev.bnd s2 (Ev.pos rfl (Ev.bnd (spec_l2Small_ev a) (Ev.pos (decide_eq_true ha) (Ev.bnd (spec_l2Small_ev b) (Ev.neg (by rw [decide_eq_false hb]; decide) (Ev.now _))))))
        · exact Ev.bnd s2 (Ev.pos rfl (Ev.bnd (spec_l2Small_ev a) (Ev.neg (by rw [decide_eq_false ha]; decide) (Ev.now _))))
    · rw [allIn_iff] at e
      exact ⟨e a (by simp), e b (by simp)⟩
theorem FnExactIsBelow (g : List Int) (a b : Int) (hm : g.length ≤ maxLen) (hw : ∀ x ∈ g, (Lit.int .i64 x).wf = true) (ha : (Lit.int .i64 a).wf = true) (hb : (Lit.int .i64 b).wf = true) :
    ∃ k, laws_FnExactIsBelow.f k g a b = some true := by
  apply Ev.rounds
  unfold laws_FnExactIsBelow.f
  by_cases hl : (g.length : Int) ≤ 1048576
  · obtain ⟨r, h1, h2⟩ := below_both g (by omega) a b
    have ht := toSemigroup_ev g (by omega)
    have he := eqSemigroup_ev g (by omega)
    exact Ev.bnd (szSemigroup_in g hm hl) (Ev.neg (by omega) (Ev.bnd ht (Ev.bnd h1 (Ev.bnd ht (Ev.bnd h2 (Ev.neg (by simp) (Ev.bnd ht (Ev.bnd he (Ev.pos rfl (Ev.now _))))))))))
  · exact Ev.bnd (szSemigroup_out g hm hl) (Ev.pos (by omega) (Ev.now _))
end Go.Proofs.Ytolbllafeblmdaa.Pure
