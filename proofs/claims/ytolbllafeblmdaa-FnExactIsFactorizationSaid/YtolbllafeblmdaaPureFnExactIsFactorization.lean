/- For all arguments the program's IsFactorization returns what the reference's returns and leaves its arguments as they were; no condition besides the row's own. -/
import Derived.Test.YtolbllafeblmdaaC0
import Derived.Test.YtolbllafeblmdaaC21
import Derived.Test.YtolbllafeblmdaaC22
import Derived.Test.YtolbllafeblmdaaBbase
import Derived.Test.YtolbllafeblmdaaBlaws0
import Derived.Test.YtolbllafeblmdaaBsz
import Derived.Test.YtolbllafeblmdaaBwithin
import Derived.Test.YtolbllafeblmdaaBallwithin
import Derived.Test.YtolbllafeblmdaaBsums
import Derived.Test.YtolbllafeblmdaaBtable
import Derived.Test.YtolbllafeblmdaaBgcd
import Derived.Test.YtolbllafeblmdaaBasc
import Derived.Test.YtolbllafeblmdaaBleasts
import Derived.Test.YtolbllafeblmdaaBsortspec
import Derived.Test.YtolbllafeblmdaaBminimal
import Derived.Test.YtolbllafeblmdaaBissg
import Derived.Test.YtolbllafeblmdaaBshell
import Derived.Test.YtolbllafeblmdaaBsemig
import Derived.Test.YtolbllafeblmdaaBvalue
namespace Go.Proofs.Ytolbllafeblmdaa.Pure
open Go.RowKit Go.Proofs.Ytolbllafeblmdaa.C Go.Proofs.YtolbllafeblmdaaW.PrintWords Go.Proofs.YtolbllafeblmdaaW.PrintLast Go.Proofs.YtolbllafeblmdaaW.PrintMore
set_option linter.unusedVariables false
set_option linter.unusedSimpArgs false
theorem FnExactIsFactorization (g : List Int) (n : Int) (l : List Int) (hm : g.length ≤ maxLen) (hw : ∀ x ∈ g, (Lit.int .i64 x).wf = true) (hn : (Lit.int .i64 n).wf = true) (hm' : l.length ≤ maxLen) (hw' : ∀ x ∈ l, (Lit.int .i64 x).wf = true) :
    ∃ k, laws_FnExactIsFactorization.f k g n l = some true := by
  apply Ev.rounds
  unfold laws_FnExactIsFactorization.f
  by_cases hl : (l.length : Int) > 1048576
  · exact Ev.pos hl (Ev.now _)
  by_cases hg : (g.length : Int) ≤ 1048576
  · obtain ⟨b, _, h1, h2⟩ := value_both g l (by omega) (by omega)
    have both : ∃ r, Ev (fun k => spec_IsFactorization.f k g n l) r ∧ Ev (fun k => impl_IsFactorization.f k g n l) r := by
      unfold spec_IsFactorization.f impl_IsFactorization.f
      generalize valS b g l = v at h1 h2
      by_cases c1 : n ≥ 0
      · by_cases c2 : v ≥ 0
        · exact ⟨v == n, Ev.pos c1 (Ev.bnd h1 (Ev.now _)), Ev.bnd h2 (Ev.pos c2 (Ev.now _))⟩
        · have e : (v == n) = false := beq_eq_false_iff_ne.2 (by omega)
          exact ⟨v == n, Ev.pos c1 (Ev.bnd h1 (Ev.now _)), Ev.bnd h2 (by rw [e]; exact Ev.neg c2 (Ev.now _))⟩
      · by_cases c2 : v ≥ 0
        · have e : (v == n) = false := beq_eq_false_iff_ne.2 (by omega)
          exact ⟨false, Ev.neg c1 (Ev.now _), Ev.bnd h2 (by rw [e]; exact Ev.pos c2 (Ev.now _))⟩
        · exact ⟨false, Ev.neg c1 (Ev.now _), Ev.bnd h2 (Ev.neg c2 (Ev.now _))⟩
    obtain ⟨r, h1, h2⟩ := both
    have ht := toSemigroup_ev g (by omega)
    have he := eqSemigroup_ev g (by omega)
    have ht' := toIntS_ev l (by omega)
    have he' := eqIntS_ev l (by omega)
    exact Ev.neg hl (Ev.bnd (szSemigroup_in g hm hg) (Ev.neg (by omega) (Ev.bnd ht (Ev.bnd ht' (Ev.bnd h1 (Ev.bnd ht (Ev.bnd ht' (Ev.bnd h2 (Ev.neg (by simp) (Ev.bnd ht (Ev.bnd he (Ev.pos rfl (Ev.bnd ht' (Ev.bnd he' (Ev.pos rfl (Ev.now _))))))))))))))))
  · exact Ev.neg hl (Ev.bnd (szSemigroup_out g hm hg) (Ev.pos (by omega) (Ev.now _)))
end Go.Proofs.Ytolbllafeblmdaa.Pure
