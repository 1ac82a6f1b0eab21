/- For all arguments the program's ValueOf returns what the reference's returns and leaves its arguments as they were; no condition besides the row's own. -/
import Derived.Test.YtolbllafeblmdaaC0
import Derived.Test.YtolbllafeblmdaaC18
import Derived.Test.YtolbllafeblmdaaBbase
import Derived.Test.YtolbllafeblmdaaBlaws0
import Derived.Test.YtolbllafeblmdaaBsz
import Derived.Test.YtolbllafeblmdaaBwithin
import Derived.Test.YtolbllafeblmdaaBallwithin
import Derived.Test.YtolbllafeblmdaaBsums
import Derived.Test.YtolbllafeblmdaaBtable
import Derived.Test.YtolbllafeblmdaaBgcd
import Derived.Test.YtolbllafeblmdaaBasc
import Derived.Test.YtolbllafeblmdaaBleasts
import Derived.Test.YtolbllafeblmdaaBsortspec
import Derived.Test.YtolbllafeblmdaaBminimal
import Derived.Test.YtolbllafeblmdaaBissg
import Derived.Test.YtolbllafeblmdaaBshell
import Derived.Test.YtolbllafeblmdaaBsemig
import Derived.Test.YtolbllafeblmdaaBvalue
namespace Go.Proofs.Ytolbllafeblmdaa.Pure
open Go.RowKit Go.Proofs.Ytolbllafeblmdaa.C Go.Proofs.YtolbllafeblmdaaW.PrintWords Go.Proofs.YtolbllafeblmdaaW.PrintLast Go.Proofs.YtolbllafeblmdaaW.PrintMore
set_option linter.unusedVariables false
set_option linter.unusedSimpArgs false
theorem FnExactValueOf (g l : List Int) (hm : g.length ≤ maxLen) (hw : ∀ x ∈ g, (Lit.int .i64 x).wf = true) (hm' : l.length ≤ maxLen) (hw' : ∀ x ∈ l, (Lit.int .i64 x).wf = true) : ∃ k, laws_FnExactValueOf.f k g l = some true := by
  apply Ev.rounds
  unfold laws_FnExactValueOf.f
  by_cases hl : (l.length : Int) > 1048576
  · exact Ev.pos hl (Ev.now _)
  by_cases hg : (g.length : Int) ≤ 1048576
  · obtain ⟨b, _, h1, h2⟩ := value_both g l (by omega) (by omega)
    have ht := toSemigroup_ev g (by omega)
    have he := eqSemigroup_ev g (by omega)
    have ht' := toIntS_ev l (by omega)
    have he' := eqIntS_ev l (by omega)
    exact Ev.neg hl (Ev.bnd (szSemigroup_in g hm hg) (Ev.neg (by omega) (Ev.bnd ht (Ev.bnd ht' (Ev.bnd h1 (Ev.bnd ht (Ev.bnd ht' (Ev.bnd h2 (Ev.pos rfl (Ev.bnd ht (Ev.bnd he (Ev.pos rfl (Ev.bnd ht' (Ev.bnd he' (Ev.pos rfl (Ev.now _))))))))))))))))
  · exact Ev.neg hl (Ev.bnd (szSemigroup_out g hm hg) (Ev.pos (by omega) (Ev.now _)))
end Go.Proofs.Ytolbllafeblmdaa.Pure
