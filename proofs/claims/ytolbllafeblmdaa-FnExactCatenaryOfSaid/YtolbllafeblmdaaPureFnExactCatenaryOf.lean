/- For every semigroup value and number the program's CatenaryOf returns what the reference's returns; no condition besides the row's own. -/
import Derived.Test.YtolbllafeblmdaaC0
import Derived.Test.YtolbllafeblmdaaC31
import Derived.Test.YtolbllafeblmdaaBbase
import Derived.Test.YtolbllafeblmdaaBlaws0
import Derived.Test.YtolbllafeblmdaaBsz
import Derived.Test.YtolbllafeblmdaaBwithin
import Derived.Test.YtolbllafeblmdaaBallwithin
import Derived.Test.YtolbllafeblmdaaBsums
import Derived.Test.YtolbllafeblmdaaBtable
import Derived.Test.YtolbllafeblmdaaBgcd
import Derived.Test.YtolbllafeblmdaaBasc
import Derived.Test.YtolbllafeblmdaaBleasts
import Derived.Test.YtolbllafeblmdaaBsortspec
import Derived.Test.YtolbllafeblmdaaBminimal
import Derived.Test.YtolbllafeblmdaaBissg
import Derived.Test.YtolbllafeblmdaaBshell
import Derived.Test.YtolbllafeblmdaaBsemig
import Derived.Test.YtolbllafeblmdaaBvalue
import Derived.Test.YtolbllafeblmdaaBfactor
import Derived.Test.YtolbllafeblmdaaBpigeon
import Derived.Test.YtolbllafeblmdaaBfacboth
import Derived.Test.YtolbllafeblmdaaBapart
import Derived.Test.YtolbllafeblmdaaBspecdist
import Derived.Test.YtolbllafeblmdaaBgraph
import Derived.Test.YtolbllafeblmdaaBbfs
import Derived.Test.YtolbllafeblmdaaBcatenary
namespace Go.Proofs.Ytolbllafeblmdaa.Pure
open Go.RowKit Go.Proofs.Ytolbllafeblmdaa.C Go.Proofs.YtolbllafeblmdaaW.PrintWords Go.Proofs.YtolbllafeblmdaaW.PrintLast Go.Proofs.YtolbllafeblmdaaW.PrintMore
set_option linter.unusedVariables false
set_option linter.unusedSimpArgs false
theorem FnExactCatenaryOf (g : List Int) (n : Int) (hm : g.length ≤ maxLen) (hw : ∀ x ∈ g, (Lit.int .i64 x).wf = true) (hn : (Lit.int .i64 n).wf = true) : ∃ k, laws_FnExactCatenaryOf.f k g n = some true := by
  apply Ev.rounds
  unfold laws_FnExactCatenaryOf.f
  by_cases hl : (g.length : Int) ≤ 1048576
  · obtain ⟨r, _, _, h1, h2⟩ := catenary_both g (by omega) n
    have ht := toSemigroup_ev g (by omega)
    have he := eqSemigroup_ev g (by omega)
    exact Ev.bnd (szSemigroup_in g hm hl) (Ev.neg (by omega) (Ev.bnd ht (Ev.bnd h1 (Ev.bnd ht (Ev.bnd h2 (Ev.pos rfl (Ev.bnd ht (Ev.bnd he (Ev.pos rfl (Ev.now _))))))))))
  · exact Ev.bnd (szSemigroup_out g hm hl) (Ev.pos (by omega) (Ev.now _))
end Go.Proofs.Ytolbllafeblmdaa.Pure
