/- For all lists the program's FactorText returns the text that the reference returns, where the three library tables read as their initialisers lay them; no condition besides the row's own. -/
import Derived.Test.YtlfdipnhlmjiaaaDoorC0
import Derived.Test.YtlfdipnhlmjiaaaDoorC5
import Derived.Test.YtlfdipnhlmjiaaaDoorBbase
namespace Go.Proofs.YtlfdipnhlmjiaaaDoor.Pure
open Go.RowKit Go.Proofs.YtlfdipnhlmjiaaaDoor.C Go.Proofs.YtlfdipnhlmjiaaaDoorW.PrintWords Go.Proofs.YtlfdipnhlmjiaaaDoorW.PrintLast Go.Proofs.YtlfdipnhlmjiaaaDoorW.PrintMore
set_option linter.unusedVariables false
set_option linter.unusedSimpArgs false
theorem FnExactFactorText (g l : List Int) (hm : g.length ≤ maxLen) (hw : ∀ x ∈ g, (Lit.int .i64 x).wf = true) (hml : l.length ≤ maxLen) (hwl : ∀ x ∈ l, (Lit.int .i64 x).wf = true) : ∃ k, laws_FnExactFactorText.f k g l = some true := by
 apply Ev.rounds
 unfold laws_FnExactFactorText.f
 by_cases cl : (l.length : Int) > 1048576
 ·exact Ev.pos cl (Ev.now _)
 refine Ev.neg cl ?_
 by_cases hl : (g.length : Int) ≤ 1048576
 ·obtain ⟨r, h1, h2⟩ := ftext_both g l (by omega) (by omega)
  have ht := toSemigroup_ev g (by omega)
  have he := eqSemigroup_ev g (by omega)
  have tl := toIntS_ev l (by omega)
  have el := eqIntS_ev l (by omega)
  exact Ev.bnd (szSemigroup_in g hm hl) (Ev.neg (by omega) (Ev.bnd ht (Ev.bnd tl (Ev.bnd h1 (Ev.bnd ht (Ev.bnd tl (Ev.bnd h2 (Ev.pos rfl (Ev.bnd ht (Ev.bnd he (Ev.pos rfl (Ev.bnd tl (Ev.bnd el (Ev.pos rfl (Ev.now _)))))))))))))))
 ·exact Ev.bnd (szSemigroup_out g hm hl) (Ev.pos (by omega) (Ev.now _))
end Go.Proofs.YtlfdipnhlmjiaaaDoor.Pure
