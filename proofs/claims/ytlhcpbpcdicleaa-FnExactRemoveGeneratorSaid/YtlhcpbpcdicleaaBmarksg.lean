/- Plain lemmas (marksg): no program, no memory. -/
import Derived.Test.YtlhcpbpcdicleaaC0
import Derived.Test.YtlhcpbpcdicleaaC7
import Derived.Test.YtlhcpbpcdicleaaBlaws1
import Derived.Test.YtlhcpbpcdicleaaBbase
namespace Go.Proofs.Ytlhcpbpcdicleaa.Pure
open Go.RowKit Go.Proofs.Ytlhcpbpcdicleaa.C Go.Proofs.YtlhcpbpcdicleaaW.PrintWords Go.Proofs.YtlhcpbpcdicleaaW.PrintLast Go.Proofs.YtlhcpbpcdicleaaW.PrintMore
set_option linter.unusedVariables false
set_option linter.unusedSimpArgs false
/-! marksg: markSemigroup -/
theorem markSemigroup_ev (g : List Int) (x : Int) (hg : g.length ≤ 1048576) (h0 : -1 ≤ x) (h1 : x ≤ 1099511627776) : Ev (fun k => laws_markSemigroup.f k g x) (x + (g.length : Int), marks g x) := by
  unfold laws_markSemigroup.f
  exact Ev.bnd (markIntS_ev g x (by omega) h0 (by omega)) (Ev.now _)
end Go.Proofs.Ytlhcpbpcdicleaa.Pure
