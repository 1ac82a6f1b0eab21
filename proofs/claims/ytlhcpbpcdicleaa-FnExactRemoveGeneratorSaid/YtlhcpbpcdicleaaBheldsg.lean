/- Plain lemmas (heldsg): no program, no memory. -/
import Derived.Test.YtlhcpbpcdicleaaC0
import Derived.Test.YtlhcpbpcdicleaaC8
import Derived.Test.YtlhcpbpcdicleaaBlaws1
import Derived.Test.YtlhcpbpcdicleaaBbase
namespace Go.Proofs.Ytlhcpbpcdicleaa.Pure
open Go.RowKit Go.Proofs.Ytlhcpbpcdicleaa.C Go.Proofs.YtlhcpbpcdicleaaW.PrintWords Go.Proofs.YtlhcpbpcdicleaaW.PrintLast Go.Proofs.YtlhcpbpcdicleaaW.PrintMore
set_option linter.unusedVariables false
set_option linter.unusedSimpArgs false
/-! heldsg: laws.heldSemigroup -/
theorem heldSemigroup_ev (l : List Int) (hl : l.length ≤ 1048576) : Ev (fun k => laws_heldSemigroup.f k (marks l 1) 1) (1 + (l.length : Int)) := by
  unfold laws_heldSemigroup.f
  exact Ev.bnd (heldIntS_ev l 1 (by omega) (by omega) (by omega)) (Ev.neg (by omega) (Ev.now _))
end Go.Proofs.Ytlhcpbpcdicleaa.Pure
