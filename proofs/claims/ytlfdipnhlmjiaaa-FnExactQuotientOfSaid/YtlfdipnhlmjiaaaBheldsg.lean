/- Plain lemmas (heldsg): no program, no memory. -/
import Derived.Test.YtlfdipnhlmjiaaaC0
import Derived.Test.YtlfdipnhlmjiaaaC8
import Derived.Test.YtlfdipnhlmjiaaaBlaws1
import Derived.Test.YtlfdipnhlmjiaaaBbase
namespace Go.Proofs.Ytlfdipnhlmjiaaa.Pure
open Go.RowKit Go.Proofs.Ytlfdipnhlmjiaaa.C Go.Proofs.YtlfdipnhlmjiaaaW.PrintWords Go.Proofs.YtlfdipnhlmjiaaaW.PrintLast Go.Proofs.YtlfdipnhlmjiaaaW.PrintMore
set_option linter.unusedVariables false
set_option linter.unusedSimpArgs false
/-! heldsg: laws.heldSemigroup -/
theorem heldSemigroup_ev (l : List Int) (hl : l.length ≤ 1048576) : Ev (fun k => laws_heldSemigroup.f k (marks l 1) 1) (1 + (l.length : Int)) := by
  unfold laws_heldSemigroup.f
  exact Ev.bnd (heldIntS_ev l 1 (by omega) (by omega) (by omega)) (Ev.neg (by omega) (Ev.now _))
end Go.Proofs.Ytlfdipnhlmjiaaa.Pure
