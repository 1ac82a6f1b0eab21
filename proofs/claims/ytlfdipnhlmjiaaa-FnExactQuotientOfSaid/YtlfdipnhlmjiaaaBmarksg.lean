/- Plain lemmas (marksg): no program, no memory. -/
import Derived.Test.YtlfdipnhlmjiaaaC0
import Derived.Test.YtlfdipnhlmjiaaaC1
import Derived.Test.YtlfdipnhlmjiaaaBlaws1
import Derived.Test.YtlfdipnhlmjiaaaBbase
namespace Go.Proofs.Ytlfdipnhlmjiaaa.Pure
open Go.RowKit Go.Proofs.Ytlfdipnhlmjiaaa.C Go.Proofs.YtlfdipnhlmjiaaaW.PrintWords Go.Proofs.YtlfdipnhlmjiaaaW.PrintLast Go.Proofs.YtlfdipnhlmjiaaaW.PrintMore
set_option linter.unusedVariables false
set_option linter.unusedSimpArgs false
/-! marksg: markSemigroup -/
theorem markSemigroup_ev (g : List Int) (x : Int) (hg : g.length ≤ 1048576) (h0 : -1 ≤ x) (h1 : x ≤ 1099511627776) : Ev (fun k => laws_markSemigroup.f k g x) (x + (g.length : Int), marks g x) := by
  unfold laws_markSemigroup.f
  exact Ev.bnd (markIntS_ev g x (by omega) h0 (by omega)) (Ev.now _)
end Go.Proofs.Ytlfdipnhlmjiaaa.Pure
