/- Plain lemmas (heldsg): no program, no memory. -/
import Derived.Test.YtiejmnnnjmmifaaC0
import Derived.Test.YtiejmnnnjmmifaaC17
import Derived.Test.YtiejmnnnjmmifaaBlaws1
import Derived.Test.YtiejmnnnjmmifaaBbase
namespace Go.Proofs.Ytiejmnnnjmmifaa.Pure
open Go.RowKit Go.Proofs.Ytiejmnnnjmmifaa.C Go.Proofs.YtiejmnnnjmmifaaW.PrintWords Go.Proofs.YtiejmnnnjmmifaaW.PrintLast Go.Proofs.YtiejmnnnjmmifaaW.PrintMore
set_option linter.unusedVariables false
set_option linter.unusedSimpArgs false
/-! heldsg: laws.heldSemigroup -/
theorem heldSemigroup_ev (l : List Int) (hl : l.length ≤ 1048576) : Ev (fun k => laws_heldSemigroup.f k (marks l 1) 1) (1 + (l.length : Int)) := by
  unfold laws_heldSemigroup.f
  exact Ev.bnd (heldIntS_ev l 1 (by omega) (by omega) (by omega)) (Ev.neg (by omega) (Ev.now _))
end Go.Proofs.Ytiejmnnnjmmifaa.Pure
