/- Plain lemmas (marksg): no program, no memory. -/
import Derived.Test.YtiejmnnnjmmifaaC0
import Derived.Test.YtiejmnnnjmmifaaC1
import Derived.Test.YtiejmnnnjmmifaaBlaws1
import Derived.Test.YtiejmnnnjmmifaaBbase
namespace Go.Proofs.Ytiejmnnnjmmifaa.Pure
open Go.RowKit Go.Proofs.Ytiejmnnnjmmifaa.C Go.Proofs.YtiejmnnnjmmifaaW.PrintWords Go.Proofs.YtiejmnnnjmmifaaW.PrintLast Go.Proofs.YtiejmnnnjmmifaaW.PrintMore
set_option linter.unusedVariables false
set_option linter.unusedSimpArgs false
/-! marksg: markSemigroup -/
theorem markSemigroup_ev (g : List Int) (x : Int) (hg : g.length ≤ 1048576) (h0 : -1 ≤ x) (h1 : x ≤ 1099511627776) : Ev (fun k => laws_markSemigroup.f k g x) (x + (g.length : Int), marks g x) := by
  unfold laws_markSemigroup.f
  exact Ev.bnd (markIntS_ev g x (by omega) h0 (by omega)) (Ev.now _)
end Go.Proofs.Ytiejmnnnjmmifaa.Pure
