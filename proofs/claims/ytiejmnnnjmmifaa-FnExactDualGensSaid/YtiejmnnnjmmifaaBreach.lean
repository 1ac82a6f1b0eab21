/- Plain lemmas (reach): no program, no memory. -/
import Derived.Test.YtiejmnnnjmmifaaC0
import Derived.Test.YtiejmnnnjmmifaaC4
import Derived.Test.YtiejmnnnjmmifaaBissg
import Derived.Test.YtiejmnnnjmmifaaBspechas
import Derived.Test.YtiejmnnnjmmifaaBelems
import Derived.Test.YtiejmnnnjmmifaaBbase
namespace Go.Proofs.Ytiejmnnnjmmifaa.Pure
open Go.RowKit Go.Proofs.Ytiejmnnnjmmifaa.C Go.Proofs.YtiejmnnnjmmifaaW.PrintWords Go.Proofs.YtiejmnnnjmmifaaW.PrintLast Go.Proofs.YtiejmnnnjmmifaaW.PrintMore
set_option linter.unusedVariables false
set_option linter.unusedSimpArgs false
/-! reach: spec.l3Has as a test -/
theorem spec_l3Has_el (g : List Int) (hS : SG g) (n : Int) : Ev (fun k => spec_l3Has.f k g n) (elB g n) := by
  obtain ⟨b, b1, b2⟩ := spec_l3Has_ev g hS n
  rw [show b = elB g n from elB_of (b1.trans ⟨fun h => h.1, fun h => ⟨h, by omega⟩⟩)] at b2
  exact b2
end Go.Proofs.Ytiejmnnnjmmifaa.Pure
