/- Plain lemmas (reach): no program, no memory. -/
import Derived.Test.YtolbllafeblmdaaC0
import Derived.Test.YtolbllafeblmdaaC4
import Derived.Test.YtolbllafeblmdaaBissg
import Derived.Test.YtolbllafeblmdaaBspechas
import Derived.Test.YtolbllafeblmdaaBelems
import Derived.Test.YtolbllafeblmdaaBbase
namespace Go.Proofs.Ytolbllafeblmdaa.Pure
open Go.RowKit Go.Proofs.Ytolbllafeblmdaa.C Go.Proofs.YtolbllafeblmdaaW.PrintWords Go.Proofs.YtolbllafeblmdaaW.PrintLast Go.Proofs.YtolbllafeblmdaaW.PrintMore
set_option linter.unusedVariables false
set_option linter.unusedSimpArgs false
/-! reach: spec.l3Has as a test -/
theorem spec_l3Has_el (g : List Int) (hS : SG g) (n : Int) : Ev (fun k => spec_l3Has.f k g n) (elB g n) := by
  obtain ⟨b, b1, b2⟩ := spec_l3Has_ev g hS n
  rw [show b = elB g n from elB_of (b1.trans ⟨fun h => h.1, fun h => ⟨h, by omega⟩⟩)] at b2
  exact b2
end Go.Proofs.Ytolbllafeblmdaa.Pure
