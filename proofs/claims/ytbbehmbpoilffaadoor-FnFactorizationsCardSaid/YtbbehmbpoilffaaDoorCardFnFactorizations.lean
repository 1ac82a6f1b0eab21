/- The tied card of FnFactorizations: the row, its three listed tables tied to the program's text. -/
import Derived.Test.YtbbehmbpoilffaaDoorRowFnFactorizations
import Derived.Test.YtbbehmbpoilffaaDoorTie
import Derived.Test.YtbbehmbpoilffaaDoorCards
import Derived.SevenTiedAt
namespace Go.Proofs.YtbbehmbpoilffaaDoor
open Go
theorem fnFactorizationsCard_holds : Rows.FnFactorizationsCardSaid :=
  Claim7.holds_tied_plain_at .later [] [.data, .data, .data] true (true, "4e0151202b52892cdea0c837be7b58aaf607fa16df9ab7ad33bc2061ed43763e") false
    fnFactorizations_holds (fun _ h => by cases h) (by kernel_rfl) (fun _ h => by cases h) fnFactorizations_row_tie rfl ⟨rfl, rfl⟩ (by kernel_rfl) rfl
    (fun f fn hf hfn => by
      obtain rfl : f = 3 := Option.some.inj ((show Tryd.prog.funcNamed "loop.example/g00595/laws.FnFactorizations" = some 3 by kernel_rfl).symm.trans hf) |>.symm
      obtain rfl : fn = Tryd.f3 := (Option.some.inj (Tryd.func3.symm.trans hfn)).symm
      exact ⟨by kernel_rfl, fun j t ht => by
        rw [Tryd.params3] at ht
        rcases j with _ | j
        · have h3 : t = 22 := by simpa using ht.symm
          subst h3
          exact (show Tryd.prog.wantsStandIn 22 = false by kernel_rfl)
        · simp at ht⟩)
    (by kernel_rfl)
#print axioms fnFactorizationsCard_holds
end Go.Proofs.YtbbehmbpoilffaaDoor
