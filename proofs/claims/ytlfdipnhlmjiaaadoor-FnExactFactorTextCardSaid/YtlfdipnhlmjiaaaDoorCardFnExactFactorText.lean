/- The tied card of FnExactFactorText: the row, its three listed tables tied to the program's text. -/
import Derived.Test.YtlfdipnhlmjiaaaDoorRowFnExactFactorText
import Derived.Test.YtlfdipnhlmjiaaaDoorTie
import Derived.Test.YtlfdipnhlmjiaaaDoorCards
import Derived.SevenTiedAt
namespace Go.Proofs.YtlfdipnhlmjiaaaDoor
open Go
theorem fnExactFactorTextCard_holds : Rows.FnExactFactorTextCardSaid :=
  Claim7.holds_tied_plain_at .later [] [.data, .data, .data] true (true, "5f21a8f568e5ef087c5262917296b39ab81083142ee1bed3164e77853a465f9d") false
    fnExactFactorText_holds (fun _ h => by cases h) (by kernel_rfl) (fun _ h => by cases h) fnExactFactorText_row_tie rfl ⟨rfl, rfl⟩ (by kernel_rfl) rfl
    (fun f fn hf hfn => by
      obtain rfl : f = 3 := Option.some.inj ((show Tryd.prog.funcNamed "loop.example/g00595/laws.FnExactFactorText" = some 3 by kernel_rfl).symm.trans hf) |>.symm
      obtain rfl : fn = Tryd.f3 := (Option.some.inj (Tryd.func3.symm.trans hfn)).symm
      exact ⟨by kernel_rfl, fun j t ht => by
        rw [Tryd.params3] at ht
        rcases j with _ | _ | j
        · have h3 : t = 24 := by simpa using ht.symm
          subst h3
          exact (show Tryd.prog.wantsStandIn 24 = false by kernel_rfl)
        · have h3 : t = 22 := by simpa using ht.symm
          subst h3
          exact (show Tryd.prog.wantsStandIn 22 = false by kernel_rfl)
        · simp at ht⟩)
    (by kernel_rfl)
#print axioms fnExactFactorTextCard_holds
end Go.Proofs.YtlfdipnhlmjiaaaDoor
