/-
  DERIVED. GIVEN WITH THE SEED: THE CARDS: each row of YtlfdipnhlmjiaaaDoorRows.lean that lists a variable, with what it lists TIED to the program's text (the seventh form; the later family's looks); each row that meets fmt, with fmt's text TOLD by the authors' own Lean function (tested against real Go, not proved from fmt's source: count such statements apart). THE CARD IS WHAT COUNTS. Prove the row's statement (the work); the ties are given (YtlfdipnhlmjiaaaDoorTie.lean); close each card by the builder's one call (the guide's Derived/Test/ToyasCard.lean, 'card_holds'). Laid BY PROGRAM, IN A SANDBOX (cutbox-door.mjs). By AI agents, Wed Nov 11 2026. No macro, syntax, notation, axiom, sorry.
-/
import Derived.Test.YtlfdipnhlmjiaaaDoorRows
import GoSem.ClaimSeven
namespace Go.Proofs.YtlfdipnhlmjiaaaDoor
namespace Rows

/-- THE TIED CARD OF 'laws.FnExactFactorText'. -/
def fnExactFactorTextCard : Claim7 := { stood := { row := fnExactFactorTextRow, standIns := [], harness := (true, "5f21a8f568e5ef087c5262917296b39ab81083142ee1bed3164e77853a465f9d"), looks := false }, kinds := [], alts := [], laidByText := true, laidKinds := [.data, .data, .data], laidTests := true, laidLooks := .later }
def FnExactFactorTextCardSaid : Prop := Claim7.holds Tryd.pinned (.plain (OpenSpec.ofChange fnExactFactorTextSpec)) fnExactFactorTextCard

/-- THE SECOND FORM's CARD OF 'laws.FnExactFactorText'. -/
def fnExactFactorTextUptoCard : Claim7 := { stood := { row := fnExactFactorTextUptoRow, standIns := [], harness := (true, "5f21a8f568e5ef087c5262917296b39ab81083142ee1bed3164e77853a465f9d"), looks := false }, kinds := [], alts := [], laidByText := true, laidKinds := [.data, .data, .data], laidTests := true, laidLooks := .later }
def FnExactFactorTextUptoCardSaid : Prop := Claim7.holds Tryd.pinned (.plain (OpenSpec.upto fnExactFactorTextSpec)) fnExactFactorTextUptoCard
end Rows
end Go.Proofs.YtlfdipnhlmjiaaaDoor
