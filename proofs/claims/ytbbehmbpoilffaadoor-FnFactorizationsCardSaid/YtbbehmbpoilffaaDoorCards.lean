/-
  DERIVED. GIVEN WITH THE SEED: THE CARDS: each row of YtbbehmbpoilffaaDoorRows.lean that lists a variable, with what it lists TIED to the program's text (the seventh form; the later family's looks); each row that meets fmt, with fmt's text TOLD by the authors' own Lean function (tested against real Go, not proved from fmt's source: count such statements apart). THE CARD IS WHAT COUNTS. Prove the row's statement (the work); the ties are given (YtbbehmbpoilffaaDoorTie.lean); close each card by the builder's one call (the guide's Derived/Test/ToyasCard.lean, 'card_holds'). Laid BY PROGRAM, IN A SANDBOX (cutbox-door.mjs). By AI agents, Wed Nov 11 2026. No macro, syntax, notation, axiom, sorry.
-/
import Derived.Test.YtbbehmbpoilffaaDoorRows
import GoSem.ClaimSeven
namespace Go.Proofs.YtbbehmbpoilffaaDoor
namespace Rows

/-- THE TIED CARD OF 'laws.FnFactorizations'. -/
def fnFactorizationsCard : Claim7 := { stood := { row := fnFactorizationsRow, standIns := [], harness := (true, "4e0151202b52892cdea0c837be7b58aaf607fa16df9ab7ad33bc2061ed43763e"), looks := false }, kinds := [], alts := [], laidByText := true, laidKinds := [.data, .data, .data], laidTests := true, laidLooks := .later }
def FnFactorizationsCardSaid : Prop := Claim7.holds Tryd.pinned (.plain (OpenSpec.ofChange fnFactorizationsSpec)) fnFactorizationsCard

/-- THE SECOND FORM's CARD OF 'laws.FnFactorizations'. -/
def fnFactorizationsUptoCard : Claim7 := { stood := { row := fnFactorizationsUptoRow, standIns := [], harness := (true, "4e0151202b52892cdea0c837be7b58aaf607fa16df9ab7ad33bc2061ed43763e"), looks := false }, kinds := [], alts := [], laidByText := true, laidKinds := [.data, .data, .data], laidTests := true, laidLooks := .later }
def FnFactorizationsUptoCardSaid : Prop := Claim7.holds Tryd.pinned (.plain (OpenSpec.upto fnFactorizationsSpec)) fnFactorizationsUptoCard
end Rows
end Go.Proofs.YtbbehmbpoilffaaDoor
