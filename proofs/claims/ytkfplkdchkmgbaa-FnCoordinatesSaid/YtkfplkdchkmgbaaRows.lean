/-
  No cell of these rows narrows 'for every input' (looked for: loops, veiled, ifaces, maps, wideKeys, modest, calm, conditions, laid).
  DERIVED. THE GIVEN ROWS OF THIS SEAT. 9 by the template 'for every input the law returns true; each argument reads behind the call as it read before'; 0 by the template 'total and deterministic' (their statements: YtkfplkdchkmgbaaTotals.lean).
  GIVEN WITH THE SEED: the statements are not yours to turn. If you find one false, say at which input.
  Laid BY PROGRAM, IN A SANDBOX (cutbox-rows.mjs): the forced cells as the released guide's own fill.sh prints them over the translation 90d623e112aaf1d0… (all of the seat's roots in one cut). By AI agents, Wed Nov 11 2026. No macro, syntax, notation, axiom, sorry.
-/
import Derived.Test.YtkfplkdchkmgbaaChecked
import GoSem.Claim
import GoSem.ClaimJoined
import GoSem.ClaimMapViews
import Derived.JoinedTies
import Derived.KernelRfl
namespace Go.Proofs.Ytkfplkdchkmgbaa
/- THE CELL 'sum', in the pinned program and in every row, IS THE sha256 OF THE DUMP (.gsa) THAT YtkfplkdchkmgbaaProg.lean LOADS. Nothing in Lean hashes anything: it is a label: what it is worth is what the hold of that sum in a sandbox is worth. -/
noncomputable def Try.pinned : Pinned := { name := "ytkfplkdchkmgbaa", sum := "90d623e112aaf1d0044ebe38de8aea83f2ed4d35fa38d8382360f1611eee5493", checked := Try.checked }
namespace Rows
def none {H : Type} : Left H := { results := [], args := [] }

/-- 'laws.FnCoordinates': WHATEVER THE INPUT: true; the input reads as it did. -/
def fnCoordinatesSpec : ChangeSpec := { name := "fnCoordinates", fn := fun _ => fun
  | [d] => { results := [.lit (.bool true)], args := [d] }
  | _ => none }
def fnCoordinatesRow : OpenClaim := { program := "ytkfplkdchkmgbaa", sum := "90d623e112aaf1d0044ebe38de8aea83f2ed4d35fa38d8382360f1611eee5493", func := "loop.example/g00595/laws.FnCoordinates", spec := "fnCoordinates", recurses := true, apart := false }
def FnCoordinatesSaid : Prop := fnCoordinatesRow.holds Try.pinned (OpenSpec.ofChange fnCoordinatesSpec)

/-- ITS FALSE NEIGHBOUR: 'it returns false'. Refute it at one input. -/
def fnCoordinatesWrong : ChangeSpec := { name := "fnCoordinates", fn := fun _ => fun
  | [d] => { results := [.lit (.bool false)], args := [d] }
  | _ => none }
def FnCoordinatesWrongFalsely : Prop := fnCoordinatesRow.holds Try.pinned (OpenSpec.ofChange fnCoordinatesWrong)

/-- 'laws.FnQuotients': WHATEVER THE INPUT: true; the input reads as it did. -/
def fnQuotientsSpec : ChangeSpec := { name := "fnQuotients", fn := fun _ => fun
  | [d] => { results := [.lit (.bool true)], args := [d] }
  | _ => none }
def fnQuotientsRow : OpenClaim := { program := "ytkfplkdchkmgbaa", sum := "90d623e112aaf1d0044ebe38de8aea83f2ed4d35fa38d8382360f1611eee5493", func := "loop.example/g00595/laws.FnQuotients", spec := "fnQuotients", unfollowed := true, recurses := true, apart := false }
def FnQuotientsSaid : Prop := fnQuotientsRow.holds Try.pinned (OpenSpec.ofChange fnQuotientsSpec)

/-- ITS FALSE NEIGHBOUR: 'it returns false'. Refute it at one input. -/
def fnQuotientsWrong : ChangeSpec := { name := "fnQuotients", fn := fun _ => fun
  | [d] => { results := [.lit (.bool false)], args := [d] }
  | _ => none }
def FnQuotientsWrongFalsely : Prop := fnQuotientsRow.holds Try.pinned (OpenSpec.ofChange fnQuotientsWrong)

/-- 'laws.FnSeries': WHATEVER THE INPUT: true; the input reads as it did. -/
def fnSeriesSpec : ChangeSpec := { name := "fnSeries", fn := fun _ => fun
  | [d] => { results := [.lit (.bool true)], args := [d] }
  | _ => none }
def fnSeriesRow : OpenClaim := { program := "ytkfplkdchkmgbaa", sum := "90d623e112aaf1d0044ebe38de8aea83f2ed4d35fa38d8382360f1611eee5493", func := "loop.example/g00595/laws.FnSeries", spec := "fnSeries", unfollowed := true, recurses := true, apart := false }
def FnSeriesSaid : Prop := fnSeriesRow.holds Try.pinned (OpenSpec.ofChange fnSeriesSpec)

/-- ITS FALSE NEIGHBOUR: 'it returns false'. Refute it at one input. -/
def fnSeriesWrong : ChangeSpec := { name := "fnSeries", fn := fun _ => fun
  | [d] => { results := [.lit (.bool false)], args := [d] }
  | _ => none }
def FnSeriesWrongFalsely : Prop := fnSeriesRow.holds Try.pinned (OpenSpec.ofChange fnSeriesWrong)

/-- 'laws.FnChains': WHATEVER THE INPUT: true; the input reads as it did. -/
def fnChainsSpec : ChangeSpec := { name := "fnChains", fn := fun _ => fun
  | [d] => { results := [.lit (.bool true)], args := [d] }
  | _ => none }
def fnChainsRow : OpenClaim := { program := "ytkfplkdchkmgbaa", sum := "90d623e112aaf1d0044ebe38de8aea83f2ed4d35fa38d8382360f1611eee5493", func := "loop.example/g00595/laws.FnChains", spec := "fnChains", unfollowed := true, recurses := true, apart := false }
def FnChainsSaid : Prop := fnChainsRow.holds Try.pinned (OpenSpec.ofChange fnChainsSpec)

/-- ITS FALSE NEIGHBOUR: 'it returns false'. Refute it at one input. -/
def fnChainsWrong : ChangeSpec := { name := "fnChains", fn := fun _ => fun
  | [d] => { results := [.lit (.bool false)], args := [d] }
  | _ => none }
def FnChainsWrongFalsely : Prop := fnChainsRow.holds Try.pinned (OpenSpec.ofChange fnChainsWrong)

/-- 'laws.FnPresentations': WHATEVER THE INPUT: true; the input reads as it did. -/
def fnPresentationsSpec : ChangeSpec := { name := "fnPresentations", fn := fun _ => fun
  | [d] => { results := [.lit (.bool true)], args := [d] }
  | _ => none }
def fnPresentationsRow : OpenClaim := { program := "ytkfplkdchkmgbaa", sum := "90d623e112aaf1d0044ebe38de8aea83f2ed4d35fa38d8382360f1611eee5493", func := "loop.example/g00595/laws.FnPresentations", spec := "fnPresentations", unfollowed := true, recurses := true, apart := false }
def FnPresentationsSaid : Prop := fnPresentationsRow.holds Try.pinned (OpenSpec.ofChange fnPresentationsSpec)

/-- ITS FALSE NEIGHBOUR: 'it returns false'. Refute it at one input. -/
def fnPresentationsWrong : ChangeSpec := { name := "fnPresentations", fn := fun _ => fun
  | [d] => { results := [.lit (.bool false)], args := [d] }
  | _ => none }
def FnPresentationsWrongFalsely : Prop := fnPresentationsRow.holds Try.pinned (OpenSpec.ofChange fnPresentationsWrong)

/-- 'laws.FnPure': WHATEVER THE INPUT: true; the input reads as it did. -/
def fnPureSpec : ChangeSpec := { name := "fnPure", fn := fun _ => fun
  | [d] => { results := [.lit (.bool true)], args := [d] }
  | _ => none }
def fnPureRow : OpenClaim := { program := "ytkfplkdchkmgbaa", sum := "90d623e112aaf1d0044ebe38de8aea83f2ed4d35fa38d8382360f1611eee5493", func := "loop.example/g00595/laws.FnPure", spec := "fnPure", unfollowed := true, recurses := true, apart := false }
def FnPureSaid : Prop := fnPureRow.holds Try.pinned (OpenSpec.ofChange fnPureSpec)

/-- ITS FALSE NEIGHBOUR: 'it returns false'. Refute it at one input. -/
def fnPureWrong : ChangeSpec := { name := "fnPure", fn := fun _ => fun
  | [d] => { results := [.lit (.bool false)], args := [d] }
  | _ => none }
def FnPureWrongFalsely : Prop := fnPureRow.holds Try.pinned (OpenSpec.ofChange fnPureWrong)

/-- 'laws.FnLengths': WHATEVER THE INPUT: true; the input reads as it did. -/
def fnLengthsSpec : ChangeSpec := { name := "fnLengths", fn := fun _ => fun
  | [d] => { results := [.lit (.bool true)], args := [d] }
  | _ => none }
def fnLengthsRow : OpenClaim := { program := "ytkfplkdchkmgbaa", sum := "90d623e112aaf1d0044ebe38de8aea83f2ed4d35fa38d8382360f1611eee5493", func := "loop.example/g00595/laws.FnLengths", spec := "fnLengths", recurses := true, apart := false }
def FnLengthsSaid : Prop := fnLengthsRow.holds Try.pinned (OpenSpec.ofChange fnLengthsSpec)

/-- ITS FALSE NEIGHBOUR: 'it returns false'. Refute it at one input. -/
def fnLengthsWrong : ChangeSpec := { name := "fnLengths", fn := fun _ => fun
  | [d] => { results := [.lit (.bool false)], args := [d] }
  | _ => none }
def FnLengthsWrongFalsely : Prop := fnLengthsRow.holds Try.pinned (OpenSpec.ofChange fnLengthsWrong)

/-- 'laws.FnCombined': WHATEVER THE INPUT: true; the input reads as it did. -/
def fnCombinedSpec : ChangeSpec := { name := "fnCombined", fn := fun _ => fun
  | [d] => { results := [.lit (.bool true)], args := [d] }
  | _ => none }
def fnCombinedRow : OpenClaim := { program := "ytkfplkdchkmgbaa", sum := "90d623e112aaf1d0044ebe38de8aea83f2ed4d35fa38d8382360f1611eee5493", func := "loop.example/g00595/laws.FnCombined", spec := "fnCombined", recurses := true, apart := false }
def FnCombinedSaid : Prop := fnCombinedRow.holds Try.pinned (OpenSpec.ofChange fnCombinedSpec)

/-- ITS FALSE NEIGHBOUR: 'it returns false'. Refute it at one input. -/
def fnCombinedWrong : ChangeSpec := { name := "fnCombined", fn := fun _ => fun
  | [d] => { results := [.lit (.bool false)], args := [d] }
  | _ => none }
def FnCombinedWrongFalsely : Prop := fnCombinedRow.holds Try.pinned (OpenSpec.ofChange fnCombinedWrong)

/-- 'laws.FnOrder': WHATEVER THE INPUT: true; the input reads as it did. -/
def fnOrderSpec : ChangeSpec := { name := "fnOrder", fn := fun _ => fun
  | [d] => { results := [.lit (.bool true)], args := [d] }
  | _ => none }
def fnOrderRow : OpenClaim := { program := "ytkfplkdchkmgbaa", sum := "90d623e112aaf1d0044ebe38de8aea83f2ed4d35fa38d8382360f1611eee5493", func := "loop.example/g00595/laws.FnOrder", spec := "fnOrder", unfollowed := true, recurses := true, apart := false }
def FnOrderSaid : Prop := fnOrderRow.holds Try.pinned (OpenSpec.ofChange fnOrderSpec)

/-- ITS FALSE NEIGHBOUR: 'it returns false'. Refute it at one input. -/
def fnOrderWrong : ChangeSpec := { name := "fnOrder", fn := fun _ => fun
  | [d] => { results := [.lit (.bool false)], args := [d] }
  | _ => none }
def FnOrderWrongFalsely : Prop := fnOrderRow.holds Try.pinned (OpenSpec.ofChange fnOrderWrong)

/- THE SECOND FORM. 'bulk': how many values and letters a reading holds, each counted each time it is reached (what is shared counts as often as it is met; a slice's spare places count too). A statement '..UptoSaid' is the law's where the arguments, and the package variables that the reading takes, are together of bulk at most 1048576: NARROWER than '..Said'. Prove '..Said' where nothing that the law and all that it calls make is longer than what came in: it says more and counts as full. Else prove '..UptoSaid'. A law counts once. -/
mutual
def uptoBulk {H : Type} : DataW H → Nat
  | .lit (.string bytes) => bytes.length + 1
  | .lit _ => 1
  | .nil => 1
  | .ptr d => uptoBulk d + 1
  | .slice elems spare => uptoBulkAll elems + uptoBulkAll spare + 1
  | .agg parts => uptoBulkAll parts + 1
  | .iface _ d => uptoBulk d + 1
  | .map entries => uptoBulkEntries entries + 1
  | .held _ => 1
def uptoBulkAll {H : Type} : List (DataW H) → Nat
  | [] => 0
  | d :: r => uptoBulk d + uptoBulkAll r
def uptoBulkEntries {H : Type} : List (Lit × DataW H) → Nat
  | [] => 0
  | x :: r => uptoBulkEntry x + uptoBulkEntries r
def uptoBulkEntry {H : Type} : Lit × DataW H → Nat
  | (.string bytes, d) => bytes.length + uptoBulk d + 1
  | (_, d) => uptoBulk d + 1
 end
def uptoSmall : (H : Type) → List (DataW H) → Bool := fun _ ds => decide (uptoBulkAll ds ≤ 1048576)
def OpenSpec.upto (s : _root_.Go.ChangeSpec) : _root_.Go.OpenSpec := { _root_.Go.OpenSpec.ofChange s with cond := some uptoSmall }

/-- 'laws.FnCoordinates', WHERE WHAT IT READS IS OF BULK AT MOST 1048576: true; the input reads as it did. -/
def fnCoordinatesUptoRow : OpenClaim := { program := "ytkfplkdchkmgbaa", sum := "90d623e112aaf1d0044ebe38de8aea83f2ed4d35fa38d8382360f1611eee5493", func := "loop.example/g00595/laws.FnCoordinates", spec := "fnCoordinates", recurses := true, apart := false, narrowed := true }
def FnCoordinatesUptoSaid : Prop := fnCoordinatesUptoRow.holds Try.pinned (OpenSpec.upto fnCoordinatesSpec)

/-- 'laws.FnQuotients', WHERE WHAT IT READS IS OF BULK AT MOST 1048576: true; the input reads as it did. -/
def fnQuotientsUptoRow : OpenClaim := { program := "ytkfplkdchkmgbaa", sum := "90d623e112aaf1d0044ebe38de8aea83f2ed4d35fa38d8382360f1611eee5493", func := "loop.example/g00595/laws.FnQuotients", spec := "fnQuotients", unfollowed := true, recurses := true, apart := false, narrowed := true }
def FnQuotientsUptoSaid : Prop := fnQuotientsUptoRow.holds Try.pinned (OpenSpec.upto fnQuotientsSpec)

/-- 'laws.FnSeries', WHERE WHAT IT READS IS OF BULK AT MOST 1048576: true; the input reads as it did. -/
def fnSeriesUptoRow : OpenClaim := { program := "ytkfplkdchkmgbaa", sum := "90d623e112aaf1d0044ebe38de8aea83f2ed4d35fa38d8382360f1611eee5493", func := "loop.example/g00595/laws.FnSeries", spec := "fnSeries", unfollowed := true, recurses := true, apart := false, narrowed := true }
def FnSeriesUptoSaid : Prop := fnSeriesUptoRow.holds Try.pinned (OpenSpec.upto fnSeriesSpec)

/-- 'laws.FnChains', WHERE WHAT IT READS IS OF BULK AT MOST 1048576: true; the input reads as it did. -/
def fnChainsUptoRow : OpenClaim := { program := "ytkfplkdchkmgbaa", sum := "90d623e112aaf1d0044ebe38de8aea83f2ed4d35fa38d8382360f1611eee5493", func := "loop.example/g00595/laws.FnChains", spec := "fnChains", unfollowed := true, recurses := true, apart := false, narrowed := true }
def FnChainsUptoSaid : Prop := fnChainsUptoRow.holds Try.pinned (OpenSpec.upto fnChainsSpec)

/-- 'laws.FnPresentations', WHERE WHAT IT READS IS OF BULK AT MOST 1048576: true; the input reads as it did. -/
def fnPresentationsUptoRow : OpenClaim := { program := "ytkfplkdchkmgbaa", sum := "90d623e112aaf1d0044ebe38de8aea83f2ed4d35fa38d8382360f1611eee5493", func := "loop.example/g00595/laws.FnPresentations", spec := "fnPresentations", unfollowed := true, recurses := true, apart := false, narrowed := true }
def FnPresentationsUptoSaid : Prop := fnPresentationsUptoRow.holds Try.pinned (OpenSpec.upto fnPresentationsSpec)

/-- 'laws.FnPure', WHERE WHAT IT READS IS OF BULK AT MOST 1048576: true; the input reads as it did. -/
def fnPureUptoRow : OpenClaim := { program := "ytkfplkdchkmgbaa", sum := "90d623e112aaf1d0044ebe38de8aea83f2ed4d35fa38d8382360f1611eee5493", func := "loop.example/g00595/laws.FnPure", spec := "fnPure", unfollowed := true, recurses := true, apart := false, narrowed := true }
def FnPureUptoSaid : Prop := fnPureUptoRow.holds Try.pinned (OpenSpec.upto fnPureSpec)

/-- 'laws.FnLengths', WHERE WHAT IT READS IS OF BULK AT MOST 1048576: true; the input reads as it did. -/
def fnLengthsUptoRow : OpenClaim := { program := "ytkfplkdchkmgbaa", sum := "90d623e112aaf1d0044ebe38de8aea83f2ed4d35fa38d8382360f1611eee5493", func := "loop.example/g00595/laws.FnLengths", spec := "fnLengths", recurses := true, apart := false, narrowed := true }
def FnLengthsUptoSaid : Prop := fnLengthsUptoRow.holds Try.pinned (OpenSpec.upto fnLengthsSpec)

/-- 'laws.FnCombined', WHERE WHAT IT READS IS OF BULK AT MOST 1048576: true; the input reads as it did. -/
def fnCombinedUptoRow : OpenClaim := { program := "ytkfplkdchkmgbaa", sum := "90d623e112aaf1d0044ebe38de8aea83f2ed4d35fa38d8382360f1611eee5493", func := "loop.example/g00595/laws.FnCombined", spec := "fnCombined", recurses := true, apart := false, narrowed := true }
def FnCombinedUptoSaid : Prop := fnCombinedUptoRow.holds Try.pinned (OpenSpec.upto fnCombinedSpec)

/-- 'laws.FnOrder', WHERE WHAT IT READS IS OF BULK AT MOST 1048576: true; the input reads as it did. -/
def fnOrderUptoRow : OpenClaim := { program := "ytkfplkdchkmgbaa", sum := "90d623e112aaf1d0044ebe38de8aea83f2ed4d35fa38d8382360f1611eee5493", func := "loop.example/g00595/laws.FnOrder", spec := "fnOrder", unfollowed := true, recurses := true, apart := false, narrowed := true }
def FnOrderUptoSaid : Prop := fnOrderUptoRow.holds Try.pinned (OpenSpec.upto fnOrderSpec)

end Rows
end Go.Proofs.Ytkfplkdchkmgbaa
