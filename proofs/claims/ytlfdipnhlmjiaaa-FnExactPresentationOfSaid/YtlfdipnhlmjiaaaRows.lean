/-
  No cell of these rows narrows 'for every input' (looked for: loops, veiled, ifaces, maps, wideKeys, modest, calm, conditions, laid).
  DERIVED. THE GIVEN ROWS OF THIS SEAT. 11 by the template 'for every input the law returns true; each argument reads behind the call as it read before'; 0 by the template 'total and deterministic' (their statements: YtlfdipnhlmjiaaaTotals.lean).
  GIVEN WITH THE SEED: the statements are not yours to turn. If you find one false, say at which input.
  Laid BY PROGRAM, IN A SANDBOX (cutbox-rows.mjs): the forced cells as the released guide's own fill.sh prints them over the translation 002d0a19325ee42e… (all of the seat's roots in one cut). By AI agents, Wed Nov 11 2026. No macro, syntax, notation, axiom, sorry.
-/
import Derived.Test.YtlfdipnhlmjiaaaChecked
import GoSem.Claim
import GoSem.ClaimJoined
import GoSem.ClaimMapViews
import Derived.JoinedTies
import Derived.KernelRfl
namespace Go.Proofs.Ytlfdipnhlmjiaaa
/- THE CELL 'sum', in the pinned program and in every row, IS THE sha256 OF THE DUMP (.gsa) THAT YtlfdipnhlmjiaaaProg.lean LOADS. Nothing in Lean hashes anything: it is a label: what it is worth is what the hold of that sum in a sandbox is worth. -/
noncomputable def Try.pinned : Pinned := { name := "ytlfdipnhlmjiaaa", sum := "002d0a19325ee42e93c6a9bd4b9ea2c01bd2b61596678c19cb039b84782e9867", checked := Try.checked }
namespace Rows
def none {H : Type} : Left H := { results := [], args := [] }

/-- 'laws.FnExactCatenaryDegree': WHATEVER THE INPUT: true; the input reads as it did. -/
def fnExactCatenaryDegreeSpec : ChangeSpec := { name := "fnExactCatenaryDegree", fn := fun _ => fun
  | [d1, d2] => { results := [.lit (.bool true)], args := [d1, d2] }
  | _ => none }
def fnExactCatenaryDegreeRow : OpenClaim := { program := "ytlfdipnhlmjiaaa", sum := "002d0a19325ee42e93c6a9bd4b9ea2c01bd2b61596678c19cb039b84782e9867", func := "loop.example/g00595/laws.FnExactCatenaryDegree", spec := "fnExactCatenaryDegree", recurses := true, apart := false }
def FnExactCatenaryDegreeSaid : Prop := fnExactCatenaryDegreeRow.holds Try.pinned (OpenSpec.ofChange fnExactCatenaryDegreeSpec)

/-- ITS FALSE NEIGHBOUR: 'it returns false'. Refute it at one input. -/
def fnExactCatenaryDegreeWrong : ChangeSpec := { name := "fnExactCatenaryDegree", fn := fun _ => fun
  | [d1, d2] => { results := [.lit (.bool false)], args := [d1, d2] }
  | _ => none }
def FnExactCatenaryDegreeWrongFalsely : Prop := fnExactCatenaryDegreeRow.holds Try.pinned (OpenSpec.ofChange fnExactCatenaryDegreeWrong)

/-- 'laws.FnExactEulerList': WHATEVER THE INPUT: true; the input reads as it did. -/
def fnExactEulerListSpec : ChangeSpec := { name := "fnExactEulerList", fn := fun _ => fun
  | [d] => { results := [.lit (.bool true)], args := [d] }
  | _ => none }
def fnExactEulerListRow : OpenClaim := { program := "ytlfdipnhlmjiaaa", sum := "002d0a19325ee42e93c6a9bd4b9ea2c01bd2b61596678c19cb039b84782e9867", func := "loop.example/g00595/laws.FnExactEulerList", spec := "fnExactEulerList", apart := false }
def FnExactEulerListSaid : Prop := fnExactEulerListRow.holds Try.pinned (OpenSpec.ofChange fnExactEulerListSpec)

/-- ITS FALSE NEIGHBOUR: 'it returns false'. Refute it at one input. -/
def fnExactEulerListWrong : ChangeSpec := { name := "fnExactEulerList", fn := fun _ => fun
  | [d] => { results := [.lit (.bool false)], args := [d] }
  | _ => none }
def FnExactEulerListWrongFalsely : Prop := fnExactEulerListRow.holds Try.pinned (OpenSpec.ofChange fnExactEulerListWrong)

/-- 'laws.FnExactQuotientOf': WHATEVER THE INPUT: true; the input reads as it did. -/
def fnExactQuotientOfSpec : ChangeSpec := { name := "fnExactQuotientOf", fn := fun _ => fun
  | [d1, d2] => { results := [.lit (.bool true)], args := [d1, d2] }
  | _ => none }
def fnExactQuotientOfRow : OpenClaim := { program := "ytlfdipnhlmjiaaa", sum := "002d0a19325ee42e93c6a9bd4b9ea2c01bd2b61596678c19cb039b84782e9867", func := "loop.example/g00595/laws.FnExactQuotientOf", spec := "fnExactQuotientOf", unfollowed := true, recurses := true, apart := false }
def FnExactQuotientOfSaid : Prop := fnExactQuotientOfRow.holds Try.pinned (OpenSpec.ofChange fnExactQuotientOfSpec)

/-- ITS FALSE NEIGHBOUR: 'it returns false'. Refute it at one input. -/
def fnExactQuotientOfWrong : ChangeSpec := { name := "fnExactQuotientOf", fn := fun _ => fun
  | [d1, d2] => { results := [.lit (.bool false)], args := [d1, d2] }
  | _ => none }
def FnExactQuotientOfWrongFalsely : Prop := fnExactQuotientOfRow.holds Try.pinned (OpenSpec.ofChange fnExactQuotientOfWrong)

/-- 'laws.FnExactParentOf': WHATEVER THE INPUT: true; the input reads as it did. -/
def fnExactParentOfSpec : ChangeSpec := { name := "fnExactParentOf", fn := fun _ => fun
  | [d] => { results := [.lit (.bool true)], args := [d] }
  | _ => none }
def fnExactParentOfRow : OpenClaim := { program := "ytlfdipnhlmjiaaa", sum := "002d0a19325ee42e93c6a9bd4b9ea2c01bd2b61596678c19cb039b84782e9867", func := "loop.example/g00595/laws.FnExactParentOf", spec := "fnExactParentOf", apart := false }
def FnExactParentOfSaid : Prop := fnExactParentOfRow.holds Try.pinned (OpenSpec.ofChange fnExactParentOfSpec)

/-- ITS FALSE NEIGHBOUR: 'it returns false'. Refute it at one input. -/
def fnExactParentOfWrong : ChangeSpec := { name := "fnExactParentOf", fn := fun _ => fun
  | [d] => { results := [.lit (.bool false)], args := [d] }
  | _ => none }
def FnExactParentOfWrongFalsely : Prop := fnExactParentOfRow.holds Try.pinned (OpenSpec.ofChange fnExactParentOfWrong)

/-- 'laws.FnExactClassesOf': WHATEVER THE INPUT: true; the input reads as it did. -/
def fnExactClassesOfSpec : ChangeSpec := { name := "fnExactClassesOf", fn := fun _ => fun
  | [d1, d2] => { results := [.lit (.bool true)], args := [d1, d2] }
  | _ => none }
def fnExactClassesOfRow : OpenClaim := { program := "ytlfdipnhlmjiaaa", sum := "002d0a19325ee42e93c6a9bd4b9ea2c01bd2b61596678c19cb039b84782e9867", func := "loop.example/g00595/laws.FnExactClassesOf", spec := "fnExactClassesOf", recurses := true, apart := false }
def FnExactClassesOfSaid : Prop := fnExactClassesOfRow.holds Try.pinned (OpenSpec.ofChange fnExactClassesOfSpec)

/-- ITS FALSE NEIGHBOUR: 'it returns false'. Refute it at one input. -/
def fnExactClassesOfWrong : ChangeSpec := { name := "fnExactClassesOf", fn := fun _ => fun
  | [d1, d2] => { results := [.lit (.bool false)], args := [d1, d2] }
  | _ => none }
def FnExactClassesOfWrongFalsely : Prop := fnExactClassesOfRow.holds Try.pinned (OpenSpec.ofChange fnExactClassesOfWrong)

/-- 'laws.FnExactBettiElements': WHATEVER THE INPUT: true; the input reads as it did. -/
def fnExactBettiElementsSpec : ChangeSpec := { name := "fnExactBettiElements", fn := fun _ => fun
  | [d] => { results := [.lit (.bool true)], args := [d] }
  | _ => none }
def fnExactBettiElementsRow : OpenClaim := { program := "ytlfdipnhlmjiaaa", sum := "002d0a19325ee42e93c6a9bd4b9ea2c01bd2b61596678c19cb039b84782e9867", func := "loop.example/g00595/laws.FnExactBettiElements", spec := "fnExactBettiElements", recurses := true, apart := false }
def FnExactBettiElementsSaid : Prop := fnExactBettiElementsRow.holds Try.pinned (OpenSpec.ofChange fnExactBettiElementsSpec)

/-- ITS FALSE NEIGHBOUR: 'it returns false'. Refute it at one input. -/
def fnExactBettiElementsWrong : ChangeSpec := { name := "fnExactBettiElements", fn := fun _ => fun
  | [d] => { results := [.lit (.bool false)], args := [d] }
  | _ => none }
def FnExactBettiElementsWrongFalsely : Prop := fnExactBettiElementsRow.holds Try.pinned (OpenSpec.ofChange fnExactBettiElementsWrong)

/-- 'laws.FnExactPathTo': WHATEVER THE INPUT: true; the input reads as it did. -/
def fnExactPathToSpec : ChangeSpec := { name := "fnExactPathTo", fn := fun _ => fun
  | [d] => { results := [.lit (.bool true)], args := [d] }
  | _ => none }
def fnExactPathToRow : OpenClaim := { program := "ytlfdipnhlmjiaaa", sum := "002d0a19325ee42e93c6a9bd4b9ea2c01bd2b61596678c19cb039b84782e9867", func := "loop.example/g00595/laws.FnExactPathTo", spec := "fnExactPathTo", apart := false }
def FnExactPathToSaid : Prop := fnExactPathToRow.holds Try.pinned (OpenSpec.ofChange fnExactPathToSpec)

/-- ITS FALSE NEIGHBOUR: 'it returns false'. Refute it at one input. -/
def fnExactPathToWrong : ChangeSpec := { name := "fnExactPathTo", fn := fun _ => fun
  | [d] => { results := [.lit (.bool false)], args := [d] }
  | _ => none }
def FnExactPathToWrongFalsely : Prop := fnExactPathToRow.holds Try.pinned (OpenSpec.ofChange fnExactPathToWrong)

/-- 'laws.FnExactChainOf': WHATEVER THE INPUT: true; the input reads as it did. -/
def fnExactChainOfSpec : ChangeSpec := { name := "fnExactChainOf", fn := fun _ => fun
  | [d1, d2, d3, d4] => { results := [.lit (.bool true)], args := [d1, d2, d3, d4] }
  | _ => none }
def fnExactChainOfRow : OpenClaim := { program := "ytlfdipnhlmjiaaa", sum := "002d0a19325ee42e93c6a9bd4b9ea2c01bd2b61596678c19cb039b84782e9867", func := "loop.example/g00595/laws.FnExactChainOf", spec := "fnExactChainOf", unfollowed := true, recurses := true, apart := false }
def FnExactChainOfSaid : Prop := fnExactChainOfRow.holds Try.pinned (OpenSpec.ofChange fnExactChainOfSpec)

/-- ITS FALSE NEIGHBOUR: 'it returns false'. Refute it at one input. -/
def fnExactChainOfWrong : ChangeSpec := { name := "fnExactChainOf", fn := fun _ => fun
  | [d1, d2, d3, d4] => { results := [.lit (.bool false)], args := [d1, d2, d3, d4] }
  | _ => none }
def FnExactChainOfWrongFalsely : Prop := fnExactChainOfRow.holds Try.pinned (OpenSpec.ofChange fnExactChainOfWrong)

/-- 'laws.FnExactAddGap': WHATEVER THE INPUT: true; the input reads as it did. -/
def fnExactAddGapSpec : ChangeSpec := { name := "fnExactAddGap", fn := fun _ => fun
  | [d1, d2] => { results := [.lit (.bool true)], args := [d1, d2] }
  | _ => none }
def fnExactAddGapRow : OpenClaim := { program := "ytlfdipnhlmjiaaa", sum := "002d0a19325ee42e93c6a9bd4b9ea2c01bd2b61596678c19cb039b84782e9867", func := "loop.example/g00595/laws.FnExactAddGap", spec := "fnExactAddGap", unfollowed := true, recurses := true, apart := false }
def FnExactAddGapSaid : Prop := fnExactAddGapRow.holds Try.pinned (OpenSpec.ofChange fnExactAddGapSpec)

/-- ITS FALSE NEIGHBOUR: 'it returns false'. Refute it at one input. -/
def fnExactAddGapWrong : ChangeSpec := { name := "fnExactAddGap", fn := fun _ => fun
  | [d1, d2] => { results := [.lit (.bool false)], args := [d1, d2] }
  | _ => none }
def FnExactAddGapWrongFalsely : Prop := fnExactAddGapRow.holds Try.pinned (OpenSpec.ofChange fnExactAddGapWrong)

/-- 'laws.FnExactPresentationOf': WHATEVER THE INPUT: true; the input reads as it did. -/
def fnExactPresentationOfSpec : ChangeSpec := { name := "fnExactPresentationOf", fn := fun _ => fun
  | [d] => { results := [.lit (.bool true)], args := [d] }
  | _ => none }
def fnExactPresentationOfRow : OpenClaim := { program := "ytlfdipnhlmjiaaa", sum := "002d0a19325ee42e93c6a9bd4b9ea2c01bd2b61596678c19cb039b84782e9867", func := "loop.example/g00595/laws.FnExactPresentationOf", spec := "fnExactPresentationOf", recurses := true, apart := false }
def FnExactPresentationOfSaid : Prop := fnExactPresentationOfRow.holds Try.pinned (OpenSpec.ofChange fnExactPresentationOfSpec)

/-- ITS FALSE NEIGHBOUR: 'it returns false'. Refute it at one input. -/
def fnExactPresentationOfWrong : ChangeSpec := { name := "fnExactPresentationOf", fn := fun _ => fun
  | [d] => { results := [.lit (.bool false)], args := [d] }
  | _ => none }
def FnExactPresentationOfWrongFalsely : Prop := fnExactPresentationOfRow.holds Try.pinned (OpenSpec.ofChange fnExactPresentationOfWrong)

/-- 'laws.FnExactAddOf': WHATEVER THE INPUT: true; the input reads as it did. -/
def fnExactAddOfSpec : ChangeSpec := { name := "fnExactAddOf", fn := fun _ => fun
  | [d1, d2] => { results := [.lit (.bool true)], args := [d1, d2] }
  | _ => none }
def fnExactAddOfRow : OpenClaim := { program := "ytlfdipnhlmjiaaa", sum := "002d0a19325ee42e93c6a9bd4b9ea2c01bd2b61596678c19cb039b84782e9867", func := "loop.example/g00595/laws.FnExactAddOf", spec := "fnExactAddOf", recurses := true, apart := false }
def FnExactAddOfSaid : Prop := fnExactAddOfRow.holds Try.pinned (OpenSpec.ofChange fnExactAddOfSpec)

/-- ITS FALSE NEIGHBOUR: 'it returns false'. Refute it at one input. -/
def fnExactAddOfWrong : ChangeSpec := { name := "fnExactAddOf", fn := fun _ => fun
  | [d1, d2] => { results := [.lit (.bool false)], args := [d1, d2] }
  | _ => none }
def FnExactAddOfWrongFalsely : Prop := fnExactAddOfRow.holds Try.pinned (OpenSpec.ofChange fnExactAddOfWrong)

/- THE SECOND FORM. 'bulk': how many values and letters a reading holds, each counted each time it is reached (what is shared counts as often as it is met; a slice's spare places count too). A statement '..UptoSaid' is the law's where the arguments, and the package variables that the reading takes, are together of bulk at most 1048576: NARROWER than '..Said'. Prove '..Said' where nothing that the law and all that it calls make is longer than what came in: it says more and counts as full. Else prove '..UptoSaid'. A law counts once. -/
mutual
def uptoBulk {H : Type} : DataW H → Nat
  | .lit (.string bytes) => bytes.length + 1
  | .lit _ => 1
  | .nil => 1
  | .ptr d => uptoBulk d + 1
  | .slice elems spare => uptoBulkAll elems + uptoBulkAll spare + 1
  | .agg parts => uptoBulkAll parts + 1
  | .iface _ d => uptoBulk d + 1
  | .map entries => uptoBulkEntries entries + 1
  | .held _ => 1
def uptoBulkAll {H : Type} : List (DataW H) → Nat
  | [] => 0
  | d :: r => uptoBulk d + uptoBulkAll r
def uptoBulkEntries {H : Type} : List (Lit × DataW H) → Nat
  | [] => 0
  | x :: r => uptoBulkEntry x + uptoBulkEntries r
def uptoBulkEntry {H : Type} : Lit × DataW H → Nat
  | (.string bytes, d) => bytes.length + uptoBulk d + 1
  | (_, d) => uptoBulk d + 1
 end
def uptoSmall : (H : Type) → List (DataW H) → Bool := fun _ ds => decide (uptoBulkAll ds ≤ 1048576)
def OpenSpec.upto (s : _root_.Go.ChangeSpec) : _root_.Go.OpenSpec := { _root_.Go.OpenSpec.ofChange s with cond := some uptoSmall }

/-- 'laws.FnExactCatenaryDegree', WHERE WHAT IT READS IS OF BULK AT MOST 1048576: true; the input reads as it did. -/
def fnExactCatenaryDegreeUptoRow : OpenClaim := { program := "ytlfdipnhlmjiaaa", sum := "002d0a19325ee42e93c6a9bd4b9ea2c01bd2b61596678c19cb039b84782e9867", func := "loop.example/g00595/laws.FnExactCatenaryDegree", spec := "fnExactCatenaryDegree", recurses := true, apart := false, narrowed := true }
def FnExactCatenaryDegreeUptoSaid : Prop := fnExactCatenaryDegreeUptoRow.holds Try.pinned (OpenSpec.upto fnExactCatenaryDegreeSpec)

/-- 'laws.FnExactEulerList', WHERE WHAT IT READS IS OF BULK AT MOST 1048576: true; the input reads as it did. -/
def fnExactEulerListUptoRow : OpenClaim := { program := "ytlfdipnhlmjiaaa", sum := "002d0a19325ee42e93c6a9bd4b9ea2c01bd2b61596678c19cb039b84782e9867", func := "loop.example/g00595/laws.FnExactEulerList", spec := "fnExactEulerList", apart := false, narrowed := true }
def FnExactEulerListUptoSaid : Prop := fnExactEulerListUptoRow.holds Try.pinned (OpenSpec.upto fnExactEulerListSpec)

/-- 'laws.FnExactQuotientOf', WHERE WHAT IT READS IS OF BULK AT MOST 1048576: true; the input reads as it did. -/
def fnExactQuotientOfUptoRow : OpenClaim := { program := "ytlfdipnhlmjiaaa", sum := "002d0a19325ee42e93c6a9bd4b9ea2c01bd2b61596678c19cb039b84782e9867", func := "loop.example/g00595/laws.FnExactQuotientOf", spec := "fnExactQuotientOf", unfollowed := true, recurses := true, apart := false, narrowed := true }
def FnExactQuotientOfUptoSaid : Prop := fnExactQuotientOfUptoRow.holds Try.pinned (OpenSpec.upto fnExactQuotientOfSpec)

/-- 'laws.FnExactParentOf', WHERE WHAT IT READS IS OF BULK AT MOST 1048576: true; the input reads as it did. -/
def fnExactParentOfUptoRow : OpenClaim := { program := "ytlfdipnhlmjiaaa", sum := "002d0a19325ee42e93c6a9bd4b9ea2c01bd2b61596678c19cb039b84782e9867", func := "loop.example/g00595/laws.FnExactParentOf", spec := "fnExactParentOf", apart := false, narrowed := true }
def FnExactParentOfUptoSaid : Prop := fnExactParentOfUptoRow.holds Try.pinned (OpenSpec.upto fnExactParentOfSpec)

/-- 'laws.FnExactClassesOf', WHERE WHAT IT READS IS OF BULK AT MOST 1048576: true; the input reads as it did. -/
def fnExactClassesOfUptoRow : OpenClaim := { program := "ytlfdipnhlmjiaaa", sum := "002d0a19325ee42e93c6a9bd4b9ea2c01bd2b61596678c19cb039b84782e9867", func := "loop.example/g00595/laws.FnExactClassesOf", spec := "fnExactClassesOf", recurses := true, apart := false, narrowed := true }
def FnExactClassesOfUptoSaid : Prop := fnExactClassesOfUptoRow.holds Try.pinned (OpenSpec.upto fnExactClassesOfSpec)

/-- 'laws.FnExactBettiElements', WHERE WHAT IT READS IS OF BULK AT MOST 1048576: true; the input reads as it did. -/
def fnExactBettiElementsUptoRow : OpenClaim := { program := "ytlfdipnhlmjiaaa", sum := "002d0a19325ee42e93c6a9bd4b9ea2c01bd2b61596678c19cb039b84782e9867", func := "loop.example/g00595/laws.FnExactBettiElements", spec := "fnExactBettiElements", recurses := true, apart := false, narrowed := true }
def FnExactBettiElementsUptoSaid : Prop := fnExactBettiElementsUptoRow.holds Try.pinned (OpenSpec.upto fnExactBettiElementsSpec)

/-- 'laws.FnExactPathTo', WHERE WHAT IT READS IS OF BULK AT MOST 1048576: true; the input reads as it did. -/
def fnExactPathToUptoRow : OpenClaim := { program := "ytlfdipnhlmjiaaa", sum := "002d0a19325ee42e93c6a9bd4b9ea2c01bd2b61596678c19cb039b84782e9867", func := "loop.example/g00595/laws.FnExactPathTo", spec := "fnExactPathTo", apart := false, narrowed := true }
def FnExactPathToUptoSaid : Prop := fnExactPathToUptoRow.holds Try.pinned (OpenSpec.upto fnExactPathToSpec)

/-- 'laws.FnExactChainOf', WHERE WHAT IT READS IS OF BULK AT MOST 1048576: true; the input reads as it did. -/
def fnExactChainOfUptoRow : OpenClaim := { program := "ytlfdipnhlmjiaaa", sum := "002d0a19325ee42e93c6a9bd4b9ea2c01bd2b61596678c19cb039b84782e9867", func := "loop.example/g00595/laws.FnExactChainOf", spec := "fnExactChainOf", unfollowed := true, recurses := true, apart := false, narrowed := true }
def FnExactChainOfUptoSaid : Prop := fnExactChainOfUptoRow.holds Try.pinned (OpenSpec.upto fnExactChainOfSpec)

/-- 'laws.FnExactAddGap', WHERE WHAT IT READS IS OF BULK AT MOST 1048576: true; the input reads as it did. -/
def fnExactAddGapUptoRow : OpenClaim := { program := "ytlfdipnhlmjiaaa", sum := "002d0a19325ee42e93c6a9bd4b9ea2c01bd2b61596678c19cb039b84782e9867", func := "loop.example/g00595/laws.FnExactAddGap", spec := "fnExactAddGap", unfollowed := true, recurses := true, apart := false, narrowed := true }
def FnExactAddGapUptoSaid : Prop := fnExactAddGapUptoRow.holds Try.pinned (OpenSpec.upto fnExactAddGapSpec)

/-- 'laws.FnExactPresentationOf', WHERE WHAT IT READS IS OF BULK AT MOST 1048576: true; the input reads as it did. -/
def fnExactPresentationOfUptoRow : OpenClaim := { program := "ytlfdipnhlmjiaaa", sum := "002d0a19325ee42e93c6a9bd4b9ea2c01bd2b61596678c19cb039b84782e9867", func := "loop.example/g00595/laws.FnExactPresentationOf", spec := "fnExactPresentationOf", recurses := true, apart := false, narrowed := true }
def FnExactPresentationOfUptoSaid : Prop := fnExactPresentationOfUptoRow.holds Try.pinned (OpenSpec.upto fnExactPresentationOfSpec)

/-- 'laws.FnExactAddOf', WHERE WHAT IT READS IS OF BULK AT MOST 1048576: true; the input reads as it did. -/
def fnExactAddOfUptoRow : OpenClaim := { program := "ytlfdipnhlmjiaaa", sum := "002d0a19325ee42e93c6a9bd4b9ea2c01bd2b61596678c19cb039b84782e9867", func := "loop.example/g00595/laws.FnExactAddOf", spec := "fnExactAddOf", recurses := true, apart := false, narrowed := true }
def FnExactAddOfUptoSaid : Prop := fnExactAddOfUptoRow.holds Try.pinned (OpenSpec.upto fnExactAddOfSpec)

end Rows
end Go.Proofs.Ytlfdipnhlmjiaaa
