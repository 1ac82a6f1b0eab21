/-
  No cell of these rows narrows 'for every input' (looked for: loops, veiled, ifaces, maps, wideKeys, modest, calm, conditions, laid).
  DERIVED. THE GIVEN ROWS OF THIS SEAT. 6 by the template 'for every input the law returns true; each argument reads behind the call as it read before'; 0 by the template 'total and deterministic' (their statements: YtfpjjjdiieplkaaTotals.lean).
  GIVEN WITH THE SEED: the statements are not yours to turn. If you find one false, say at which input.
  Laid BY PROGRAM, IN A SANDBOX (cutbox-rows.mjs): the forced cells as the released guide's own fill.sh prints them over the translation f3f483f0d5d3d678… (all of the seat's roots in one cut). By AI agents, Wed Nov 11 2026. No macro, syntax, notation, axiom, sorry.
-/
import Derived.Test.YtfpjjjdiieplkaaChecked
import GoSem.Claim
import GoSem.ClaimJoined
import GoSem.ClaimMapViews
import Derived.JoinedTies
import Derived.KernelRfl
namespace Go.Proofs.Ytfpjjjdiieplkaa
/- THE CELL 'sum', in the pinned program and in every row, IS THE sha256 OF THE DUMP (.gsa) THAT YtfpjjjdiieplkaaProg.lean LOADS. Nothing in Lean hashes anything: it is a label: what it is worth is what the hold of that sum in a sandbox is worth. -/
noncomputable def Try.pinned : Pinned := { name := "ytfpjjjdiieplkaa", sum := "f3f483f0d5d3d678be9ba7ddb9070f7b56a3c2f21a66582e15244d3d499d2968", checked := Try.checked }
namespace Rows
def none {H : Type} : Left H := { results := [], args := [] }

/-- 'laws.FnExactIsPalindrome': WHATEVER THE INPUT: true; the input reads as it did. -/
def fnExactIsPalindromeSpec : ChangeSpec := { name := "fnExactIsPalindrome", fn := fun _ => fun
  | [d] => { results := [.lit (.bool true)], args := [d] }
  | _ => none }
def fnExactIsPalindromeRow : OpenClaim := { program := "ytfpjjjdiieplkaa", sum := "f3f483f0d5d3d678be9ba7ddb9070f7b56a3c2f21a66582e15244d3d499d2968", func := "loop.example/g00595/laws.FnExactIsPalindrome", spec := "fnExactIsPalindrome", apart := false }
def FnExactIsPalindromeSaid : Prop := fnExactIsPalindromeRow.holds Try.pinned (OpenSpec.ofChange fnExactIsPalindromeSpec)

/-- ITS FALSE NEIGHBOUR: 'it returns false'. Refute it at one input. -/
def fnExactIsPalindromeWrong : ChangeSpec := { name := "fnExactIsPalindrome", fn := fun _ => fun
  | [d] => { results := [.lit (.bool false)], args := [d] }
  | _ => none }
def FnExactIsPalindromeWrongFalsely : Prop := fnExactIsPalindromeRow.holds Try.pinned (OpenSpec.ofChange fnExactIsPalindromeWrong)

/-- 'laws.FnExactMultiplyLists': WHATEVER THE INPUT: true; the input reads as it did. -/
def fnExactMultiplyListsSpec : ChangeSpec := { name := "fnExactMultiplyLists", fn := fun _ => fun
  | [d1, d2] => { results := [.lit (.bool true)], args := [d1, d2] }
  | _ => none }
def fnExactMultiplyListsRow : OpenClaim := { program := "ytfpjjjdiieplkaa", sum := "f3f483f0d5d3d678be9ba7ddb9070f7b56a3c2f21a66582e15244d3d499d2968", func := "loop.example/g00595/laws.FnExactMultiplyLists", spec := "fnExactMultiplyLists", apart := false }
def FnExactMultiplyListsSaid : Prop := fnExactMultiplyListsRow.holds Try.pinned (OpenSpec.ofChange fnExactMultiplyListsSpec)

/-- ITS FALSE NEIGHBOUR: 'it returns false'. Refute it at one input. -/
def fnExactMultiplyListsWrong : ChangeSpec := { name := "fnExactMultiplyLists", fn := fun _ => fun
  | [d1, d2] => { results := [.lit (.bool false)], args := [d1, d2] }
  | _ => none }
def FnExactMultiplyListsWrongFalsely : Prop := fnExactMultiplyListsRow.holds Try.pinned (OpenSpec.ofChange fnExactMultiplyListsWrong)

/-- 'laws.FnExactSeriesFrom': WHATEVER THE INPUT: true; the input reads as it did. -/
def fnExactSeriesFromSpec : ChangeSpec := { name := "fnExactSeriesFrom", fn := fun _ => fun
  | [d1, d2] => { results := [.lit (.bool true)], args := [d1, d2] }
  | _ => none }
def fnExactSeriesFromRow : OpenClaim := { program := "ytfpjjjdiieplkaa", sum := "f3f483f0d5d3d678be9ba7ddb9070f7b56a3c2f21a66582e15244d3d499d2968", func := "loop.example/g00595/laws.FnExactSeriesFrom", spec := "fnExactSeriesFrom", apart := false }
def FnExactSeriesFromSaid : Prop := fnExactSeriesFromRow.holds Try.pinned (OpenSpec.ofChange fnExactSeriesFromSpec)

/-- ITS FALSE NEIGHBOUR: 'it returns false'. Refute it at one input. -/
def fnExactSeriesFromWrong : ChangeSpec := { name := "fnExactSeriesFrom", fn := fun _ => fun
  | [d1, d2] => { results := [.lit (.bool false)], args := [d1, d2] }
  | _ => none }
def FnExactSeriesFromWrongFalsely : Prop := fnExactSeriesFromRow.holds Try.pinned (OpenSpec.ofChange fnExactSeriesFromWrong)

/-- 'laws.FnExactDistanceOf': WHATEVER THE INPUT: true; the input reads as it did. -/
def fnExactDistanceOfSpec : ChangeSpec := { name := "fnExactDistanceOf", fn := fun _ => fun
  | [d1, d2] => { results := [.lit (.bool true)], args := [d1, d2] }
  | _ => none }
def fnExactDistanceOfRow : OpenClaim := { program := "ytfpjjjdiieplkaa", sum := "f3f483f0d5d3d678be9ba7ddb9070f7b56a3c2f21a66582e15244d3d499d2968", func := "loop.example/g00595/laws.FnExactDistanceOf", spec := "fnExactDistanceOf", apart := false }
def FnExactDistanceOfSaid : Prop := fnExactDistanceOfRow.holds Try.pinned (OpenSpec.ofChange fnExactDistanceOfSpec)

/-- ITS FALSE NEIGHBOUR: 'it returns false'. Refute it at one input. -/
def fnExactDistanceOfWrong : ChangeSpec := { name := "fnExactDistanceOf", fn := fun _ => fun
  | [d1, d2] => { results := [.lit (.bool false)], args := [d1, d2] }
  | _ => none }
def FnExactDistanceOfWrongFalsely : Prop := fnExactDistanceOfRow.holds Try.pinned (OpenSpec.ofChange fnExactDistanceOfWrong)

/-- 'laws.FnExactApplyRelation': WHATEVER THE INPUT: true; the input reads as it did. -/
def fnExactApplyRelationSpec : ChangeSpec := { name := "fnExactApplyRelation", fn := fun _ => fun
  | [d1, d2] => { results := [.lit (.bool true)], args := [d1, d2] }
  | _ => none }
def fnExactApplyRelationRow : OpenClaim := { program := "ytfpjjjdiieplkaa", sum := "f3f483f0d5d3d678be9ba7ddb9070f7b56a3c2f21a66582e15244d3d499d2968", func := "loop.example/g00595/laws.FnExactApplyRelation", spec := "fnExactApplyRelation", apart := false }
def FnExactApplyRelationSaid : Prop := fnExactApplyRelationRow.holds Try.pinned (OpenSpec.ofChange fnExactApplyRelationSpec)

/-- ITS FALSE NEIGHBOUR: 'it returns false'. Refute it at one input. -/
def fnExactApplyRelationWrong : ChangeSpec := { name := "fnExactApplyRelation", fn := fun _ => fun
  | [d1, d2] => { results := [.lit (.bool false)], args := [d1, d2] }
  | _ => none }
def FnExactApplyRelationWrongFalsely : Prop := fnExactApplyRelationRow.holds Try.pinned (OpenSpec.ofChange fnExactApplyRelationWrong)

/-- 'laws.FnExactReachedBy': WHATEVER THE INPUT: true; the input reads as it did. -/
def fnExactReachedBySpec : ChangeSpec := { name := "fnExactReachedBy", fn := fun _ => fun
  | [d1, d2, d3] => { results := [.lit (.bool true)], args := [d1, d2, d3] }
  | _ => none }
def fnExactReachedByRow : OpenClaim := { program := "ytfpjjjdiieplkaa", sum := "f3f483f0d5d3d678be9ba7ddb9070f7b56a3c2f21a66582e15244d3d499d2968", func := "loop.example/g00595/laws.FnExactReachedBy", spec := "fnExactReachedBy", unfollowed := true, recurses := true, apart := false }
def FnExactReachedBySaid : Prop := fnExactReachedByRow.holds Try.pinned (OpenSpec.ofChange fnExactReachedBySpec)

/-- ITS FALSE NEIGHBOUR: 'it returns false'. Refute it at one input. -/
def fnExactReachedByWrong : ChangeSpec := { name := "fnExactReachedBy", fn := fun _ => fun
  | [d1, d2, d3] => { results := [.lit (.bool false)], args := [d1, d2, d3] }
  | _ => none }
def FnExactReachedByWrongFalsely : Prop := fnExactReachedByRow.holds Try.pinned (OpenSpec.ofChange fnExactReachedByWrong)

/- THE SECOND FORM. 'bulk': how many values and letters a reading holds, each counted each time it is reached (what is shared counts as often as it is met; a slice's spare places count too). A statement '..UptoSaid' is the law's where the arguments, and the package variables that the reading takes, are together of bulk at most 1048576: NARROWER than '..Said'. Prove '..Said' where nothing that the law and all that it calls make is longer than what came in: it says more and counts as full. Else prove '..UptoSaid'. A law counts once. -/
mutual
def uptoBulk {H : Type} : DataW H → Nat
  | .lit (.string bytes) => bytes.length + 1
  | .lit _ => 1
  | .nil => 1
  | .ptr d => uptoBulk d + 1
  | .slice elems spare => uptoBulkAll elems + uptoBulkAll spare + 1
  | .agg parts => uptoBulkAll parts + 1
  | .iface _ d => uptoBulk d + 1
  | .map entries => uptoBulkEntries entries + 1
  | .held _ => 1
def uptoBulkAll {H : Type} : List (DataW H) → Nat
  | [] => 0
  | d :: r => uptoBulk d + uptoBulkAll r
def uptoBulkEntries {H : Type} : List (Lit × DataW H) → Nat
  | [] => 0
  | x :: r => uptoBulkEntry x + uptoBulkEntries r
def uptoBulkEntry {H : Type} : Lit × DataW H → Nat
  | (.string bytes, d) => bytes.length + uptoBulk d + 1
  | (_, d) => uptoBulk d + 1
 end
def uptoSmall : (H : Type) → List (DataW H) → Bool := fun _ ds => decide (uptoBulkAll ds ≤ 1048576)
def OpenSpec.upto (s : _root_.Go.ChangeSpec) : _root_.Go.OpenSpec := { _root_.Go.OpenSpec.ofChange s with cond := some uptoSmall }

/-- 'laws.FnExactIsPalindrome', WHERE WHAT IT READS IS OF BULK AT MOST 1048576: true; the input reads as it did. -/
def fnExactIsPalindromeUptoRow : OpenClaim := { program := "ytfpjjjdiieplkaa", sum := "f3f483f0d5d3d678be9ba7ddb9070f7b56a3c2f21a66582e15244d3d499d2968", func := "loop.example/g00595/laws.FnExactIsPalindrome", spec := "fnExactIsPalindrome", apart := false, narrowed := true }
def FnExactIsPalindromeUptoSaid : Prop := fnExactIsPalindromeUptoRow.holds Try.pinned (OpenSpec.upto fnExactIsPalindromeSpec)

/-- 'laws.FnExactMultiplyLists', WHERE WHAT IT READS IS OF BULK AT MOST 1048576: true; the input reads as it did. -/
def fnExactMultiplyListsUptoRow : OpenClaim := { program := "ytfpjjjdiieplkaa", sum := "f3f483f0d5d3d678be9ba7ddb9070f7b56a3c2f21a66582e15244d3d499d2968", func := "loop.example/g00595/laws.FnExactMultiplyLists", spec := "fnExactMultiplyLists", apart := false, narrowed := true }
def FnExactMultiplyListsUptoSaid : Prop := fnExactMultiplyListsUptoRow.holds Try.pinned (OpenSpec.upto fnExactMultiplyListsSpec)

/-- 'laws.FnExactSeriesFrom', WHERE WHAT IT READS IS OF BULK AT MOST 1048576: true; the input reads as it did. -/
def fnExactSeriesFromUptoRow : OpenClaim := { program := "ytfpjjjdiieplkaa", sum := "f3f483f0d5d3d678be9ba7ddb9070f7b56a3c2f21a66582e15244d3d499d2968", func := "loop.example/g00595/laws.FnExactSeriesFrom", spec := "fnExactSeriesFrom", apart := false, narrowed := true }
def FnExactSeriesFromUptoSaid : Prop := fnExactSeriesFromUptoRow.holds Try.pinned (OpenSpec.upto fnExactSeriesFromSpec)

/-- 'laws.FnExactDistanceOf', WHERE WHAT IT READS IS OF BULK AT MOST 1048576: true; the input reads as it did. -/
def fnExactDistanceOfUptoRow : OpenClaim := { program := "ytfpjjjdiieplkaa", sum := "f3f483f0d5d3d678be9ba7ddb9070f7b56a3c2f21a66582e15244d3d499d2968", func := "loop.example/g00595/laws.FnExactDistanceOf", spec := "fnExactDistanceOf", apart := false, narrowed := true }
def FnExactDistanceOfUptoSaid : Prop := fnExactDistanceOfUptoRow.holds Try.pinned (OpenSpec.upto fnExactDistanceOfSpec)

/-- 'laws.FnExactApplyRelation', WHERE WHAT IT READS IS OF BULK AT MOST 1048576: true; the input reads as it did. -/
def fnExactApplyRelationUptoRow : OpenClaim := { program := "ytfpjjjdiieplkaa", sum := "f3f483f0d5d3d678be9ba7ddb9070f7b56a3c2f21a66582e15244d3d499d2968", func := "loop.example/g00595/laws.FnExactApplyRelation", spec := "fnExactApplyRelation", apart := false, narrowed := true }
def FnExactApplyRelationUptoSaid : Prop := fnExactApplyRelationUptoRow.holds Try.pinned (OpenSpec.upto fnExactApplyRelationSpec)

/-- 'laws.FnExactReachedBy', WHERE WHAT IT READS IS OF BULK AT MOST 1048576: true; the input reads as it did. -/
def fnExactReachedByUptoRow : OpenClaim := { program := "ytfpjjjdiieplkaa", sum := "f3f483f0d5d3d678be9ba7ddb9070f7b56a3c2f21a66582e15244d3d499d2968", func := "loop.example/g00595/laws.FnExactReachedBy", spec := "fnExactReachedBy", unfollowed := true, recurses := true, apart := false, narrowed := true }
def FnExactReachedByUptoSaid : Prop := fnExactReachedByUptoRow.holds Try.pinned (OpenSpec.upto fnExactReachedBySpec)

end Rows
end Go.Proofs.Ytfpjjjdiieplkaa
