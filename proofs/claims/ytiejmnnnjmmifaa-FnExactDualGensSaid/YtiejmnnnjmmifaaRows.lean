/-
  No cell of these rows narrows 'for every input' (looked for: loops, veiled, ifaces, maps, wideKeys, modest, calm, conditions, laid).
  DERIVED. THE GIVEN ROWS OF THIS SEAT. 12 by the template 'for every input the law returns true; each argument reads behind the call as it read before'; 0 by the template 'total and deterministic' (their statements: YtiejmnnnjmmifaaTotals.lean).
  GIVEN WITH THE SEED: the statements are not yours to turn. If you find one false, say at which input.
  Laid BY PROGRAM, IN A SANDBOX (cutbox-rows.mjs): the forced cells as the released guide's own fill.sh prints them over the translation b1de753e5efc8aaa… (all of the seat's roots in one cut). By AI agents, Wed Nov 11 2026. No macro, syntax, notation, axiom, sorry.
-/
import Derived.Test.YtiejmnnnjmmifaaChecked
import GoSem.Claim
import GoSem.ClaimJoined
import GoSem.ClaimMapViews
import Derived.JoinedTies
import Derived.KernelRfl
namespace Go.Proofs.Ytiejmnnnjmmifaa
/- THE CELL 'sum', in the pinned program and in every row, IS THE sha256 OF THE DUMP (.gsa) THAT YtiejmnnnjmmifaaProg.lean LOADS. Nothing in Lean hashes anything: it is a label: what it is worth is what the hold of that sum in a sandbox is worth. -/
noncomputable def Try.pinned : Pinned := { name := "ytiejmnnnjmmifaa", sum := "b1de753e5efc8aaa6f5367463db70c2e76aef9d59332ca875a33c0d02ffa5b1e", checked := Try.checked }
namespace Rows
def none {H : Type} : Left H := { results := [], args := [] }

/-- 'laws.FnExactMaximalOf': WHATEVER THE INPUT: true; the input reads as it did. -/
def fnExactMaximalOfSpec : ChangeSpec := { name := "fnExactMaximalOf", fn := fun _ => fun
  | [d1, d2] => { results := [.lit (.bool true)], args := [d1, d2] }
  | _ => none }
def fnExactMaximalOfRow : OpenClaim := { program := "ytiejmnnnjmmifaa", sum := "b1de753e5efc8aaa6f5367463db70c2e76aef9d59332ca875a33c0d02ffa5b1e", func := "loop.example/g00595/laws.FnExactMaximalOf", spec := "fnExactMaximalOf", unfollowed := true, recurses := true, apart := false }
def FnExactMaximalOfSaid : Prop := fnExactMaximalOfRow.holds Try.pinned (OpenSpec.ofChange fnExactMaximalOfSpec)

/-- ITS FALSE NEIGHBOUR: 'it returns false'. Refute it at one input. -/
def fnExactMaximalOfWrong : ChangeSpec := { name := "fnExactMaximalOf", fn := fun _ => fun
  | [d1, d2] => { results := [.lit (.bool false)], args := [d1, d2] }
  | _ => none }
def FnExactMaximalOfWrongFalsely : Prop := fnExactMaximalOfRow.holds Try.pinned (OpenSpec.ofChange fnExactMaximalOfWrong)

/-- 'laws.FnExactMinimalIn': WHATEVER THE INPUT: true; the input reads as it did. -/
def fnExactMinimalInSpec : ChangeSpec := { name := "fnExactMinimalIn", fn := fun _ => fun
  | [d1, d2] => { results := [.lit (.bool true)], args := [d1, d2] }
  | _ => none }
def fnExactMinimalInRow : OpenClaim := { program := "ytiejmnnnjmmifaa", sum := "b1de753e5efc8aaa6f5367463db70c2e76aef9d59332ca875a33c0d02ffa5b1e", func := "loop.example/g00595/laws.FnExactMinimalIn", spec := "fnExactMinimalIn", unfollowed := true, recurses := true, apart := false }
def FnExactMinimalInSaid : Prop := fnExactMinimalInRow.holds Try.pinned (OpenSpec.ofChange fnExactMinimalInSpec)

/-- ITS FALSE NEIGHBOUR: 'it returns false'. Refute it at one input. -/
def fnExactMinimalInWrong : ChangeSpec := { name := "fnExactMinimalIn", fn := fun _ => fun
  | [d1, d2] => { results := [.lit (.bool false)], args := [d1, d2] }
  | _ => none }
def FnExactMinimalInWrongFalsely : Prop := fnExactMinimalInRow.holds Try.pinned (OpenSpec.ofChange fnExactMinimalInWrong)

/-- 'laws.FnExactLengthsOf': WHATEVER THE INPUT: true; the input reads as it did. -/
def fnExactLengthsOfSpec : ChangeSpec := { name := "fnExactLengthsOf", fn := fun _ => fun
  | [d1, d2] => { results := [.lit (.bool true)], args := [d1, d2] }
  | _ => none }
def fnExactLengthsOfRow : OpenClaim := { program := "ytiejmnnnjmmifaa", sum := "b1de753e5efc8aaa6f5367463db70c2e76aef9d59332ca875a33c0d02ffa5b1e", func := "loop.example/g00595/laws.FnExactLengthsOf", spec := "fnExactLengthsOf", recurses := true, apart := false }
def FnExactLengthsOfSaid : Prop := fnExactLengthsOfRow.holds Try.pinned (OpenSpec.ofChange fnExactLengthsOfSpec)

/-- ITS FALSE NEIGHBOUR: 'it returns false'. Refute it at one input. -/
def fnExactLengthsOfWrong : ChangeSpec := { name := "fnExactLengthsOf", fn := fun _ => fun
  | [d1, d2] => { results := [.lit (.bool false)], args := [d1, d2] }
  | _ => none }
def FnExactLengthsOfWrongFalsely : Prop := fnExactLengthsOfRow.holds Try.pinned (OpenSpec.ofChange fnExactLengthsOfWrong)

/-- 'laws.FnExactIdealGens': WHATEVER THE INPUT: true; the input reads as it did. -/
def fnExactIdealGensSpec : ChangeSpec := { name := "fnExactIdealGens", fn := fun _ => fun
  | [d1, d2] => { results := [.lit (.bool true)], args := [d1, d2] }
  | _ => none }
def fnExactIdealGensRow : OpenClaim := { program := "ytiejmnnnjmmifaa", sum := "b1de753e5efc8aaa6f5367463db70c2e76aef9d59332ca875a33c0d02ffa5b1e", func := "loop.example/g00595/laws.FnExactIdealGens", spec := "fnExactIdealGens", unfollowed := true, recurses := true, apart := false }
def FnExactIdealGensSaid : Prop := fnExactIdealGensRow.holds Try.pinned (OpenSpec.ofChange fnExactIdealGensSpec)

/-- ITS FALSE NEIGHBOUR: 'it returns false'. Refute it at one input. -/
def fnExactIdealGensWrong : ChangeSpec := { name := "fnExactIdealGens", fn := fun _ => fun
  | [d1, d2] => { results := [.lit (.bool false)], args := [d1, d2] }
  | _ => none }
def FnExactIdealGensWrongFalsely : Prop := fnExactIdealGensRow.holds Try.pinned (OpenSpec.ofChange fnExactIdealGensWrong)

/-- 'laws.FnExactElasticityOf': WHATEVER THE INPUT: true; the input reads as it did. -/
def fnExactElasticityOfSpec : ChangeSpec := { name := "fnExactElasticityOf", fn := fun _ => fun
  | [d1, d2] => { results := [.lit (.bool true)], args := [d1, d2] }
  | _ => none }
def fnExactElasticityOfRow : OpenClaim := { program := "ytiejmnnnjmmifaa", sum := "b1de753e5efc8aaa6f5367463db70c2e76aef9d59332ca875a33c0d02ffa5b1e", func := "loop.example/g00595/laws.FnExactElasticityOf", spec := "fnExactElasticityOf", recurses := true, apart := false }
def FnExactElasticityOfSaid : Prop := fnExactElasticityOfRow.holds Try.pinned (OpenSpec.ofChange fnExactElasticityOfSpec)

/-- ITS FALSE NEIGHBOUR: 'it returns false'. Refute it at one input. -/
def fnExactElasticityOfWrong : ChangeSpec := { name := "fnExactElasticityOf", fn := fun _ => fun
  | [d1, d2] => { results := [.lit (.bool false)], args := [d1, d2] }
  | _ => none }
def FnExactElasticityOfWrongFalsely : Prop := fnExactElasticityOfRow.holds Try.pinned (OpenSpec.ofChange fnExactElasticityOfWrong)

/-- 'laws.FnExactDeltaOf': WHATEVER THE INPUT: true; the input reads as it did. -/
def fnExactDeltaOfSpec : ChangeSpec := { name := "fnExactDeltaOf", fn := fun _ => fun
  | [d1, d2] => { results := [.lit (.bool true)], args := [d1, d2] }
  | _ => none }
def fnExactDeltaOfRow : OpenClaim := { program := "ytiejmnnnjmmifaa", sum := "b1de753e5efc8aaa6f5367463db70c2e76aef9d59332ca875a33c0d02ffa5b1e", func := "loop.example/g00595/laws.FnExactDeltaOf", spec := "fnExactDeltaOf", recurses := true, apart := false }
def FnExactDeltaOfSaid : Prop := fnExactDeltaOfRow.holds Try.pinned (OpenSpec.ofChange fnExactDeltaOfSpec)

/-- ITS FALSE NEIGHBOUR: 'it returns false'. Refute it at one input. -/
def fnExactDeltaOfWrong : ChangeSpec := { name := "fnExactDeltaOf", fn := fun _ => fun
  | [d1, d2] => { results := [.lit (.bool false)], args := [d1, d2] }
  | _ => none }
def FnExactDeltaOfWrongFalsely : Prop := fnExactDeltaOfRow.holds Try.pinned (OpenSpec.ofChange fnExactDeltaOfWrong)

/-- 'laws.FnExactIdealSum': WHATEVER THE INPUT: true; the input reads as it did. -/
def fnExactIdealSumSpec : ChangeSpec := { name := "fnExactIdealSum", fn := fun _ => fun
  | [d1, d2, d3] => { results := [.lit (.bool true)], args := [d1, d2, d3] }
  | _ => none }
def fnExactIdealSumRow : OpenClaim := { program := "ytiejmnnnjmmifaa", sum := "b1de753e5efc8aaa6f5367463db70c2e76aef9d59332ca875a33c0d02ffa5b1e", func := "loop.example/g00595/laws.FnExactIdealSum", spec := "fnExactIdealSum", unfollowed := true, recurses := true, apart := false }
def FnExactIdealSumSaid : Prop := fnExactIdealSumRow.holds Try.pinned (OpenSpec.ofChange fnExactIdealSumSpec)

/-- ITS FALSE NEIGHBOUR: 'it returns false'. Refute it at one input. -/
def fnExactIdealSumWrong : ChangeSpec := { name := "fnExactIdealSum", fn := fun _ => fun
  | [d1, d2, d3] => { results := [.lit (.bool false)], args := [d1, d2, d3] }
  | _ => none }
def FnExactIdealSumWrongFalsely : Prop := fnExactIdealSumRow.holds Try.pinned (OpenSpec.ofChange fnExactIdealSumWrong)

/-- 'laws.FnExactExceedingOf': WHATEVER THE INPUT: true; the input reads as it did. -/
def fnExactExceedingOfSpec : ChangeSpec := { name := "fnExactExceedingOf", fn := fun _ => fun
  | [d1, d2] => { results := [.lit (.bool true)], args := [d1, d2] }
  | _ => none }
def fnExactExceedingOfRow : OpenClaim := { program := "ytiejmnnnjmmifaa", sum := "b1de753e5efc8aaa6f5367463db70c2e76aef9d59332ca875a33c0d02ffa5b1e", func := "loop.example/g00595/laws.FnExactExceedingOf", spec := "fnExactExceedingOf", unfollowed := true, recurses := true, apart := false }
def FnExactExceedingOfSaid : Prop := fnExactExceedingOfRow.holds Try.pinned (OpenSpec.ofChange fnExactExceedingOfSpec)

/-- ITS FALSE NEIGHBOUR: 'it returns false'. Refute it at one input. -/
def fnExactExceedingOfWrong : ChangeSpec := { name := "fnExactExceedingOf", fn := fun _ => fun
  | [d1, d2] => { results := [.lit (.bool false)], args := [d1, d2] }
  | _ => none }
def FnExactExceedingOfWrongFalsely : Prop := fnExactExceedingOfRow.holds Try.pinned (OpenSpec.ofChange fnExactExceedingOfWrong)

/-- 'laws.FnExactDeltaSet': WHATEVER THE INPUT: true; the input reads as it did. -/
def fnExactDeltaSetSpec : ChangeSpec := { name := "fnExactDeltaSet", fn := fun _ => fun
  | [d1, d2] => { results := [.lit (.bool true)], args := [d1, d2] }
  | _ => none }
def fnExactDeltaSetRow : OpenClaim := { program := "ytiejmnnnjmmifaa", sum := "b1de753e5efc8aaa6f5367463db70c2e76aef9d59332ca875a33c0d02ffa5b1e", func := "loop.example/g00595/laws.FnExactDeltaSet", spec := "fnExactDeltaSet", recurses := true, apart := false }
def FnExactDeltaSetSaid : Prop := fnExactDeltaSetRow.holds Try.pinned (OpenSpec.ofChange fnExactDeltaSetSpec)

/-- ITS FALSE NEIGHBOUR: 'it returns false'. Refute it at one input. -/
def fnExactDeltaSetWrong : ChangeSpec := { name := "fnExactDeltaSet", fn := fun _ => fun
  | [d1, d2] => { results := [.lit (.bool false)], args := [d1, d2] }
  | _ => none }
def FnExactDeltaSetWrongFalsely : Prop := fnExactDeltaSetRow.holds Try.pinned (OpenSpec.ofChange fnExactDeltaSetWrong)

/-- 'laws.FnExactCanonicalGens': WHATEVER THE INPUT: true; the input reads as it did. -/
def fnExactCanonicalGensSpec : ChangeSpec := { name := "fnExactCanonicalGens", fn := fun _ => fun
  | [d] => { results := [.lit (.bool true)], args := [d] }
  | _ => none }
def fnExactCanonicalGensRow : OpenClaim := { program := "ytiejmnnnjmmifaa", sum := "b1de753e5efc8aaa6f5367463db70c2e76aef9d59332ca875a33c0d02ffa5b1e", func := "loop.example/g00595/laws.FnExactCanonicalGens", spec := "fnExactCanonicalGens", unfollowed := true, recurses := true, apart := false }
def FnExactCanonicalGensSaid : Prop := fnExactCanonicalGensRow.holds Try.pinned (OpenSpec.ofChange fnExactCanonicalGensSpec)

/-- ITS FALSE NEIGHBOUR: 'it returns false'. Refute it at one input. -/
def fnExactCanonicalGensWrong : ChangeSpec := { name := "fnExactCanonicalGens", fn := fun _ => fun
  | [d] => { results := [.lit (.bool false)], args := [d] }
  | _ => none }
def FnExactCanonicalGensWrongFalsely : Prop := fnExactCanonicalGensRow.holds Try.pinned (OpenSpec.ofChange fnExactCanonicalGensWrong)

/-- 'laws.FnExactDualGens': WHATEVER THE INPUT: true; the input reads as it did. -/
def fnExactDualGensSpec : ChangeSpec := { name := "fnExactDualGens", fn := fun _ => fun
  | [d1, d2] => { results := [.lit (.bool true)], args := [d1, d2] }
  | _ => none }
def fnExactDualGensRow : OpenClaim := { program := "ytiejmnnnjmmifaa", sum := "b1de753e5efc8aaa6f5367463db70c2e76aef9d59332ca875a33c0d02ffa5b1e", func := "loop.example/g00595/laws.FnExactDualGens", spec := "fnExactDualGens", unfollowed := true, recurses := true, apart := false }
def FnExactDualGensSaid : Prop := fnExactDualGensRow.holds Try.pinned (OpenSpec.ofChange fnExactDualGensSpec)

/-- ITS FALSE NEIGHBOUR: 'it returns false'. Refute it at one input. -/
def fnExactDualGensWrong : ChangeSpec := { name := "fnExactDualGens", fn := fun _ => fun
  | [d1, d2] => { results := [.lit (.bool false)], args := [d1, d2] }
  | _ => none }
def FnExactDualGensWrongFalsely : Prop := fnExactDualGensRow.holds Try.pinned (OpenSpec.ofChange fnExactDualGensWrong)

/-- 'laws.FnExactMeetOf': WHATEVER THE INPUT: true; the input reads as it did. -/
def fnExactMeetOfSpec : ChangeSpec := { name := "fnExactMeetOf", fn := fun _ => fun
  | [d1, d2] => { results := [.lit (.bool true)], args := [d1, d2] }
  | _ => none }
def fnExactMeetOfRow : OpenClaim := { program := "ytiejmnnnjmmifaa", sum := "b1de753e5efc8aaa6f5367463db70c2e76aef9d59332ca875a33c0d02ffa5b1e", func := "loop.example/g00595/laws.FnExactMeetOf", spec := "fnExactMeetOf", recurses := true, apart := false }
def FnExactMeetOfSaid : Prop := fnExactMeetOfRow.holds Try.pinned (OpenSpec.ofChange fnExactMeetOfSpec)

/-- ITS FALSE NEIGHBOUR: 'it returns false'. Refute it at one input. -/
def fnExactMeetOfWrong : ChangeSpec := { name := "fnExactMeetOf", fn := fun _ => fun
  | [d1, d2] => { results := [.lit (.bool false)], args := [d1, d2] }
  | _ => none }
def FnExactMeetOfWrongFalsely : Prop := fnExactMeetOfRow.holds Try.pinned (OpenSpec.ofChange fnExactMeetOfWrong)

/- THE SECOND FORM. 'bulk': how many values and letters a reading holds, each counted each time it is reached (what is shared counts as often as it is met; a slice's spare places count too). A statement '..UptoSaid' is the law's where the arguments, and the package variables that the reading takes, are together of bulk at most 1048576: NARROWER than '..Said'. Prove '..Said' where nothing that the law and all that it calls make is longer than what came in: it says more and counts as full. Else prove '..UptoSaid'. A law counts once. -/
mutual
def uptoBulk {H : Type} : DataW H → Nat
  | .lit (.string bytes) => bytes.length + 1
  | .lit _ => 1
  | .nil => 1
  | .ptr d => uptoBulk d + 1
  | .slice elems spare => uptoBulkAll elems + uptoBulkAll spare + 1
  | .agg parts => uptoBulkAll parts + 1
  | .iface _ d => uptoBulk d + 1
  | .map entries => uptoBulkEntries entries + 1
  | .held _ => 1
def uptoBulkAll {H : Type} : List (DataW H) → Nat
  | [] => 0
  | d :: r => uptoBulk d + uptoBulkAll r
def uptoBulkEntries {H : Type} : List (Lit × DataW H) → Nat
  | [] => 0
  | x :: r => uptoBulkEntry x + uptoBulkEntries r
def uptoBulkEntry {H : Type} : Lit × DataW H → Nat
  | (.string bytes, d) => bytes.length + uptoBulk d + 1
  | (_, d) => uptoBulk d + 1
 end
def uptoSmall : (H : Type) → List (DataW H) → Bool := fun _ ds => decide (uptoBulkAll ds ≤ 1048576)
def OpenSpec.upto (s : _root_.Go.ChangeSpec) : _root_.Go.OpenSpec := { _root_.Go.OpenSpec.ofChange s with cond := some uptoSmall }

/-- 'laws.FnExactMaximalOf', WHERE WHAT IT READS IS OF BULK AT MOST 1048576: true; the input reads as it did. -/
def fnExactMaximalOfUptoRow : OpenClaim := { program := "ytiejmnnnjmmifaa", sum := "b1de753e5efc8aaa6f5367463db70c2e76aef9d59332ca875a33c0d02ffa5b1e", func := "loop.example/g00595/laws.FnExactMaximalOf", spec := "fnExactMaximalOf", unfollowed := true, recurses := true, apart := false, narrowed := true }
def FnExactMaximalOfUptoSaid : Prop := fnExactMaximalOfUptoRow.holds Try.pinned (OpenSpec.upto fnExactMaximalOfSpec)

/-- 'laws.FnExactMinimalIn', WHERE WHAT IT READS IS OF BULK AT MOST 1048576: true; the input reads as it did. -/
def fnExactMinimalInUptoRow : OpenClaim := { program := "ytiejmnnnjmmifaa", sum := "b1de753e5efc8aaa6f5367463db70c2e76aef9d59332ca875a33c0d02ffa5b1e", func := "loop.example/g00595/laws.FnExactMinimalIn", spec := "fnExactMinimalIn", unfollowed := true, recurses := true, apart := false, narrowed := true }
def FnExactMinimalInUptoSaid : Prop := fnExactMinimalInUptoRow.holds Try.pinned (OpenSpec.upto fnExactMinimalInSpec)

/-- 'laws.FnExactLengthsOf', WHERE WHAT IT READS IS OF BULK AT MOST 1048576: true; the input reads as it did. -/
def fnExactLengthsOfUptoRow : OpenClaim := { program := "ytiejmnnnjmmifaa", sum := "b1de753e5efc8aaa6f5367463db70c2e76aef9d59332ca875a33c0d02ffa5b1e", func := "loop.example/g00595/laws.FnExactLengthsOf", spec := "fnExactLengthsOf", recurses := true, apart := false, narrowed := true }
def FnExactLengthsOfUptoSaid : Prop := fnExactLengthsOfUptoRow.holds Try.pinned (OpenSpec.upto fnExactLengthsOfSpec)

/-- 'laws.FnExactIdealGens', WHERE WHAT IT READS IS OF BULK AT MOST 1048576: true; the input reads as it did. -/
def fnExactIdealGensUptoRow : OpenClaim := { program := "ytiejmnnnjmmifaa", sum := "b1de753e5efc8aaa6f5367463db70c2e76aef9d59332ca875a33c0d02ffa5b1e", func := "loop.example/g00595/laws.FnExactIdealGens", spec := "fnExactIdealGens", unfollowed := true, recurses := true, apart := false, narrowed := true }
def FnExactIdealGensUptoSaid : Prop := fnExactIdealGensUptoRow.holds Try.pinned (OpenSpec.upto fnExactIdealGensSpec)

/-- 'laws.FnExactElasticityOf', WHERE WHAT IT READS IS OF BULK AT MOST 1048576: true; the input reads as it did. -/
def fnExactElasticityOfUptoRow : OpenClaim := { program := "ytiejmnnnjmmifaa", sum := "b1de753e5efc8aaa6f5367463db70c2e76aef9d59332ca875a33c0d02ffa5b1e", func := "loop.example/g00595/laws.FnExactElasticityOf", spec := "fnExactElasticityOf", recurses := true, apart := false, narrowed := true }
def FnExactElasticityOfUptoSaid : Prop := fnExactElasticityOfUptoRow.holds Try.pinned (OpenSpec.upto fnExactElasticityOfSpec)

/-- 'laws.FnExactDeltaOf', WHERE WHAT IT READS IS OF BULK AT MOST 1048576: true; the input reads as it did. -/
def fnExactDeltaOfUptoRow : OpenClaim := { program := "ytiejmnnnjmmifaa", sum := "b1de753e5efc8aaa6f5367463db70c2e76aef9d59332ca875a33c0d02ffa5b1e", func := "loop.example/g00595/laws.FnExactDeltaOf", spec := "fnExactDeltaOf", recurses := true, apart := false, narrowed := true }
def FnExactDeltaOfUptoSaid : Prop := fnExactDeltaOfUptoRow.holds Try.pinned (OpenSpec.upto fnExactDeltaOfSpec)

/-- 'laws.FnExactIdealSum', WHERE WHAT IT READS IS OF BULK AT MOST 1048576: true; the input reads as it did. -/
def fnExactIdealSumUptoRow : OpenClaim := { program := "ytiejmnnnjmmifaa", sum := "b1de753e5efc8aaa6f5367463db70c2e76aef9d59332ca875a33c0d02ffa5b1e", func := "loop.example/g00595/laws.FnExactIdealSum", spec := "fnExactIdealSum", unfollowed := true, recurses := true, apart := false, narrowed := true }
def FnExactIdealSumUptoSaid : Prop := fnExactIdealSumUptoRow.holds Try.pinned (OpenSpec.upto fnExactIdealSumSpec)

/-- 'laws.FnExactExceedingOf', WHERE WHAT IT READS IS OF BULK AT MOST 1048576: true; the input reads as it did. -/
def fnExactExceedingOfUptoRow : OpenClaim := { program := "ytiejmnnnjmmifaa", sum := "b1de753e5efc8aaa6f5367463db70c2e76aef9d59332ca875a33c0d02ffa5b1e", func := "loop.example/g00595/laws.FnExactExceedingOf", spec := "fnExactExceedingOf", unfollowed := true, recurses := true, apart := false, narrowed := true }
def FnExactExceedingOfUptoSaid : Prop := fnExactExceedingOfUptoRow.holds Try.pinned (OpenSpec.upto fnExactExceedingOfSpec)

/-- 'laws.FnExactDeltaSet', WHERE WHAT IT READS IS OF BULK AT MOST 1048576: true; the input reads as it did. -/
def fnExactDeltaSetUptoRow : OpenClaim := { program := "ytiejmnnnjmmifaa", sum := "b1de753e5efc8aaa6f5367463db70c2e76aef9d59332ca875a33c0d02ffa5b1e", func := "loop.example/g00595/laws.FnExactDeltaSet", spec := "fnExactDeltaSet", recurses := true, apart := false, narrowed := true }
def FnExactDeltaSetUptoSaid : Prop := fnExactDeltaSetUptoRow.holds Try.pinned (OpenSpec.upto fnExactDeltaSetSpec)

/-- 'laws.FnExactCanonicalGens', WHERE WHAT IT READS IS OF BULK AT MOST 1048576: true; the input reads as it did. -/
def fnExactCanonicalGensUptoRow : OpenClaim := { program := "ytiejmnnnjmmifaa", sum := "b1de753e5efc8aaa6f5367463db70c2e76aef9d59332ca875a33c0d02ffa5b1e", func := "loop.example/g00595/laws.FnExactCanonicalGens", spec := "fnExactCanonicalGens", unfollowed := true, recurses := true, apart := false, narrowed := true }
def FnExactCanonicalGensUptoSaid : Prop := fnExactCanonicalGensUptoRow.holds Try.pinned (OpenSpec.upto fnExactCanonicalGensSpec)

/-- 'laws.FnExactDualGens', WHERE WHAT IT READS IS OF BULK AT MOST 1048576: true; the input reads as it did. -/
def fnExactDualGensUptoRow : OpenClaim := { program := "ytiejmnnnjmmifaa", sum := "b1de753e5efc8aaa6f5367463db70c2e76aef9d59332ca875a33c0d02ffa5b1e", func := "loop.example/g00595/laws.FnExactDualGens", spec := "fnExactDualGens", unfollowed := true, recurses := true, apart := false, narrowed := true }
def FnExactDualGensUptoSaid : Prop := fnExactDualGensUptoRow.holds Try.pinned (OpenSpec.upto fnExactDualGensSpec)

/-- 'laws.FnExactMeetOf', WHERE WHAT IT READS IS OF BULK AT MOST 1048576: true; the input reads as it did. -/
def fnExactMeetOfUptoRow : OpenClaim := { program := "ytiejmnnnjmmifaa", sum := "b1de753e5efc8aaa6f5367463db70c2e76aef9d59332ca875a33c0d02ffa5b1e", func := "loop.example/g00595/laws.FnExactMeetOf", spec := "fnExactMeetOf", recurses := true, apart := false, narrowed := true }
def FnExactMeetOfUptoSaid : Prop := fnExactMeetOfUptoRow.holds Try.pinned (OpenSpec.upto fnExactMeetOfSpec)

end Rows
end Go.Proofs.Ytiejmnnnjmmifaa
