/-
  No cell of these rows narrows 'for every input' (looked for: loops, veiled, ifaces, maps, wideKeys, modest, calm, conditions, laid).
  DERIVED. THE GIVEN ROWS OF THIS SEAT. 3 by the template 'for every input the law returns true; each argument reads behind the call as it read before'; 0 by the template 'total and deterministic' (their statements: YtlhcpbpcdicleaaTotals.lean).
  GIVEN WITH THE SEED: the statements are not yours to turn. If you find one false, say at which input.
  Laid BY PROGRAM, IN A SANDBOX (cutbox-rows.mjs): the forced cells as the released guide's own fill.sh prints them over the translation d9a942fa496440ad… (all of the seat's roots in one cut). By AI agents, Wed Nov 11 2026. No macro, syntax, notation, axiom, sorry.
-/
import Derived.Test.YtlhcpbpcdicleaaChecked
import GoSem.Claim
import GoSem.ClaimJoined
import GoSem.ClaimMapViews
import Derived.JoinedTies
import Derived.KernelRfl
namespace Go.Proofs.Ytlhcpbpcdicleaa
/- THE CELL 'sum', in the pinned program and in every row, IS THE sha256 OF THE DUMP (.gsa) THAT YtlhcpbpcdicleaaProg.lean LOADS. Nothing in Lean hashes anything: it is a label: what it is worth is what the hold of that sum in a sandbox is worth. -/
noncomputable def Try.pinned : Pinned := { name := "ytlhcpbpcdicleaa", sum := "d9a942fa496440add98a941dcf2db6f779ac25aec1e6585ec1625b5e3ed3df92", checked := Try.checked }
namespace Rows
def none {H : Type} : Left H := { results := [], args := [] }

/-- 'laws.FnExactRemoveGenerator': WHATEVER THE INPUT: true; the input reads as it did. -/
def fnExactRemoveGeneratorSpec : ChangeSpec := { name := "fnExactRemoveGenerator", fn := fun _ => fun
  | [d1, d2] => { results := [.lit (.bool true)], args := [d1, d2] }
  | _ => none }
def fnExactRemoveGeneratorRow : OpenClaim := { program := "ytlhcpbpcdicleaa", sum := "d9a942fa496440add98a941dcf2db6f779ac25aec1e6585ec1625b5e3ed3df92", func := "loop.example/g00595/laws.FnExactRemoveGenerator", spec := "fnExactRemoveGenerator", recurses := true, apart := false }
def FnExactRemoveGeneratorSaid : Prop := fnExactRemoveGeneratorRow.holds Try.pinned (OpenSpec.ofChange fnExactRemoveGeneratorSpec)

/-- ITS FALSE NEIGHBOUR: 'it returns false'. Refute it at one input. -/
def fnExactRemoveGeneratorWrong : ChangeSpec := { name := "fnExactRemoveGenerator", fn := fun _ => fun
  | [d1, d2] => { results := [.lit (.bool false)], args := [d1, d2] }
  | _ => none }
def FnExactRemoveGeneratorWrongFalsely : Prop := fnExactRemoveGeneratorRow.holds Try.pinned (OpenSpec.ofChange fnExactRemoveGeneratorWrong)

/-- 'laws.FnExactChildrenOf': WHATEVER THE INPUT: true; the input reads as it did. -/
def fnExactChildrenOfSpec : ChangeSpec := { name := "fnExactChildrenOf", fn := fun _ => fun
  | [d] => { results := [.lit (.bool true)], args := [d] }
  | _ => none }
def fnExactChildrenOfRow : OpenClaim := { program := "ytlhcpbpcdicleaa", sum := "d9a942fa496440add98a941dcf2db6f779ac25aec1e6585ec1625b5e3ed3df92", func := "loop.example/g00595/laws.FnExactChildrenOf", spec := "fnExactChildrenOf", recurses := true, apart := false }
def FnExactChildrenOfSaid : Prop := fnExactChildrenOfRow.holds Try.pinned (OpenSpec.ofChange fnExactChildrenOfSpec)

/-- ITS FALSE NEIGHBOUR: 'it returns false'. Refute it at one input. -/
def fnExactChildrenOfWrong : ChangeSpec := { name := "fnExactChildrenOf", fn := fun _ => fun
  | [d] => { results := [.lit (.bool false)], args := [d] }
  | _ => none }
def FnExactChildrenOfWrongFalsely : Prop := fnExactChildrenOfRow.holds Try.pinned (OpenSpec.ofChange fnExactChildrenOfWrong)

/-- 'laws.FnExactLargerSemigroups': WHATEVER THE INPUT: true; the input reads as it did. -/
def fnExactLargerSemigroupsSpec : ChangeSpec := { name := "fnExactLargerSemigroups", fn := fun _ => fun
  | [d] => { results := [.lit (.bool true)], args := [d] }
  | _ => none }
def fnExactLargerSemigroupsRow : OpenClaim := { program := "ytlhcpbpcdicleaa", sum := "d9a942fa496440add98a941dcf2db6f779ac25aec1e6585ec1625b5e3ed3df92", func := "loop.example/g00595/laws.FnExactLargerSemigroups", spec := "fnExactLargerSemigroups", unfollowed := true, recurses := true, apart := false }
def FnExactLargerSemigroupsSaid : Prop := fnExactLargerSemigroupsRow.holds Try.pinned (OpenSpec.ofChange fnExactLargerSemigroupsSpec)

/-- ITS FALSE NEIGHBOUR: 'it returns false'. Refute it at one input. -/
def fnExactLargerSemigroupsWrong : ChangeSpec := { name := "fnExactLargerSemigroups", fn := fun _ => fun
  | [d] => { results := [.lit (.bool false)], args := [d] }
  | _ => none }
def FnExactLargerSemigroupsWrongFalsely : Prop := fnExactLargerSemigroupsRow.holds Try.pinned (OpenSpec.ofChange fnExactLargerSemigroupsWrong)

/- THE SECOND FORM. 'bulk': how many values and letters a reading holds, each counted each time it is reached (what is shared counts as often as it is met; a slice's spare places count too). A statement '..UptoSaid' is the law's where the arguments, and the package variables that the reading takes, are together of bulk at most 1048576: NARROWER than '..Said'. Prove '..Said' where nothing that the law and all that it calls make is longer than what came in: it says more and counts as full. Else prove '..UptoSaid'. A law counts once. -/
mutual
def uptoBulk {H : Type} : DataW H → Nat
  | .lit (.string bytes) => bytes.length + 1
  | .lit _ => 1
  | .nil => 1
  | .ptr d => uptoBulk d + 1
  | .slice elems spare => uptoBulkAll elems + uptoBulkAll spare + 1
  | .agg parts => uptoBulkAll parts + 1
  | .iface _ d => uptoBulk d + 1
  | .map entries => uptoBulkEntries entries + 1
  | .held _ => 1
def uptoBulkAll {H : Type} : List (DataW H) → Nat
  | [] => 0
  | d :: r => uptoBulk d + uptoBulkAll r
def uptoBulkEntries {H : Type} : List (Lit × DataW H) → Nat
  | [] => 0
  | x :: r => uptoBulkEntry x + uptoBulkEntries r
def uptoBulkEntry {H : Type} : Lit × DataW H → Nat
  | (.string bytes, d) => bytes.length + uptoBulk d + 1
  | (_, d) => uptoBulk d + 1
 end
def uptoSmall : (H : Type) → List (DataW H) → Bool := fun _ ds => decide (uptoBulkAll ds ≤ 1048576)
def OpenSpec.upto (s : _root_.Go.ChangeSpec) : _root_.Go.OpenSpec := { _root_.Go.OpenSpec.ofChange s with cond := some uptoSmall }

/-- 'laws.FnExactRemoveGenerator', WHERE WHAT IT READS IS OF BULK AT MOST 1048576: true; the input reads as it did. -/
def fnExactRemoveGeneratorUptoRow : OpenClaim := { program := "ytlhcpbpcdicleaa", sum := "d9a942fa496440add98a941dcf2db6f779ac25aec1e6585ec1625b5e3ed3df92", func := "loop.example/g00595/laws.FnExactRemoveGenerator", spec := "fnExactRemoveGenerator", recurses := true, apart := false, narrowed := true }
def FnExactRemoveGeneratorUptoSaid : Prop := fnExactRemoveGeneratorUptoRow.holds Try.pinned (OpenSpec.upto fnExactRemoveGeneratorSpec)

/-- 'laws.FnExactChildrenOf', WHERE WHAT IT READS IS OF BULK AT MOST 1048576: true; the input reads as it did. -/
def fnExactChildrenOfUptoRow : OpenClaim := { program := "ytlhcpbpcdicleaa", sum := "d9a942fa496440add98a941dcf2db6f779ac25aec1e6585ec1625b5e3ed3df92", func := "loop.example/g00595/laws.FnExactChildrenOf", spec := "fnExactChildrenOf", recurses := true, apart := false, narrowed := true }
def FnExactChildrenOfUptoSaid : Prop := fnExactChildrenOfUptoRow.holds Try.pinned (OpenSpec.upto fnExactChildrenOfSpec)

/-- 'laws.FnExactLargerSemigroups', WHERE WHAT IT READS IS OF BULK AT MOST 1048576: true; the input reads as it did. -/
def fnExactLargerSemigroupsUptoRow : OpenClaim := { program := "ytlhcpbpcdicleaa", sum := "d9a942fa496440add98a941dcf2db6f779ac25aec1e6585ec1625b5e3ed3df92", func := "loop.example/g00595/laws.FnExactLargerSemigroups", spec := "fnExactLargerSemigroups", unfollowed := true, recurses := true, apart := false, narrowed := true }
def FnExactLargerSemigroupsUptoSaid : Prop := fnExactLargerSemigroupsUptoRow.holds Try.pinned (OpenSpec.upto fnExactLargerSemigroupsSpec)

end Rows
end Go.Proofs.Ytlhcpbpcdicleaa
