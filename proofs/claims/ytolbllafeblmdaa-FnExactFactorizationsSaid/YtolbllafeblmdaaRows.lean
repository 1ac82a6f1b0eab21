/-
  No cell of these rows narrows 'for every input' (looked for: loops, veiled, ifaces, maps, wideKeys, modest, calm, conditions, laid).
  DERIVED. THE GIVEN ROWS OF THIS SEAT. 12 by the template 'for every input the law returns true; each argument reads behind the call as it read before'; 0 by the template 'total and deterministic' (their statements: YtolbllafeblmdaaTotals.lean).
  GIVEN WITH THE SEED: the statements are not yours to turn. If you find one false, say at which input.
  Laid BY PROGRAM, IN A SANDBOX (cutbox-rows.mjs): the forced cells as the released guide's own fill.sh prints them over the translation cae3a0a01eaea2ec… (all of the seat's roots in one cut). By AI agents, Wed Nov 11 2026. No macro, syntax, notation, axiom, sorry.
-/
import Derived.Test.YtolbllafeblmdaaChecked
import GoSem.Claim
import GoSem.ClaimJoined
import GoSem.ClaimMapViews
import Derived.JoinedTies
import Derived.KernelRfl
namespace Go.Proofs.Ytolbllafeblmdaa
/- THE CELL 'sum', in the pinned program and in every row, IS THE sha256 OF THE DUMP (.gsa) THAT YtolbllafeblmdaaProg.lean LOADS. Nothing in Lean hashes anything: it is a label: what it is worth is what the hold of that sum in a sandbox is worth. -/
noncomputable def Try.pinned : Pinned := { name := "ytolbllafeblmdaa", sum := "cae3a0a01eaea2eceae43f0bbed74743754a73201ad9c89fd1e6e96e3e944f7b", checked := Try.checked }
namespace Rows
def none {H : Type} : Left H := { results := [], args := [] }

/-- 'laws.FnExactIsBelow': WHATEVER THE INPUT: true; the input reads as it did. -/
def fnExactIsBelowSpec : ChangeSpec := { name := "fnExactIsBelow", fn := fun _ => fun
  | [d1, d2, d3] => { results := [.lit (.bool true)], args := [d1, d2, d3] }
  | _ => none }
def fnExactIsBelowRow : OpenClaim := { program := "ytolbllafeblmdaa", sum := "cae3a0a01eaea2eceae43f0bbed74743754a73201ad9c89fd1e6e96e3e944f7b", func := "loop.example/g00595/laws.FnExactIsBelow", spec := "fnExactIsBelow", apart := false }
def FnExactIsBelowSaid : Prop := fnExactIsBelowRow.holds Try.pinned (OpenSpec.ofChange fnExactIsBelowSpec)

/-- ITS FALSE NEIGHBOUR: 'it returns false'. Refute it at one input. -/
def fnExactIsBelowWrong : ChangeSpec := { name := "fnExactIsBelow", fn := fun _ => fun
  | [d1, d2, d3] => { results := [.lit (.bool false)], args := [d1, d2, d3] }
  | _ => none }
def FnExactIsBelowWrongFalsely : Prop := fnExactIsBelowRow.holds Try.pinned (OpenSpec.ofChange fnExactIsBelowWrong)

/-- 'laws.FnExactGreatestElasticity': WHATEVER THE INPUT: true; the input reads as it did. -/
def fnExactGreatestElasticitySpec : ChangeSpec := { name := "fnExactGreatestElasticity", fn := fun _ => fun
  | [d] => { results := [.lit (.bool true)], args := [d] }
  | _ => none }
def fnExactGreatestElasticityRow : OpenClaim := { program := "ytolbllafeblmdaa", sum := "cae3a0a01eaea2eceae43f0bbed74743754a73201ad9c89fd1e6e96e3e944f7b", func := "loop.example/g00595/laws.FnExactGreatestElasticity", spec := "fnExactGreatestElasticity", apart := false }
def FnExactGreatestElasticitySaid : Prop := fnExactGreatestElasticityRow.holds Try.pinned (OpenSpec.ofChange fnExactGreatestElasticitySpec)

/-- ITS FALSE NEIGHBOUR: 'it returns false'. Refute it at one input. -/
def fnExactGreatestElasticityWrong : ChangeSpec := { name := "fnExactGreatestElasticity", fn := fun _ => fun
  | [d] => { results := [.lit (.bool false)], args := [d] }
  | _ => none }
def FnExactGreatestElasticityWrongFalsely : Prop := fnExactGreatestElasticityRow.holds Try.pinned (OpenSpec.ofChange fnExactGreatestElasticityWrong)

/-- 'laws.FnExactValueOf': WHATEVER THE INPUT: true; the input reads as it did. -/
def fnExactValueOfSpec : ChangeSpec := { name := "fnExactValueOf", fn := fun _ => fun
  | [d1, d2] => { results := [.lit (.bool true)], args := [d1, d2] }
  | _ => none }
def fnExactValueOfRow : OpenClaim := { program := "ytolbllafeblmdaa", sum := "cae3a0a01eaea2eceae43f0bbed74743754a73201ad9c89fd1e6e96e3e944f7b", func := "loop.example/g00595/laws.FnExactValueOf", spec := "fnExactValueOf", apart := false }
def FnExactValueOfSaid : Prop := fnExactValueOfRow.holds Try.pinned (OpenSpec.ofChange fnExactValueOfSpec)

/-- ITS FALSE NEIGHBOUR: 'it returns false'. Refute it at one input. -/
def fnExactValueOfWrong : ChangeSpec := { name := "fnExactValueOf", fn := fun _ => fun
  | [d1, d2] => { results := [.lit (.bool false)], args := [d1, d2] }
  | _ => none }
def FnExactValueOfWrongFalsely : Prop := fnExactValueOfRow.holds Try.pinned (OpenSpec.ofChange fnExactValueOfWrong)

/-- 'laws.FnExactCountFactorizations': WHATEVER THE INPUT: true; the input reads as it did. -/
def fnExactCountFactorizationsSpec : ChangeSpec := { name := "fnExactCountFactorizations", fn := fun _ => fun
  | [d1, d2] => { results := [.lit (.bool true)], args := [d1, d2] }
  | _ => none }
def fnExactCountFactorizationsRow : OpenClaim := { program := "ytolbllafeblmdaa", sum := "cae3a0a01eaea2eceae43f0bbed74743754a73201ad9c89fd1e6e96e3e944f7b", func := "loop.example/g00595/laws.FnExactCountFactorizations", spec := "fnExactCountFactorizations", apart := false }
def FnExactCountFactorizationsSaid : Prop := fnExactCountFactorizationsRow.holds Try.pinned (OpenSpec.ofChange fnExactCountFactorizationsSpec)

/-- ITS FALSE NEIGHBOUR: 'it returns false'. Refute it at one input. -/
def fnExactCountFactorizationsWrong : ChangeSpec := { name := "fnExactCountFactorizations", fn := fun _ => fun
  | [d1, d2] => { results := [.lit (.bool false)], args := [d1, d2] }
  | _ => none }
def FnExactCountFactorizationsWrongFalsely : Prop := fnExactCountFactorizationsRow.holds Try.pinned (OpenSpec.ofChange fnExactCountFactorizationsWrong)

/-- 'laws.FnExactIsFactorization': WHATEVER THE INPUT: true; the input reads as it did. -/
def fnExactIsFactorizationSpec : ChangeSpec := { name := "fnExactIsFactorization", fn := fun _ => fun
  | [d1, d2, d3] => { results := [.lit (.bool true)], args := [d1, d2, d3] }
  | _ => none }
def fnExactIsFactorizationRow : OpenClaim := { program := "ytolbllafeblmdaa", sum := "cae3a0a01eaea2eceae43f0bbed74743754a73201ad9c89fd1e6e96e3e944f7b", func := "loop.example/g00595/laws.FnExactIsFactorization", spec := "fnExactIsFactorization", apart := false }
def FnExactIsFactorizationSaid : Prop := fnExactIsFactorizationRow.holds Try.pinned (OpenSpec.ofChange fnExactIsFactorizationSpec)

/-- ITS FALSE NEIGHBOUR: 'it returns false'. Refute it at one input. -/
def fnExactIsFactorizationWrong : ChangeSpec := { name := "fnExactIsFactorization", fn := fun _ => fun
  | [d1, d2, d3] => { results := [.lit (.bool false)], args := [d1, d2, d3] }
  | _ => none }
def FnExactIsFactorizationWrongFalsely : Prop := fnExactIsFactorizationRow.holds Try.pinned (OpenSpec.ofChange fnExactIsFactorizationWrong)

/-- 'laws.FnExactIsWithin': WHATEVER THE INPUT: true; the input reads as it did. -/
def fnExactIsWithinSpec : ChangeSpec := { name := "fnExactIsWithin", fn := fun _ => fun
  | [d1, d2] => { results := [.lit (.bool true)], args := [d1, d2] }
  | _ => none }
def fnExactIsWithinRow : OpenClaim := { program := "ytolbllafeblmdaa", sum := "cae3a0a01eaea2eceae43f0bbed74743754a73201ad9c89fd1e6e96e3e944f7b", func := "loop.example/g00595/laws.FnExactIsWithin", spec := "fnExactIsWithin", apart := false }
def FnExactIsWithinSaid : Prop := fnExactIsWithinRow.holds Try.pinned (OpenSpec.ofChange fnExactIsWithinSpec)

/-- ITS FALSE NEIGHBOUR: 'it returns false'. Refute it at one input. -/
def fnExactIsWithinWrong : ChangeSpec := { name := "fnExactIsWithin", fn := fun _ => fun
  | [d1, d2] => { results := [.lit (.bool false)], args := [d1, d2] }
  | _ => none }
def FnExactIsWithinWrongFalsely : Prop := fnExactIsWithinRow.holds Try.pinned (OpenSpec.ofChange fnExactIsWithinWrong)

/-- 'laws.FnExactInIdeal': WHATEVER THE INPUT: true; the input reads as it did. -/
def fnExactInIdealSpec : ChangeSpec := { name := "fnExactInIdeal", fn := fun _ => fun
  | [d1, d2, d3] => { results := [.lit (.bool true)], args := [d1, d2, d3] }
  | _ => none }
def fnExactInIdealRow : OpenClaim := { program := "ytolbllafeblmdaa", sum := "cae3a0a01eaea2eceae43f0bbed74743754a73201ad9c89fd1e6e96e3e944f7b", func := "loop.example/g00595/laws.FnExactInIdeal", spec := "fnExactInIdeal", unfollowed := true, recurses := true, apart := false }
def FnExactInIdealSaid : Prop := fnExactInIdealRow.holds Try.pinned (OpenSpec.ofChange fnExactInIdealSpec)

/-- ITS FALSE NEIGHBOUR: 'it returns false'. Refute it at one input. -/
def fnExactInIdealWrong : ChangeSpec := { name := "fnExactInIdeal", fn := fun _ => fun
  | [d1, d2, d3] => { results := [.lit (.bool false)], args := [d1, d2, d3] }
  | _ => none }
def FnExactInIdealWrongFalsely : Prop := fnExactInIdealRow.holds Try.pinned (OpenSpec.ofChange fnExactInIdealWrong)

/-- 'laws.FnExactEulerAt': WHATEVER THE INPUT: true; the input reads as it did. -/
def fnExactEulerAtSpec : ChangeSpec := { name := "fnExactEulerAt", fn := fun _ => fun
  | [d1, d2] => { results := [.lit (.bool true)], args := [d1, d2] }
  | _ => none }
def fnExactEulerAtRow : OpenClaim := { program := "ytolbllafeblmdaa", sum := "cae3a0a01eaea2eceae43f0bbed74743754a73201ad9c89fd1e6e96e3e944f7b", func := "loop.example/g00595/laws.FnExactEulerAt", spec := "fnExactEulerAt", unfollowed := true, recurses := true, apart := false }
def FnExactEulerAtSaid : Prop := fnExactEulerAtRow.holds Try.pinned (OpenSpec.ofChange fnExactEulerAtSpec)

/-- ITS FALSE NEIGHBOUR: 'it returns false'. Refute it at one input. -/
def fnExactEulerAtWrong : ChangeSpec := { name := "fnExactEulerAt", fn := fun _ => fun
  | [d1, d2] => { results := [.lit (.bool false)], args := [d1, d2] }
  | _ => none }
def FnExactEulerAtWrongFalsely : Prop := fnExactEulerAtRow.holds Try.pinned (OpenSpec.ofChange fnExactEulerAtWrong)

/-- 'laws.FnExactScaledElements': WHATEVER THE INPUT: true; the input reads as it did. -/
def fnExactScaledElementsSpec : ChangeSpec := { name := "fnExactScaledElements", fn := fun _ => fun
  | [d1, d2, d3] => { results := [.lit (.bool true)], args := [d1, d2, d3] }
  | _ => none }
def fnExactScaledElementsRow : OpenClaim := { program := "ytolbllafeblmdaa", sum := "cae3a0a01eaea2eceae43f0bbed74743754a73201ad9c89fd1e6e96e3e944f7b", func := "loop.example/g00595/laws.FnExactScaledElements", spec := "fnExactScaledElements", apart := false }
def FnExactScaledElementsSaid : Prop := fnExactScaledElementsRow.holds Try.pinned (OpenSpec.ofChange fnExactScaledElementsSpec)

/-- ITS FALSE NEIGHBOUR: 'it returns false'. Refute it at one input. -/
def fnExactScaledElementsWrong : ChangeSpec := { name := "fnExactScaledElements", fn := fun _ => fun
  | [d1, d2, d3] => { results := [.lit (.bool false)], args := [d1, d2, d3] }
  | _ => none }
def FnExactScaledElementsWrongFalsely : Prop := fnExactScaledElementsRow.holds Try.pinned (OpenSpec.ofChange fnExactScaledElementsWrong)

/-- 'laws.FnExactFactorizations': WHATEVER THE INPUT: true; the input reads as it did. -/
def fnExactFactorizationsSpec : ChangeSpec := { name := "fnExactFactorizations", fn := fun _ => fun
  | [d1, d2] => { results := [.lit (.bool true)], args := [d1, d2] }
  | _ => none }
def fnExactFactorizationsRow : OpenClaim := { program := "ytolbllafeblmdaa", sum := "cae3a0a01eaea2eceae43f0bbed74743754a73201ad9c89fd1e6e96e3e944f7b", func := "loop.example/g00595/laws.FnExactFactorizations", spec := "fnExactFactorizations", recurses := true, apart := false }
def FnExactFactorizationsSaid : Prop := fnExactFactorizationsRow.holds Try.pinned (OpenSpec.ofChange fnExactFactorizationsSpec)

/-- ITS FALSE NEIGHBOUR: 'it returns false'. Refute it at one input. -/
def fnExactFactorizationsWrong : ChangeSpec := { name := "fnExactFactorizations", fn := fun _ => fun
  | [d1, d2] => { results := [.lit (.bool false)], args := [d1, d2] }
  | _ => none }
def FnExactFactorizationsWrongFalsely : Prop := fnExactFactorizationsRow.holds Try.pinned (OpenSpec.ofChange fnExactFactorizationsWrong)

/-- 'laws.FnExactNumeratorOf': WHATEVER THE INPUT: true; the input reads as it did. -/
def fnExactNumeratorOfSpec : ChangeSpec := { name := "fnExactNumeratorOf", fn := fun _ => fun
  | [d] => { results := [.lit (.bool true)], args := [d] }
  | _ => none }
def fnExactNumeratorOfRow : OpenClaim := { program := "ytolbllafeblmdaa", sum := "cae3a0a01eaea2eceae43f0bbed74743754a73201ad9c89fd1e6e96e3e944f7b", func := "loop.example/g00595/laws.FnExactNumeratorOf", spec := "fnExactNumeratorOf", apart := false }
def FnExactNumeratorOfSaid : Prop := fnExactNumeratorOfRow.holds Try.pinned (OpenSpec.ofChange fnExactNumeratorOfSpec)

/-- ITS FALSE NEIGHBOUR: 'it returns false'. Refute it at one input. -/
def fnExactNumeratorOfWrong : ChangeSpec := { name := "fnExactNumeratorOf", fn := fun _ => fun
  | [d] => { results := [.lit (.bool false)], args := [d] }
  | _ => none }
def FnExactNumeratorOfWrongFalsely : Prop := fnExactNumeratorOfRow.holds Try.pinned (OpenSpec.ofChange fnExactNumeratorOfWrong)

/-- 'laws.FnExactCatenaryOf': WHATEVER THE INPUT: true; the input reads as it did. -/
def fnExactCatenaryOfSpec : ChangeSpec := { name := "fnExactCatenaryOf", fn := fun _ => fun
  | [d1, d2] => { results := [.lit (.bool true)], args := [d1, d2] }
  | _ => none }
def fnExactCatenaryOfRow : OpenClaim := { program := "ytolbllafeblmdaa", sum := "cae3a0a01eaea2eceae43f0bbed74743754a73201ad9c89fd1e6e96e3e944f7b", func := "loop.example/g00595/laws.FnExactCatenaryOf", spec := "fnExactCatenaryOf", recurses := true, apart := false }
def FnExactCatenaryOfSaid : Prop := fnExactCatenaryOfRow.holds Try.pinned (OpenSpec.ofChange fnExactCatenaryOfSpec)

/-- ITS FALSE NEIGHBOUR: 'it returns false'. Refute it at one input. -/
def fnExactCatenaryOfWrong : ChangeSpec := { name := "fnExactCatenaryOf", fn := fun _ => fun
  | [d1, d2] => { results := [.lit (.bool false)], args := [d1, d2] }
  | _ => none }
def FnExactCatenaryOfWrongFalsely : Prop := fnExactCatenaryOfRow.holds Try.pinned (OpenSpec.ofChange fnExactCatenaryOfWrong)

/- THE SECOND FORM. 'bulk': how many values and letters a reading holds, each counted each time it is reached (what is shared counts as often as it is met; a slice's spare places count too). A statement '..UptoSaid' is the law's where the arguments, and the package variables that the reading takes, are together of bulk at most 1048576: NARROWER than '..Said'. Prove '..Said' where nothing that the law and all that it calls make is longer than what came in: it says more and counts as full. Else prove '..UptoSaid'. A law counts once. -/
mutual
def uptoBulk {H : Type} : DataW H → Nat
  | .lit (.string bytes) => bytes.length + 1
  | .lit _ => 1
  | .nil => 1
  | .ptr d => uptoBulk d + 1
  | .slice elems spare => uptoBulkAll elems + uptoBulkAll spare + 1
  | .agg parts => uptoBulkAll parts + 1
  | .iface _ d => uptoBulk d + 1
  | .map entries => uptoBulkEntries entries + 1
  | .held _ => 1
def uptoBulkAll {H : Type} : List (DataW H) → Nat
  | [] => 0
  | d :: r => uptoBulk d + uptoBulkAll r
def uptoBulkEntries {H : Type} : List (Lit × DataW H) → Nat
  | [] => 0
  | x :: r => uptoBulkEntry x + uptoBulkEntries r
def uptoBulkEntry {H : Type} : Lit × DataW H → Nat
  | (.string bytes, d) => bytes.length + uptoBulk d + 1
  | (_, d) => uptoBulk d + 1
 end
def uptoSmall : (H : Type) → List (DataW H) → Bool := fun _ ds => decide (uptoBulkAll ds ≤ 1048576)
def OpenSpec.upto (s : _root_.Go.ChangeSpec) : _root_.Go.OpenSpec := { _root_.Go.OpenSpec.ofChange s with cond := some uptoSmall }

/-- 'laws.FnExactIsBelow', WHERE WHAT IT READS IS OF BULK AT MOST 1048576: true; the input reads as it did. -/
def fnExactIsBelowUptoRow : OpenClaim := { program := "ytolbllafeblmdaa", sum := "cae3a0a01eaea2eceae43f0bbed74743754a73201ad9c89fd1e6e96e3e944f7b", func := "loop.example/g00595/laws.FnExactIsBelow", spec := "fnExactIsBelow", apart := false, narrowed := true }
def FnExactIsBelowUptoSaid : Prop := fnExactIsBelowUptoRow.holds Try.pinned (OpenSpec.upto fnExactIsBelowSpec)

/-- 'laws.FnExactGreatestElasticity', WHERE WHAT IT READS IS OF BULK AT MOST 1048576: true; the input reads as it did. -/
def fnExactGreatestElasticityUptoRow : OpenClaim := { program := "ytolbllafeblmdaa", sum := "cae3a0a01eaea2eceae43f0bbed74743754a73201ad9c89fd1e6e96e3e944f7b", func := "loop.example/g00595/laws.FnExactGreatestElasticity", spec := "fnExactGreatestElasticity", apart := false, narrowed := true }
def FnExactGreatestElasticityUptoSaid : Prop := fnExactGreatestElasticityUptoRow.holds Try.pinned (OpenSpec.upto fnExactGreatestElasticitySpec)

/-- 'laws.FnExactValueOf', WHERE WHAT IT READS IS OF BULK AT MOST 1048576: true; the input reads as it did. -/
def fnExactValueOfUptoRow : OpenClaim := { program := "ytolbllafeblmdaa", sum := "cae3a0a01eaea2eceae43f0bbed74743754a73201ad9c89fd1e6e96e3e944f7b", func := "loop.example/g00595/laws.FnExactValueOf", spec := "fnExactValueOf", apart := false, narrowed := true }
def FnExactValueOfUptoSaid : Prop := fnExactValueOfUptoRow.holds Try.pinned (OpenSpec.upto fnExactValueOfSpec)

/-- 'laws.FnExactCountFactorizations', WHERE WHAT IT READS IS OF BULK AT MOST 1048576: true; the input reads as it did. -/
def fnExactCountFactorizationsUptoRow : OpenClaim := { program := "ytolbllafeblmdaa", sum := "cae3a0a01eaea2eceae43f0bbed74743754a73201ad9c89fd1e6e96e3e944f7b", func := "loop.example/g00595/laws.FnExactCountFactorizations", spec := "fnExactCountFactorizations", apart := false, narrowed := true }
def FnExactCountFactorizationsUptoSaid : Prop := fnExactCountFactorizationsUptoRow.holds Try.pinned (OpenSpec.upto fnExactCountFactorizationsSpec)

/-- 'laws.FnExactIsFactorization', WHERE WHAT IT READS IS OF BULK AT MOST 1048576: true; the input reads as it did. -/
def fnExactIsFactorizationUptoRow : OpenClaim := { program := "ytolbllafeblmdaa", sum := "cae3a0a01eaea2eceae43f0bbed74743754a73201ad9c89fd1e6e96e3e944f7b", func := "loop.example/g00595/laws.FnExactIsFactorization", spec := "fnExactIsFactorization", apart := false, narrowed := true }
def FnExactIsFactorizationUptoSaid : Prop := fnExactIsFactorizationUptoRow.holds Try.pinned (OpenSpec.upto fnExactIsFactorizationSpec)

/-- 'laws.FnExactIsWithin', WHERE WHAT IT READS IS OF BULK AT MOST 1048576: true; the input reads as it did. -/
def fnExactIsWithinUptoRow : OpenClaim := { program := "ytolbllafeblmdaa", sum := "cae3a0a01eaea2eceae43f0bbed74743754a73201ad9c89fd1e6e96e3e944f7b", func := "loop.example/g00595/laws.FnExactIsWithin", spec := "fnExactIsWithin", apart := false, narrowed := true }
def FnExactIsWithinUptoSaid : Prop := fnExactIsWithinUptoRow.holds Try.pinned (OpenSpec.upto fnExactIsWithinSpec)

/-- 'laws.FnExactInIdeal', WHERE WHAT IT READS IS OF BULK AT MOST 1048576: true; the input reads as it did. -/
def fnExactInIdealUptoRow : OpenClaim := { program := "ytolbllafeblmdaa", sum := "cae3a0a01eaea2eceae43f0bbed74743754a73201ad9c89fd1e6e96e3e944f7b", func := "loop.example/g00595/laws.FnExactInIdeal", spec := "fnExactInIdeal", unfollowed := true, recurses := true, apart := false, narrowed := true }
def FnExactInIdealUptoSaid : Prop := fnExactInIdealUptoRow.holds Try.pinned (OpenSpec.upto fnExactInIdealSpec)

/-- 'laws.FnExactEulerAt', WHERE WHAT IT READS IS OF BULK AT MOST 1048576: true; the input reads as it did. -/
def fnExactEulerAtUptoRow : OpenClaim := { program := "ytolbllafeblmdaa", sum := "cae3a0a01eaea2eceae43f0bbed74743754a73201ad9c89fd1e6e96e3e944f7b", func := "loop.example/g00595/laws.FnExactEulerAt", spec := "fnExactEulerAt", unfollowed := true, recurses := true, apart := false, narrowed := true }
def FnExactEulerAtUptoSaid : Prop := fnExactEulerAtUptoRow.holds Try.pinned (OpenSpec.upto fnExactEulerAtSpec)

/-- 'laws.FnExactScaledElements', WHERE WHAT IT READS IS OF BULK AT MOST 1048576: true; the input reads as it did. -/
def fnExactScaledElementsUptoRow : OpenClaim := { program := "ytolbllafeblmdaa", sum := "cae3a0a01eaea2eceae43f0bbed74743754a73201ad9c89fd1e6e96e3e944f7b", func := "loop.example/g00595/laws.FnExactScaledElements", spec := "fnExactScaledElements", apart := false, narrowed := true }
def FnExactScaledElementsUptoSaid : Prop := fnExactScaledElementsUptoRow.holds Try.pinned (OpenSpec.upto fnExactScaledElementsSpec)

/-- 'laws.FnExactFactorizations', WHERE WHAT IT READS IS OF BULK AT MOST 1048576: true; the input reads as it did. -/
def fnExactFactorizationsUptoRow : OpenClaim := { program := "ytolbllafeblmdaa", sum := "cae3a0a01eaea2eceae43f0bbed74743754a73201ad9c89fd1e6e96e3e944f7b", func := "loop.example/g00595/laws.FnExactFactorizations", spec := "fnExactFactorizations", recurses := true, apart := false, narrowed := true }
def FnExactFactorizationsUptoSaid : Prop := fnExactFactorizationsUptoRow.holds Try.pinned (OpenSpec.upto fnExactFactorizationsSpec)

/-- 'laws.FnExactNumeratorOf', WHERE WHAT IT READS IS OF BULK AT MOST 1048576: true; the input reads as it did. -/
def fnExactNumeratorOfUptoRow : OpenClaim := { program := "ytolbllafeblmdaa", sum := "cae3a0a01eaea2eceae43f0bbed74743754a73201ad9c89fd1e6e96e3e944f7b", func := "loop.example/g00595/laws.FnExactNumeratorOf", spec := "fnExactNumeratorOf", apart := false, narrowed := true }
def FnExactNumeratorOfUptoSaid : Prop := fnExactNumeratorOfUptoRow.holds Try.pinned (OpenSpec.upto fnExactNumeratorOfSpec)

/-- 'laws.FnExactCatenaryOf', WHERE WHAT IT READS IS OF BULK AT MOST 1048576: true; the input reads as it did. -/
def fnExactCatenaryOfUptoRow : OpenClaim := { program := "ytolbllafeblmdaa", sum := "cae3a0a01eaea2eceae43f0bbed74743754a73201ad9c89fd1e6e96e3e944f7b", func := "loop.example/g00595/laws.FnExactCatenaryOf", spec := "fnExactCatenaryOf", recurses := true, apart := false, narrowed := true }
def FnExactCatenaryOfUptoSaid : Prop := fnExactCatenaryOfUptoRow.holds Try.pinned (OpenSpec.upto fnExactCatenaryOfSpec)

end Rows
end Go.Proofs.Ytolbllafeblmdaa
