/- Plain lemmas (frob): no program, no memory. -/
import Derived.Test.YtiejmnnnjmmifaaC0
import Derived.Test.YtiejmnnnjmmifaaC5
import Derived.Test.YtiejmnnnjmmifaaC7
import Derived.Test.YtiejmnnnjmmifaaBissg
import Derived.Test.YtiejmnnnjmmifaaBgaps
import Derived.Test.YtiejmnnnjmmifaaBgapsboth
import Derived.Test.YtiejmnnnjmmifaaBbase
namespace Go.Proofs.Ytiejmnnnjmmifaa.Pure
open Go.RowKit Go.Proofs.Ytiejmnnnjmmifaa.C Go.Proofs.YtiejmnnnjmmifaaW.PrintWords Go.Proofs.YtiejmnnnjmmifaaW.PrintLast Go.Proofs.YtiejmnnnjmmifaaW.PrintMore
set_option linter.unusedVariables false
set_option linter.unusedSimpArgs false
/-! frob: FrobeniusOf of both sides -/
theorem frob_both (g : List Int) (hlen : g.length ≤ 1048576) : ∃ b, (b = true ↔ SG g) ∧ Ev (fun k => spec_FrobeniusOf.f k g) (lastS (gapsS b g)) ∧ Ev (fun k => impl_FrobeniusOf.f k g) (lastS (gapsS b g)) := by
  obtain ⟨b, b1, b2, b3⟩ := gaps_both g hlen
  have hl := gapsS_len b g
  refine ⟨b, b1, ?_⟩
  unfold spec_FrobeniusOf.f impl_FrobeniusOf.f lastS
  by_cases h : (gapsS b g).length = 0
  · rw [if_pos h]
    exact ⟨Ev.bnd b2 (Ev.pos (by omega) (Ev.now _)), Ev.bnd b3 (Ev.pos (by omega) (Ev.now _))⟩
  · rw [if_neg h]
    have e1 : wrap64 (((gapsS b g).length : Int) - 1) = (((gapsS b g).length - 1 : Nat) : Int) := by rw [w64_of (by omega) (by omega)]; omega
    refine ⟨Ev.bnd b2 (Ev.neg (by omega) ?_), Ev.bnd b3 (Ev.neg (by omega) ?_)⟩
    · rw [e1]; exact Ev.pos (by omega) (Ev.pos (by omega) (Ev.now _))
    · rw [e1]; exact Ev.pos (by omega) (Ev.pos (by omega) (Ev.now _))
end Go.Proofs.Ytiejmnnnjmmifaa.Pure
