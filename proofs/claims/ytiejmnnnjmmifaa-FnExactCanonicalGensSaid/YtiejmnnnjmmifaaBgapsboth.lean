/- Plain lemmas (gapsboth): no program, no memory. -/
import Derived.Test.YtiejmnnnjmmifaaC0
import Derived.Test.YtiejmnnnjmmifaaC4
import Derived.Test.YtiejmnnnjmmifaaC7
import Derived.Test.YtiejmnnnjmmifaaBissg
import Derived.Test.YtiejmnnnjmmifaaBshell
import Derived.Test.YtiejmnnnjmmifaaBelems
import Derived.Test.YtiejmnnnjmmifaaBgaps
import Derived.Test.YtiejmnnnjmmifaaBspecgaps
import Derived.Test.YtiejmnnnjmmifaaBbase
namespace Go.Proofs.Ytiejmnnnjmmifaa.Pure
open Go.RowKit Go.Proofs.Ytiejmnnnjmmifaa.C Go.Proofs.YtiejmnnnjmmifaaW.PrintWords Go.Proofs.YtiejmnnnjmmifaaW.PrintLast Go.Proofs.YtiejmnnnjmmifaaW.PrintMore
set_option linter.unusedVariables false
set_option linter.unusedSimpArgs false
/-! gapsboth: Gaps of both sides -/
theorem gaps_both (g : List Int) (hlen : g.length ≤ 1048576) : ∃ b, (b = true ↔ SG g) ∧ Ev (fun k => spec_Gaps.f k g) (gapsS b g) ∧ Ev (fun k => impl_Gaps.f k g) (gapsS b g) := by
  obtain ⟨b, b1, b2, b3⟩ := sg_both g hlen
  refine ⟨b, b1, ?_⟩
  unfold spec_Gaps.f impl_Gaps.f gapsS
  cases b with
  | false => exact ⟨Ev.bnd b2 (Ev.neg (by decide) (Ev.now _)), Ev.bnd b3 (Ev.neg (by decide) (Ev.now _))⟩
  | true =>
    have hS := b1.1 rfl
    refine ⟨Ev.bnd b2 (Ev.pos rfl (Ev.bnd (spec_l4Gaps_ev g (fun x hx => (hS.rng x hx).1) hlen) (Ev.now _))), Ev.bnd b3 (Ev.pos rfl (Ev.bnd (impl_table_ev g hS 200 (by omega)) ?_))⟩
    rw [tblL_length]
    exact impl_Gaps_l0 g hS 201 0 (by omega)
end Go.Proofs.Ytiejmnnnjmmifaa.Pure
