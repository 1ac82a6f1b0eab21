/- Plain lemmas (shell): no program, no memory. -/
import Derived.Test.YtiejmnnnjmmifaaC0
import Derived.Test.YtiejmnnnjmmifaaC4
import Derived.Test.YtiejmnnnjmmifaaC7
import Derived.Test.YtiejmnnnjmmifaaBissg
import Derived.Test.YtiejmnnnjmmifaaBbase
namespace Go.Proofs.Ytiejmnnnjmmifaa.Pure
open Go.RowKit Go.Proofs.Ytiejmnnnjmmifaa.C Go.Proofs.YtiejmnnnjmmifaaW.PrintWords Go.Proofs.YtiejmnnnjmmifaaW.PrintLast Go.Proofs.YtiejmnnnjmmifaaW.PrintMore
set_option linter.unusedVariables false
set_option linter.unusedSimpArgs false
/-! shell: two bools that tell the same -/
theorem bool_same {b c : Bool} {p : Prop} (h : b = true ↔ p) (k : c = true ↔ p) : b = c := by
  cases b <;> cases c
  · rfl
  · exact absurd (h.2 (k.1 rfl)) (by decide)
  · exact absurd (k.2 (h.1 rfl)) (by decide)
  · rfl
/-- Both sides tell the same of every list: whether it is a semigroup. -/
theorem sg_both (g : List Int) (hlen : g.length ≤ 1048576) : ∃ b, (b = true ↔ SG g) ∧ Ev (fun k => spec_IsSemigroup.f k g) b ∧ Ev (fun k => impl_IsSemigroup.f k g) b := by
  obtain ⟨b, b1, b2⟩ := spec_IsSemigroup_ev g hlen
  obtain ⟨c, c1, c2⟩ := impl_IsSemigroup_ev g hlen
  obtain rfl := bool_same b1 c1
  exact ⟨b, b1, b2, c2⟩
end Go.Proofs.Ytiejmnnnjmmifaa.Pure
