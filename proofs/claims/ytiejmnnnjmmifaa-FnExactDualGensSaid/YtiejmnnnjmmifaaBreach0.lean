/- Plain lemmas (reach0): no program, no memory. -/
import Derived.Test.YtiejmnnnjmmifaaC0
import Derived.Test.YtiejmnnnjmmifaaC7
import Derived.Test.YtiejmnnnjmmifaaBissg
import Derived.Test.YtiejmnnnjmmifaaBelems
import Derived.Test.YtiejmnnnjmmifaaBbase
namespace Go.Proofs.Ytiejmnnnjmmifaa.Pure
open Go.RowKit Go.Proofs.Ytiejmnnnjmmifaa.C Go.Proofs.YtiejmnnnjmmifaaW.PrintWords Go.Proofs.YtiejmnnnjmmifaaW.PrintLast Go.Proofs.YtiejmnnnjmmifaaW.PrintMore
set_option linter.unusedVariables false
set_option linter.unusedSimpArgs false
/-! reach0: impl.reach -/
theorem reach_at (g : List Int) (hS : SG g) (d : Int) : impl_reach.p (tblL g 201) d = some (elB g d) := by
  unfold impl_reach.p
  have ht := tblL_length g 201
  by_cases h1 : d ≥ 200
  · rw [if_pos h1]
    exact congrArg some ((elB_iff g d).2 (hS.ends d h1)).symm
  · rw [if_neg h1]
    by_cases h2 : d ≥ 0
    · obtain ⟨m, rfl⟩ : ∃ m : Nat, d = (m : Int) := ⟨d.toNat, by omega⟩
      rw [if_pos h2, if_pos (by omega), rdOf_tblL g 201 m (by omega)]
    · rw [if_neg h2]
      refine congrArg some (elB_of ⟨(fun e => by cases e), fun e => ?_⟩)
      have := e.nonneg (fun x hx => (hS.rng x hx).1)
      omega
theorem reach_ev (g : List Int) (hlen : g.length ≤ 1048576) (hS : SG g) : Ev (fun k => impl_reach.f k g) (impl_reach.p (tblL g 201)) := by
  obtain ⟨b, b1, b2⟩ := impl_IsSemigroup_ev g hlen
  obtain rfl := b1.2 hS
  unfold impl_reach.f
  exact Ev.bnd b2 (Ev.pos rfl (Ev.bnd (impl_table_ev g hS 200 (by omega)) (Ev.now _)))
theorem reach_ap (g : List Int) (hS : SG g) (d : Int) : Ev (fun _ => apF1.f (impl_reach.p (tblL g 201)) d) (elB g d) := Ev.const (reach_at g hS d)
end Go.Proofs.Ytiejmnnnjmmifaa.Pure
