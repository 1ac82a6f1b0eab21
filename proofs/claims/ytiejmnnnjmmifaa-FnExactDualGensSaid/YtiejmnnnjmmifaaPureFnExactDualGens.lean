/- For every semigroup value and list the program's DualGens returns what the reference's returns; no condition besides the row's own. -/
import Derived.Test.YtiejmnnnjmmifaaC0
import Derived.Test.YtiejmnnnjmmifaaC10
import Derived.Test.YtiejmnnnjmmifaaBbase
import Derived.Test.YtiejmnnnjmmifaaBlaws0
import Derived.Test.YtiejmnnnjmmifaaBlaws1
import Derived.Test.YtiejmnnnjmmifaaBsz
import Derived.Test.YtiejmnnnjmmifaaBwithin
import Derived.Test.YtiejmnnnjmmifaaBallwithin
import Derived.Test.YtiejmnnnjmmifaaBsums
import Derived.Test.YtiejmnnnjmmifaaBtable
import Derived.Test.YtiejmnnnjmmifaaBgcd
import Derived.Test.YtiejmnnnjmmifaaBasc
import Derived.Test.YtiejmnnnjmmifaaBleasts
import Derived.Test.YtiejmnnnjmmifaaBsortspec
import Derived.Test.YtiejmnnnjmmifaaBisort
import Derived.Test.YtiejmnnnjmmifaaBminimal
import Derived.Test.YtiejmnnnjmmifaaBissg
import Derived.Test.YtiejmnnnjmmifaaBshell
import Derived.Test.YtiejmnnnjmmifaaBleastle
import Derived.Test.YtiejmnnnjmmifaaBspechas
import Derived.Test.YtiejmnnnjmmifaaBsemig
import Derived.Test.YtiejmnnnjmmifaaBmarksg
import Derived.Test.YtiejmnnnjmmifaaBelems
import Derived.Test.YtiejmnnnjmmifaaBgapl
import Derived.Test.YtiejmnnnjmmifaaBspecgaps
import Derived.Test.YtiejmnnnjmmifaaBreach0
import Derived.Test.YtiejmnnnjmmifaaBreach
import Derived.Test.YtiejmnnnjmmifaaBreachany
import Derived.Test.YtiejmnnnjmmifaaBexi
import Derived.Test.YtiejmnnnjmmifaaBextreme
import Derived.Test.YtiejmnnnjmmifaaBminimalin
import Derived.Test.YtiejmnnnjmmifaaBmini
import Derived.Test.YtiejmnnnjmmifaaBideal
import Derived.Test.YtiejmnnnjmmifaaBsifted
import Derived.Test.YtiejmnnnjmmifaaBascpick
import Derived.Test.YtiejmnnnjmmifaaBdual
namespace Go.Proofs.Ytiejmnnnjmmifaa.Pure
open Go.RowKit Go.Proofs.Ytiejmnnnjmmifaa.C Go.Proofs.YtiejmnnnjmmifaaW.PrintWords Go.Proofs.YtiejmnnnjmmifaaW.PrintLast Go.Proofs.YtiejmnnnjmmifaaW.PrintMore
set_option linter.unusedVariables false
set_option linter.unusedSimpArgs false
theorem FnExactDualGens (g : List Int) (l : List Int) (hm_g : g.length ≤ maxLen) (hw_g : ∀ x ∈ g, (Lit.int .i64 x).wf = true) (hm_l : l.length ≤ maxLen) (hw_l : ∀ x ∈ l, (Lit.int .i64 x).wf = true) : ∃ k, laws_FnExactDualGens.f k g l = some true := by
  apply Ev.rounds
  unfold laws_FnExactDualGens.f
  by_cases hl_l : (l.length : Int) ≤ 1048576
  rotate_left
  · exact Ev.pos (by omega) (Ev.now _)
  refine Ev.neg (by omega) ?_
  by_cases hl_g : (g.length : Int) ≤ 1048576
  rotate_left
  · exact Ev.bnd (szSemigroup_out g hm_g hl_g) (Ev.pos (by omega) (Ev.now _))
  refine Ev.bnd (szSemigroup_in g hm_g hl_g) (Ev.neg (by omega) ?_)
  have ht_g := toSemigroup_ev g (by omega)
  have he_g := eqSemigroup_ev g (by omega)
  have ht_l := toIntS_ev l (by omega)
  have he_l := eqIntS_ev l (by omega)
  obtain ⟨r, hr, h1, h2⟩ := dual_both g l (by omega) (by omega)
  have hr : r.length ≤ 1048576 := Nat.le_trans hr (by decide)
  have her := eqIntS_ev r (by omega)
  have hmr := markIntS_ev r 1 (by omega) (by omega) (by omega)
  have hhr := heldIntS_ev r 1 (by omega) (by omega) (by omega)
  have hmk_g := markSemigroup_ev g (1) (by omega) (by omega) (by omega)
  have hmk_l := markIntS_ev l (1 + (g.length : Int)) (by omega) (by omega) (by omega)
  repeat (first | exact Ev.now _ | (refine Ev.bnd (by assumption) ?_; try dsimp only) | refine Ev.pos (by first | with_reducible rfl | omega) ?_ | refine Ev.neg (by first | omega | decide | (simp; done)) ?_ | (refine Ev.one (fun k => by rw [laws_FnExactDualGens.j0]) ?_) | (refine Ev.one (fun k => by rw [laws_FnExactDualGens.j1]) ?_) | (refine Ev.one (fun k => by rw [laws_FnExactDualGens.j2]) ?_))
end Go.Proofs.Ytiejmnnnjmmifaa.Pure
