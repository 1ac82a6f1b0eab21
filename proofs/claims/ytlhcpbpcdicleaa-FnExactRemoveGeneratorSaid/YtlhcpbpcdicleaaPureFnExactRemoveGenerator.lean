/- For every semigroup value and number the program's RemoveGenerator returns what the reference's returns; no condition besides the row's own. -/
import Derived.Test.YtlhcpbpcdicleaaC0
import Derived.Test.YtlhcpbpcdicleaaC9
import Derived.Test.YtlhcpbpcdicleaaBbase
import Derived.Test.YtlhcpbpcdicleaaBlaws0
import Derived.Test.YtlhcpbpcdicleaaBlaws1
import Derived.Test.YtlhcpbpcdicleaaBsz
import Derived.Test.YtlhcpbpcdicleaaBwithin
import Derived.Test.YtlhcpbpcdicleaaBallwithin
import Derived.Test.YtlhcpbpcdicleaaBsums
import Derived.Test.YtlhcpbpcdicleaaBtable
import Derived.Test.YtlhcpbpcdicleaaBgcd
import Derived.Test.YtlhcpbpcdicleaaBasc
import Derived.Test.YtlhcpbpcdicleaaBleasts
import Derived.Test.YtlhcpbpcdicleaaBsortspec
import Derived.Test.YtlhcpbpcdicleaaBisort
import Derived.Test.YtlhcpbpcdicleaaBminimal
import Derived.Test.YtlhcpbpcdicleaaBissg
import Derived.Test.YtlhcpbpcdicleaaBshell
import Derived.Test.YtlhcpbpcdicleaaBleastle
import Derived.Test.YtlhcpbpcdicleaaBsemig
import Derived.Test.YtlhcpbpcdicleaaBmarksg
import Derived.Test.YtlhcpbpcdicleaaBelems
import Derived.Test.YtlhcpbpcdicleaaBgaps
import Derived.Test.YtlhcpbpcdicleaaBspecgaps
import Derived.Test.YtlhcpbpcdicleaaBfromgaps
import Derived.Test.YtlhcpbpcdicleaaBhasnum
import Derived.Test.YtlhcpbpcdicleaaBgapgens
import Derived.Test.YtlhcpbpcdicleaaBfromboth
import Derived.Test.YtlhcpbpcdicleaaBcontains
import Derived.Test.YtlhcpbpcdicleaaBheldsg
import Derived.Test.YtlhcpbpcdicleaaBremovegen
namespace Go.Proofs.Ytlhcpbpcdicleaa.Pure
open Go.RowKit Go.Proofs.Ytlhcpbpcdicleaa.C Go.Proofs.YtlhcpbpcdicleaaW.PrintWords Go.Proofs.YtlhcpbpcdicleaaW.PrintLast Go.Proofs.YtlhcpbpcdicleaaW.PrintMore
set_option linter.unusedVariables false
set_option linter.unusedSimpArgs false
theorem FnExactRemoveGenerator (g : List Int) (x : Int) (hm_g : g.length ≤ maxLen) (hw_g : ∀ x ∈ g, (Lit.int .i64 x).wf = true) (h_x : (Lit.int .i64 x).wf = true) : ∃ k, laws_FnExactRemoveGenerator.f k g x = some true := by
  apply Ev.rounds
  unfold laws_FnExactRemoveGenerator.f
  by_cases hl_g : (g.length : Int) ≤ 1048576
  rotate_left
  · exact Ev.bnd (szSemigroup_out g hm_g hl_g) (Ev.pos (by omega) (Ev.now _))
  refine Ev.bnd (szSemigroup_in g hm_g hl_g) (Ev.neg (by omega) ?_)
  have ht_g := toSemigroup_ev g (by omega)
  have he_g := eqSemigroup_ev g (by omega)
  obtain ⟨⟨r, t⟩, hr, h1, h2⟩ := remove_both g x (by omega)
  have hr : r.length ≤ 1048576 := Nat.le_trans hr (by decide)
  have her := eqSemigroup_ev r (by omega)
  have hmr := markSemigroup_ev r 1 (by omega) (by omega) (by omega)
  have hhr := heldSemigroup_ev r (by omega)
  have ett : (t != t) = false := by cases t <;> rfl
  have hmk_g := markSemigroup_ev g (1) (by omega) (by omega) (by omega)
  repeat (first | exact Ev.now _ | (refine Ev.bnd (by assumption) ?_; try dsimp only) | refine Ev.pos (by first | with_reducible rfl | omega) ?_ | refine Ev.neg (by first | omega | decide | (simp; done)) ?_ | rw [ett] | (refine Ev.one (fun k => by rw [laws_FnExactRemoveGenerator.j0]) ?_) | (refine Ev.one (fun k => by rw [laws_FnExactRemoveGenerator.j1]) ?_) | (refine Ev.one (fun k => by rw [laws_FnExactRemoveGenerator.j2]) ?_))
end Go.Proofs.Ytlhcpbpcdicleaa.Pure
