/- For every semigroup value the program's EulerList returns what the reference's returns; no condition besides the row's own. -/
import Derived.Test.YtlfdipnhlmjiaaaC0
import Derived.Test.YtlfdipnhlmjiaaaC8
import Derived.Test.YtlfdipnhlmjiaaaBbase
import Derived.Test.YtlfdipnhlmjiaaaBspechas
namespace Go.Proofs.Ytlfdipnhlmjiaaa.Pure
open Go.RowKit Go.Proofs.Ytlfdipnhlmjiaaa.C Go.Proofs.YtlfdipnhlmjiaaaW.PrintWords Go.Proofs.YtlfdipnhlmjiaaaW.PrintLast Go.Proofs.YtlfdipnhlmjiaaaW.PrintMore
set_option linter.unusedVariables false
set_option linter.unusedSimpArgs false
theorem FnExactEulerList (g : List Int) (hm_g : g.length ≤ maxLen) (hw_g : ∀ x ∈ g, (Lit.int .i64 x).wf = true) : ∃ k, laws_FnExactEulerList.f k g = some true := by
 apply Ev.rounds
 unfold laws_FnExactEulerList.f
 by_cases hl_g : (g.length : Int) ≤ 1048576
 rotate_left
 ·exact Ev.bnd (szSemigroup_out g hm_g hl_g) (Ev.pos (by omega) (Ev.now _))
 refine Ev.bnd (szSemigroup_in g hm_g hl_g) (Ev.neg (by omega) ?_)
 have ht_g := toSemigroup_ev g (by omega)
 have he_g := eqSemigroup_ev g (by omega)
 obtain ⟨r, hr, h1, h2⟩ := eulerlist_both g (by omega)
 have hr : r.length ≤ 1048576 := Nat.le_trans hr (by decide)
 have her := eqIntS_ev r (by omega)
 have hmr := markIntS_ev r 1 (by omega) (by omega) (by omega)
 have hhr := heldIntS_ev r 1 (by omega) (by omega) (by omega)
 have hmk_g := markSemigroup_ev g (1) (by omega) (by omega) (by omega)
 repeat (first | exact Ev.now _ | (refine Ev.bnd (by assumption) ?_; try dsimp only) | refine Ev.pos (by first | with_reducible rfl | omega) ?_ | refine Ev.neg (by first | omega | decide | (simp; done)) ?_)
end Go.Proofs.Ytlfdipnhlmjiaaa.Pure
