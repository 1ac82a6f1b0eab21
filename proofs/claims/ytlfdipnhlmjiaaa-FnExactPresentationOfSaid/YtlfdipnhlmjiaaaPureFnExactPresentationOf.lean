/- For all lists the program's PresentationOf returns what the reference's returns, in memory of its own; no condition besides the row's own. -/
import Derived.Test.YtlfdipnhlmjiaaaC0
import Derived.Test.YtlfdipnhlmjiaaaC13
import Derived.Test.YtlfdipnhlmjiaaaBbase
import Derived.Test.YtlfdipnhlmjiaaaBfacboth
namespace Go.Proofs.Ytlfdipnhlmjiaaa.Pure
open Go.RowKit Go.Proofs.Ytlfdipnhlmjiaaa.C Go.Proofs.YtlfdipnhlmjiaaaW.PrintWords Go.Proofs.YtlfdipnhlmjiaaaW.PrintLast Go.Proofs.YtlfdipnhlmjiaaaW.PrintMore
set_option linter.unusedVariables false
set_option linter.unusedSimpArgs false
theorem FnExactPresentationOf (g : List Int) (hm : g.length ≤ maxLen) (hw : ∀ x ∈ g, (Lit.int .i64 x).wf = true) : ∃ k, laws_FnExactPresentationOf.f k g = some true := by
 apply Ev.rounds
 unfold laws_FnExactPresentationOf.f
 by_cases hl : (g.length : Int) ≤ 1048576
 ·obtain ⟨⟨r, t⟩, h0, hs, h1, h2⟩ := pres_both g (by omega)
  dsimp only at h0 hs
  have ht := toSemigroup_ev g (by omega)
  have he := eqSemigroup_ev g (by omega)
  have hmk := markSemigroup_ev g 1 (by omega) (by omega) (by omega)
  have ht0 := (totR_rng r hs).1
  have es := eqRelationS_ev r (by omega) hs
  have ms := markRelationS_ev r (by omega) hs
  have hh := heldRelationS_ev r (by omega) hs
  exact Ev.bnd (szSemigroup_in g hm hl) (Ev.neg (by omega) (Ev.bnd ht (Ev.bnd h1 (Ev.bnd ht (Ev.bnd h2 (Ev.bnd es (Ev.pos rfl (Ev.pos rfl (Ev.bnd ht (Ev.bnd he (Ev.pos rfl (Ev.bnd hmk (Ev.neg (by show ¬ (1 + (g.length : Int)) < 0; omega) (Ev.bnd es (Ev.pos rfl (Ev.pos rfl (Ev.bnd ms (Ev.bnd hh (Ev.neg (by omega) (Ev.pos rfl (Ev.bnd ht (Ev.bnd h2 (Ev.bnd es (Ev.pos rfl (Ev.pos rfl (Ev.bnd hh (Ev.neg (by omega) (Ev.pos rfl (Ev.now _)))))))))))))))))))))))))))))
 ·exact Ev.bnd (szSemigroup_out g hm hl) (Ev.pos (by omega) (Ev.now _))
end Go.Proofs.Ytlfdipnhlmjiaaa.Pure
