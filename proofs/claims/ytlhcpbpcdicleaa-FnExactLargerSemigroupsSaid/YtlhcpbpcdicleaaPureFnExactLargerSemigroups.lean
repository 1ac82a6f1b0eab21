/- For every semigroup value the program's LargerSemigroups returns what the reference's returns; no condition besides the row's own. -/
import Derived.Test.YtlhcpbpcdicleaaC0
import Derived.Test.YtlhcpbpcdicleaaC10
import Derived.Test.YtlhcpbpcdicleaaBbase
import Derived.Test.YtlhcpbpcdicleaaBfromgaps
import Derived.Test.YtlhcpbpcdicleaaBlarger3
namespace Go.Proofs.Ytlhcpbpcdicleaa.Pure
open Go.RowKit Go.Proofs.Ytlhcpbpcdicleaa.C Go.Proofs.YtlhcpbpcdicleaaW.PrintWords Go.Proofs.YtlhcpbpcdicleaaW.PrintLast Go.Proofs.YtlhcpbpcdicleaaW.PrintMore
set_option linter.unusedVariables false
set_option linter.unusedSimpArgs false
theorem FnExactLargerSemigroups (g : List Int) (hm : g.length ≤ maxLen) (hw : ∀ x ∈ g, (Lit.int .i64 x).wf = true) : ∃ k, laws_FnExactLargerSemigroups.f k g = some true := by
 apply Ev.rounds
 unfold laws_FnExactLargerSemigroups.f
 by_cases hl : (g.length : Int) ≤ 1048576
 ·obtain ⟨⟨r, t⟩, hr, hx, h1, h2⟩ := large_both g (by omega)
  have hr : r.length ≤ 1048576 := Nat.le_trans hr (by decide)
  have hx : ∀ x ∈ r, x.f0.length ≤ 1000 := hx
  have ht := toSemigroup_ev g (by omega)
  have he := eqSemigroup_ev g (by omega)
  have hmk := markSemigroup_ev g 1 (by omega) (by omega) (by omega)
  have ht0 := (totT_rng 1000 r hx).1
  have es := eqSemigroupS_ev r (by omega) hx
  have ms := markSemigroupS_ev r (by omega) hx
  have hs := heldSemigroupS_ev r (by omega) hx
  exact Ev.bnd (szSemigroup_in g hm hl) (Ev.neg (by omega) (Ev.bnd ht (Ev.bnd h1 (Ev.bnd ht (Ev.bnd h2 (Ev.bnd es (Ev.pos rfl (Ev.pos rfl (Ev.bnd ht (Ev.bnd he (Ev.pos rfl (Ev.bnd hmk (Ev.neg (by show ¬ (1 + (g.length : Int)) < 0; omega) (Ev.bnd es (Ev.pos rfl (Ev.pos rfl (Ev.bnd ms (Ev.bnd hs (Ev.neg (by omega) (Ev.pos rfl (Ev.bnd ht (Ev.bnd h2 (Ev.bnd es (Ev.pos rfl (Ev.pos rfl (Ev.bnd hs (Ev.neg (by omega) (Ev.pos rfl (Ev.now _)))))))))))))))))))))))))))))
 ·exact Ev.bnd (szSemigroup_out g hm hl) (Ev.pos (by omega) (Ev.now _))
end Go.Proofs.Ytlhcpbpcdicleaa.Pure
