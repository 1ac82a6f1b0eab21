/- For every semigroup value and number the program's ClassesOf returns what the reference's returns; no condition besides the row's own. -/
import Derived.Test.YtlfdipnhlmjiaaaC0
import Derived.Test.YtlfdipnhlmjiaaaC15
import Derived.Test.YtlfdipnhlmjiaaaBbase
import Derived.Test.YtlfdipnhlmjiaaaBdot
import Derived.Test.YtlfdipnhlmjiaaaBfacsmall
namespace Go.Proofs.Ytlfdipnhlmjiaaa.Pure
open Go.RowKit Go.Proofs.Ytlfdipnhlmjiaaa.C Go.Proofs.YtlfdipnhlmjiaaaW.PrintWords Go.Proofs.YtlfdipnhlmjiaaaW.PrintLast Go.Proofs.YtlfdipnhlmjiaaaW.PrintMore
set_option linter.unusedVariables false
set_option linter.unusedSimpArgs false
theorem FnExactClassesOf (g : List Int) (n : Int) (hm : g.length ≤ maxLen) (hw : ∀ x ∈ g, (Lit.int .i64 x).wf = true) (hn : (Lit.int .i64 n).wf = true) : ∃ k, laws_FnExactClassesOf.f k g n = some true := by
 apply Ev.rounds
 unfold laws_FnExactClassesOf.f
 by_cases hl : (g.length : Int) ≤ 1048576
 ·obtain ⟨b, r, b1, h0, h1, h2⟩ := classes_both g (by omega) n
  obtain ⟨hr0, hx0⟩ := facS_small b g b1.1 n
  have hs := Nat.le_trans h0.tot hr0
  have hr := Nat.le_trans h0.few hr0
  have hc : ∀ c ∈ r, c.length ≤ 100000000000 := fun c hc => Nat.le_trans (h0.each c hc).2.1 hr0
  have hx : ∀ c ∈ r, ∀ x ∈ c, x.length ≤ 1000 := fun c hc x hx => hx0 x ((h0.each c hc).2.2 x hx)
  have ht := toSemigroup_ev g (by omega)
  have he := eqSemigroup_ev g (by omega)
  have hmk := markSemigroup_ev g 1 (by omega) (by omega) (by omega)
  have ht0 := (tot3_rng r hx).1
  have es := eqIntSSS_ev r hr hc hx
  have ms := markIntSSS_ev r hr hs hx
  have hh := heldIntSSS_ev r hr hs hx
  exact Ev.bnd (szSemigroup_in g hm hl) (Ev.neg (by omega) (Ev.bnd ht (Ev.bnd h1 (Ev.bnd ht (Ev.bnd h2 (Ev.bnd es (Ev.pos rfl (Ev.bnd ht (Ev.bnd he (Ev.pos rfl (Ev.bnd hmk (Ev.neg (by show ¬ (1 + (g.length : Int)) < 0; omega) (Ev.bnd es (Ev.pos rfl (Ev.bnd ms (Ev.bnd hh (Ev.neg (by omega) (Ev.pos rfl (Ev.bnd ht (Ev.bnd h2 (Ev.bnd es (Ev.pos rfl (Ev.bnd hh (Ev.neg (by omega) (Ev.pos rfl (Ev.now _))))))))))))))))))))))))))
 ·exact Ev.bnd (szSemigroup_out g hm hl) (Ev.pos (by omega) (Ev.now _))
end Go.Proofs.Ytlfdipnhlmjiaaa.Pure
