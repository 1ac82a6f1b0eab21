/- For every semigroup value, number and lists the program's ChainOf returns what the reference's returns; no condition besides the row's own. -/
import Derived.Test.YtlfdipnhlmjiaaaC0
import Derived.Test.YtlfdipnhlmjiaaaC12
import Derived.Test.YtlfdipnhlmjiaaaBbase
import Derived.Test.YtlfdipnhlmjiaaaBfacsmall
namespace Go.Proofs.Ytlfdipnhlmjiaaa.Pure
open Go.RowKit Go.Proofs.Ytlfdipnhlmjiaaa.C Go.Proofs.YtlfdipnhlmjiaaaW.PrintWords Go.Proofs.YtlfdipnhlmjiaaaW.PrintLast Go.Proofs.YtlfdipnhlmjiaaaW.PrintMore
set_option linter.unusedVariables false
set_option linter.unusedSimpArgs false
theorem FnExactChainOf (g : List Int) (n : Int) (x y : List Int) (hm : g.length ≤ maxLen) (hw : ∀ z ∈ g, (Lit.int .i64 z).wf = true) (hn : (Lit.int .i64 n).wf = true) (hmx : x.length ≤ maxLen) (hwx : ∀ z ∈ x, (Lit.int .i64 z).wf = true) (hmy : y.length ≤ maxLen) (hwy : ∀ z ∈ y, (Lit.int .i64 z).wf = true) :
  ∃ k, laws_FnExactChainOf.f k g n x y = some true := by
 apply Ev.rounds
 unfold laws_FnExactChainOf.f
 by_cases cx : 1048576 < (x.length : Int)
 ·exact Ev.pos cx (Ev.now _)
 by_cases cy : 1048576 < (y.length : Int)
 ·exact Ev.neg cx (Ev.pos cy (Ev.now _))
 refine Ev.neg cx (Ev.neg cy ?_)
 by_cases hl : (g.length : Int) ≤ 1048576
 ·obtain ⟨b, r, t, b1, hr, hr0, h1, h2⟩ := chain_both g (by omega) n x y (by omega) (by omega)
  obtain ⟨hsm, hsx⟩ := facS_small b g b1.1 n
  have hrl : r.length ≤ 100000000000 ∧ ∀ z ∈ r, z.length ≤ 1000 := by
   cases t with
   | false => rw [hr0 rfl]; exact ⟨by simp, fun z hz => by cases hz⟩
   | true =>
    obtain ⟨hxm, hym, d, _, hP⟩ := hr rfl
    obtain ⟨tl, e, hmem, _, _⟩ := hP.form
    have hfew := hP.few
    refine ⟨by omega, fun z hz => ?_⟩
    rw [e] at hz
    rcases List.mem_cons.1 hz with rfl | hz
    ·exact hsx _ hxm
    ·exact hsx _ (hmem z hz)
  have ht := toSemigroup_ev g (by omega)
  have he := eqSemigroup_ev g (by omega)
  have hmk := markSemigroup_ev g 1 (by omega) (by omega) (by omega)
  have tx := toIntS_ev x (by omega)
  have ty := toIntS_ev y (by omega)
  have ex := eqIntS_ev x (by omega)
  have ey := eqIntS_ev y (by omega)
  have kx := markIntS_ev x (1 + (g.length : Int)) (by omega) (by omega) (by omega)
  have ky := markIntS_ev y (1 + (g.length : Int) + (x.length : Int)) (by omega) (by omega) (by omega)
  have ht0 := (totSS_rng 1000 r hrl.2).1
  have es := eqIntSS_ev r hrl.1 hrl.2
  have ms := markIntSS_ev r hrl.1 hrl.2
  have hh := heldIntSS_ev r hrl.1 hrl.2
  refine Ev.bnd (szSemigroup_in g hm hl) (Ev.neg (by omega) (Ev.bnd ht (Ev.bnd tx (Ev.bnd ty (Ev.bnd h1 (Ev.bnd ht (Ev.bnd tx (Ev.bnd ty (Ev.bnd h2 (Ev.bnd es (Ev.pos rfl (Ev.pos rfl (Ev.bnd ht (Ev.bnd he (Ev.pos rfl (Ev.bnd tx (Ev.bnd ex (Ev.pos rfl (Ev.bnd ty (Ev.bnd ey (Ev.pos rfl (Ev.bnd hmk (Ev.bnd kx (Ev.bnd ky (Ev.neg (by show ¬ (1 + (g.length : Int) + (x.length : Int) + (y.length : Int)) < 0; omega) ?_)))))))))))))))))))))))))
  exact Ev.bnd es (Ev.pos rfl (Ev.pos rfl (Ev.bnd ms (Ev.bnd hh (Ev.neg (by omega) (Ev.pos rfl (Ev.bnd ht (Ev.bnd tx (Ev.bnd ty (Ev.bnd h2 (Ev.bnd es (Ev.pos rfl (Ev.pos rfl (Ev.bnd hh (Ev.neg (by omega) (Ev.pos rfl (Ev.now _)))))))))))))))))
 ·exact Ev.bnd (szSemigroup_out g hm hl) (Ev.pos (by omega) (Ev.now _))
end Go.Proofs.Ytlfdipnhlmjiaaa.Pure
