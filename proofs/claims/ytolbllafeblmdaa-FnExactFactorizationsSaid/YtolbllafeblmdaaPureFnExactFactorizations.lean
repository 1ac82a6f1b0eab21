/- For every semigroup value and number the program's Factorizations returns what the reference's returns, in memory of its own; no condition besides the row's own. -/
import Derived.Test.YtolbllafeblmdaaC0
import Derived.Test.YtolbllafeblmdaaC7
import Derived.Test.YtolbllafeblmdaaBbase
import Derived.Test.YtolbllafeblmdaaBnested
namespace Go.Proofs.Ytolbllafeblmdaa.Pure
open Go.RowKit Go.Proofs.Ytolbllafeblmdaa.C Go.Proofs.YtolbllafeblmdaaW.PrintWords Go.Proofs.YtolbllafeblmdaaW.PrintLast Go.Proofs.YtolbllafeblmdaaW.PrintMore
set_option linter.unusedVariables false
set_option linter.unusedSimpArgs false
theorem facS_small (b : Bool) (g : List Int) (hS : b = true → SG g) (n : Int) : (facS b g n).length ≤ 100000000000 ∧ ∀ x ∈ facS b g n, x.length ≤ 1000 := by
 unfold facS
 split
 ·rename_i h
  obtain ⟨hb, hn⟩ := h
  have hS := hS hb
  obtain ⟨m, rfl⟩ : ∃ m : Nat, n = (m : Int) := ⟨n.toNat, by omega⟩
  have h2 := hS.len2
  refine ⟨facL_room g hS g (fun x hx => hx) (Nat.le_refl _) m (by omega), fun x hx => ?_⟩
  have := ((facL_mem g m x (fun y hy => (hS.rng y hy).1)).1 hx).1
  omega
 ·exact ⟨by simp, fun x hx => by cases hx⟩
theorem FnExactFactorizations (g : List Int) (n : Int) (hm : g.length ≤ maxLen) (hw : ∀ x ∈ g, (Lit.int .i64 x).wf = true) (hn : (Lit.int .i64 n).wf = true) : ∃ k, laws_FnExactFactorizations.f k g n = some true := by
 apply Ev.rounds
 unfold laws_FnExactFactorizations.f
 by_cases hl : (g.length : Int) ≤ 1048576
 ·obtain ⟨b, b1, h1, h2⟩ := fac_both g (by omega) n
  have ht := toSemigroup_ev g (by omega)
  have he := eqSemigroup_ev g (by omega)
  have hmk := markSemigroup_ev g 1 (by omega) (by omega) (by omega)
  obtain ⟨hr, hx⟩ := facS_small b g b1.1 n
  have ht0 := (totSS_rng 1000 (facS b g n) hx).1
  have es := eqIntSS_ev (facS b g n) hr hx
  have ms := markIntSS_ev (facS b g n) hr hx
  have hs := heldIntSS_ev (facS b g n) hr hx
  exact Ev.bnd (szSemigroup_in g hm hl) (Ev.neg (by omega) (Ev.bnd ht (Ev.bnd h1 (Ev.bnd ht (Ev.bnd h2 (Ev.bnd es (Ev.pos rfl (Ev.bnd ht (Ev.bnd he (Ev.pos rfl (Ev.bnd hmk (Ev.neg (by show ¬ (1 + (g.length : Int)) < 0; omega) (Ev.bnd es (Ev.pos rfl (Ev.bnd ms (Ev.bnd hs (Ev.neg (by omega) (Ev.pos rfl (Ev.bnd ht (Ev.bnd h2 (Ev.bnd es (Ev.pos rfl (Ev.bnd hs (Ev.neg (by omega) (Ev.pos rfl (Ev.now _))))))))))))))))))))))))))
 ·exact Ev.bnd (szSemigroup_out g hm hl) (Ev.pos (by omega) (Ev.now _))
end Go.Proofs.Ytolbllafeblmdaa.Pure
