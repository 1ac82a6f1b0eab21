/- For all arguments the program's GreatestElasticity returns what the reference's returns and leaves its arguments as they were; no condition besides the row's own. -/
import Derived.Test.YtolbllafeblmdaaC0
import Derived.Test.YtolbllafeblmdaaC16
import Derived.Test.YtolbllafeblmdaaC17
import Derived.Test.YtolbllafeblmdaaBbase
import Derived.Test.YtolbllafeblmdaaBlaws0
import Derived.Test.YtolbllafeblmdaaBsz
import Derived.Test.YtolbllafeblmdaaBwithin
import Derived.Test.YtolbllafeblmdaaBallwithin
import Derived.Test.YtolbllafeblmdaaBsums
import Derived.Test.YtolbllafeblmdaaBtable
import Derived.Test.YtolbllafeblmdaaBgcd
import Derived.Test.YtolbllafeblmdaaBasc
import Derived.Test.YtolbllafeblmdaaBleasts
import Derived.Test.YtolbllafeblmdaaBsortspec
import Derived.Test.YtolbllafeblmdaaBminimal
import Derived.Test.YtolbllafeblmdaaBissg
import Derived.Test.YtolbllafeblmdaaBshell
import Derived.Test.YtolbllafeblmdaaBsemig
namespace Go.Proofs.Ytolbllafeblmdaa.Pure
open Go.RowKit Go.Proofs.Ytolbllafeblmdaa.C Go.Proofs.YtolbllafeblmdaaW.PrintWords Go.Proofs.YtolbllafeblmdaaW.PrintLast Go.Proofs.YtolbllafeblmdaaW.PrintMore
set_option linter.unusedVariables false
set_option linter.unusedSimpArgs false
theorem gcdS_pos (x y : Int) (hx : 1 ≤ x ∧ x ≤ 60) (hy : 1 ≤ y ∧ y ≤ 60) : gcdS x y ≠ 0 := by
  obtain ⟨a, rfl⟩ : ∃ a : Nat, x = (a : Int) := ⟨x.toNat, by omega⟩
  obtain ⟨b, rfl⟩ : ∃ b : Nat, y = (b : Int) := ⟨y.toNat, by omega⟩
  rw [gcdS_nat a b (by omega) (by omega)]
  have := Nat.gcd_pos_of_pos_left b (show 0 < a by omega)
  omega
theorem elas_both (g : List Int) (hlen : g.length ≤ 1048576) : ∃ r : Int × Int, Ev (fun k => spec_GreatestElasticity.f k g) r ∧ Ev (fun k => impl_GreatestElasticity.f k g) r := by
  obtain ⟨b, b1, b2, b3⟩ := sg_both g hlen
  unfold spec_GreatestElasticity.f impl_GreatestElasticity.f
  cases b with
  | false => exact ⟨(0, 0), Ev.bnd b2 (Ev.neg (by decide) (Ev.now _)), Ev.bnd b3 (Ev.neg (by decide) (Ev.now _))⟩
  | true =>
    have hS := b1.1 rfl
    have hl := hS.len1
    have e1 : wrap64 ((g.length : Int) - 1) = ((g.length - 1 : Nat) : Int) := by rw [w64_of (by omega) (by omega)]; omega
    have hx := hS.rng _ (List.getElem_mem (show g.length - 1 < g.length by omega))
    have hy := hS.rng _ (List.getElem_mem (show 0 < g.length by omega))
    have e3 : rd g 0 = g[0] := rd_at g 0 (by omega)
    rw [e1, rd_at g (g.length - 1) (by omega), e3]
    have hz := gcdS_pos _ _ hx hy
    refine ⟨_, Ev.bnd b2 (Ev.pos rfl (Ev.pos (by omega) (Ev.pos (by omega) (Ev.pos (by omega) (Ev.bnd (spec_GcdOf_ev _ _) (Ev.neg hz (Ev.now _))))))), Ev.bnd b3 (Ev.pos rfl (Ev.pos (by omega) (Ev.pos (by omega) (Ev.pos (by omega) (Ev.bnd (a := (wrap64 (Int.tdiv g[g.length - 1] (gcdS g[g.length - 1] g[0])), wrap64 (Int.tdiv g[0] (gcdS g[g.length - 1] g[0])))) ?_ (Ev.now _))))))⟩
    unfold impl_lowest.f
    exact Ev.bnd (impl_GcdOf_ev _ _) (Ev.neg hz (Ev.now _))
theorem FnExactGreatestElasticity (g : List Int) (hm : g.length ≤ maxLen) (hw : ∀ x ∈ g, (Lit.int .i64 x).wf = true) : ∃ k, laws_FnExactGreatestElasticity.f k g = some true := by
  apply Ev.rounds
  unfold laws_FnExactGreatestElasticity.f
  by_cases hl : (g.length : Int) ≤ 1048576
  · obtain ⟨r, h1, h2⟩ := elas_both g (by omega)
    have ht := toSemigroup_ev g (by omega)
    have he := eqSemigroup_ev g (by omega)
    refine Ev.bnd (szSemigroup_in g hm hl) (Ev.neg (by omega) (Ev.bnd ht (Ev.bnd h1 (Ev.bnd ht (Ev.bnd h2 (Ev.pos rfl (Ev.one (fun k => by rw [laws_FnExactGreatestElasticity.j0]) ?_)))))))
    exact Ev.neg (by simp) (Ev.bnd ht (Ev.bnd he (Ev.pos rfl (Ev.now _))))
  · exact Ev.bnd (szSemigroup_out g hm hl) (Ev.pos (by omega) (Ev.now _))
end Go.Proofs.Ytolbllafeblmdaa.Pure
