/- For every semigroup value and number the program's ElasticityOf returns what the reference's returns; no condition besides the row's own. -/
import Derived.Test.YtiejmnnnjmmifaaC0
import Derived.Test.YtiejmnnnjmmifaaC11
import Derived.Test.YtiejmnnnjmmifaaBbase
import Derived.Test.YtiejmnnnjmmifaaBlaws0
import Derived.Test.YtiejmnnnjmmifaaBlaws1
import Derived.Test.YtiejmnnnjmmifaaBsz
import Derived.Test.YtiejmnnnjmmifaaBwithin
import Derived.Test.YtiejmnnnjmmifaaBallwithin
import Derived.Test.YtiejmnnnjmmifaaBsums
import Derived.Test.YtiejmnnnjmmifaaBtable
import Derived.Test.YtiejmnnnjmmifaaBgcd
import Derived.Test.YtiejmnnnjmmifaaBasc
import Derived.Test.YtiejmnnnjmmifaaBleasts
import Derived.Test.YtiejmnnnjmmifaaBsortspec
import Derived.Test.YtiejmnnnjmmifaaBisort
import Derived.Test.YtiejmnnnjmmifaaBminimal
import Derived.Test.YtiejmnnnjmmifaaBissg
import Derived.Test.YtiejmnnnjmmifaaBshell
import Derived.Test.YtiejmnnnjmmifaaBsemig
import Derived.Test.YtiejmnnnjmmifaaBmarksg
import Derived.Test.YtiejmnnnjmmifaaBdot
import Derived.Test.YtiejmnnnjmmifaaBfactor
import Derived.Test.YtiejmnnnjmmifaaBpigeon
import Derived.Test.YtiejmnnnjmmifaaBfacboth
import Derived.Test.YtiejmnnnjmmifaaBhasnum
import Derived.Test.YtiejmnnnjmmifaaBlengths
namespace Go.Proofs.Ytiejmnnnjmmifaa.Pure
open Go.RowKit Go.Proofs.Ytiejmnnnjmmifaa.C Go.Proofs.YtiejmnnnjmmifaaW.PrintWords Go.Proofs.YtiejmnnnjmmifaaW.PrintLast Go.Proofs.YtiejmnnnjmmifaaW.PrintMore
set_option linter.unusedVariables false
set_option linter.unusedSimpArgs false
theorem gcdS_ne (x y : Int) (hx : 1 ≤ x ∧ x ≤ 1000000) (hy : 1 ≤ y ∧ y ≤ 1000000) : gcdS x y ≠ 0 := by
  obtain ⟨a, rfl⟩ : ∃ a : Nat, x = (a : Int) := ⟨x.toNat, by omega⟩
  obtain ⟨b, rfl⟩ : ∃ b : Nat, y = (b : Int) := ⟨y.toNat, by omega⟩
  rw [gcdS_nat a b (by omega) (by omega)]
  have := Nat.gcd_pos_of_pos_left b (show 0 < a by omega)
  omega
theorem elast_both (g : List Int) (hlen : g.length ≤ 1048576) (n : Int) : ∃ r : Int × Int, Ev (fun k => spec_ElasticityOf.f k g n) r ∧ Ev (fun k => impl_ElasticityOf.f k g n) r := by
  obtain ⟨l, l1, l2, l3⟩ := lengths_both g hlen n
  unfold spec_ElasticityOf.f impl_ElasticityOf.f
  by_cases hn : n = 0
  · refine ⟨(0, 0), Ev.bnd l2 ?_, Ev.bnd l3 (Ev.pos hn (Ev.now _))⟩
    by_cases h0 : (l.length : Int) = 0
    · exact Ev.pos h0 (Ev.now _)
    · exact Ev.neg h0 (Ev.pos hn (Ev.now _))
  · by_cases h0 : (l.length : Int) = 0
    · exact ⟨(0, 0), Ev.bnd l2 (Ev.pos h0 (Ev.now _)), Ev.bnd l3 (Ev.neg hn (Ev.pos h0 (Ev.now _)))⟩
    · have e1 : wrap64 ((l.length : Int) - 1) = ((l.length - 1 : Nat) : Int) := by rw [w64_of (by omega) (by omega)]; omega
      have hx := l1.2.1 _ (List.getElem_mem (show l.length - 1 < l.length by omega))
      have hy := l1.2.1 _ (List.getElem_mem (show 0 < l.length by omega))
      have e3 : rd l 0 = l[0]'(by omega) := rd_at l 0 (by omega)
      have hz := gcdS_ne _ _ ⟨hx.2.2 hn, Int.le_trans hx.2.1 (by decide)⟩ ⟨hy.2.2 hn, Int.le_trans hy.2.1 (by decide)⟩
      refine ⟨(wrap64 (Int.tdiv (l[l.length - 1]'(by omega)) (gcdS (l[l.length - 1]'(by omega)) (l[0]'(by omega)))), wrap64 (Int.tdiv (l[0]'(by omega)) (gcdS (l[l.length - 1]'(by omega)) (l[0]'(by omega))))),
        Ev.bnd l2 (Ev.neg h0 (Ev.neg hn ?_)), Ev.bnd l3 (Ev.neg hn (Ev.neg h0 ?_))⟩
      · rw [e1, rd_at l (l.length - 1) (by omega), e3]
        exact Ev.pos (by omega) (Ev.pos (by omega) (Ev.pos (by omega) (Ev.bnd (spec_GcdOf_ev _ _) (Ev.neg hz (Ev.now _)))))
      · rw [e1, rd_at l (l.length - 1) (by omega), e3]
        refine Ev.pos (by omega) (Ev.pos (by omega) (Ev.pos (by omega) (Ev.bnd (a := (wrap64 (Int.tdiv (l[l.length - 1]'(by omega)) (gcdS (l[l.length - 1]'(by omega)) (l[0]'(by omega)))), wrap64 (Int.tdiv (l[0]'(by omega)) (gcdS (l[l.length - 1]'(by omega)) (l[0]'(by omega)))))) ?_ (Ev.now _))))
        unfold impl_lowest.f
        exact Ev.bnd (impl_GcdOf_ev _ _) (Ev.neg hz (Ev.now _))
theorem FnExactElasticityOf (g : List Int) (n : Int) (hm_g : g.length ≤ maxLen) (hw_g : ∀ x ∈ g, (Lit.int .i64 x).wf = true) (h_n : (Lit.int .i64 n).wf = true) : ∃ k, laws_FnExactElasticityOf.f k g n = some true := by
  apply Ev.rounds
  unfold laws_FnExactElasticityOf.f
  by_cases hl_g : (g.length : Int) ≤ 1048576
  rotate_left
  · exact Ev.bnd (szSemigroup_out g hm_g hl_g) (Ev.pos (by omega) (Ev.now _))
  refine Ev.bnd (szSemigroup_in g hm_g hl_g) (Ev.neg (by omega) ?_)
  have ht_g := toSemigroup_ev g (by omega)
  have he_g := eqSemigroup_ev g (by omega)
  obtain ⟨⟨r, t⟩, h1, h2⟩ := elast_both g (by omega) n
  have ett : (t != t) = false := by simp
  repeat (first | exact Ev.now _ | (refine Ev.bnd (by assumption) ?_; try dsimp only) | refine Ev.pos (by first | with_reducible rfl | omega) ?_ | refine Ev.neg (by first | omega | decide | (simp; done)) ?_ | rw [ett] | (refine Ev.one (fun k => by rw [laws_FnExactElasticityOf.j0]) ?_))
end Go.Proofs.Ytiejmnnnjmmifaa.Pure
