/- For every semigroup value and two lists of whole numbers the program's IdealSum returns what the reference's returns; no condition besides the row's own. -/
import Derived.Test.YtiejmnnnjmmifaaC0
import Derived.Test.YtiejmnnnjmmifaaC13
import Derived.Test.YtiejmnnnjmmifaaC14
import Derived.Test.YtiejmnnnjmmifaaBbase
import Derived.Test.YtiejmnnnjmmifaaBlaws0
import Derived.Test.YtiejmnnnjmmifaaBlaws1
import Derived.Test.YtiejmnnnjmmifaaBsz
import Derived.Test.YtiejmnnnjmmifaaBwithin
import Derived.Test.YtiejmnnnjmmifaaBallwithin
import Derived.Test.YtiejmnnnjmmifaaBsums
import Derived.Test.YtiejmnnnjmmifaaBtable
import Derived.Test.YtiejmnnnjmmifaaBgcd
import Derived.Test.YtiejmnnnjmmifaaBasc
import Derived.Test.YtiejmnnnjmmifaaBleasts
import Derived.Test.YtiejmnnnjmmifaaBsortspec
import Derived.Test.YtiejmnnnjmmifaaBisort
import Derived.Test.YtiejmnnnjmmifaaBminimal
import Derived.Test.YtiejmnnnjmmifaaBissg
import Derived.Test.YtiejmnnnjmmifaaBshell
import Derived.Test.YtiejmnnnjmmifaaBleastle
import Derived.Test.YtiejmnnnjmmifaaBspechas
import Derived.Test.YtiejmnnnjmmifaaBsemig
import Derived.Test.YtiejmnnnjmmifaaBmarksg
import Derived.Test.YtiejmnnnjmmifaaBelems
import Derived.Test.YtiejmnnnjmmifaaBreach
import Derived.Test.YtiejmnnnjmmifaaBextreme
import Derived.Test.YtiejmnnnjmmifaaBminimalin
import Derived.Test.YtiejmnnnjmmifaaBideal
import Derived.Test.YtiejmnnnjmmifaaBsumsof
namespace Go.Proofs.Ytiejmnnnjmmifaa.Pure
open Go.RowKit Go.Proofs.Ytiejmnnnjmmifaa.C Go.Proofs.YtiejmnnnjmmifaaW.PrintWords Go.Proofs.YtiejmnnnjmmifaaW.PrintLast Go.Proofs.YtiejmnnnjmmifaaW.PrintMore
set_option linter.unusedVariables false
set_option linter.unusedSimpArgs false
theorem idealsum_both (g a b : List Int) (hlen : g.length ≤ 1048576) (ha : a.length ≤ 1048576) (hb : b.length ≤ 1048576) : ∃ r, r.length ≤ 1048576 ∧ Ev (fun k => spec_IdealSum.f k g a b) r ∧ Ev (fun k => impl_IdealSum.f k g a b) r := by
  obtain ⟨c, c1, c3⟩ := impl_IsSemigroup_ev g hlen
  have a1 := spec_valid_ev a ha
  have a2 := impl_ideal_ev a ha
  have b1 := spec_valid_ev b hb
  have b2 := impl_ideal_ev b hb
  have o1 : Ev (fun k => spec_IdealSum.j0 k a b true g) [] := Ev.one (fun k => by rw [spec_IdealSum.j0]) (Ev.pos rfl (Ev.now _))
  have o2 : Ev (fun k => impl_IdealSum.j0 k a b true g) [] := Ev.one (fun k => by rw [impl_IdealSum.j0]) (Ev.pos rfl (Ev.now _))
  unfold spec_IdealSum.f impl_IdealSum.f
  cases ea : idealB a with
  | false =>
    rw [ea] at a1 a2
    refine ⟨[], by simp, Ev.bnd a1 (Ev.neg (by decide) o1), Ev.bnd c3 ?_⟩
    cases c with
    | true => exact Ev.pos rfl (Ev.bnd a2 (Ev.neg (by decide) o2))
    | false => exact Ev.neg (by decide) o2
  | true =>
    rw [ea] at a1 a2
    cases eb : idealB b with
    | false =>
      rw [eb] at b1 b2
      refine ⟨[], by simp, Ev.bnd a1 (Ev.pos rfl (Ev.bnd b1 o1)), Ev.bnd c3 ?_⟩
      cases c with
      | true => exact Ev.pos rfl (Ev.bnd a2 (Ev.pos rfl (Ev.bnd b2 o2)))
      | false => exact Ev.neg (by decide) o2
    | true =>
      rw [eb] at b1 b2
      obtain ⟨xa, la, la2⟩ := idealB_of a ea
      obtain ⟨xb, lb, lb2⟩ := idealB_of b eb
      obtain ⟨s, s1, s2, s3⟩ := sumsof_both a b xa xb la2 lb2
      obtain ⟨r, r1, r2, r3⟩ := minimal_both g s hlen (by omega)
      have q1 : Ev (fun k => spec_IdealSum.j0 k a b (!true) g) r := Ev.one (fun k => by rw [spec_IdealSum.j0]) (Ev.neg (by decide) (Ev.bnd s2 (Ev.bnd r2 (Ev.now _))))
      refine ⟨r, by omega, Ev.bnd a1 (Ev.pos rfl (Ev.bnd b1 q1)), Ev.bnd c3 ?_⟩
      cases c with
      | true =>
        refine Ev.pos rfl (Ev.bnd a2 (Ev.pos rfl (Ev.bnd b2 ?_)))
        exact Ev.one (fun k => by rw [impl_IdealSum.j0]) (Ev.neg (by decide) (Ev.bnd s3 (Ev.bnd r3 (Ev.now _))))
      | false =>
        have e : r = [] := r1.2.2.2 (fun hS => by have := c1.2 hS; cases this)
        rw [e]
        exact Ev.neg (by decide) o2
theorem FnExactIdealSum (g : List Int) (a : List Int) (b : List Int) (hm_g : g.length ≤ maxLen) (hw_g : ∀ x ∈ g, (Lit.int .i64 x).wf = true) (hm_a : a.length ≤ maxLen) (hw_a : ∀ x ∈ a, (Lit.int .i64 x).wf = true) (hm_b : b.length ≤ maxLen) (hw_b : ∀ x ∈ b, (Lit.int .i64 x).wf = true) : ∃ k, laws_FnExactIdealSum.f k g a b = some true := by
  apply Ev.rounds
  unfold laws_FnExactIdealSum.f
  by_cases hl_a : (a.length : Int) ≤ 1048576
  rotate_left
  · exact Ev.pos (by omega) (Ev.now _)
  refine Ev.neg (by omega) ?_
  by_cases hl_b : (b.length : Int) ≤ 1048576
  rotate_left
  · exact Ev.pos (by omega) (Ev.now _)
  refine Ev.neg (by omega) ?_
  by_cases hl_g : (g.length : Int) ≤ 1048576
  rotate_left
  · exact Ev.bnd (szSemigroup_out g hm_g hl_g) (Ev.pos (by omega) (Ev.now _))
  refine Ev.bnd (szSemigroup_in g hm_g hl_g) (Ev.neg (by omega) ?_)
  have ht_g := toSemigroup_ev g (by omega)
  have he_g := eqSemigroup_ev g (by omega)
  have ht_a := toIntS_ev a (by omega)
  have ht_b := toIntS_ev b (by omega)
  have he_a := eqIntS_ev a (by omega)
  have he_b := eqIntS_ev b (by omega)
  obtain ⟨r, hr, h1, h2⟩ := idealsum_both g a b (by omega) (by omega) (by omega)
  have hr : r.length ≤ 1048576 := Nat.le_trans hr (by decide)
  have her := eqIntS_ev r (by omega)
  have hmr := markIntS_ev r 1 (by omega) (by omega) (by omega)
  have hhr := heldIntS_ev r 1 (by omega) (by omega) (by omega)
  have hmk_g := markSemigroup_ev g (1) (by omega) (by omega) (by omega)
  have hmk_a := markIntS_ev a (1 + (g.length : Int)) (by omega) (by omega) (by omega)
  have hmk_b := markIntS_ev b (1 + (g.length : Int) + (a.length : Int)) (by omega) (by omega) (by omega)
  repeat (first | exact Ev.now _ | (refine Ev.bnd (by assumption) ?_; try dsimp only) | refine Ev.pos (by first | with_reducible rfl | omega) ?_ | refine Ev.neg (by first | omega | decide | (simp; done)) ?_ | (refine Ev.one (fun k => by rw [laws_FnExactIdealSum.j0]) ?_) | (refine Ev.one (fun k => by rw [laws_FnExactIdealSum.j1]) ?_) | (refine Ev.one (fun k => by rw [laws_FnExactIdealSum.j2]) ?_))
end Go.Proofs.Ytiejmnnnjmmifaa.Pure
