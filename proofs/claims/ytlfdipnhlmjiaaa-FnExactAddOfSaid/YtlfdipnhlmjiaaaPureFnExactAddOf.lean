/- For every two semigroup values the program's AddOf returns what the reference's returns; no condition besides the row's own. -/
import Derived.Test.YtlfdipnhlmjiaaaC0
import Derived.Test.YtlfdipnhlmjiaaaC7
import Derived.Test.YtlfdipnhlmjiaaaC8
import Derived.Test.YtlfdipnhlmjiaaaC9
import Derived.Test.YtlfdipnhlmjiaaaBbase
import Derived.Test.YtlfdipnhlmjiaaaBlaws0
import Derived.Test.YtlfdipnhlmjiaaaBlaws1
import Derived.Test.YtlfdipnhlmjiaaaBsz
import Derived.Test.YtlfdipnhlmjiaaaBwithin
import Derived.Test.YtlfdipnhlmjiaaaBallwithin
import Derived.Test.YtlfdipnhlmjiaaaBsums
import Derived.Test.YtlfdipnhlmjiaaaBtable
import Derived.Test.YtlfdipnhlmjiaaaBgcd
import Derived.Test.YtlfdipnhlmjiaaaBasc
import Derived.Test.YtlfdipnhlmjiaaaBleasts
import Derived.Test.YtlfdipnhlmjiaaaBsortspec
import Derived.Test.YtlfdipnhlmjiaaaBisort
import Derived.Test.YtlfdipnhlmjiaaaBminimal
import Derived.Test.YtlfdipnhlmjiaaaBissg
import Derived.Test.YtlfdipnhlmjiaaaBshell
import Derived.Test.YtlfdipnhlmjiaaaBleastle
import Derived.Test.YtlfdipnhlmjiaaaBsemig
import Derived.Test.YtlfdipnhlmjiaaaBmarksg
import Derived.Test.YtlfdipnhlmjiaaaBelems
import Derived.Test.YtlfdipnhlmjiaaaBfromgens
import Derived.Test.YtlfdipnhlmjiaaaBheldsg
namespace Go.Proofs.Ytlfdipnhlmjiaaa.Pure
open Go.RowKit Go.Proofs.Ytlfdipnhlmjiaaa.C Go.Proofs.YtlfdipnhlmjiaaaW.PrintWords Go.Proofs.YtlfdipnhlmjiaaaW.PrintLast Go.Proofs.YtlfdipnhlmjiaaaW.PrintMore
set_option linter.unusedVariables false
set_option linter.unusedSimpArgs false
theorem addof_both (a b : List Int) (ha : a.length ≤ 1048576) (hb : b.length ≤ 1048576) : ∃ r : List Int × Bool, r.1.length ≤ 1048576 ∧ Ev (fun k => spec_AddOf.f k a b) r ∧ Ev (fun k => impl_AddOf.f k a b) r := by
  obtain ⟨c, c1, c2, c3⟩ := sg_both a ha
  obtain ⟨d, d1, d2, d3⟩ := sg_both b hb
  unfold spec_AddOf.f impl_AddOf.f
  cases c with
  | false => exact ⟨([], false), by simp, Ev.bnd c2 (Ev.neg (by decide) (Ev.now _)), Ev.bnd c3 (Ev.neg (by decide) (Ev.now _))⟩
  | true =>
    cases d with
    | false => exact ⟨([], false), by simp, Ev.bnd c2 (Ev.pos rfl (Ev.bnd d2 (Ev.neg (by decide) (Ev.now _)))), Ev.bnd c3 (Ev.pos rfl (Ev.bnd d3 (Ev.neg (by decide) (Ev.now _))))⟩
    | true =>
      have h1 := (c1.1 rfl).len2
      have h2 := (d1.1 rfl).len2
      obtain ⟨⟨r, t⟩, r1, r2, r3⟩ := fromgens_both (a ++ b) (by rw [List.length_append]; omega)
      refine ⟨(r, t), r1, Ev.bnd c2 (Ev.pos rfl (Ev.bnd d2 (Ev.pos rfl ?_))), Ev.bnd c3 (Ev.pos rfl (Ev.bnd d3 (Ev.pos rfl ?_)))⟩
      · refine Ev.some (Ev.pos (by rw [List.length_nil]; omega) (Ev.some (Ev.pos (by rw [List.nil_append]; omega) ?_)))
        rw [List.nil_append]
        exact Ev.bnd r2 (Ev.now _)
      · refine Ev.some (Ev.pos (by rw [List.length_nil]; omega) (Ev.some (Ev.pos (by rw [List.nil_append]; omega) ?_)))
        rw [List.nil_append]
        exact Ev.bnd r3 (Ev.now _)
theorem FnExactAddOf (a : List Int) (b : List Int) (hm_a : a.length ≤ maxLen) (hw_a : ∀ x ∈ a, (Lit.int .i64 x).wf = true) (hm_b : b.length ≤ maxLen) (hw_b : ∀ x ∈ b, (Lit.int .i64 x).wf = true) : ∃ k, laws_FnExactAddOf.f k a b = some true := by
  apply Ev.rounds
  unfold laws_FnExactAddOf.f
  by_cases hl_a : (a.length : Int) ≤ 1048576
  rotate_left
  · exact Ev.bnd (szSemigroup_out a hm_a hl_a) (Ev.pos (by omega) (Ev.now _))
  refine Ev.bnd (szSemigroup_in a hm_a hl_a) (Ev.neg (by omega) ?_)
  by_cases hl_b : (b.length : Int) ≤ 1048576 - (a.length : Int)
  rotate_left
  · exact Ev.bnd (szSemigroup_outt b _ (by omega) (by omega) hm_b hl_b) (Ev.pos (by omega) (Ev.now _))
  refine Ev.bnd (szSemigroup_inn b _ (by omega) (by omega) hm_b hl_b) (Ev.neg (by omega) ?_)
  have ht_a := toSemigroup_ev a (by omega)
  have ht_b := toSemigroup_ev b (by omega)
  have he_a := eqSemigroup_ev a (by omega)
  have he_b := eqSemigroup_ev b (by omega)
  obtain ⟨⟨r, t⟩, hr, h1, h2⟩ := addof_both a b (by omega) (by omega)
  have hr : r.length ≤ 1048576 := Nat.le_trans hr (by decide)
  have her := eqSemigroup_ev r (by omega)
  have hmr := markSemigroup_ev r 1 (by omega) (by omega) (by omega)
  have hhr := heldSemigroup_ev r (by omega)
  have ett : (t != t) = false := by cases t <;> rfl
  have hmk_a := markSemigroup_ev a (1) (by omega) (by omega) (by omega)
  have hmk_b := markSemigroup_ev b (1 + (a.length : Int)) (by omega) (by omega) (by omega)
  repeat (first | exact Ev.now _ | (refine Ev.bnd (by assumption) ?_; try dsimp only) | refine Ev.pos (by first | with_reducible rfl | omega) ?_ | refine Ev.neg (by first | omega | decide | (simp; done)) ?_ | rw [ett] | (refine Ev.one (fun k => by rw [laws_FnExactAddOf.j0]) ?_) | (refine Ev.one (fun k => by rw [laws_FnExactAddOf.j1]) ?_) | (refine Ev.one (fun k => by rw [laws_FnExactAddOf.j2]) ?_))
end Go.Proofs.Ytlfdipnhlmjiaaa.Pure
