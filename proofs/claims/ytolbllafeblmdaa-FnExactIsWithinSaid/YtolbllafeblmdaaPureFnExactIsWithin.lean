/- For all arguments the program's IsWithin returns what the reference's returns and leaves its arguments as they were; no condition besides the row's own. -/
import Derived.Test.YtolbllafeblmdaaC0
import Derived.Test.YtolbllafeblmdaaC10
import Derived.Test.YtolbllafeblmdaaC23
import Derived.Test.YtolbllafeblmdaaC24
import Derived.Test.YtolbllafeblmdaaC9
import Derived.Test.YtolbllafeblmdaaBbase
import Derived.Test.YtolbllafeblmdaaBlaws0
import Derived.Test.YtolbllafeblmdaaBsz
import Derived.Test.YtolbllafeblmdaaBwithin
import Derived.Test.YtolbllafeblmdaaBallwithin
import Derived.Test.YtolbllafeblmdaaBsums
import Derived.Test.YtolbllafeblmdaaBtable
import Derived.Test.YtolbllafeblmdaaBgcd
import Derived.Test.YtolbllafeblmdaaBasc
import Derived.Test.YtolbllafeblmdaaBleasts
import Derived.Test.YtolbllafeblmdaaBsortspec
import Derived.Test.YtolbllafeblmdaaBminimal
import Derived.Test.YtolbllafeblmdaaBissg
import Derived.Test.YtolbllafeblmdaaBshell
import Derived.Test.YtolbllafeblmdaaBsemig
import Derived.Test.YtolbllafeblmdaaBhas
namespace Go.Proofs.Ytolbllafeblmdaa.Pure
open Go.RowKit Go.Proofs.Ytolbllafeblmdaa.C Go.Proofs.YtolbllafeblmdaaW.PrintWords Go.Proofs.YtolbllafeblmdaaW.PrintLast Go.Proofs.YtolbllafeblmdaaW.PrintMore
set_option linter.unusedVariables false
set_option linter.unusedSimpArgs false
theorem has_both (g : List Int) (hlen : g.length ≤ 1048576) (h : SG g) (n : Int) (hn : n ≤ 9223372036854775807) : ∃ b, (b = true ↔ Sums g n) ∧ Ev (fun k => spec_l3Has.f k g n) b ∧ Ev (fun k => impl_Contains.f k g n) b := by
  obtain ⟨c, c1, c2⟩ := impl_Contains_ev g hlen n hn
  obtain ⟨d, d1, d2⟩ := spec_l3Has_ev g h n
  obtain rfl : d = c := bool_same (p := Sums g n) (d1.trans ⟨fun e => e.1, fun e => ⟨e, by omega⟩⟩) (c1.trans ⟨fun e => e.2, fun e => ⟨h, e⟩⟩)
  exact ⟨d, c1.trans ⟨fun e => e.2, fun e => ⟨h, e⟩⟩, d2, c2⟩
theorem within_l0 (a b : List Int) (hb : SG b) (hbl : b.length ≤ 1048576) (ha : a.length ≤ 12) (har : ∀ x ∈ a, 1 ≤ x ∧ x ≤ 60) : ∀ (d i : Nat), i + d = a.length →
    ∃ r, Ev (fun k => spec_IsWithin.l0 k (i : Int) a b) r ∧ Ev (fun k => impl_IsWithin.l0 k a (a.length : Int) (i : Int) b) r := by
  intro d
  induction d with
  | zero =>
    intro i hi
    refine ⟨true, Ev.one (fun k => by rw [spec_IsWithin.l0]) ?_, Ev.one (fun k => by rw [impl_IsWithin.l0]) ?_⟩
    · exact Ev.neg (by omega) (Ev.now _)
    · exact Ev.neg (by omega) (Ev.now _)
  | succ d ih =>
    intro i hi
    have hil : i < a.length := by omega
    have hx := har a[i] (List.getElem_mem hil)
    obtain ⟨c, _, c1, c2⟩ := has_both b hbl hb a[i] (by omega)
    cases c with
    | false =>
      refine ⟨false, Ev.one (fun k => by rw [spec_IsWithin.l0]) ?_, Ev.one (fun k => by rw [impl_IsWithin.l0]) ?_⟩
      · rw [rd_at a i hil]; exact Ev.pos (by omega) (Ev.pos (by omega) (Ev.bnd c1 (Ev.neg (by decide) (Ev.now _))))
      · rw [rd_at a i hil]; exact Ev.pos (by omega) (Ev.pos (by omega) (Ev.pos (by omega) (Ev.bnd c2 (Ev.neg (by decide) (Ev.now _)))))
    | true =>
      obtain ⟨r, r1, r2⟩ := ih (i + 1) (by omega)
      refine ⟨r, Ev.one (fun k => by rw [spec_IsWithin.l0]) ?_, Ev.one (fun k => by rw [impl_IsWithin.l0]) ?_⟩
      · rw [rd_at a i hil, w64_succ i (by omega)]; exact Ev.pos (by omega) (Ev.pos (by omega) (Ev.bnd c1 (Ev.pos rfl r1)))
      · rw [rd_at a i hil, w64_succ i (by omega)]; exact Ev.pos (by omega) (Ev.pos (by omega) (Ev.pos (by omega) (Ev.bnd c2 (Ev.pos rfl r2))))
theorem within_f (a b : List Int) (ha : a.length ≤ 1048576) (hb : b.length ≤ 1048576) : ∃ r, Ev (fun k => spec_IsWithin.f k a b) r ∧ Ev (fun k => impl_IsWithin.f k a b) r := by
  obtain ⟨p, p1, p2, p3⟩ := sg_both a ha
  obtain ⟨q, q1, q2, q3⟩ := sg_both b hb
  unfold spec_IsWithin.f impl_IsWithin.f
  cases p with
  | false =>
    refine ⟨false, Ev.bnd p2 (Ev.neg (by decide) (Ev.one (fun k => by rw [spec_IsWithin.j0]) ?_)), Ev.bnd p3 (Ev.neg (by decide) (Ev.one (fun k => by rw [impl_IsWithin.j0]) ?_))⟩
    · exact Ev.pos rfl (Ev.now _)
    · exact Ev.pos rfl (Ev.now _)
  | true =>
    cases q with
    | false =>
      refine ⟨false, Ev.bnd p2 (Ev.pos rfl (Ev.bnd q2 (Ev.one (fun k => by rw [spec_IsWithin.j0]) ?_))), Ev.bnd p3 (Ev.pos rfl (Ev.bnd q3 (Ev.one (fun k => by rw [impl_IsWithin.j0]) ?_)))⟩
      · exact Ev.pos rfl (Ev.now _)
      · exact Ev.pos rfl (Ev.now _)
    | true =>
      have hA := p1.1 rfl
      obtain ⟨r, r1, r2⟩ := within_l0 a b (q1.1 rfl) hb hA.len2 hA.rng a.length 0 (by omega)
      refine ⟨r, Ev.bnd p2 (Ev.pos rfl (Ev.bnd q2 (Ev.one (fun k => by rw [spec_IsWithin.j0]) ?_))), Ev.bnd p3 (Ev.pos rfl (Ev.bnd q3 (Ev.one (fun k => by rw [impl_IsWithin.j0]) ?_)))⟩
      · exact Ev.neg (by decide) r1
      · exact Ev.neg (by decide) r2
theorem FnExactIsWithin (a b : List Int) (hm : a.length ≤ maxLen) (hw : ∀ x ∈ a, (Lit.int .i64 x).wf = true) (hm' : b.length ≤ maxLen) (hw' : ∀ x ∈ b, (Lit.int .i64 x).wf = true) : ∃ k, laws_FnExactIsWithin.f k a b = some true := by
  apply Ev.rounds
  unfold laws_FnExactIsWithin.f
  by_cases hl : (a.length : Int) ≤ 1048576
  · by_cases hl2 : (b.length : Int) ≤ 1048576 - (a.length : Int)
    · obtain ⟨r, h1, h2⟩ := within_f a b (by omega) (by omega)
      have ht := toSemigroup_ev a (by omega)
      have he := eqSemigroup_ev a (by omega)
      have ht' := toSemigroup_ev b (by omega)
      have he' := eqSemigroup_ev b (by omega)
      exact Ev.bnd (szSemigroup_in a hm hl) (Ev.neg (by omega) (Ev.bnd (szSemigroup_inn b _ (by omega) (by omega) hm' hl2) (Ev.neg (by omega) (Ev.bnd ht (Ev.bnd ht' (Ev.bnd h1 (Ev.bnd ht (Ev.bnd ht' (Ev.bnd h2 (Ev.neg (by simp) (Ev.bnd ht (Ev.bnd he (Ev.pos rfl (Ev.bnd ht' (Ev.bnd he' (Ev.pos rfl (Ev.now _)))))))))))))))))
    · exact Ev.bnd (szSemigroup_in a hm hl) (Ev.neg (by omega) (Ev.bnd (szSemigroup_outt b _ (by omega) (by omega) hm' hl2) (Ev.pos (by omega) (Ev.now _))))
  · exact Ev.bnd (szSemigroup_out a hm hl) (Ev.pos (by omega) (Ev.now _))
end Go.Proofs.Ytolbllafeblmdaa.Pure
