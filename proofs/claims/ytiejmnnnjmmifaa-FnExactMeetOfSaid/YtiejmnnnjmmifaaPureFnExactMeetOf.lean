/- For every two semigroup values the program's MeetOf returns what the reference's returns; no condition besides the row's own. -/
import Derived.Test.YtiejmnnnjmmifaaC0
import Derived.Test.YtiejmnnnjmmifaaC15
import Derived.Test.YtiejmnnnjmmifaaC17
import Derived.Test.YtiejmnnnjmmifaaC18
import Derived.Test.YtiejmnnnjmmifaaBbase
import Derived.Test.YtiejmnnnjmmifaaBlaws0
import Derived.Test.YtiejmnnnjmmifaaBlaws1
import Derived.Test.YtiejmnnnjmmifaaBsz
import Derived.Test.YtiejmnnnjmmifaaBwithin
import Derived.Test.YtiejmnnnjmmifaaBallwithin
import Derived.Test.YtiejmnnnjmmifaaBsums
import Derived.Test.YtiejmnnnjmmifaaBtable
import Derived.Test.YtiejmnnnjmmifaaBgcd
import Derived.Test.YtiejmnnnjmmifaaBasc
import Derived.Test.YtiejmnnnjmmifaaBleasts
import Derived.Test.YtiejmnnnjmmifaaBsortspec
import Derived.Test.YtiejmnnnjmmifaaBisort
import Derived.Test.YtiejmnnnjmmifaaBminimal
import Derived.Test.YtiejmnnnjmmifaaBissg
import Derived.Test.YtiejmnnnjmmifaaBshell
import Derived.Test.YtiejmnnnjmmifaaBleastle
import Derived.Test.YtiejmnnnjmmifaaBsemig
import Derived.Test.YtiejmnnnjmmifaaBmarksg
import Derived.Test.YtiejmnnnjmmifaaBelems
import Derived.Test.YtiejmnnnjmmifaaBgaps
import Derived.Test.YtiejmnnnjmmifaaBfromgaps
import Derived.Test.YtiejmnnnjmmifaaBhasnum
import Derived.Test.YtiejmnnnjmmifaaBgapgens
import Derived.Test.YtiejmnnnjmmifaaBfromboth
import Derived.Test.YtiejmnnnjmmifaaBheldsg
namespace Go.Proofs.Ytiejmnnnjmmifaa.Pure
open Go.RowKit Go.Proofs.Ytiejmnnnjmmifaa.C Go.Proofs.YtiejmnnnjmmifaaW.PrintWords Go.Proofs.YtiejmnnnjmmifaaW.PrintLast Go.Proofs.YtiejmnnnjmmifaaW.PrintMore
set_option linter.unusedVariables false
set_option linter.unusedSimpArgs false
theorem meet_both (a b : List Int) (ha : a.length ≤ 1048576) (hb : b.length ≤ 1048576) : ∃ r : List Int × Bool, r.1.length ≤ 401 ∧ Ev (fun k => spec_MeetOf.f k a b) r ∧ Ev (fun k => impl_MeetOf.f k a b) r := by
  obtain ⟨c, c1, c2, c3⟩ := sg_both a ha
  obtain ⟨d, d1, d2, d3⟩ := sg_both b hb
  have out_ : ∀ t : Bool, t = true → Ev (fun k => spec_MeetOf.j0 k t a b) ([], false) ∧ Ev (fun k => impl_MeetOf.j0 k t a b) ([], false) := fun t ht => by
    subst ht
    exact ⟨Ev.one (fun k => by rw [spec_MeetOf.j0]) (Ev.pos rfl (Ev.now _)), Ev.one (fun k => by rw [impl_MeetOf.j0]) (Ev.pos rfl (Ev.now _))⟩
  unfold spec_MeetOf.f impl_MeetOf.f
  cases c with
  | false => exact ⟨([], false), by simp, Ev.bnd c2 (Ev.neg (by decide) (out_ _ rfl).1), Ev.bnd c3 (Ev.neg (by decide) (out_ _ rfl).2)⟩
  | true =>
    cases d with
    | false => exact ⟨([], false), by simp, Ev.bnd c2 (Ev.pos rfl (Ev.bnd d2 (out_ _ rfl).1)), Ev.bnd c3 (Ev.pos rfl (Ev.bnd d3 (out_ _ rfl).2))⟩
    | true =>
      have hA := c1.1 rfl
      have hB := d1.1 rfl
      obtain ⟨e, e1, e3⟩ := impl_gaps_ev a ha
      obtain ⟨f, f1, f3⟩ := impl_gaps_ev b hb
      obtain rfl := bool_same c1 e1
      obtain rfl := bool_same d1 f1
      have ea : gapsS true a = gapL a := if_pos rfl
      have eb : gapsS true b = gapL b := if_pos rfl
      rw [ea] at e3
      rw [eb] at f3
      have h1 := gapL_len a
      have h2 := gapL_len b
      have hl : (gapL a ++ gapL b).length ≤ 400 := by rw [List.length_append]; omega
      obtain ⟨s, s1, s2, s3⟩ := sort_both (gapL a ++ gapL b) (by omega)
      obtain ⟨q, _, q1, q2⟩ := from_both s (by omega)
      refine ⟨fromS s q, fromS_len _ _, Ev.bnd c2 (Ev.pos rfl (Ev.bnd d2 ?_)), Ev.bnd c3 (Ev.pos rfl (Ev.bnd d3 ?_))⟩
      · refine Ev.one (fun k => by rw [spec_MeetOf.j0]) ?_
        exact Ev.neg (by decide) (Ev.bnd (spec_l4Gaps_ev a (fun x hx => (hA.rng x hx).1) ha) (Ev.bnd (spec_l4Gaps_ev b (fun x hx => (hB.rng x hx).1) hb) (Ev.pos (by omega) (Ev.bnd s2 (Ev.bnd q1 (Ev.now _))))))
      · refine Ev.one (fun k => by rw [impl_MeetOf.j0]) ?_
        exact Ev.neg (by decide) (Ev.bnd e3 (Ev.bnd f3 (Ev.pos (by omega) (Ev.bnd s3 (Ev.bnd q2 (Ev.now _))))))
theorem FnExactMeetOf (a : List Int) (b : List Int) (hm_a : a.length ≤ maxLen) (hw_a : ∀ x ∈ a, (Lit.int .i64 x).wf = true) (hm_b : b.length ≤ maxLen) (hw_b : ∀ x ∈ b, (Lit.int .i64 x).wf = true) : ∃ k, laws_FnExactMeetOf.f k a b = some true := by
  apply Ev.rounds
  unfold laws_FnExactMeetOf.f
  by_cases hl_a : (a.length : Int) ≤ 1048576
  rotate_left
  · exact Ev.bnd (szSemigroup_out a hm_a hl_a) (Ev.pos (by omega) (Ev.now _))
  refine Ev.bnd (szSemigroup_in a hm_a hl_a) (Ev.neg (by omega) ?_)
  by_cases hl_b : (b.length : Int) ≤ 1048576 - (a.length : Int)
  rotate_left
  · exact Ev.bnd (szSemigroup_outt b _ (by omega) (by omega) hm_b hl_b) (Ev.pos (by omega) (Ev.now _))
  refine Ev.bnd (szSemigroup_inn b _ (by omega) (by omega) hm_b hl_b) (Ev.neg (by omega) ?_)
  have ht_a := toSemigroup_ev a (by omega)
  have ht_b := toSemigroup_ev b (by omega)
  have he_a := eqSemigroup_ev a (by omega)
  have he_b := eqSemigroup_ev b (by omega)
  obtain ⟨⟨r, t⟩, hr, h1, h2⟩ := meet_both a b (by omega) (by omega)
  have hr : r.length ≤ 1048576 := Nat.le_trans hr (by decide)
  have her := eqSemigroup_ev r (by omega)
  have hmr := markSemigroup_ev r 1 (by omega) (by omega) (by omega)
  have hhr := heldSemigroup_ev r (by omega)
  have ett : (t != t) = false := by cases t <;> rfl
  have hmk_a := markSemigroup_ev a (1) (by omega) (by omega) (by omega)
  have hmk_b := markSemigroup_ev b (1 + (a.length : Int)) (by omega) (by omega) (by omega)
  repeat (first | exact Ev.now _ | (refine Ev.bnd (by assumption) ?_; try dsimp only) | refine Ev.pos (by first | with_reducible rfl | omega) ?_ | refine Ev.neg (by first | omega | decide | (simp; done)) ?_ | rw [ett] | (refine Ev.one (fun k => by rw [laws_FnExactMeetOf.j0]) ?_) | (refine Ev.one (fun k => by rw [laws_FnExactMeetOf.j1]) ?_) | (refine Ev.one (fun k => by rw [laws_FnExactMeetOf.j2]) ?_))
end Go.Proofs.Ytiejmnnnjmmifaa.Pure
