/- For all arguments the program's ScaledElements returns what the reference's returns, in memory of its own; no condition besides the row's own. -/
import Derived.Test.YtolbllafeblmdaaC0
import Derived.Test.YtolbllafeblmdaaC28
import Derived.Test.YtolbllafeblmdaaC29
import Derived.Test.YtolbllafeblmdaaBbase
import Derived.Test.YtolbllafeblmdaaBlaws0
import Derived.Test.YtolbllafeblmdaaBlaws1
import Derived.Test.YtolbllafeblmdaaBsz
import Derived.Test.YtolbllafeblmdaaBwithin
import Derived.Test.YtolbllafeblmdaaBallwithin
import Derived.Test.YtolbllafeblmdaaBsums
import Derived.Test.YtolbllafeblmdaaBtable
import Derived.Test.YtolbllafeblmdaaBgcd
import Derived.Test.YtolbllafeblmdaaBasc
import Derived.Test.YtolbllafeblmdaaBleasts
import Derived.Test.YtolbllafeblmdaaBsortspec
import Derived.Test.YtolbllafeblmdaaBminimal
import Derived.Test.YtolbllafeblmdaaBissg
import Derived.Test.YtolbllafeblmdaaBshell
import Derived.Test.YtolbllafeblmdaaBhas
import Derived.Test.YtolbllafeblmdaaBsemig
import Derived.Test.YtolbllafeblmdaaBmarksg
import Derived.Test.YtolbllafeblmdaaBelems
import Derived.Test.YtolbllafeblmdaaBsmall
namespace Go.Proofs.Ytolbllafeblmdaa.Pure
open Go.RowKit Go.Proofs.Ytolbllafeblmdaa.C Go.Proofs.YtolbllafeblmdaaW.PrintWords Go.Proofs.YtolbllafeblmdaaW.PrintLast Go.Proofs.YtolbllafeblmdaaW.PrintMore
set_option linter.unusedVariables false
set_option linter.unusedSimpArgs false
theorem scaled_spec_l0 (l : List Int) (d : Int) (hl : l.length ≤ 1000) : ∀ (e i : Nat), i + e = l.length → Ev (fun k => spec_ScaledElements.l0 k d ((l.take i).map fun x => wrap64 (x * d)) l (i : Int)) (l.map fun x => wrap64 (x * d)) := by
  intro e
  induction e with
  | zero =>
    intro i hi
    rw [List.take_of_length_le (by omega)]
    refine Ev.one (fun k => by rw [spec_ScaledElements.l0]) ?_
    exact Ev.neg (by omega) (Ev.now _)
  | succ e ih =>
    intro i hi
    have hil : i < l.length := by omega
    have ih := ih (i + 1) (by omega)
    rw [List.take_succ_eq_append_getElem hil, List.map_append, List.map_cons, List.map_nil] at ih
    refine Ev.one (fun k => by rw [spec_ScaledElements.l0]) ?_
    rw [rd_at l i hil, w64_succ i (by omega)]
    exact Ev.pos (by omega) (Ev.pos (by omega) (Ev.pos (by rw [List.length_map, List.length_take]; omega) ih))
theorem scaled_impl_l0 (g : List Int) (d : Int) (m : Nat) (hm : m ≤ 1000) : ∀ (e i : Nat), i + e = m →
    Ev (fun k => impl_ScaledElements.l0 k d (pick (fun n => elB g (n : Int)) (fun n => wrap64 ((n : Int) * d)) i) (tblL g m) (m : Int) (i : Int)) (pick (fun n => elB g (n : Int)) (fun n => wrap64 ((n : Int) * d)) m) := by
  intro e
  induction e with
  | zero =>
    intro i hi
    obtain rfl : i = m := by omega
    refine Ev.one (fun k => by rw [impl_ScaledElements.l0]) ?_
    exact Ev.neg (by omega) (Ev.now _)
  | succ e ih =>
    intro i hi
    have ih := ih (i + 1) (by omega)
    have hl := pick_len (fun n => elB g (n : Int)) (fun n => wrap64 ((n : Int) * d)) i
    have ht := tblL_length g m
    refine Ev.one (fun k => by rw [impl_ScaledElements.l0]) ?_
    rw [rdOf_tblL g m i (by omega), w64_succ i (by omega)]
    cases hb : elB g (i : Int) with
    | true =>
      rw [pick_pos _ _ i hb] at ih
      exact Ev.pos (by omega) (Ev.pos (by omega) (Ev.pos (by omega) (Ev.pos rfl (Ev.pos (by omega) ih))))
    | false =>
      rw [pick_neg _ _ i hb] at ih
      exact Ev.pos (by omega) (Ev.pos (by omega) (Ev.pos (by omega) (Ev.neg (by decide) ih)))
theorem scaled_both (g : List Int) (hlen : g.length ≤ 1048576) (d n : Int) : ∃ r : List Int, r.length ≤ 1000 ∧ Ev (fun k => spec_ScaledElements.f k g d n) r ∧ Ev (fun k => impl_ScaledElements.f k g d n) r := by
  obtain ⟨b, b1, b2, b3⟩ := sg_both g hlen
  have stopS : Ev (fun k => spec_ScaledElements.j0 k d n [] true g) [] := by
    refine Ev.one (fun k => by rw [spec_ScaledElements.j0]) ?_
    exact Ev.pos rfl (Ev.now _)
  have stopI : Ev (fun k => impl_ScaledElements.j0 k d n true g) [] := by
    refine Ev.one (fun k => by rw [impl_ScaledElements.j0]) ?_
    exact Ev.pos rfl (Ev.now _)
  unfold spec_ScaledElements.f impl_ScaledElements.f
  cases b with
  | false => exact ⟨[], by simp, Ev.some (Ev.bnd b2 (Ev.neg (by decide) stopS)), Ev.bnd b3 (Ev.neg (by decide) stopI)⟩
  | true =>
    have hS := b1.1 rfl
    by_cases h1 : 1 ≤ d ∧ d ≤ 20
    · by_cases h2 : 0 ≤ n ∧ n ≤ 200
      · obtain ⟨m, rfl⟩ : ∃ m : Nat, n = (m : Int) := ⟨n.toNat, by omega⟩
        have hl := pick_len (fun n => elB g (n : Int)) (fun n => (n : Int)) (m + 1)
        have e : (pick (fun n => elB g (n : Int)) (fun n => (n : Int)) (m + 1)).map (fun x => wrap64 (x * d)) = pick (fun n => elB g (n : Int)) (fun n => wrap64 ((n : Int) * d)) (m + 1) := by
          unfold pick
          rw [List.map_map]
          rfl
        refine ⟨pick (fun n => elB g (n : Int)) (fun n => wrap64 ((n : Int) * d)) (m + 1), by have := pick_len (fun n => elB g (n : Int)) (fun n => wrap64 ((n : Int) * d)) (m + 1); omega, ?_, ?_⟩
        · refine Ev.some (Ev.bnd b2 (Ev.pos rfl (Ev.bnd (spec_l1In_ev _ _ _) (Ev.pos (decide_eq_true h1) (Ev.bnd (spec_l1In_ev _ _ _) (Ev.one (fun k => by rw [spec_ScaledElements.j0]) ?_))))))
          rw [w64_succ m (by omega)]
          refine Ev.neg (by rw [decide_eq_true h2]; decide) (Ev.bnd (spec_l4Small_ev g (m + 1) (by omega) (by omega) (fun x hx => (hS.rng x hx).1) hlen) ?_)
          have h := scaled_spec_l0 (pick (fun n => elB g (n : Int)) (fun n => (n : Int)) (m + 1)) d (by omega) _ 0 (Nat.zero_add _)
          rw [e] at h
          exact h
        · refine Ev.bnd b3 (Ev.pos rfl (Ev.bnd (impl_within_ev _ _ _) (Ev.pos (decide_eq_true h1) (Ev.bnd (impl_within_ev _ _ _) (Ev.one (fun k => by rw [impl_ScaledElements.j0]) ?_)))))
          refine Ev.neg (by rw [decide_eq_true h2]; decide) (Ev.bnd (impl_table_ev g hS m (by omega)) ?_)
          rw [tblL_length]
          exact scaled_impl_l0 g d (m + 1) (by omega) (m + 1) 0 (by omega)
      · exact ⟨[], by simp, Ev.some (Ev.bnd b2 (Ev.pos rfl (Ev.bnd (spec_l1In_ev _ _ _) (Ev.pos (decide_eq_true h1) (Ev.bnd (spec_l1In_ev _ _ _) (by rw [decide_eq_false h2]; exact stopS)))))),
          Ev.bnd b3 (Ev.pos rfl (Ev.bnd (impl_within_ev _ _ _) (Ev.pos (decide_eq_true h1) (Ev.bnd (impl_within_ev _ _ _) (by rw [decide_eq_false h2]; exact stopI)))))⟩
    · exact ⟨[], by simp, Ev.some (Ev.bnd b2 (Ev.pos rfl (Ev.bnd (spec_l1In_ev _ _ _) (Ev.neg (by rw [decide_eq_false h1]; decide) stopS)))),
        Ev.bnd b3 (Ev.pos rfl (Ev.bnd (impl_within_ev _ _ _) (Ev.neg (by rw [decide_eq_false h1]; decide) stopI)))⟩
theorem FnExactScaledElements (g : List Int) (d n : Int) (hm : g.length ≤ maxLen) (hw : ∀ x ∈ g, (Lit.int .i64 x).wf = true) (h_d : (Lit.int .i64 d).wf = true) (h_n : (Lit.int .i64 n).wf = true) : ∃ k, laws_FnExactScaledElements.f k g d n = some true := by
  apply Ev.rounds
  unfold laws_FnExactScaledElements.f
  by_cases hl : (g.length : Int) ≤ 1048576
  · obtain ⟨r, hr, h1, h2⟩ := scaled_both g (by omega) d n
    have ht := toSemigroup_ev g (by omega)
    have he := eqSemigroup_ev g (by omega)
    have her := eqIntS_ev r (by omega)
    have hmk := markSemigroup_ev g 1 (by omega) (by omega) (by omega)
    have hmr := markIntS_ev r 1 (by omega) (by omega) (by omega)
    have hhr := heldIntS_ev r 1 (by omega) (by omega) (by omega)
    refine Ev.bnd (szSemigroup_in g hm hl) (Ev.neg (by omega) (Ev.bnd ht (Ev.bnd h1 (Ev.bnd ht (Ev.bnd h2 (Ev.bnd her (Ev.pos rfl (Ev.bnd ht (Ev.bnd he (Ev.pos rfl (Ev.bnd hmk ?_)))))))))))
    dsimp only
    refine Ev.neg (by omega) (Ev.bnd her (Ev.one (fun k => by rw [laws_FnExactScaledElements.j0]) ?_))
    refine Ev.neg (by simp) (Ev.bnd hmr ?_)
    dsimp only
    exact Ev.bnd hhr (Ev.neg (by omega) (Ev.pos rfl (Ev.bnd ht (Ev.bnd h2 (Ev.bnd her (Ev.pos rfl (Ev.bnd hhr (Ev.neg (by omega) (Ev.pos rfl (Ev.now _))))))))))
  · exact Ev.bnd (szSemigroup_out g hm hl) (Ev.pos (by omega) (Ev.now _))

end Go.Proofs.Ytolbllafeblmdaa.Pure
