/- For every semigroup value, list and number the program's InIdeal answers what the reference answers; no condition besides the row's own. -/
import Derived.Test.YtolbllafeblmdaaC0
import Derived.Test.YtolbllafeblmdaaC4
import Derived.Test.YtolbllafeblmdaaC7
import Derived.Test.YtolbllafeblmdaaBbase
import Derived.Test.YtolbllafeblmdaaBlaws0
import Derived.Test.YtolbllafeblmdaaBlaws1
import Derived.Test.YtolbllafeblmdaaBsz
import Derived.Test.YtolbllafeblmdaaBwithin
import Derived.Test.YtolbllafeblmdaaBallwithin
import Derived.Test.YtolbllafeblmdaaBsums
import Derived.Test.YtolbllafeblmdaaBtable
import Derived.Test.YtolbllafeblmdaaBgcd
import Derived.Test.YtolbllafeblmdaaBasc
import Derived.Test.YtolbllafeblmdaaBleasts
import Derived.Test.YtolbllafeblmdaaBsortspec
import Derived.Test.YtolbllafeblmdaaBminimal
import Derived.Test.YtolbllafeblmdaaBissg
import Derived.Test.YtolbllafeblmdaaBshell
import Derived.Test.YtolbllafeblmdaaBleastle
import Derived.Test.YtolbllafeblmdaaBspechas
import Derived.Test.YtolbllafeblmdaaBsemig
import Derived.Test.YtolbllafeblmdaaBelems
import Derived.Test.YtolbllafeblmdaaBreach0
import Derived.Test.YtolbllafeblmdaaBreach
import Derived.Test.YtolbllafeblmdaaBreachany
import Derived.Test.YtolbllafeblmdaaBideal
namespace Go.Proofs.Ytolbllafeblmdaa.Pure
open Go.RowKit Go.Proofs.Ytolbllafeblmdaa.C Go.Proofs.YtolbllafeblmdaaW.PrintWords Go.Proofs.YtolbllafeblmdaaW.PrintLast Go.Proofs.YtolbllafeblmdaaW.PrintMore
set_option linter.unusedVariables false
set_option linter.unusedSimpArgs false
theorem spec_l15Has_el (g : List Int) (hS : SG g) (n : Int) : Ev (fun k => spec_l15Has.f k g n) (elB g n) := by
  unfold spec_l15Has.f
  by_cases h : n = 0
  · rw [show elB g n = true from (elB_iff g n).2 (h ▸ Sums.zero g)]
    exact Ev.pos h (Ev.now _)
  · exact Ev.neg h (Ev.bnd (spec_l3Has_el g hS n) (Ev.now _))
theorem any_drop (l : List Int) (p : Int → Bool) (i : Nat) (h : i < l.length) : (l.drop i).any p = (p l[i] || (l.drop (i + 1)).any p) := by rw [List.drop_eq_getElem_cons h, List.any_cons]
theorem spec_in_l0 (g : List Int) (hS : SG g) (l : List Int) (x : Int) (hl : l.length ≤ 20) (hr : ∀ y ∈ l, -200 ≤ y ∧ y ≤ 200) (hx : -1000000 ≤ x ∧ x ≤ 1000000) : ∀ d i, i + d = l.length → Ev (fun k => spec_l16In.l0 k l x (i : Int) g) ((l.drop i).any fun y => elB g (x - y)) := by
  intro d
  induction d with
  | zero =>
    intro i hi
    rw [List.drop_eq_nil_of_le (by omega)]
    refine Ev.one (fun k => by rw [spec_l16In.l0]) ?_
    exact Ev.neg (by omega) (Ev.now _)
  | succ d ih =>
    intro i hi
    have hil : i < l.length := by omega
    have hy := hr _ (List.getElem_mem hil)
    have ih := ih (i + 1) (by omega)
    rw [any_drop l _ i hil]
    refine Ev.one (fun k => by rw [spec_l16In.l0]) ?_
    rw [rd_at l i hil, w64_succ i (by omega), w64_of (x := x - l[i]) (by omega) (by omega)]
    refine Ev.pos (by omega) (Ev.pos (by omega) (Ev.bnd (spec_l15Has_el g hS _) ?_))
    cases hb : elB g (x - l[i]) with
    | true => exact Ev.pos rfl (Ev.now _)
    | false => exact Ev.neg (by decide) ih
theorem impl_in_l0 (g : List Int) (hS : SG g) (P : Int → Option Bool) (hP : ∀ d, P d = some (elB g d)) (l : List Int) (x : Int) (hl : l.length ≤ 20) (hr : ∀ y ∈ l, -200 ≤ y ∧ y ≤ 200) (hx : -1000000 ≤ x ∧ x ≤ 1000000) : ∀ d i, i + d = l.length → Ev (fun k => impl_InIdeal.l0 k x P l (l.length : Int) (i : Int)) ((l.drop i).any fun y => elB g (x - y)) := by
  intro d
  induction d with
  | zero =>
    intro i hi
    rw [List.drop_eq_nil_of_le (by omega)]
    refine Ev.one (fun k => by rw [impl_InIdeal.l0]) ?_
    exact Ev.neg (by omega) (Ev.now _)
  | succ d ih =>
    intro i hi
    have hil : i < l.length := by omega
    have hy := hr _ (List.getElem_mem hil)
    have ih := ih (i + 1) (by omega)
    rw [any_drop l _ i hil]
    refine Ev.one (fun k => by rw [impl_InIdeal.l0]) ?_
    rw [rd_at l i hil, w64_succ i (by omega), w64_of (x := x - l[i]) (by omega) (by omega)]
    refine Ev.pos (by omega) (Ev.pos (by omega) (Ev.pos (by omega) (Ev.bnd (Ev.const (hP _)) ?_)))
    cases hb : elB g (x - l[i]) with
    | true => exact Ev.pos rfl (Ev.now _)
    | false => exact Ev.neg (by decide) ih
theorem inideal_both (g l : List Int) (x : Int) (hlen : g.length ≤ 1048576) (hl : l.length ≤ 1048576) : ∃ r : Bool, Ev (fun k => spec_InIdeal.f k g l x) r ∧ Ev (fun k => impl_InIdeal.f k g l x) r := by
  obtain ⟨b, b1, b2, b3⟩ := sg_both g hlen
  have v1 := spec_valid_ev l hl
  have v2 := impl_ideal_ev l hl
  have w1 := spec_l2Small_ev x
  have w2 := impl_within_ev x (-1000000) 1000000
  have out_ : Ev (fun k => impl_InIdeal.j0 k l x true g) false := Ev.one (fun k => by rw [impl_InIdeal.j0]) (Ev.pos rfl (Ev.now _))
  unfold spec_InIdeal.f impl_InIdeal.f
  cases b with
  | false => exact ⟨false, Ev.bnd b2 (Ev.neg (by decide) (Ev.now _)), Ev.bnd b3 (Ev.neg (by decide) out_)⟩
  | true =>
    have hS := b1.1 rfl
    cases hb : idealB l with
    | false =>
      rw [hb] at v1 v2
      exact ⟨false, Ev.bnd b2 (Ev.pos rfl (Ev.bnd v1 (Ev.neg (by decide) (Ev.now _)))), Ev.bnd b3 (Ev.pos rfl (Ev.bnd v2 (Ev.neg (by decide) out_)))⟩
    | true =>
      rw [hb] at v1 v2
      obtain ⟨h1, h2, h3⟩ := idealB_of l hb
      by_cases hx : -1000000 ≤ x ∧ x ≤ 1000000
      · rw [decide_eq_true hx] at w1 w2
        obtain ⟨p, p1, p2⟩ := reach_any g hlen
        refine ⟨l.any fun y => elB g (x - y), Ev.bnd b2 (Ev.pos rfl (Ev.bnd v1 (Ev.pos rfl (Ev.bnd w1 (Ev.pos rfl (Ev.bnd (a := l.any fun y => elB g (x - y)) ?_ (Ev.now _))))))), Ev.bnd b3 (Ev.pos rfl (Ev.bnd v2 (Ev.pos rfl (Ev.bnd w2 ?_))))⟩
        · unfold spec_l16In.f
          exact spec_in_l0 g hS l x h3 h1 hx l.length 0 (by omega)
        · refine Ev.one (fun k => by rw [impl_InIdeal.j0]) ?_
          exact Ev.neg (by decide) (Ev.bnd p2 (impl_in_l0 g hS p (p1 hS) l x h3 h1 hx l.length 0 (by omega)))
      · rw [decide_eq_false hx] at w1 w2
        exact ⟨false, Ev.bnd b2 (Ev.pos rfl (Ev.bnd v1 (Ev.pos rfl (Ev.bnd w1 (Ev.neg (by decide) (Ev.now _)))))), Ev.bnd b3 (Ev.pos rfl (Ev.bnd v2 (Ev.pos rfl (Ev.bnd w2 out_))))⟩
theorem FnExactInIdeal (g : List Int) (l : List Int) (x : Int) (hm_g : g.length ≤ maxLen) (hw_g : ∀ x ∈ g, (Lit.int .i64 x).wf = true) (hm_l : l.length ≤ maxLen) (hw_l : ∀ x ∈ l, (Lit.int .i64 x).wf = true) (h_x : (Lit.int .i64 x).wf = true) : ∃ k, laws_FnExactInIdeal.f k g l x = some true := by
  apply Ev.rounds
  unfold laws_FnExactInIdeal.f
  by_cases hl_l : (l.length : Int) ≤ 1048576
  rotate_left
  · exact Ev.pos (by omega) (Ev.now _)
  refine Ev.neg (by omega) ?_
  by_cases hl_g : (g.length : Int) ≤ 1048576
  rotate_left
  · exact Ev.bnd (szSemigroup_out g hm_g hl_g) (Ev.pos (by omega) (Ev.now _))
  refine Ev.bnd (szSemigroup_in g hm_g hl_g) (Ev.neg (by omega) ?_)
  have ht_g := toSemigroup_ev g (by omega)
  have he_g := eqSemigroup_ev g (by omega)
  have ht_l := toIntS_ev l (by omega)
  have he_l := eqIntS_ev l (by omega)
  obtain ⟨r, h1, h2⟩ := inideal_both g l x (by omega) (by omega)
  repeat (first | exact Ev.now _ | (refine Ev.bnd (by assumption) ?_; try dsimp only) | refine Ev.pos (by first | with_reducible rfl | omega) ?_ | refine Ev.neg (by first | omega | decide | (simp; done)) ?_ | (refine Ev.one (fun k => by rw [laws_FnExactInIdeal.j0]) ?_) | (refine Ev.one (fun k => by rw [laws_FnExactInIdeal.j1]) ?_))
end Go.Proofs.Ytolbllafeblmdaa.Pure
