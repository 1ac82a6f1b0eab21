/- Plain lemmas (extreme): no program, no memory. -/
import Derived.Test.YtiejmnnnjmmifaaC0
import Derived.Test.YtiejmnnnjmmifaaC2
import Derived.Test.YtiejmnnnjmmifaaC4
import Derived.Test.YtiejmnnnjmmifaaC5
import Derived.Test.YtiejmnnnjmmifaaC8
import Derived.Test.YtiejmnnnjmmifaaBallwithin
import Derived.Test.YtiejmnnnjmmifaaBgcd
import Derived.Test.YtiejmnnnjmmifaaBasc
import Derived.Test.YtiejmnnnjmmifaaBsortspec
import Derived.Test.YtiejmnnnjmmifaaBissg
import Derived.Test.YtiejmnnnjmmifaaBelems
import Derived.Test.YtiejmnnnjmmifaaBreach
import Derived.Test.YtiejmnnnjmmifaaBexi
import Derived.Test.YtiejmnnnjmmifaaBbase
namespace Go.Proofs.Ytiejmnnnjmmifaa.Pure
open Go.RowKit Go.Proofs.Ytiejmnnnjmmifaa.C Go.Proofs.YtiejmnnnjmmifaaW.PrintWords Go.Proofs.YtiejmnnnjmmifaaW.PrintLast Go.Proofs.YtiejmnnnjmmifaaW.PrintMore
set_option linter.unusedVariables false
set_option linter.unusedSimpArgs false
/-! extreme: spec.l10Top, and both sides -/
theorem spec_l10All_l0 (l : List Int) (hl : l.length ≤ 1048576) : ∀ d i, i + d = l.length → Ev (fun k => spec_l10All.l0 k l (i : Int)) (allIn (l.drop i) (-1000000) 1000000) := by
  intro d
  induction d with
  | zero =>
    intro i hi
    rw [List.drop_eq_nil_of_le (by omega)]
    refine Ev.one (fun k => by rw [spec_l10All.l0]) ?_
    exact Ev.neg (by omega) (Ev.now _)
  | succ d ih =>
    intro i hi
    have hil : i < l.length := by omega
    have ih := ih (i + 1) (by omega)
    rw [List.drop_eq_getElem_cons hil]
    refine Ev.one (fun k => by rw [spec_l10All.l0]) ?_
    rw [rd_at l i hil, w64_succ i (by omega)]
    refine Ev.pos (by omega) (Ev.pos (by omega) (Ev.bnd (spec_l2Small_ev _) ?_))
    by_cases h : -1000000 ≤ l[i] ∧ l[i] ≤ 1000000
    · rw [allIn_cons _ _ _ _ h]
      exact Ev.pos (decide_eq_true h) ih
    · rw [allIn_cons_not _ _ _ _ h]
      exact Ev.neg (by rw [decide_eq_false h]; decide) (Ev.now _)
theorem spec_l10All_ev (l : List Int) (hl : l.length ≤ 1048576) : Ev (fun k => spec_l10All.f k l) (allIn l (-1000000) 1000000) := spec_l10All_l0 l hl l.length 0 (by omega)
theorem spec_top_l1 (g : List Int) (hS : SG g) (dn : Bool) (l : List Int) (hl : l.length ≤ 1048576) (hr : ∀ x ∈ l, -1000000 ≤ x ∧ x ≤ 1000000) (acc : List Int) (j : Nat) (hj : j < l.length) (hacc : acc.length ≤ 1048576) {r : List Int}
    (hn : Ev (fun k => spec_l10Top.l0 k l dn (if exB g dn l l[j] = true then acc ++ [l[j]] else acc) ((j + 1 : Nat) : Int) g) r) :
    ∀ d i, i + d = l.length → Ev (fun k => spec_l10Top.l1 k l dn acc (j : Int) ((l.take i).all (exq g dn l[j])) (i : Int) g) r := by
  have hx := hr _ (List.getElem_mem hj)
  intro d
  induction d with
  | zero =>
    intro i hi
    obtain rfl : i = l.length := by omega
    rw [List.take_length]
    refine Ev.one (fun k => by rw [spec_l10Top.l1]) ?_
    rw [rd_at l j hj, w64_succ j (by omega)]
    refine Ev.neg (by omega) ?_
    change Ev (fun k => if exB g dn l l[j] = true then _ else _) r
    cases hb : exB g dn l l[j] with
    | true =>
      rw [hb, if_pos rfl] at hn
      exact Ev.pos rfl (Ev.pos (by omega) (Ev.pos (by omega) (Ev.pos (by omega) hn)))
    | false =>
      rw [hb, if_neg (by decide)] at hn
      exact Ev.neg (by decide) hn
  | succ d ih =>
    intro i hi
    have hil : i < l.length := by omega
    have hy := hr _ (List.getElem_mem hil)
    have ih := ih (i + 1) (by omega)
    rw [take_all l _ i hil] at ih
    refine Ev.one (fun k => by rw [spec_l10Top.l1]) ?_
    rw [rd_at l j hj, rd_at l i hil, w64_succ i (by omega), w64_of (x := l[j] - l[i]) (by omega) (by omega), w64_of (x := l[i] - l[j]) (by omega) (by omega)]
    refine Ev.pos (by omega) (Ev.pos (by omega) (Ev.pos (by omega) (Ev.pos (by omega) ?_)))
    cases hb : (l.take i).all (exq g dn l[j]) with
    | false =>
      rw [hb, Bool.false_and] at ih
      exact Ev.neg (by decide) ih
    | true =>
      rw [hb, Bool.true_and] at ih
      refine Ev.pos rfl ?_
      by_cases he : l[j] = l[i]
      · rw [show exq g dn l[j] l[i] = true from by unfold exq; rw [decide_eq_true he]; rfl] at ih
        exact Ev.pos he ih
      · have e1 : exq g dn l[j] l[i] = !elB g (if dn = true then l[j] - l[i] else l[i] - l[j]) := by unfold exq; rw [decide_eq_false he]; rfl
        rw [e1] at ih
        refine Ev.neg he ?_
        cases dn with
        | true =>
          rw [if_pos rfl] at ih
          exact Ev.pos rfl (Ev.bnd (spec_l3Has_el g hS _) ih)
        | false =>
          rw [if_neg (by decide)] at ih
          refine Ev.neg (by decide) (Ev.bnd (spec_l3Has_el g hS _) ?_)
          cases hc : elB g (l[i] - l[j]) with
          | true => rw [hc] at ih; exact Ev.pos rfl ih
          | false => rw [hc] at ih; exact Ev.neg (by decide) ih
theorem spec_top_l0 (g : List Int) (hS : SG g) (dn : Bool) (l : List Int) (hl : l.length ≤ 1048576) (hr : ∀ x ∈ l, -1000000 ≤ x ∧ x ≤ 1000000) {r : List Int} (hq : Ev (fun k => spec_SortList.f k (exL g dn l)) r) :
    ∀ d j, j + d = l.length → Ev (fun k => spec_l10Top.l0 k l dn ((l.take j).filter (exB g dn l)) (j : Int) g) r := by
  intro d
  induction d with
  | zero =>
    intro j hj
    rw [List.take_of_length_le (by omega)]
    refine Ev.one (fun k => by rw [spec_l10Top.l0]) ?_
    exact Ev.neg (by omega) (Ev.bnd hq (Ev.now _))
  | succ d ih =>
    intro j hj
    have hjl : j < l.length := by omega
    have ih := ih (j + 1) (by omega)
    have hf := List.length_filter_le (exB g dn l) (l.take j)
    rw [List.length_take] at hf
    rw [List.take_succ_eq_append_getElem hjl, List.filter_append] at ih
    refine Ev.one (fun k => by rw [spec_l10Top.l0]) ?_
    refine Ev.pos (by omega) ?_
    refine spec_top_l1 g hS dn l hl hr _ j hjl (by omega) ?_ l.length 0 (by omega)
    cases hb : exB g dn l l[j] with
    | true => rw [List.filter_cons_of_pos hb, List.filter_nil] at ih; rw [if_pos rfl]; exact ih
    | false => rw [List.filter_cons_of_neg (by rw [hb]; decide), List.filter_nil, List.append_nil] at ih; rw [if_neg (by decide)]; exact ih
theorem top_both (g : List Int) (hlen : g.length ≤ 1048576) (dn : Bool) (l : List Int) (hl : l.length ≤ 1048576) (P : Int → Int → Option Bool)
    (hP : SG g → ∀ x y : Int, -1000000 ≤ x ∧ x ≤ 1000000 → -1000000 ≤ y ∧ y ≤ 1000000 → P x y = some (elB g (if dn = true then x - y else y - x))) :
    ∃ r, (asc r ∧ (∀ y ∈ r, y ∈ l) ∧ r.length ≤ l.length ∧ (¬ SG g → r = []) ∧ (SG g → (∀ x ∈ l, -1000000 ≤ x ∧ x ≤ 1000000) → ∀ y, y ∈ r ↔ y ∈ exL g dn l)) ∧ Ev (fun k => spec_l10Top.f k g l dn) r ∧ Ev (fun k => impl_extreme.f k g l P) r := by
  obtain ⟨r, r1, r3⟩ := impl_ex_ev g hlen dn l hl P hP
  refine ⟨r, ⟨r1.1, r1.2.1, r1.2.2.1, r1.2.2.2.1, r1.2.2.2.2.1⟩, ?_, r3⟩
  obtain ⟨b, b1, b2⟩ := spec_IsSemigroup_ev g hlen
  have h1 := spec_l10All_ev l hl
  have out_ : ∀ t : Bool, t = true → Ev (fun k => spec_l10Top.j0 k l dn [] t g) [] := fun t ht => by
    subst ht
    exact Ev.one (fun k => by rw [spec_l10Top.j0]) (Ev.pos rfl (Ev.now _))
  unfold spec_l10Top.f
  cases b with
  | false =>
    rw [r1.2.2.2.1 (fun hS => by have := b1.2 hS; cases this)]
    exact Ev.some (Ev.bnd b2 (Ev.neg (by decide) (out_ _ rfl)))
  | true =>
    have hS := b1.1 rfl
    cases hb : allIn l (-1000000) 1000000 with
    | false =>
      rw [hb] at h1
      rw [r1.2.2.2.2.2 (fun hr => by rw [(allIn_iff l _ _).2 hr] at hb; cases hb)]
      exact Ev.some (Ev.bnd b2 (Ev.pos rfl (Ev.bnd h1 (out_ _ rfl))))
    | true =>
      rw [hb] at h1
      have hr := (allIn_iff l _ _).1 hb
      have hle : (exL g dn l).length ≤ l.length := List.length_filter_le ..
      obtain ⟨s, s1, s2⟩ := spec_SortList_ev (exL g dn l) (by omega)
      obtain rfl := asc_uniq r s r1.1 s1.1 (fun y => (r1.2.2.2.2.1 hS hr y).trans (s1.2.1 y).symm)
      refine Ev.some (Ev.bnd b2 (Ev.pos rfl (Ev.bnd h1 ?_)))
      refine Ev.one (fun k => by rw [spec_l10Top.j0]) ?_
      exact Ev.neg (by decide) (spec_top_l0 g hS dn l hl hr s2 l.length 0 (by omega))
end Go.Proofs.Ytiejmnnnjmmifaa.Pure
