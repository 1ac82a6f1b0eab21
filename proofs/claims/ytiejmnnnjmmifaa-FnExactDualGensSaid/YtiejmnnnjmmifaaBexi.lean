/- Plain lemmas (exi): no program, no memory. -/
import Derived.Test.YtiejmnnnjmmifaaC0
import Derived.Test.YtiejmnnnjmmifaaC8
import Derived.Test.YtiejmnnnjmmifaaBallwithin
import Derived.Test.YtiejmnnnjmmifaaBasc
import Derived.Test.YtiejmnnnjmmifaaBisort
import Derived.Test.YtiejmnnnjmmifaaBissg
import Derived.Test.YtiejmnnnjmmifaaBelems
import Derived.Test.YtiejmnnnjmmifaaBbase
namespace Go.Proofs.Ytiejmnnnjmmifaa.Pure
open Go.RowKit Go.Proofs.Ytiejmnnnjmmifaa.C Go.Proofs.YtiejmnnnjmmifaaW.PrintWords Go.Proofs.YtiejmnnnjmmifaaW.PrintLast Go.Proofs.YtiejmnnnjmmifaaW.PrintMore
set_option linter.unusedVariables false
set_option linter.unusedSimpArgs false
/-! exi: impl.extreme -/
noncomputable def exq (g : List Int) (dn : Bool) (x y : Int) : Bool := decide (x = y) || !elB g (if dn = true then x - y else y - x)
noncomputable def exB (g : List Int) (dn : Bool) (l : List Int) (x : Int) : Bool := l.all (exq g dn x)
noncomputable def exL (g : List Int) (dn : Bool) (l : List Int) : List Int := l.filter (exB g dn l)
theorem take_all (g : List Int) (p : Int → Bool) (i : Nat) (hi : i < g.length) : (g.take (i + 1)).all p = ((g.take i).all p && p g[i]) := by
  rw [List.take_succ_eq_append_getElem hi, List.all_append]
  simp
theorem impl_ex_l1 (g : List Int) (dn : Bool) (P : Int → Int → Option Bool) (hP : ∀ x y : Int, -1000000 ≤ x ∧ x ≤ 1000000 → -1000000 ≤ y ∧ y ≤ 1000000 → P x y = some (elB g (if dn = true then x - y else y - x)))
    (l : List Int) (hl : l.length ≤ 1048576) (hr : ∀ x ∈ l, -1000000 ≤ x ∧ x ≤ 1000000) (acc : List Int) (j : Nat) (hj : j < l.length) (hacc : acc.length ≤ 1048576) {r : List Int}
    (hn : Ev (fun k => impl_extreme.l0 k P l (if exB g dn l l[j] = true then acc ++ [l[j]] else acc) l (l.length : Int) ((j + 1 : Nat) : Int)) r) :
    ∀ d i, i + d = l.length → Ev (fun k => impl_extreme.l1 k P l acc l[j] ((l.take i).all (exq g dn l[j])) l (l.length : Int) (j : Int) l (l.length : Int) (i : Int)) r := by
  have hx := hr _ (List.getElem_mem hj)
  intro d
  induction d with
  | zero =>
    intro i hi
    obtain rfl : i = l.length := by omega
    rw [List.take_length]
    refine Ev.one (fun k => by rw [impl_extreme.l1]) ?_
    rw [w64_succ j (by omega)]
    refine Ev.neg (by omega) ?_
    change Ev (fun k => if exB g dn l l[j] = true then _ else _) r
    cases hb : exB g dn l l[j] with
    | true =>
      rw [hb, if_pos rfl] at hn
      exact Ev.pos rfl (Ev.pos (by omega) hn)
    | false =>
      rw [hb, if_neg (by decide)] at hn
      exact Ev.neg (by decide) hn
  | succ d ih =>
    intro i hi
    have hil : i < l.length := by omega
    have hy := hr _ (List.getElem_mem hil)
    have ih := ih (i + 1) (by omega)
    rw [take_all l _ i hil] at ih
    refine Ev.one (fun k => by rw [impl_extreme.l1]) ?_
    rw [rd_at l i hil, w64_succ i (by omega)]
    refine Ev.pos (by omega) (Ev.pos (by omega) (Ev.pos (by omega) ?_))
    cases hb : (l.take i).all (exq g dn l[j]) with
    | false =>
      rw [hb, Bool.false_and] at ih
      exact Ev.neg (by decide) ih
    | true =>
      rw [hb, Bool.true_and] at ih
      refine Ev.pos rfl ?_
      by_cases he : l[j] = l[i]
      · rw [show exq g dn l[j] l[i] = true from by unfold exq; rw [decide_eq_true he]; rfl] at ih
        exact Ev.pos he ih
      · rw [show exq g dn l[j] l[i] = !elB g (if dn = true then l[j] - l[i] else l[i] - l[j]) from by unfold exq; rw [decide_eq_false he]; rfl] at ih
        exact Ev.neg he (Ev.bnd (Ev.const (hP _ _ hx hy)) ih)
theorem impl_ex_l0 (g : List Int) (dn : Bool) (P : Int → Int → Option Bool) (hP : ∀ x y : Int, -1000000 ≤ x ∧ x ≤ 1000000 → -1000000 ≤ y ∧ y ≤ 1000000 → P x y = some (elB g (if dn = true then x - y else y - x)))
    (l : List Int) (hl : l.length ≤ 1048576) (hr : ∀ x ∈ l, -1000000 ≤ x ∧ x ≤ 1000000) :
    ∀ d j, j + d = l.length → Ev (fun k => impl_extreme.l0 k P l ((l.take j).filter (exB g dn l)) l (l.length : Int) (j : Int)) (exL g dn l) := by
  intro d
  induction d with
  | zero =>
    intro j hj
    rw [List.take_of_length_le (by omega)]
    refine Ev.one (fun k => by rw [impl_extreme.l0]) ?_
    exact Ev.neg (by omega) (Ev.now _)
  | succ d ih =>
    intro j hj
    have hjl : j < l.length := by omega
    have ih := ih (j + 1) (by omega)
    have hf := List.length_filter_le (exB g dn l) (l.take j)
    rw [List.length_take] at hf
    rw [List.take_succ_eq_append_getElem hjl, List.filter_append] at ih
    refine Ev.one (fun k => by rw [impl_extreme.l0]) ?_
    rw [rd_at l j hjl]
    refine Ev.pos (by omega) (Ev.pos (by omega) (Ev.pos (by omega) ?_))
    refine impl_ex_l1 g dn P hP l hl hr _ j hjl (by omega) ?_ l.length 0 (by omega)
    cases hb : exB g dn l l[j] with
    | true => rw [List.filter_cons_of_pos hb, List.filter_nil] at ih; rw [if_pos rfl]; exact ih
    | false => rw [List.filter_cons_of_neg (by rw [hb]; decide), List.filter_nil, List.append_nil] at ih; rw [if_neg (by decide)]; exact ih
theorem exB_same (g : List Int) (dn : Bool) (l s : List Int) (h : ∀ y, y ∈ s ↔ y ∈ l) (x : Int) : exB g dn s x = exB g dn l x := by
  unfold exB
  rw [Bool.eq_iff_iff, List.all_eq_true, List.all_eq_true]
  exact ⟨fun h1 y hy => h1 y ((h y).2 hy), fun h1 y hy => h1 y ((h y).1 hy)⟩
theorem impl_ex_ev (g : List Int) (hlen : g.length ≤ 1048576) (dn : Bool) (l : List Int) (hl : l.length ≤ 1048576) (P : Int → Int → Option Bool)
    (hP : SG g → ∀ x y : Int, -1000000 ≤ x ∧ x ≤ 1000000 → -1000000 ≤ y ∧ y ≤ 1000000 → P x y = some (elB g (if dn = true then x - y else y - x))) :
    ∃ r, (asc r ∧ (∀ y ∈ r, y ∈ l) ∧ r.length ≤ l.length ∧ (¬ SG g → r = []) ∧ (SG g → (∀ x ∈ l, -1000000 ≤ x ∧ x ≤ 1000000) → ∀ y, y ∈ r ↔ y ∈ exL g dn l) ∧ (¬ (∀ x ∈ l, -1000000 ≤ x ∧ x ≤ 1000000) → r = [])) ∧ Ev (fun k => impl_extreme.f k g l P) r := by
  obtain ⟨b, b1, b3⟩ := impl_IsSemigroup_ev g hlen
  have h2 := impl_allWithin_ev l (-1000000) 1000000 (by omega)
  have out_ : ∀ t : Bool, t = true → Ev (fun k => impl_extreme.j0 k l P t) [] := fun t ht => by
    subst ht
    exact Ev.one (fun k => by rw [impl_extreme.j0]) (Ev.pos rfl (Ev.now _))
  unfold impl_extreme.f
  cases b with
  | false => exact ⟨[], ⟨List.Pairwise.nil, by simp, by simp, fun _ => rfl, (fun hS => by have := b1.2 hS; cases this), fun _ => rfl⟩, Ev.bnd b3 (Ev.neg (by decide) (out_ _ rfl))⟩
  | true =>
    have hS := b1.1 rfl
    cases hb : allIn l (-1000000) 1000000 with
    | false =>
      rw [hb] at h2
      exact ⟨[], ⟨List.Pairwise.nil, by simp, by simp, fun _ => rfl, (fun _ hr => by rw [(allIn_iff l _ _).2 hr] at hb; cases hb), fun _ => rfl⟩, Ev.bnd b3 (Ev.pos rfl (Ev.bnd h2 (out_ _ rfl)))⟩
    | true =>
      rw [hb] at h2
      have hr := (allIn_iff l _ _).1 hb
      obtain ⟨s, s1, s3⟩ := impl_SortList_ev l (by omega)
      have hm : ∀ y, y ∈ exL g dn s ↔ y ∈ exL g dn l := fun y => by
        unfold exL
        rw [List.mem_filter, List.mem_filter, s1.2.1, exB_same g dn l s s1.2.1]
      have hle : (exL g dn s).length ≤ s.length := List.length_filter_le ..
      have hsr : ∀ x ∈ s, -1000000 ≤ x ∧ x ≤ 1000000 := fun x hx => hr x ((s1.2.1 x).1 hx)
      refine ⟨exL g dn s, ⟨s1.1.filter _, fun y hy => (s1.2.1 y).1 (List.mem_filter.1 hy).1, by omega, fun h => absurd hS h, fun _ _ y => hm y, fun h => absurd hr h⟩, Ev.bnd b3 (Ev.pos rfl (Ev.bnd h2 ?_))⟩
      refine Ev.one (fun k => by rw [impl_extreme.j0]) ?_
      exact Ev.neg (by decide) (Ev.bnd s3 (impl_ex_l0 g dn P (hP hS) s (by omega) hsr s.length 0 (by omega)))
end Go.Proofs.Ytiejmnnnjmmifaa.Pure
