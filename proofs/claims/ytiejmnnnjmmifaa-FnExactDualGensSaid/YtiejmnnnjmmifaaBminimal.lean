/- Plain lemmas (minimal): no program, no memory. -/
import Derived.Test.YtiejmnnnjmmifaaC0
import Derived.Test.YtiejmnnnjmmifaaC3
import Derived.Test.YtiejmnnnjmmifaaBsums
import Derived.Test.YtiejmnnnjmmifaaBtable
import Derived.Test.YtiejmnnnjmmifaaBasc
import Derived.Test.YtiejmnnnjmmifaaBsortspec
import Derived.Test.YtiejmnnnjmmifaaBbase
namespace Go.Proofs.Ytiejmnnnjmmifaa.Pure
open Go.RowKit Go.Proofs.Ytiejmnnnjmmifaa.C Go.Proofs.YtiejmnnnjmmifaaW.PrintWords Go.Proofs.YtiejmnnnjmmifaaW.PrintLast Go.Proofs.YtiejmnnnjmmifaaW.PrintMore
set_option linter.unusedVariables false
set_option linter.unusedSimpArgs false
/-! minimal: spec.l3Minimal -/
/-- The number with the index k is no sum of those before it. -/
def kept (l : List Int) (k : Nat) : Prop := k = 0 ∨ ¬ Sums (l.take k) (l.getD k 0)
noncomputable def keptB (l : List Int) (k : Nat) : Bool := @decide (kept l k) (Classical.propDecidable _)
theorem keptB_iff (l : List Int) (k : Nat) : keptB l k = true ↔ kept l k := by unfold keptB; exact @decide_eq_true_iff (kept l k) (Classical.propDecidable _)
/-- The numbers of an ascending list that are no sums of those before them. -/
noncomputable def minL (l : List Int) : List Int := ((List.range l.length).filter (keptB l)).map fun k => l.getD k 0
theorem range_getD (l : List Int) : (List.range l.length).map (fun k => l.getD k 0) = l := by
  apply List.ext_getElem
  · simp
  · intro i h1 h2
    rw [List.getElem_map, List.getElem_range, List.getD_eq_getElem?_getD, List.getElem?_eq_getElem h2, Option.getD_some]
theorem minL_iff (l : List Int) : minL l = l ↔ ∀ k, k < l.length → kept l k := by
  constructor
  · intro h k hk
    have h1 : ((List.range l.length).filter (keptB l)).length = (List.range l.length).length := by
      have := congrArg List.length h
      unfold minL at this
      rw [List.length_map] at this
      rw [this, List.length_range]
    rw [List.length_filter_eq_length_iff] at h1
    exact (keptB_iff l k).1 (h1 k (List.mem_range.2 hk))
  · intro h
    unfold minL
    rw [List.filter_eq_self.2 (fun k hk => (keptB_iff l k).2 (h k (List.mem_range.1 hk))), range_getD]
theorem minL_mem (l : List Int) (x : Int) (h : x ∈ minL l) : x ∈ l := by
  unfold minL at h
  obtain ⟨k, hk, rfl⟩ := List.mem_map.1 h
  have hk2 := List.mem_range.1 (List.mem_filter.1 hk).1
  rw [List.getD_eq_getElem?_getD, List.getElem?_eq_getElem hk2, Option.getD_some]
  exact List.getElem_mem _
theorem minL_len (l : List Int) : (minL l).length ≤ l.length := by
  unfold minL
  rw [List.length_map]
  have := List.length_filter_le (keptB l) (List.range l.length)
  rwa [List.length_range] at this
theorem getD_at (l : List Int) (k : Nat) (h : k < l.length) : l.getD k 0 = l[k] := by
  rw [List.getD_eq_getElem?_getD, List.getElem?_eq_getElem h, Option.getD_some]
theorem spec_l3Minimal_l0 (l : List Int) (hl : l.length ≤ 1048576) (hr : ∀ x ∈ l, 1 ≤ x ∧ x ≤ 2000000) : ∀ (d i : Nat), i + d = l.length →
    Ev (fun k => spec_l3Minimal.l0 k (((List.range i).filter (keptB l)).map fun k => l.getD k 0) l (i : Int)) (minL l) := by
  intro d
  induction d with
  | zero =>
    intro i hi
    obtain rfl : i = l.length := by omega
    refine Ev.one (fun k => by rw [spec_l3Minimal.l0]) ?_
    exact Ev.neg (by omega) (Ev.now _)
  | succ d ih =>
    intro i hi
    have hil : i < l.length := by omega
    have hx := hr l[i] (List.getElem_mem hil)
    have hacc : (((List.range i).filter (keptB l)).map fun k => l.getD k 0).length < 17592186044416 := by
      rw [List.length_map]
      have := List.length_filter_le (keptB l) (List.range i)
      rw [List.length_range] at this
      omega
    have step : keptB l i = true → (((List.range (i + 1)).filter (keptB l)).map fun k => l.getD k 0) = (((List.range i).filter (keptB l)).map fun k => l.getD k 0) ++ [l[i]] := by
      intro h
      rw [List.range_succ, List.filter_append, List.filter_cons_of_pos h, List.filter_nil, List.map_append, List.map_cons, List.map_nil, getD_at l i hil]
    have stay : keptB l i = false → (((List.range (i + 1)).filter (keptB l)).map fun k => l.getD k 0) = (((List.range i).filter (keptB l)).map fun k => l.getD k 0) := by
      intro h
      rw [List.range_succ, List.filter_append, List.filter_cons_of_neg (by rw [h]; decide), List.filter_nil, List.append_nil]
    have ih := ih (i + 1) (by omega)
    refine Ev.one (fun k => by rw [spec_l3Minimal.l0]) ?_
    rw [rd_at l i hil, w64_succ i (by omega), Int.toNat_natCast]
    refine Ev.pos (by omega) ?_
    by_cases h0 : i = 0
    · subst h0
      rw [step ((keptB_iff l 0).2 (.inl rfl))] at ih
      exact Ev.pos (by omega) (Ev.pos (by omega) (Ev.pos hacc ih))
    · obtain ⟨q, hq⟩ : ∃ q : Nat, l[i] = (q : Int) := ⟨l[i].toNat, by omega⟩
      obtain ⟨t, t1, t2, t3⟩ := spec_l3Table_ev (l.take i) q (fun x hx => (hr x (List.mem_of_mem_take hx)).1) (by rw [List.length_take]; omega) (by omega)
      rw [hq]
      rw [hq] at step
      refine Ev.neg (by omega) (Ev.pos (by omega) (Ev.pos (by omega) (Ev.bnd t3 (Ev.pos (by omega) (Ev.pos (by omega) ?_)))))
      rw [rdOf_at]
      by_cases hb : t.getD q false = true
      · have hk : keptB l i = false := by
          rw [Bool.eq_false_iff]
          intro h
          rcases (keptB_iff l i).1 h with h | h
          · exact h0 h
          · rw [getD_at l i hil, hq] at h
            exact h ((t2 q (Nat.le_refl _)).1 hb)
        rw [stay hk] at ih
        exact Ev.pos hb ih
      · have hk : keptB l i = true := (keptB_iff l i).2 (.inr (by
          rw [getD_at l i hil, hq]
          exact fun h => hb ((t2 q (Nat.le_refl _)).2 h)))
        rw [step hk] at ih
        exact Ev.neg hb (Ev.pos hacc ih)
theorem spec_l3Minimal_ev (l : List Int) (hl : l.length ≤ 1048576) (hr : ∀ x ∈ l, 1 ≤ x ∧ x ≤ 2000000) :
    ∃ s, (asc s ∧ (∀ y, y ∈ s ↔ y ∈ l) ∧ s.length ≤ l.length) ∧ Ev (fun k => spec_l3Minimal.f k l) (minL s) := by
  obtain ⟨s, s1, s2⟩ := spec_SortList_ev l hl
  refine ⟨s, s1, ?_⟩
  unfold spec_l3Minimal.f
  exact Ev.bnd s2 (spec_l3Minimal_l0 s (by have := s1.2.2; omega) (fun x hx => hr x ((s1.2.1 x).1 hx)) s.length 0 (by omega))
end Go.Proofs.Ytiejmnnnjmmifaa.Pure
