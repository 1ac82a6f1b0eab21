/- Plain lemmas (isort): no program, no memory. -/
import Derived.Test.YtkfplkdchkmgbaaC0
import Derived.Test.YtkfplkdchkmgbaaC10
import Derived.Test.YtkfplkdchkmgbaaC2
import Derived.Test.YtkfplkdchkmgbaaBbase
namespace Go.Proofs.Ytkfplkdchkmgbaa.Pure
open Go.RowKit Go.Proofs.Ytkfplkdchkmgbaa.C Go.Proofs.YtkfplkdchkmgbaaW.PrintWords Go.Proofs.YtkfplkdchkmgbaaW.PrintLast Go.Proofs.YtkfplkdchkmgbaaW.PrintMore
set_option linter.unusedVariables false
set_option linter.unusedSimpArgs false
/-! isort: impl.SortList, and that both sides sort alike -/
theorem compact_mem (s : List Int) (y : Int) : y ∈ Go.Lib.compact s ↔ y ∈ s := by
  unfold Go.Lib.compact Go.Lib.compactUpTo
  rw [List.mem_map]
  constructor
  · rintro ⟨i, hi, rfl⟩
    rw [List.mem_filter, List.mem_range] at hi
    rw [show s.toArray[i]! = s[i]'hi.1 from by simp [hi.1]]
    exact List.getElem_mem _
  · intro hy
    obtain ⟨i, hi, e⟩ := List.getElem_of_mem hy
    have key : ∀ (n : Nat), ∀ j (hj : j < s.length), j ≤ n → s[j] = y → ∃ i, i ∈ (List.range s.length).filter (Go.Lib.keeps s.toArray) ∧ s.toArray[i]! = y := by
      intro n
      induction n with
      | zero =>
        intro j hj h0 e
        obtain rfl : j = 0 := by omega
        exact ⟨0, List.mem_filter.2 ⟨List.mem_range.2 hj, by simp [Go.Lib.keeps]⟩, by simpa [hj] using e⟩
      | succ n ih =>
        intro j hj h0 e
        by_cases hk : Go.Lib.keeps s.toArray j = true
        · exact ⟨j, List.mem_filter.2 ⟨List.mem_range.2 hj, hk⟩, by simpa [hj] using e⟩
        · have h1 : j ≠ 0 := fun e0 => hk (by subst e0; simp [Go.Lib.keeps])
          have h2 : s[j - 1] = s[j] := by
            refine Classical.byContradiction fun hn => hk ?_
            simp only [Go.Lib.keeps]
            simp [hj, show j - 1 < s.length by omega]
            exact .inr (fun e2 => hn (by first | exact e2 | exact e2.symm))
          exact ih (j - 1) (by omega) (by omega) (by rw [h2]; exact e)
    exact key i i hi (Nat.le_refl _) e
theorem compact_asc (s : List Int) (hs : s.Pairwise (· ≤ ·)) : asc (Go.Lib.compact s) := by
  unfold Go.Lib.compact Go.Lib.compactUpTo asc
  rw [List.pairwise_map]
  have h1 := (List.pairwise_lt_range (n := s.length)).filter (Go.Lib.keeps s.toArray)
  refine h1.imp_of_mem ?_
  intro i j hi hj hij
  rw [List.mem_filter, List.mem_range] at hi hj
  have hk := hj.2
  have h2 : s[j - 1]'(by omega) ≠ s[j]'hj.1 := by
    simp only [Go.Lib.keeps] at hk
    simp [hj.1, show j - 1 < s.length by omega] at hk
    rcases hk with hk | hk
    · omega
    · exact fun e => hk (by first | exact e | exact e.symm)
  have h3 := List.pairwise_iff_getElem.1 hs (j - 1) j (by omega) hj.1 (by omega)
  have h4 : s[i]'hi.1 ≤ s[j - 1]'(by omega) := by
    by_cases e : i = j - 1
    · subst e; exact Int.le_refl _
    · exact List.pairwise_iff_getElem.1 hs i (j - 1) hi.1 (by omega) (by omega)
  rw [show s.toArray[i]! = s[i]'hi.1 from by simp [hi.1], show s.toArray[j]! = s[j]'hj.1 from by simp [hj.1]]
  omega
theorem compact_len (s : List Int) : (Go.Lib.compact s).length ≤ s.length := by
  unfold Go.Lib.compact Go.Lib.compactUpTo
  rw [List.length_map]
  exact Nat.le_trans (List.length_filter_le ..) (by rw [List.length_range]; exact Nat.le_refl _)
theorem impl_SortList_ev (l : List Int) (hl : l.length ≤ 1000000000000) : ∃ r, (asc r ∧ (∀ y, y ∈ r ↔ y ∈ l) ∧ r.length ≤ l.length) ∧ Ev (fun _ => impl_SortList.f l) r := by
  have hp : (l.mergeSort fun x y => decide (x ≤ y)).Perm l := List.mergeSort_perm ..
  have hs : (l.mergeSort fun x y => decide (x ≤ y)).Pairwise (· ≤ ·) := by
    have := List.pairwise_mergeSort (le := fun x y : Int => decide (x ≤ y)) (fun a b c h1 h2 => by simp at *; omega) (fun a b => by simp; omega) l
    exact this.imp (fun h => by simpa using h)
  have hlen := hp.length_eq
  refine ⟨Go.Lib.compact (l.mergeSort fun x y => decide (x ≤ y)), ⟨compact_asc _ hs, fun y => (compact_mem _ y).trans hp.mem_iff, Nat.le_trans (compact_len _) (by omega)⟩, Ev.const ?_⟩
  unfold impl_SortList.f slices_Sort_int_int.f slices_Compact_int_int.f
  rw [Option.bind_some, if_pos (by rw [List.length_nil]; omega), List.nil_append, if_pos (by omega), Option.bind_some, if_pos (by omega)]
  rfl
theorem sort_both (l : List Int) (hl : l.length ≤ 1048576) : ∃ r, (asc r ∧ (∀ y, y ∈ r ↔ y ∈ l) ∧ r.length ≤ l.length) ∧ Ev (fun k => spec_SortList.f k l) r ∧ Ev (fun _ => impl_SortList.f l) r := by
  obtain ⟨r, r1, r2⟩ := spec_SortList_ev l hl
  obtain ⟨s, s1, s2⟩ := impl_SortList_ev l (by omega)
  obtain rfl := asc_uniq r s r1.1 s1.1 (fun x => (r1.2.1 x).trans (s1.2.1 x).symm)
  exact ⟨r, r1, r2, s2⟩
end Go.Proofs.Ytkfplkdchkmgbaa.Pure
