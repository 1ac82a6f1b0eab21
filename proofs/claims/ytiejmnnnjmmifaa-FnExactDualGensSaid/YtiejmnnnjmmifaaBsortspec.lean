/- Plain lemmas (sortspec): no program, no memory. -/
import Derived.Test.YtiejmnnnjmmifaaC0
import Derived.Test.YtiejmnnnjmmifaaC2
import Derived.Test.YtiejmnnnjmmifaaBasc
import Derived.Test.YtiejmnnnjmmifaaBbase
namespace Go.Proofs.Ytiejmnnnjmmifaa.Pure
open Go.RowKit Go.Proofs.Ytiejmnnnjmmifaa.C Go.Proofs.YtiejmnnnjmmifaaW.PrintWords Go.Proofs.YtiejmnnnjmmifaaW.PrintLast Go.Proofs.YtiejmnnnjmmifaaW.PrintMore
set_option linter.unusedVariables false
set_option linter.unusedSimpArgs false
/-! sortspec: spec.SortList -/
theorem asc_uniq : ∀ (l l' : List Int), asc l → asc l' → (∀ x, x ∈ l ↔ x ∈ l') → l = l'
  | [], [], _, _, _ => rfl
  | [], y :: l', _, _, h => absurd ((h y).2 (List.mem_cons_self ..)) (by simp)
  | x :: l, [], _, _, h => absurd ((h x).1 (List.mem_cons_self ..)) (by simp)
  | x :: l, y :: l', h1, h2, h => by
    have h1' := List.pairwise_cons.1 h1
    have h2' := List.pairwise_cons.1 h2
    have e : x = y := by
      rcases List.mem_cons.1 ((h x).1 (List.mem_cons_self ..)) with e | hx
      · exact e
      · rcases List.mem_cons.1 ((h y).2 (List.mem_cons_self ..)) with e | hy
        · exact e.symm
        · have a := h2'.1 x hx
          have b := h1'.1 y hy
          omega
    subst e
    rw [asc_uniq l l' h1'.2 h2'.2 (fun z => ⟨fun hz => by
      rcases List.mem_cons.1 ((h z).1 (List.mem_cons_of_mem _ hz)) with e | hz'
      · subst e; exact absurd (h1'.1 z hz) (by omega)
      · exact hz', fun hz => by
      rcases List.mem_cons.1 ((h z).2 (List.mem_cons_of_mem _ hz)) with e | hz'
      · subst e; exact absurd (h2'.1 z hz) (by omega)
      · exact hz'⟩)]
theorem asc_put (s : List Int) (hs : asc s) (x : Int) (p : Nat) (hp : p ≤ s.length) (hlo : ∀ h : 0 < p, s[p - 1] < x) (hhi : ∀ q (h : q < s.length), p ≤ q → x < s[q]) :
    asc ((s.take p ++ [x]) ++ s.drop p) ∧ ∀ y, y ∈ (s.take p ++ [x]) ++ s.drop p ↔ (y ∈ s ∨ y = x) := by
  have hm : ∀ y, y ∈ (s.take p ++ [x]) ++ s.drop p ↔ (y ∈ s ∨ y = x) := by
    intro y
    rw [List.mem_append, List.mem_append, List.mem_singleton]
    constructor
    · rintro ((h | h) | h)
      · exact .inl (List.mem_of_mem_take h)
      · exact .inr h
      · exact .inl (List.mem_of_mem_drop h)
    · rintro (h | h)
      · rw [← List.take_append_drop p s] at h
        rcases List.mem_append.1 h with h | h
        · exact .inl (.inl h)
        · exact .inr h
      · exact .inl (.inr h)
  refine ⟨?_, hm⟩
  unfold asc at hs ⊢
  have hs2 := hs
  rw [← List.take_append_drop p s, List.pairwise_append] at hs2
  have hlt : ∀ y ∈ s.take p, y < x := by
    intro y hy
    obtain ⟨q, hq, rfl⟩ := List.getElem_of_mem hy
    rw [List.length_take] at hq
    rw [List.getElem_take]
    have h1 := hlo (by omega)
    by_cases e : q = p - 1
    · subst e; exact h1
    · exact Int.lt_trans (List.pairwise_iff_getElem.1 hs q (p - 1) (by omega) (by omega) (by omega)) h1
  have hgt : ∀ y ∈ s.drop p, x < y := by
    intro y hy
    obtain ⟨q, hq, rfl⟩ := List.getElem_of_mem hy
    rw [List.length_drop] at hq
    rw [List.getElem_drop]
    exact hhi (p + q) (by omega) (by omega)
  rw [List.pairwise_append, List.pairwise_append]
  refine ⟨⟨hs2.1, List.pairwise_singleton _ _, fun a ha b hb => ?_⟩, hs2.2.1, fun a ha b hb => ?_⟩
  · rw [List.mem_singleton.1 hb]; exact hlt a ha
  · rcases List.mem_append.1 ha with ha | ha
    · exact hs2.2.2 a ha b hb
    · rw [List.mem_singleton.1 ha]; exact hgt b hb
theorem spec_SortList_l1 (l : List Int) (hl : l.length ≤ 1000000000000) (i : Nat) (hi : i < l.length) (s : List Int) (hs : asc s) (hsl : s.length ≤ i) (R : List Int → Prop)
    (next : ∀ s' : List Int, asc s' → s'.length ≤ i + 1 → (∀ y, y ∈ s' ↔ (y ∈ s ∨ y = l[i])) → ∃ r, R r ∧ Ev (fun k => spec_SortList.l0 k l s' ((i + 1 : Nat) : Int)) r) :
    ∀ (p : Nat), p ≤ s.length → (∀ q (h : q < s.length), p ≤ q → l[i] < s[q]) → ∃ r, R r ∧ Ev (fun k => spec_SortList.l1 k l s (i : Int) (p : Int)) r := by
  intro p
  have put : ∀ (p : Nat) (hp : p ≤ s.length), (∀ h : 0 < p, s[p - 1] < l[i]) → (∀ q (h : q < s.length), p ≤ q → l[i] < s[q]) →
      ∃ r, R r ∧ Ev (fun k => spec_SortList.l0 k l ((s.take p ++ [l[i]]) ++ ([] ++ s.drop p)) ((i + 1 : Nat) : Int)) r := by
    intro p hp hlo hhi
    obtain ⟨h1, h2⟩ := asc_put s hs l[i] p hp hlo hhi
    rw [List.nil_append]
    exact next _ h1 (by simp; omega) h2
  induction p with
  | zero =>
    intro hp hhi
    obtain ⟨r, r1, r2⟩ := put 0 hp (fun h => by omega) hhi
    refine ⟨r, r1, Ev.one (fun k => by rw [spec_SortList.l1]) ?_⟩
    rw [rd_at l i hi, w64_succ i (by omega), Int.toNat_natCast]
    refine Ev.neg (by omega) (Ev.some (Ev.pos (by omega) (Ev.pos (by omega) (Ev.some (Ev.pos (by simp; omega) (Ev.some (Ev.some (Ev.pos (by omega) (Ev.pos (by omega) (Ev.pos (by simp) (Ev.some (Ev.pos (by simp; omega) r2))))))))))))
  | succ p ih =>
    intro hp hhi
    have e1 : wrap64 (((p + 1 : Nat) : Int) - 1) = (p : Int) := by rw [w64_of (by omega) (by omega)]; omega
    by_cases hgt : s[p] > l[i]
    · obtain ⟨r, r1, r2⟩ := ih (by omega) (fun q h hq => by
        by_cases e : q = p
        · subst e; exact hgt
        · exact hhi q h (by omega))
      refine ⟨r, r1, Ev.one (fun k => by rw [spec_SortList.l1]) ?_⟩
      rw [rd_at l i hi, e1, rd_at s p (by omega)]
      exact Ev.pos (by omega) (Ev.pos (by omega) (Ev.pos (by omega) (Ev.pos (by omega) (Ev.pos (by omega) (Ev.pos hgt r2)))))
    · by_cases heq : s[p] = l[i]
      · obtain ⟨r, r1, r2⟩ := next s hs (by omega) (fun y => ⟨fun h => .inl h, fun h => by
          rcases h with h | h
          · exact h
          · rw [h, ← heq]; exact List.getElem_mem _⟩)
        refine ⟨r, r1, Ev.one (fun k => by rw [spec_SortList.l1]) ?_⟩
        rw [rd_at l i hi, e1, rd_at s p (by omega), w64_succ i (by omega)]
        exact Ev.pos (by omega) (Ev.pos (by omega) (Ev.pos (by omega) (Ev.pos (by omega) (Ev.pos (by omega) (Ev.neg hgt (Ev.pos heq r2))))))
      · obtain ⟨r, r1, r2⟩ := put (p + 1) hp (fun _ => by show s[p] < l[i]; omega) hhi
        refine ⟨r, r1, Ev.one (fun k => by rw [spec_SortList.l1]) ?_⟩
        rw [rd_at l i hi, e1, rd_at s p (by omega), w64_succ i (by omega), Int.toNat_natCast]
        refine Ev.pos (by omega) (Ev.pos (by omega) (Ev.pos (by omega) (Ev.pos (by omega) (Ev.pos (by omega) (Ev.neg hgt (Ev.neg heq ?_))))))
        exact Ev.some (Ev.pos (by omega) (Ev.pos (by omega) (Ev.some (Ev.pos (by simp; omega) (Ev.some (Ev.some (Ev.pos (by simp; omega) (Ev.some (Ev.pos (by simp; omega) r2)))))))))
theorem spec_SortList_l0 (l : List Int) (hl : l.length ≤ 1000000000000) : ∀ (d i : Nat) (s : List Int), i + d = l.length → asc s → s.length ≤ i → (∀ y, y ∈ s ↔ y ∈ l.take i) →
    ∃ r, (asc r ∧ (∀ y, y ∈ r ↔ y ∈ l) ∧ r.length ≤ l.length) ∧ Ev (fun k => spec_SortList.l0 k l s (i : Int)) r := by
  intro d
  induction d with
  | zero =>
    intro i s hi hs hsl hm
    rw [List.take_of_length_le (by omega)] at hm
    refine ⟨s, ⟨hs, hm, by omega⟩, Ev.one (fun k => by rw [spec_SortList.l0]) ?_⟩
    exact Ev.neg (by omega) (Ev.now _)
  | succ d ih =>
    intro i s hi hs hsl hm
    have hil : i < l.length := by omega
    have htake : l.take (i + 1) = l.take i ++ [l[i]] := by rw [List.take_succ_eq_append_getElem hil]
    obtain ⟨r, r1, r2⟩ := spec_SortList_l1 l hl i hil s hs hsl (fun r => asc r ∧ (∀ y, y ∈ r ↔ y ∈ l) ∧ r.length ≤ l.length) (fun s' h1 h2 h3 => ih (i + 1) s' (by omega) h1 h2 (fun y => by
      rw [h3, htake, List.mem_append, List.mem_singleton, hm])) s.length (Nat.le_refl _) (fun q h hq => by omega)
    refine ⟨r, r1, Ev.one (fun k => by rw [spec_SortList.l0]) ?_⟩
    exact Ev.pos (by omega) r2
theorem spec_SortList_big (l : List Int) (hl : l.length ≤ 1000000000000) : ∃ r, (asc r ∧ (∀ y, y ∈ r ↔ y ∈ l) ∧ r.length ≤ l.length) ∧ Ev (fun k => spec_SortList.f k l) r := by
  unfold spec_SortList.f
  exact spec_SortList_l0 l hl l.length 0 [] (by omega) List.Pairwise.nil (by simp) (fun y => by simp)
theorem spec_SortList_ev (l : List Int) (hl : l.length ≤ 1048576) : ∃ r, (asc r ∧ (∀ y, y ∈ r ↔ y ∈ l) ∧ r.length ≤ l.length) ∧ Ev (fun k => spec_SortList.f k l) r := spec_SortList_big l (by omega)
end Go.Proofs.Ytiejmnnnjmmifaa.Pure
