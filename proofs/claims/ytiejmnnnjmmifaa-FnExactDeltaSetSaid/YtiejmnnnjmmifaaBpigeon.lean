/- Plain lemmas (pigeon): no program, no memory. -/
import Derived.Test.YtiejmnnnjmmifaaC0
import Derived.Test.YtiejmnnnjmmifaaBsums
import Derived.Test.YtiejmnnnjmmifaaBasc
import Derived.Test.YtiejmnnnjmmifaaBminimal
import Derived.Test.YtiejmnnnjmmifaaBissg
import Derived.Test.YtiejmnnnjmmifaaBfactor
import Derived.Test.YtiejmnnnjmmifaaBbase
namespace Go.Proofs.Ytiejmnnnjmmifaa.Pure
open Go.RowKit Go.Proofs.Ytiejmnnnjmmifaa.C Go.Proofs.YtiejmnnnjmmifaaW.PrintWords Go.Proofs.YtiejmnnnjmmifaaW.PrintLast Go.Proofs.YtiejmnnnjmmifaaW.PrintMore
set_option linter.unusedVariables false
set_option linter.unusedSimpArgs false
/-! pigeon: a semigroup has at most as many generators as its least one tells; how many factorizations there are -/
theorem nodup_len : ∀ (m : Nat) (l : List Nat), l.Nodup → (∀ x ∈ l, x < m) → l.length ≤ m
  | 0, l, _, h => by
    cases l with
    | nil => simp
    | cons x l => have := h x (List.mem_cons_self ..); omega
  | m + 1, l, hn, h => by
    have h1 := nodup_len m (l.erase m) (hn.erase m) (fun x hx => by
      have := (hn.mem_erase_iff).1 hx
      have := h x this.2
      omega)
    by_cases hm : m ∈ l
    · rw [List.length_erase_of_mem hm] at h1
      omega
    · rw [List.erase_of_not_mem hm] at h1
      omega
theorem SG.len_le (g : List Int) (h : SG g) (a : Nat) (ha : rd g 0 = (a : Int)) (ha1 : 1 ≤ a) : g.length ≤ a := by
  have hmem : ∀ i (hi : i < g.length), 1 ≤ g[i] ∧ g[i] ≤ 60 := fun i hi => h.rng _ (List.getElem_mem hi)
  have h0 : rd g ((0 : Nat) : Int) = g[0]'(by have := h.len1; omega) := rd_at g 0 (by have := h.len1; omega)
  have h0' : g[0]'(by have := h.len1; omega) = (a : Int) := by rw [← h0]; exact ha
  have key := nodup_len a (g.map fun x => x.toNat % a) ?_ (fun x hx => by
    obtain ⟨y, _, rfl⟩ := List.mem_map.1 hx
    exact Nat.mod_lt _ (by omega))
  · rwa [List.length_map] at key
  · rw [List.nodup_iff_pairwise_ne, List.pairwise_map, List.pairwise_iff_getElem]
    intro i j hi hj hij e
    have hlt := List.pairwise_iff_getElem.1 h.up i j hi hj hij
    have hi1 := hmem i hi
    have hj1 := hmem j hj
    obtain ⟨x, hx⟩ : ∃ x : Nat, g[i] = (x : Int) := ⟨g[i].toNat, by omega⟩
    obtain ⟨y, hy⟩ : ∃ y : Nat, g[j] = (y : Int) := ⟨g[j].toNat, by omega⟩
    rw [hx, hy, Int.toNat_natCast, Int.toNat_natCast] at e
    rw [hx, hy] at hlt
    rcases h.free j hj with h1 | h1
    · omega
    · rw [getD_at g j hj, hy] at h1
      apply h1
      have m1 := Nat.mod_add_div x a
      have m2 := Nat.mod_add_div y a
      have m3 : x / a ≤ y / a := Nat.div_le_div_right (by omega)
      obtain ⟨c, hc⟩ : ∃ c, y / a = x / a + c := ⟨y / a - x / a, by omega⟩
      have e3 : (y : Int) = (x : Int) + ((c : Nat) : Int) * (a : Int) := by
        rw [hc, Nat.mul_add] at m2
        have : a * c = c * a := Nat.mul_comm a c
        rw [← Int.natCast_mul]
        omega
      rw [e3]
      refine (Sums.one ?_).both (Sums.times ?_ c)
      · rw [← hx]
        have : g[i] = (g.take j)[i]'(by rw [List.length_take]; omega) := by rw [List.getElem_take]
        rw [this]
        exact List.getElem_mem _
      · rw [← h0']
        have : g[0]'(by omega) = (g.take j)[0]'(by rw [List.length_take]; omega) := by rw [List.getElem_take]
        rw [this]
        exact List.getElem_mem _
theorem asc_first (g : List Int) (h : asc g) (h0 : 0 < g.length) : ∀ x ∈ g, g[0] ≤ x := by
  intro x hx
  obtain ⟨i, hi, rfl⟩ := List.getElem_of_mem hx
  by_cases e : i = 0
  · subst e; omega
  · have := List.pairwise_iff_getElem.1 h 0 i h0 hi (by omega); omega
theorem pow_room : ∀ k : Nat, k ≤ 12 → 1 ≤ k → (100 / k + 1) ^ (k - 1) ≤ 100000000000 := by decide
/-- There are fewer factorizations than a slice has room for. -/
theorem facL_room (g : List Int) (h : SG g) (gs : List Int) (hs : ∀ x ∈ gs, x ∈ g) (hl : gs.length ≤ g.length) (n : Nat) (hn : n ≤ 100) : (facL gs (n : Int)).length ≤ 100000000000 := by
  have hl1 := h.len1
  have hl2 := h.len2
  obtain ⟨a, ha, ha1, ha2, hmem⟩ := first_of g (by omega) h.rng
  have hk := h.len_le g a ha ha1
  have h0 : rd g ((0 : Nat) : Int) = g[0] := rd_at g 0 (by omega)
  have h0' : g[0] = (a : Int) := by rw [← h0]; exact ha
  by_cases e : gs = []
  · subst e
    unfold facL
    split <;> simp
  · have h1 := facL_len g.length hl1 gs n e (fun x hx => by
      have := asc_first g h.up (by omega) x (hs x hx)
      omega) hn
    have h2 : (100 / g.length + 1) ^ (gs.length - 1) ≤ (100 / g.length + 1) ^ (g.length - 1) := Nat.pow_le_pow_right (Nat.succ_pos _) (by omega)
    have h3 := pow_room g.length hl2 hl1
    omega
end Go.Proofs.Ytiejmnnnjmmifaa.Pure
