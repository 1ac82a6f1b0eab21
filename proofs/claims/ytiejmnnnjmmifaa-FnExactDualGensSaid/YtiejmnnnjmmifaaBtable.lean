/- Plain lemmas (table): no program, no memory. -/
import Derived.Test.YtiejmnnnjmmifaaC0
import Derived.Test.YtiejmnnnjmmifaaC3
import Derived.Test.YtiejmnnnjmmifaaBsums
import Derived.Test.YtiejmnnnjmmifaaBbase
namespace Go.Proofs.Ytiejmnnnjmmifaa.Pure
open Go.RowKit Go.Proofs.Ytiejmnnnjmmifaa.C Go.Proofs.YtiejmnnnjmmifaaW.PrintWords Go.Proofs.YtiejmnnnjmmifaaW.PrintLast Go.Proofs.YtiejmnnnjmmifaaW.PrintMore
set_option linter.unusedVariables false
set_option linter.unusedSimpArgs false
/-! table: spec.l3Table -/
theorem rdOf_at {α : Type} (d : α) (xs : List α) (i : Nat) : rdOf d xs (i : Int) = xs.getD i d := by unfold rdOf; rw [Int.toNat_natCast]
theorem getD_set_eq {α : Type} (d : α) (xs : List α) (i : Nat) (x : α) (h : i < xs.length) : (xs.set i x).getD i d = x := by
  rw [List.getD_eq_getElem?_getD, List.getElem?_set_self h, Option.getD_some]
theorem getD_set_ne {α : Type} (d : α) (xs : List α) (i j : Nat) (x : α) (h : i ≠ j) : (xs.set i x).getD j d = xs.getD j d := by
  rw [List.getD_eq_getElem?_getD, List.getElem?_set_ne h, ← List.getD_eq_getElem?_getD]
theorem spec_l3Table_l1 (g : List Int) (most : Nat) (hg : ∀ x ∈ g, 1 ≤ x) (hlen : g.length ≤ 1048576) (hm : most ≤ 2000000) (n : Nat) (h1 : 1 ≤ n) (hn : n ≤ most)
    (fin : ∀ xs : List Bool, xs.length = most + 1 → (∀ m : Nat, m ≤ n → (xs.getD m false = true ↔ Sums g (m : Int))) → (∀ m : Nat, n < m → xs.getD m false = false) →
      ∃ r : List Bool, r.length = most + 1 ∧ (∀ m : Nat, m ≤ most → (r.getD m false = true ↔ Sums g (m : Int))) ∧ Ev (fun k => spec_l3Table.l0 k g (most : Int) xs ((n + 1 : Nat) : Int)) r) :
    ∀ (d j : Nat) (xs : List Bool), j + d = g.length → xs.length = most + 1 → (∀ m : Nat, m < n → (xs.getD m false = true ↔ Sums g (m : Int))) → (∀ m : Nat, n < m → xs.getD m false = false) →
      (xs.getD n false = true ↔ ∃ x, x ∈ g.take j ∧ x ≤ (n : Int) ∧ Sums g ((n : Int) - x)) →
      ∃ r : List Bool, r.length = most + 1 ∧ (∀ m : Nat, m ≤ most → (r.getD m false = true ↔ Sums g (m : Int))) ∧ Ev (fun k => spec_l3Table.l1 k g (most : Int) xs (n : Int) (j : Int)) r := by
  intro d
  induction d with
  | zero =>
    intro j xs hj hx hlo hhi hat
    rw [List.take_of_length_le (by omega)] at hat
    obtain ⟨r, r1, r2, r3⟩ := fin xs hx (fun m hm => by
      by_cases e : m = n
      · subst e
        rw [hat]
        constructor
        · rintro ⟨x, hx, hle, hs⟩
          have := hs.add hx
          rwa [Int.sub_add_cancel] at this
        · intro hs
          exact hs.cut hg (by omega)
      · exact hlo m (by omega)) hhi
    refine ⟨r, r1, r2, Ev.one (fun k => by rw [spec_l3Table.l1]) (Ev.neg (by omega) ?_)⟩
    rw [w64_succ n (by omega)]
    exact r3
  | succ d ih =>
    intro j xs hj hx hlo hhi hat
    have hjl : j < g.length := by omega
    have hgj := hg g[j] (List.getElem_mem hjl)
    have htake : g.take (j + 1) = g.take j ++ [g[j]] := by rw [List.take_succ_eq_append_getElem hjl]
    by_cases hle : g[j] ≤ (n : Int)
    · obtain ⟨q, hq⟩ : ∃ q : Nat, (n : Int) - g[j] = (q : Int) := ⟨((n : Int) - g[j]).toNat, by omega⟩
      by_cases hb : xs.getD q false = true
      · have hs : Sums g ((n : Int) - g[j]) := by rw [hq]; exact (hlo q (by omega)).1 hb
        obtain ⟨r, r1, r2, r3⟩ := ih (j + 1) (xs.set n true) (by omega) (by rw [List.length_set]; exact hx) (fun m hm => by rw [getD_set_ne _ _ _ _ _ (by omega)]; exact hlo m hm)
          (fun m hm => by rw [getD_set_ne _ _ _ _ _ (by omega)]; exact hhi m hm) (by
            rw [getD_set_eq _ _ _ _ (by omega), htake]
            exact ⟨fun _ => ⟨g[j], List.mem_append_right _ (List.mem_singleton.2 rfl), hle, hs⟩, fun _ => rfl⟩)
        refine ⟨r, r1, r2, Ev.one (fun k => by rw [spec_l3Table.l1]) ?_⟩
        rw [rd_at g j hjl, w64_of (x := (n : Int) - g[j]) (by omega) (by omega), hq, rdOf_at, w64_succ j (by omega), Int.toNat_natCast]
        exact Ev.pos (by omega) (Ev.pos (by omega) (Ev.pos hle (Ev.pos (by omega) (Ev.pos (by omega) (Ev.pos hb (Ev.pos (by omega) (Ev.pos (by omega) r3)))))))
      · obtain ⟨r, r1, r2, r3⟩ := ih (j + 1) xs (by omega) hx hlo hhi (by
            rw [hat, htake]
            constructor
            · rintro ⟨x, hx, h⟩
              exact ⟨x, List.mem_append_left _ hx, h⟩
            · rintro ⟨x, hx, hxl, hs⟩
              rcases List.mem_append.1 hx with hx | hx
              · exact ⟨x, hx, hxl, hs⟩
              · obtain rfl := List.mem_singleton.1 hx
                rw [hq] at hs
                exact absurd ((hlo q (by omega)).2 hs) hb)
        refine ⟨r, r1, r2, Ev.one (fun k => by rw [spec_l3Table.l1]) ?_⟩
        rw [rd_at g j hjl, w64_of (x := (n : Int) - g[j]) (by omega) (by omega), hq, rdOf_at, w64_succ j (by omega)]
        exact Ev.pos (by omega) (Ev.pos (by omega) (Ev.pos hle (Ev.pos (by omega) (Ev.pos (by omega) (Ev.neg hb r3)))))
    · obtain ⟨r, r1, r2, r3⟩ := ih (j + 1) xs (by omega) hx hlo hhi (by
          rw [hat, htake]
          constructor
          · rintro ⟨x, hx, h⟩
            exact ⟨x, List.mem_append_left _ hx, h⟩
          · rintro ⟨x, hx, hxl, hs⟩
            rcases List.mem_append.1 hx with hx | hx
            · exact ⟨x, hx, hxl, hs⟩
            · obtain rfl := List.mem_singleton.1 hx
              exact absurd hxl hle)
      refine ⟨r, r1, r2, Ev.one (fun k => by rw [spec_l3Table.l1]) ?_⟩
      rw [rd_at g j hjl, w64_succ j (by omega)]
      exact Ev.pos (by omega) (Ev.pos (by omega) (Ev.neg (by omega) r3))
theorem spec_l3Table_l0 (g : List Int) (most : Nat) (hg : ∀ x ∈ g, 1 ≤ x) (hlen : g.length ≤ 1048576) (hm : most ≤ 2000000) :
    ∀ (d n : Nat) (xs : List Bool), n + d = most → xs.length = most + 1 → (∀ m : Nat, m ≤ n → (xs.getD m false = true ↔ Sums g (m : Int))) → (∀ m : Nat, n < m → xs.getD m false = false) →
      ∃ r : List Bool, r.length = most + 1 ∧ (∀ m : Nat, m ≤ most → (r.getD m false = true ↔ Sums g (m : Int))) ∧ Ev (fun k => spec_l3Table.l0 k g (most : Int) xs ((n + 1 : Nat) : Int)) r := by
  intro d
  induction d with
  | zero =>
    intro n xs hd hx hlo hhi
    refine ⟨xs, hx, fun m hm => hlo m (by omega), Ev.one (fun k => by rw [spec_l3Table.l0]) (Ev.neg (by omega) (Ev.now _))⟩
  | succ d ih =>
    intro n xs hd hx hlo hhi
    obtain ⟨r, r1, r2, r3⟩ := spec_l3Table_l1 g most hg hlen hm (n + 1) (by omega) (by omega) (fun xs hx hlo hhi => ih (n + 1) xs (by omega) hx hlo hhi) g.length 0 xs (by omega) hx (fun m hm => hlo m (by omega)) (fun m hm => hhi m (by omega))
      ⟨(fun h => by rw [hhi (n + 1) (by omega)] at h; cases h), (fun ⟨x, hx, _⟩ => by simp at hx)⟩
    refine ⟨r, r1, r2, Ev.one (fun k => by rw [spec_l3Table.l0]) ?_⟩
    exact Ev.pos (by omega) r3
theorem spec_l3Table_ev (g : List Int) (most : Nat) (hg : ∀ x ∈ g, 1 ≤ x) (hlen : g.length ≤ 1048576) (hm : most ≤ 2000000) :
    ∃ r : List Bool, r.length = most + 1 ∧ (∀ m : Nat, m ≤ most → (r.getD m false = true ↔ Sums g (m : Int))) ∧ Ev (fun k => spec_l3Table.f k g (most : Int)) r := by
  have e : (List.replicate (most + 1) false).length = most + 1 := List.length_replicate
  have eg : ∀ m : Nat, (List.replicate (most + 1) false).getD m false = false := fun m => by
    rw [List.getD_eq_getElem?_getD, List.getElem?_replicate]
    split <;> rfl
  obtain ⟨r, r1, r2, r3⟩ := spec_l3Table_l0 g most hg hlen hm most 0 ((List.replicate (most + 1) false).set 0 true) (by omega) (by rw [List.length_set, e])
    (fun m hm => by
      obtain rfl : m = 0 := by omega
      rw [getD_set_eq _ _ _ _ (by omega)]
      exact ⟨fun _ => Sums.zero g, fun _ => rfl⟩)
    (fun m hm => by rw [getD_set_ne _ _ _ _ _ (by omega)]; exact eg m)
  refine ⟨r, r1, r2, ?_⟩
  unfold spec_l3Table.f
  rw [w64_succ most (by omega), Int.toNat_natCast]
  exact Ev.pos (by omega) (Ev.pos (by omega) (Ev.some (Ev.pos (by omega) r3)))
end Go.Proofs.Ytiejmnnnjmmifaa.Pure
