/- Plain lemmas (sifted): no program, no memory. -/
import Derived.Test.YtiejmnnnjmmifaaC0
import Derived.Test.YtiejmnnnjmmifaaC9
import Derived.Test.YtiejmnnnjmmifaaBsums
import Derived.Test.YtiejmnnnjmmifaaBasc
import Derived.Test.YtiejmnnnjmmifaaBissg
import Derived.Test.YtiejmnnnjmmifaaBelems
import Derived.Test.YtiejmnnnjmmifaaBexi
import Derived.Test.YtiejmnnnjmmifaaBmini
import Derived.Test.YtiejmnnnjmmifaaBbase
namespace Go.Proofs.Ytiejmnnnjmmifaa.Pure
open Go.RowKit Go.Proofs.Ytiejmnnnjmmifaa.C Go.Proofs.YtiejmnnnjmmifaaW.PrintWords Go.Proofs.YtiejmnnnjmmifaaW.PrintLast Go.Proofs.YtiejmnnnjmmifaaW.PrintMore
set_option linter.unusedVariables false
set_option linter.unusedSimpArgs false
/-! sifted: impl.sifted -/
theorem sifted_l0 (g : List Int) (P : Int → Option Bool) (q : Int → Bool) (hP : ∀ x, P x = some (q x)) (low : Int) (n : Nat) (hl0 : -2000 ≤ low ∧ low ≤ 2000) (hn : n ≤ 3000) {r : List Int}
    (hr : Ev (fun k => impl_MinimalIn.f k g (pick (fun i => q (low + (i : Int))) (fun i => low + (i : Int)) n)) r) :
    ∀ d i, i + d = n → Ev (fun k => impl_sifted.l0 k (low + (n : Int) - 1) P (pick (fun i => q (low + (i : Int))) (fun i => low + (i : Int)) i) (low + (i : Int)) g) r := by
  intro d
  induction d with
  | zero =>
    intro i hi
    obtain rfl : i = n := by omega
    refine Ev.one (fun k => by rw [impl_sifted.l0]) ?_
    exact Ev.neg (by omega) (Ev.bnd hr (Ev.now _))
  | succ d ih =>
    intro i hi
    have ih := ih (i + 1) (by omega)
    have hl := pick_len (fun i => q (low + (i : Int))) (fun i : Nat => low + (i : Int)) i
    refine Ev.one (fun k => by rw [impl_sifted.l0]) ?_
    rw [w64_of (x := low + (i : Int) + 1) (by omega) (by omega), show low + (i : Int) + 1 = low + ((i + 1 : Nat) : Int) from by omega]
    refine Ev.pos (by omega) (Ev.bnd (Ev.const (hP _)) ?_)
    cases hb : q (low + (i : Int)) with
    | true =>
      rw [pick_pos _ _ i hb] at ih
      exact Ev.pos rfl (Ev.pos (by omega) ih)
    | false =>
      rw [pick_neg _ _ i hb] at ih
      exact Ev.neg (by decide) ih
theorem pick_mem (q : Int → Bool) (low : Int) (n : Nat) (x : Int) : x ∈ pick (fun i => q (low + (i : Int))) (fun i => low + (i : Int)) n ↔ low ≤ x ∧ x < low + (n : Int) ∧ q x = true := by
  unfold pick
  rw [List.mem_map]
  constructor
  · rintro ⟨i, hi, rfl⟩
    rw [List.mem_filter, List.mem_range] at hi
    exact ⟨by omega, by omega, hi.2⟩
  · rintro ⟨h0, h1, h2⟩
    refine ⟨(x - low).toNat, ?_, by omega⟩
    rw [List.mem_filter, List.mem_range, show low + (((x - low).toNat : Nat) : Int) = x from by omega]
    exact ⟨by omega, h2⟩
theorem sifted_ev (g : List Int) (hlen : g.length ≤ 1048576) (hS : SG g) (P : Int → Option Bool) (q : Int → Bool) (hP : ∀ x, P x = some (q x)) (low high : Int) (hl0 : -1000 ≤ low ∧ low ≤ 1000) (hh : low - 1 ≤ high ∧ high ≤ 1000) :
    ∃ r, (asc r ∧ ∀ y, y ∈ r ↔ (low ≤ y ∧ y ≤ high ∧ q y = true) ∧ ∀ z, low ≤ z ∧ z ≤ high ∧ q z = true → y = z ∨ ¬ Sums g (y - z)) ∧ r.length ≤ 1048576 ∧ Ev (fun k => impl_sifted.f k g low high P) r := by
  obtain ⟨n, hn⟩ : ∃ n : Nat, high = low + (n : Int) - 1 := ⟨(high - low + 1).toNat, by omega⟩
  subst hn
  have hpl := pick_len (fun i => q (low + (i : Int))) (fun i : Nat => low + (i : Int)) n
  have hm := pick_mem q low n
  have hchar : ∀ l : List Int, (∀ y, y ∈ l ↔ low ≤ y ∧ y < low + (n : Int) ∧ q y = true) → ∀ y, y ∈ exL g true l ↔ (low ≤ y ∧ y ≤ low + (n : Int) - 1 ∧ q y = true) ∧ ∀ z, low ≤ z ∧ z ≤ low + (n : Int) - 1 ∧ q z = true → y = z ∨ ¬ Sums g (y - z) := fun l hl y => by
    unfold exL exB
    rw [List.mem_filter, List.all_eq_true, hl]
    constructor
    · rintro ⟨h1, h2⟩
      refine ⟨⟨h1.1, by omega, h1.2.2⟩, fun z hz => ?_⟩
      have := h2 z ((hl z).2 ⟨hz.1, by omega, hz.2.2⟩)
      unfold exq at this
      rw [if_pos rfl, Bool.or_eq_true, decide_eq_true_eq, Bool.not_eq_true', ← Bool.not_eq_true, elB_iff] at this
      exact this
    · rintro ⟨h1, h2⟩
      refine ⟨⟨h1.1, by omega, h1.2.2⟩, fun z hz => ?_⟩
      have hz := (hl z).1 hz
      have := h2 z ⟨hz.1, by omega, hz.2.2⟩
      unfold exq
      rw [if_pos rfl, Bool.or_eq_true, decide_eq_true_eq, Bool.not_eq_true', ← Bool.not_eq_true, elB_iff]
      exact this
  obtain ⟨r, r1, r3⟩ := impl_minimal_ev g (pick (fun i => q (low + (i : Int))) (fun i => low + (i : Int)) n) hlen (by omega)
  have hrm := r1.2.2 hS (fun x hx => by have := (hm x).1 hx; omega)
  refine ⟨r, ⟨r1.1, fun y => (hrm y).trans (hchar _ hm y)⟩, by omega, ?_⟩
  · unfold impl_sifted.f
    have := sifted_l0 g P q hP low n (by omega) (by omega) r3 n 0 (by omega)
    rw [show low + ((0 : Nat) : Int) = low from by omega] at this
    exact this
end Go.Proofs.Ytiejmnnnjmmifaa.Pure
