/- Plain lemmas (factor): no program, no memory. -/
import Derived.Test.YtiejmnnnjmmifaaC0
import Derived.Test.YtiejmnnnjmmifaaBdot
import Derived.Test.YtiejmnnnjmmifaaBbase
namespace Go.Proofs.Ytiejmnnnjmmifaa.Pure
open Go.RowKit Go.Proofs.Ytiejmnnnjmmifaa.C Go.Proofs.YtiejmnnnjmmifaaW.PrintWords Go.Proofs.YtiejmnnnjmmifaaW.PrintLast Go.Proofs.YtiejmnnnjmmifaaW.PrintMore
set_option linter.unusedVariables false
set_option linter.unusedSimpArgs false
/-! factor: factorizations of both sides -/
/-- What a function tells of q, q - 1, .., 0, one behind the other. -/
def downF (F : Int → List (List Int)) : Nat → List (List Int)
  | 0 => F 0
  | q + 1 => F ((q + 1 : Nat) : Int) ++ downF F q
def facL : List Int → Int → List (List Int)
  | [], n => if n = 0 then [[]] else []
  | g :: gs, n => downF (fun k => (facL gs (n - k * g)).map fun l => k :: l) (n / g).toNat
theorem downF_congr (F G : Int → List (List Int)) : ∀ q : Nat, (∀ k : Nat, k ≤ q → F (k : Int) = G (k : Int)) → downF F q = downF G q
  | 0, h => h 0 (Nat.le_refl _)
  | q + 1, h => by
    show F _ ++ downF F q = G _ ++ downF G q
    rw [h (q + 1) (Nat.le_refl _), downF_congr F G q (fun k hk => h k (by omega))]
theorem downF_nil (F : Int → List (List Int)) : ∀ q : Nat, (∀ k : Nat, k ≤ q → F (k : Int) = []) → downF F q = []
  | 0, h => h 0 (Nat.le_refl _)
  | q + 1, h => by
    show F _ ++ downF F q = []
    rw [h (q + 1) (Nat.le_refl _), downF_nil F q (fun k hk => h k (by omega))]
    rfl
theorem downF_len (F : Int → List (List Int)) (c : Nat) : ∀ q : Nat, (∀ k : Nat, k ≤ q → (F (k : Int)).length ≤ c) → (downF F q).length ≤ c * (q + 1)
  | 0, h => by have := h 0 (Nat.le_refl _); show (F 0).length ≤ _; simpa using this
  | q + 1, h => by
    have h1 := h (q + 1) (Nat.le_refl _)
    have h2 := downF_len F c q (fun k hk => h k (by omega))
    show (F _ ++ downF F q).length ≤ _
    rw [List.length_append, Nat.mul_succ]
    omega
theorem downF_mem (F : Int → List (List Int)) (l : List Int) : ∀ q : Nat, l ∈ downF F q ↔ ∃ k : Nat, k ≤ q ∧ l ∈ F (k : Int)
  | 0 => by
    show l ∈ F 0 ↔ _
    exact ⟨fun h => ⟨0, Nat.le_refl _, h⟩, fun ⟨k, hk, h⟩ => by
      obtain rfl : k = 0 := by omega
      exact h⟩
  | q + 1 => by
    show l ∈ F _ ++ downF F q ↔ _
    rw [List.mem_append, downF_mem F l q]
    constructor
    · rintro (h | ⟨k, hk, h⟩)
      · exact ⟨q + 1, Nat.le_refl _, h⟩
      · exact ⟨k, by omega, h⟩
    · rintro ⟨k, hk, h⟩
      by_cases e : k = q + 1
      · subst e; exact .inl h
      · exact .inr ⟨k, by omega, h⟩
/-- One generator: at most one list. -/
theorem facL_one (g : Nat) (hg : 1 ≤ g) (n : Nat) : facL [(g : Int)] (n : Int) = if n % g = 0 then [[((n / g : Nat) : Int)]] else [] := by
  have hd : ((n : Int) / (g : Int)).toNat = n / g := by rw [← Int.natCast_ediv, Int.toNat_natCast]
  show downF (fun k => (facL [] ((n : Int) - k * (g : Int))).map fun l => k :: l) ((n : Int) / (g : Int)).toNat = _
  rw [hd]
  have hm := Nat.div_add_mod n g
  have hmlt := Nat.mod_lt n (show 0 < g by omega)
  have key : ∀ k : Nat, (n : Int) - (k : Int) * (g : Int) = 0 ↔ n = k * g := fun k => by rw [← Int.natCast_mul]; omega
  by_cases h : n % g = 0
  · rw [if_pos h]
    have hq : n = n / g * g := by rw [Nat.mul_comm]; omega
    cases hc : n / g with
    | zero =>
      rw [hc] at hq
      show (facL [] ((n : Int) - 0 * (g : Int))).map _ = _
      have e : (n : Int) - 0 * (g : Int) = 0 := by omega
      rw [e]
      rfl
    | succ q =>
      rw [hc] at hq
      have e : (n : Int) - ((q + 1 : Nat) : Int) * (g : Int) = 0 := (key (q + 1)).2 hq
      show (facL [] ((n : Int) - ((q + 1 : Nat) : Int) * (g : Int))).map _ ++ downF _ q = _
      rw [e, downF_nil _ q (fun k hk => by
        have e2 : ¬ (n : Int) - (k : Int) * (g : Int) = 0 := fun e3 => by
          have e4 := (key k).1 e3
          have : k * g < (q + 1) * g := Nat.mul_lt_mul_of_pos_right (by omega) (by omega)
          omega
        show (facL [] _).map _ = []
        unfold facL
        rw [if_neg e2]
        rfl)]
      rfl
  · rw [if_neg h]
    refine downF_nil _ _ (fun k hk => ?_)
    have e2 : ¬ (n : Int) - (k : Int) * (g : Int) = 0 := fun e3 => by
      have e4 := (key k).1 e3
      apply h
      rw [e4, Nat.mul_mod_left]
    show (facL [] _).map _ = []
    unfold facL
    rw [if_neg e2]
    rfl
theorem facL_len (m : Nat) (hm : 1 ≤ m) : ∀ (gs : List Int) (n : Nat), gs ≠ [] → (∀ x ∈ gs, (m : Int) ≤ x) → n ≤ 100 → (facL gs (n : Int)).length ≤ (100 / m + 1) ^ (gs.length - 1)
  | [], _, h, _, _ => absurd rfl h
  | [x], n, _, hg, hn => by
    have hx := hg x (List.mem_cons_self ..)
    obtain ⟨g, rfl⟩ : ∃ g : Nat, x = (g : Int) := ⟨x.toNat, by omega⟩
    rw [facL_one g (by omega) n]
    split <;> simp
  | x :: y :: gs, n, _, hg, hn => by
    have hx := hg x (List.mem_cons_self ..)
    obtain ⟨g, rfl⟩ : ∃ g : Nat, x = (g : Int) := ⟨x.toNat, by omega⟩
    have hd : ((n : Int) / (g : Int)).toNat = n / g := by rw [← Int.natCast_ediv, Int.toNat_natCast]
    show (downF (fun k => (facL (y :: gs) ((n : Int) - k * (g : Int))).map fun l => k :: l) ((n : Int) / (g : Int)).toNat).length ≤ _
    rw [hd]
    refine Nat.le_trans (downF_len _ ((100 / m + 1) ^ ((y :: gs).length - 1)) (n / g) (fun k hk => ?_)) ?_
    · rw [List.length_map]
      have hk2 : k * g ≤ n := Nat.le_trans (Nat.mul_le_mul_right g hk) (Nat.div_mul_le_self n g)
      have e : (n : Int) - (k : Int) * (g : Int) = ((n - k * g : Nat) : Int) := by rw [← Int.natCast_mul]; omega
      rw [e]
      exact facL_len m hm (y :: gs) (n - k * g) (by simp) (fun z hz => hg z (List.mem_cons_of_mem _ hz)) (by omega)
    · have h1 : n / g ≤ 100 / m := Nat.le_trans (Nat.div_le_div_right hn) (Nat.div_le_div_left (by omega) (by omega))
      show (100 / m + 1) ^ gs.length * (n / g + 1) ≤ (100 / m + 1) ^ (gs.length + 1)
      rw [Nat.pow_succ]
      exact Nat.mul_le_mul_left _ (by omega)
theorem dot_nonneg : ∀ (l gs : List Int), (∀ x ∈ l, 0 ≤ x) → (∀ x ∈ gs, 0 ≤ x) → 0 ≤ dot l gs
  | [], gs, _, _ => by rw [dot_nil]; omega
  | _ :: _, [], _, _ => by show (0 : Int) ≤ 0; omega
  | x :: l, y :: gs, h1, h2 => by
    rw [dot_cons]
    have a := Int.mul_nonneg (h1 x (List.mem_cons_self ..)) (h2 y (List.mem_cons_self ..))
    have b := dot_nonneg l gs (fun z hz => h1 z (List.mem_cons_of_mem _ hz)) (fun z hz => h2 z (List.mem_cons_of_mem _ hz))
    omega
/-- Every list has as many numbers as there are generators, from 0 to n, and their sum is n. -/
theorem facL_mem : ∀ (gs : List Int) (n : Nat) (l : List Int), (∀ x ∈ gs, 1 ≤ x) → (l ∈ facL gs (n : Int) ↔ l.length = gs.length ∧ (∀ x ∈ l, 0 ≤ x) ∧ dot l gs = (n : Int))
  | [], n, l, _ => by
    unfold facL
    constructor
    · intro h
      split at h
      · obtain rfl := List.mem_singleton.1 h
        rename_i h0
        exact ⟨rfl, by simp, by rw [dot_nil]; omega⟩
      · simp at h
    · rintro ⟨h1, _, h2⟩
      have : l = [] := List.length_eq_zero_iff.1 h1
      subst this
      rw [dot_nil] at h2
      rw [if_pos (by omega)]
      simp
  | x :: gs, n, l, hg => by
    have hx := hg x (List.mem_cons_self ..)
    obtain ⟨g, rfl⟩ : ∃ g : Nat, x = (g : Int) := ⟨x.toNat, by omega⟩
    have hd : ((n : Int) / (g : Int)).toNat = n / g := by rw [← Int.natCast_ediv, Int.toNat_natCast]
    show l ∈ downF (fun k => (facL gs ((n : Int) - k * (g : Int))).map fun l => k :: l) ((n : Int) / (g : Int)).toNat ↔ _
    rw [hd, downF_mem]
    constructor
    · rintro ⟨k, hk, h⟩
      have hk2 : k * g ≤ n := Nat.le_trans (Nat.mul_le_mul_right g hk) (Nat.div_mul_le_self n g)
      have e : (n : Int) - (k : Int) * (g : Int) = ((n - k * g : Nat) : Int) := by rw [← Int.natCast_mul]; omega
      obtain ⟨l', hl', rfl⟩ := List.mem_map.1 h
      rw [e] at hl'
      obtain ⟨h1, h2, h3⟩ := (facL_mem gs (n - k * g) l' (fun z hz => hg z (List.mem_cons_of_mem _ hz))).1 hl'
      refine ⟨by rw [List.length_cons, List.length_cons, h1], fun z hz => ?_, ?_⟩
      · rcases List.mem_cons.1 hz with rfl | hz
        · omega
        · exact h2 z hz
      · rw [dot_cons, h3, ← Int.natCast_mul]
        omega
    · rintro ⟨h1, h2, h3⟩
      cases l with
      | nil => simp at h1
      | cons y l' =>
        have hy := h2 y (List.mem_cons_self ..)
        obtain ⟨k, rfl⟩ : ∃ k : Nat, y = (k : Int) := ⟨y.toNat, by omega⟩
        rw [dot_cons, ← Int.natCast_mul] at h3
        have hdot : 0 ≤ dot l' gs := dot_nonneg l' gs (fun z hz => h2 z (List.mem_cons_of_mem _ hz)) (fun z hz => by have := hg z (List.mem_cons_of_mem _ hz); omega)
        have hk2 : k * g ≤ n := by omega
        have e : (n : Int) - (k : Int) * (g : Int) = ((n - k * g : Nat) : Int) := by rw [← Int.natCast_mul]; omega
        refine ⟨k, (Nat.le_div_iff_mul_le (by omega)).2 hk2, List.mem_map.2 ⟨l', ?_, rfl⟩⟩
        rw [e]
        exact (facL_mem gs (n - k * g) l' (fun z hz => hg z (List.mem_cons_of_mem _ hz))).2 ⟨by simpa using h1, fun z hz => h2 z (List.mem_cons_of_mem _ hz), by omega⟩
end Go.Proofs.Ytiejmnnnjmmifaa.Pure
