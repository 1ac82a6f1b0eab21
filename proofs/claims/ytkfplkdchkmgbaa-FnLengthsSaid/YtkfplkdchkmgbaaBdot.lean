/- Plain lemmas (dot, factor, pigeon, facboth, lengths, delta, lengths2, mElasticityOf, mGreatestElasticity, mDeltaSet, lenmath, draw11): no program, no memory. -/
import Derived.Test.YtkfplkdchkmgbaaC0
import Derived.Test.YtkfplkdchkmgbaaC1
import Derived.Test.YtkfplkdchkmgbaaC10
import Derived.Test.YtkfplkdchkmgbaaC2
import Derived.Test.YtkfplkdchkmgbaaC30
import Derived.Test.YtkfplkdchkmgbaaC31
import Derived.Test.YtkfplkdchkmgbaaC32
import Derived.Test.YtkfplkdchkmgbaaC33
import Derived.Test.YtkfplkdchkmgbaaC34
import Derived.Test.YtkfplkdchkmgbaaBbase
import Derived.Test.YtkfplkdchkmgbaaBisort
namespace Go.Proofs.Ytkfplkdchkmgbaa.Pure
open Go.RowKit Go.Proofs.Ytkfplkdchkmgbaa.C Go.Proofs.YtkfplkdchkmgbaaW.PrintWords Go.Proofs.YtkfplkdchkmgbaaW.PrintLast Go.Proofs.YtkfplkdchkmgbaaW.PrintMore
set_option linter.unusedVariables false
set_option linter.unusedSimpArgs false
/-! dot: the sum of the products of two lists -/
/-- The sum of the products of two lists. -/
def dot : List Int → List Int → Int
  | x :: a, y :: b => x * y + dot a b
  | _, _ => 0
theorem dot_cons (x : Int) (a : List Int) (y : Int) (b : List Int) : dot (x :: a) (y :: b) = x * y + dot a b := rfl
theorem dot_nil (b : List Int) : dot [] b = 0 := by cases b <;> rfl
theorem mul_le60 {x y : Int} (hx : 0 ≤ x ∧ x ≤ 1000000) (hy : 1 ≤ y ∧ y ≤ 60) : 0 ≤ x * y ∧ x * y ≤ 60000000 := by
  have h1 : 0 ≤ x * y := Int.mul_nonneg hx.1 (by omega)
  have h2 : x * y ≤ 1000000 * 60 := Int.mul_le_mul hx.2 hy.2 (by omega) (by omega)
  omega
/-! factor: factorizations of both sides -/
/-- What a function tells of q, q - 1, .., 0, one behind the other. -/
def downF (F : Int → List (List Int)) : Nat → List (List Int)
  | 0 => F 0
  | q + 1 => F ((q + 1 : Nat) : Int) ++ downF F q
def facL : List Int → Int → List (List Int)
  | [], n => if n = 0 then [[]] else []
  | g :: gs, n => downF (fun k => (facL gs (n - k * g)).map fun l => k :: l) (n / g).toNat
theorem downF_congr (F G : Int → List (List Int)) : ∀ q : Nat, (∀ k : Nat, k ≤ q → F (k : Int) = G (k : Int)) → downF F q = downF G q
  | 0, h => h 0 (Nat.le_refl _)
  | q + 1, h => by
    show F _ ++ downF F q = G _ ++ downF G q
    rw [h (q + 1) (Nat.le_refl _), downF_congr F G q (fun k hk => h k (by omega))]
theorem downF_nil (F : Int → List (List Int)) : ∀ q : Nat, (∀ k : Nat, k ≤ q → F (k : Int) = []) → downF F q = []
  | 0, h => h 0 (Nat.le_refl _)
  | q + 1, h => by
    show F _ ++ downF F q = []
    rw [h (q + 1) (Nat.le_refl _), downF_nil F q (fun k hk => h k (by omega))]
    rfl
theorem downF_len (F : Int → List (List Int)) (c : Nat) : ∀ q : Nat, (∀ k : Nat, k ≤ q → (F (k : Int)).length ≤ c) → (downF F q).length ≤ c * (q + 1)
  | 0, h => by have := h 0 (Nat.le_refl _); show (F 0).length ≤ _; simpa using this
  | q + 1, h => by
    have h1 := h (q + 1) (Nat.le_refl _)
    have h2 := downF_len F c q (fun k hk => h k (by omega))
    show (F _ ++ downF F q).length ≤ _
    rw [List.length_append, Nat.mul_succ]
    omega
theorem downF_mem (F : Int → List (List Int)) (l : List Int) : ∀ q : Nat, l ∈ downF F q ↔ ∃ k : Nat, k ≤ q ∧ l ∈ F (k : Int)
  | 0 => by
    show l ∈ F 0 ↔ _
    exact ⟨fun h => ⟨0, Nat.le_refl _, h⟩, fun ⟨k, hk, h⟩ => by
      obtain rfl : k = 0 := by omega
      exact h⟩
  | q + 1 => by
    show l ∈ F _ ++ downF F q ↔ _
    rw [List.mem_append, downF_mem F l q]
    constructor
    · rintro (h | ⟨k, hk, h⟩)
      · exact ⟨q + 1, Nat.le_refl _, h⟩
      · exact ⟨k, by omega, h⟩
    · rintro ⟨k, hk, h⟩
      by_cases e : k = q + 1
      · subst e; exact .inl h
      · exact .inr ⟨k, by omega, h⟩
/-- One generator: at most one list. -/
theorem facL_one (g : Nat) (hg : 1 ≤ g) (n : Nat) : facL [(g : Int)] (n : Int) = if n % g = 0 then [[((n / g : Nat) : Int)]] else [] := by
  have hd : ((n : Int) / (g : Int)).toNat = n / g := by rw [← Int.natCast_ediv, Int.toNat_natCast]
  show downF (fun k => (facL [] ((n : Int) - k * (g : Int))).map fun l => k :: l) ((n : Int) / (g : Int)).toNat = _
  rw [hd]
  have hm := Nat.div_add_mod n g
  have hmlt := Nat.mod_lt n (show 0 < g by omega)
  have key : ∀ k : Nat, (n : Int) - (k : Int) * (g : Int) = 0 ↔ n = k * g := fun k => by rw [← Int.natCast_mul]; omega
  by_cases h : n % g = 0
  · rw [if_pos h]
    have hq : n = n / g * g := by rw [Nat.mul_comm]; omega
    cases hc : n / g with
    | zero =>
      rw [hc] at hq
      show (facL [] ((n : Int) - 0 * (g : Int))).map _ = _
      have e : (n : Int) - 0 * (g : Int) = 0 := by omega
      rw [e]
      rfl
    | succ q =>
      rw [hc] at hq
      have e : (n : Int) - ((q + 1 : Nat) : Int) * (g : Int) = 0 := (key (q + 1)).2 hq
      show (facL [] ((n : Int) - ((q + 1 : Nat) : Int) * (g : Int))).map _ ++ downF _ q = _
      rw [e, downF_nil _ q (fun k hk => by
        have e2 : ¬ (n : Int) - (k : Int) * (g : Int) = 0 := fun e3 => by
          have e4 := (key k).1 e3
          have : k * g < (q + 1) * g := Nat.mul_lt_mul_of_pos_right (by omega) (by omega)
          omega
        show (facL [] _).map _ = []
        unfold facL
        rw [if_neg e2]
        rfl)]
      rfl
  · rw [if_neg h]
    refine downF_nil _ _ (fun k hk => ?_)
    have e2 : ¬ (n : Int) - (k : Int) * (g : Int) = 0 := fun e3 => by
      have e4 := (key k).1 e3
      apply h
      rw [e4, Nat.mul_mod_left]
    show (facL [] _).map _ = []
    unfold facL
    rw [if_neg e2]
    rfl
theorem facL_len (m : Nat) (hm : 1 ≤ m) : ∀ (gs : List Int) (n : Nat), gs ≠ [] → (∀ x ∈ gs, (m : Int) ≤ x) → n ≤ 100 → (facL gs (n : Int)).length ≤ (100 / m + 1) ^ (gs.length - 1)
  | [], _, h, _, _ => absurd rfl h
  | [x], n, _, hg, hn => by
    have hx := hg x (List.mem_cons_self ..)
    obtain ⟨g, rfl⟩ : ∃ g : Nat, x = (g : Int) := ⟨x.toNat, by omega⟩
    rw [facL_one g (by omega) n]
    split <;> simp
  | x :: y :: gs, n, _, hg, hn => by
    have hx := hg x (List.mem_cons_self ..)
    obtain ⟨g, rfl⟩ : ∃ g : Nat, x = (g : Int) := ⟨x.toNat, by omega⟩
    have hd : ((n : Int) / (g : Int)).toNat = n / g := by rw [← Int.natCast_ediv, Int.toNat_natCast]
    show (downF (fun k => (facL (y :: gs) ((n : Int) - k * (g : Int))).map fun l => k :: l) ((n : Int) / (g : Int)).toNat).length ≤ _
    rw [hd]
    refine Nat.le_trans (downF_len _ ((100 / m + 1) ^ ((y :: gs).length - 1)) (n / g) (fun k hk => ?_)) ?_
    · rw [List.length_map]
      have hk2 : k * g ≤ n := Nat.le_trans (Nat.mul_le_mul_right g hk) (Nat.div_mul_le_self n g)
      have e : (n : Int) - (k : Int) * (g : Int) = ((n - k * g : Nat) : Int) := by rw [← Int.natCast_mul]; omega
      rw [e]
      exact facL_len m hm (y :: gs) (n - k * g) (by simp) (fun z hz => hg z (List.mem_cons_of_mem _ hz)) (by omega)
    · have h1 : n / g ≤ 100 / m := Nat.le_trans (Nat.div_le_div_right hn) (Nat.div_le_div_left (by omega) (by omega))
      show (100 / m + 1) ^ gs.length * (n / g + 1) ≤ (100 / m + 1) ^ (gs.length + 1)
      rw [Nat.pow_succ]
      exact Nat.mul_le_mul_left _ (by omega)
theorem dot_nonneg : ∀ (l gs : List Int), (∀ x ∈ l, 0 ≤ x) → (∀ x ∈ gs, 0 ≤ x) → 0 ≤ dot l gs
  | [], gs, _, _ => by rw [dot_nil]; omega
  | _ :: _, [], _, _ => by show (0 : Int) ≤ 0; omega
  | x :: l, y :: gs, h1, h2 => by
    rw [dot_cons]
    have a := Int.mul_nonneg (h1 x (List.mem_cons_self ..)) (h2 y (List.mem_cons_self ..))
    have b := dot_nonneg l gs (fun z hz => h1 z (List.mem_cons_of_mem _ hz)) (fun z hz => h2 z (List.mem_cons_of_mem _ hz))
    omega
/-- Every list has as many numbers as there are generators, from 0 to n, and their sum is n. -/
theorem facL_mem : ∀ (gs : List Int) (n : Nat) (l : List Int), (∀ x ∈ gs, 1 ≤ x) → (l ∈ facL gs (n : Int) ↔ l.length = gs.length ∧ (∀ x ∈ l, 0 ≤ x) ∧ dot l gs = (n : Int))
  | [], n, l, _ => by
    unfold facL
    constructor
    · intro h
      split at h
      · obtain rfl := List.mem_singleton.1 h
        rename_i h0
        exact ⟨rfl, by simp, by rw [dot_nil]; omega⟩
      · simp at h
    · rintro ⟨h1, _, h2⟩
      have : l = [] := List.length_eq_zero_iff.1 h1
      subst this
      rw [dot_nil] at h2
      rw [if_pos (by omega)]
      simp
  | x :: gs, n, l, hg => by
    have hx := hg x (List.mem_cons_self ..)
    obtain ⟨g, rfl⟩ : ∃ g : Nat, x = (g : Int) := ⟨x.toNat, by omega⟩
    have hd : ((n : Int) / (g : Int)).toNat = n / g := by rw [← Int.natCast_ediv, Int.toNat_natCast]
    show l ∈ downF (fun k => (facL gs ((n : Int) - k * (g : Int))).map fun l => k :: l) ((n : Int) / (g : Int)).toNat ↔ _
    rw [hd, downF_mem]
    constructor
    · rintro ⟨k, hk, h⟩
      have hk2 : k * g ≤ n := Nat.le_trans (Nat.mul_le_mul_right g hk) (Nat.div_mul_le_self n g)
      have e : (n : Int) - (k : Int) * (g : Int) = ((n - k * g : Nat) : Int) := by rw [← Int.natCast_mul]; omega
      obtain ⟨l', hl', rfl⟩ := List.mem_map.1 h
      rw [e] at hl'
      obtain ⟨h1, h2, h3⟩ := (facL_mem gs (n - k * g) l' (fun z hz => hg z (List.mem_cons_of_mem _ hz))).1 hl'
      refine ⟨by rw [List.length_cons, List.length_cons, h1], fun z hz => ?_, ?_⟩
      · rcases List.mem_cons.1 hz with rfl | hz
        · omega
        · exact h2 z hz
      · rw [dot_cons, h3, ← Int.natCast_mul]
        omega
    · rintro ⟨h1, h2, h3⟩
      cases l with
      | nil => simp at h1
      | cons y l' =>
        have hy := h2 y (List.mem_cons_self ..)
        obtain ⟨k, rfl⟩ : ∃ k : Nat, y = (k : Int) := ⟨y.toNat, by omega⟩
        rw [dot_cons, ← Int.natCast_mul] at h3
        have hdot : 0 ≤ dot l' gs := dot_nonneg l' gs (fun z hz => h2 z (List.mem_cons_of_mem _ hz)) (fun z hz => by have := hg z (List.mem_cons_of_mem _ hz); omega)
        have hk2 : k * g ≤ n := by omega
        have e : (n : Int) - (k : Int) * (g : Int) = ((n - k * g : Nat) : Int) := by rw [← Int.natCast_mul]; omega
        refine ⟨k, (Nat.le_div_iff_mul_le (by omega)).2 hk2, List.mem_map.2 ⟨l', ?_, rfl⟩⟩
        rw [e]
        exact (facL_mem gs (n - k * g) l' (fun z hz => hg z (List.mem_cons_of_mem _ hz))).2 ⟨by simpa using h1, fun z hz => h2 z (List.mem_cons_of_mem _ hz), by omega⟩
/-! pigeon: a semigroup has at most as many generators as its least one tells; how many factorizations there are -/
theorem nodup_len : ∀ (m : Nat) (l : List Nat), l.Nodup → (∀ x ∈ l, x < m) → l.length ≤ m
  | 0, l, _, h => by
    cases l with
    | nil => simp
    | cons x l => have := h x (List.mem_cons_self ..); omega
  | m + 1, l, hn, h => by
    have h1 := nodup_len m (l.erase m) (hn.erase m) (fun x hx => by
      have := (hn.mem_erase_iff).1 hx
      have := h x this.2
      omega)
    by_cases hm : m ∈ l
    · rw [List.length_erase_of_mem hm] at h1
      omega
    · rw [List.erase_of_not_mem hm] at h1
      omega
theorem SG.len_le (g : List Int) (h : SG g) (a : Nat) (ha : rd g 0 = (a : Int)) (ha1 : 1 ≤ a) : g.length ≤ a := by
  have hmem : ∀ i (hi : i < g.length), 1 ≤ g[i] ∧ g[i] ≤ 60 := fun i hi => h.rng _ (List.getElem_mem hi)
  have h0 : rd g ((0 : Nat) : Int) = g[0]'(by have := h.len1; omega) := rd_at g 0 (by have := h.len1; omega)
  have h0' : g[0]'(by have := h.len1; omega) = (a : Int) := by rw [← h0]; exact ha
  have key := nodup_len a (g.map fun x => x.toNat % a) ?_ (fun x hx => by
    obtain ⟨y, _, rfl⟩ := List.mem_map.1 hx
    exact Nat.mod_lt _ (by omega))
  · rwa [List.length_map] at key
  · rw [List.nodup_iff_pairwise_ne, List.pairwise_map, List.pairwise_iff_getElem]
    intro i j hi hj hij e
    have hlt := List.pairwise_iff_getElem.1 h.up i j hi hj hij
    have hi1 := hmem i hi
    have hj1 := hmem j hj
    obtain ⟨x, hx⟩ : ∃ x : Nat, g[i] = (x : Int) := ⟨g[i].toNat, by omega⟩
    obtain ⟨y, hy⟩ : ∃ y : Nat, g[j] = (y : Int) := ⟨g[j].toNat, by omega⟩
    rw [hx, hy, Int.toNat_natCast, Int.toNat_natCast] at e
    rw [hx, hy] at hlt
    rcases h.free j hj with h1 | h1
    · omega
    · rw [getD_at g j hj, hy] at h1
      apply h1
      have m1 := Nat.mod_add_div x a
      have m2 := Nat.mod_add_div y a
      have m3 : x / a ≤ y / a := Nat.div_le_div_right (by omega)
      obtain ⟨c, hc⟩ : ∃ c, y / a = x / a + c := ⟨y / a - x / a, by omega⟩
      have e3 : (y : Int) = (x : Int) + ((c : Nat) : Int) * (a : Int) := by
        rw [hc, Nat.mul_add] at m2
        have : a * c = c * a := Nat.mul_comm a c
        rw [← Int.natCast_mul]
        omega
      rw [e3]
      refine (Sums.one ?_).both (Sums.times ?_ c)
      · rw [← hx]
        have : g[i] = (g.take j)[i]'(by rw [List.length_take]; omega) := by rw [List.getElem_take]
        rw [this]
        exact List.getElem_mem _
      · rw [← h0']
        have : g[0]'(by omega) = (g.take j)[0]'(by rw [List.length_take]; omega) := by rw [List.getElem_take]
        rw [this]
        exact List.getElem_mem _
theorem asc_first (g : List Int) (h : asc g) (h0 : 0 < g.length) : ∀ x ∈ g, g[0] ≤ x := by
  intro x hx
  obtain ⟨i, hi, rfl⟩ := List.getElem_of_mem hx
  by_cases e : i = 0
  · subst e; omega
  · have := List.pairwise_iff_getElem.1 h 0 i h0 hi (by omega); omega
theorem pow_room : ∀ k : Nat, k ≤ 12 → 1 ≤ k → (100 / k + 1) ^ (k - 1) ≤ 100000000000 := by decide
/-- There are fewer factorizations than a slice has room for. -/
theorem facL_room (g : List Int) (h : SG g) (gs : List Int) (hs : ∀ x ∈ gs, x ∈ g) (hl : gs.length ≤ g.length) (n : Nat) (hn : n ≤ 100) : (facL gs (n : Int)).length ≤ 100000000000 := by
  have hl1 := h.len1
  have hl2 := h.len2
  obtain ⟨a, ha, ha1, ha2, hmem⟩ := first_of g (by omega) h.rng
  have hk := h.len_le g a ha ha1
  have h0 : rd g ((0 : Nat) : Int) = g[0] := rd_at g 0 (by omega)
  have h0' : g[0] = (a : Int) := by rw [← h0]; exact ha
  by_cases e : gs = []
  · subst e
    unfold facL
    split <;> simp
  · have h1 := facL_len g.length hl1 gs n e (fun x hx => by
      have := asc_first g h.up (by omega) x (hs x hx)
      omega) hn
    have h2 : (100 / g.length + 1) ^ (gs.length - 1) ≤ (100 / g.length + 1) ^ (g.length - 1) := Nat.pow_le_pow_right (Nat.succ_pos _) (by omega)
    have h3 := pow_room g.length hl2 hl1
    omega
/-! facboth: spec.Factorizations and impl.Factorizations -/
theorem rd_L3_at (xs : List (List Int)) (i : Nat) (h : i < xs.length) : rd_L3 xs (i : Int) = xs[i] := by
  unfold rd_L3
  rw [Int.toNat_natCast, List.getD_eq_getElem?_getD, List.getElem?_eq_getElem h, Option.getD_some]
theorem tdiv_nat (a b : Nat) : Int.tdiv (a : Int) (b : Int) = ((a / b : Nat) : Int) := by
  rw [Int.tdiv_eq_ediv_of_nonneg (by omega)]
  simp
/-- What is left of n behind q times a. -/
theorem left_nat (n q a : Nat) (hk2 : q * a ≤ n) (hn : n ≤ 100) : (n : Int) - (q : Int) * (a : Int) = ((n - q * a : Nat) : Int) ∧ wrap64 ((q : Int) * (a : Int)) = (q : Int) * (a : Int) ∧ wrap64 ((n : Int) - (q : Int) * (a : Int)) = ((n - q * a : Nat) : Int) ∧ n - q * a ≤ 100 := by
  generalize hx : q * a = x at hk2
  have e0 : (q : Int) * (a : Int) = (x : Int) := by rw [← hx, Int.natCast_mul]
  rw [e0]
  have e : (n : Int) - (x : Int) = ((n - x : Nat) : Int) := by omega
  exact ⟨e, w64_of (by omega) (by omega), by rw [e]; exact w64_of (by omega) (by omega), by omega⟩
theorem w64_pred (q : Nat) (h : q ≤ 1000000000000) : wrap64 (((q + 1 : Nat) : Int) - 1) = (q : Int) := by
  rw [w64_of (by omega) (by omega)]
  omega
theorem w64_pred0 : wrap64 (((0 : Nat) : Int) - 1) = -1 := w64_of (by omega) (by omega)
theorem len_left {α : Type} (a b : List α) (c : Nat) (h : (a ++ b).length ≤ c) : a.length ≤ c := by
  rw [List.length_append] at h
  omega
theorem downF_zero (F : Int → List (List Int)) : downF F 0 = F ((0 : Nat) : Int) := rfl
theorem fac_prefix (F : Int → List (List Int)) (acc : List (List Int)) (q : Nat) : (acc ++ F ((q + 1 : Nat) : Int)) ++ downF F q = acc ++ downF F (q + 1) := by rw [List.append_assoc]; rfl
section
variable (g : List Int) (hS : SG g)
include hS
theorem impl_factored_ev : ∀ (gs : List Int), (∀ x ∈ gs, x ∈ g) → gs.length ≤ g.length → ∀ n : Nat, n ≤ 100 → Ev (fun k => impl_factored.f k gs (n : Int)) (facL gs (n : Int))
  | [], _, _, n, hn => by
    refine Ev.one (fun k => by rw [impl_factored.f]) ?_
    unfold facL
    refine Ev.pos rfl ?_
    by_cases h : (n : Int) = 0
    · simp only [if_pos h]; exact Ev.now _
    · simp only [if_neg h]; exact Ev.now _
  | x :: gs, hs, hl, n, hn => by
    have ih := fun m hm => impl_factored_ev gs (fun y hy => hs y (List.mem_cons_of_mem _ hy)) (by simp at hl; omega) m hm
    have hx := hS.rng x (hs x (List.mem_cons_self ..))
    have hl12 := hS.len2
    have hlg : gs.length ≤ 12 := by simp at hl; omega
    obtain ⟨a, rfl⟩ : ∃ a : Nat, x = (a : Int) := ⟨x.toNat, by omega⟩
    have hd : ((n : Int) / (a : Int)).toNat = n / a := by rw [← Int.natCast_ediv, Int.toNat_natCast]
    have hroom := facL_room g hS ((a : Int) :: gs) hs hl n hn
    have e0 : rd ((a : Int) :: gs) 0 = (a : Int) := rfl
    have hdn : n / a ≤ n := Nat.div_le_self n a
    have hdw : wrap64 ((n / a : Nat) : Int) = ((n / a : Nat) : Int) := by
      generalize n / a = x at hdn
      exact w64_of (by omega) (by omega)
    refine Ev.one (fun k => by rw [impl_factored.f]) ?_
    rw [e0, tdiv_nat, hdw]
    refine Ev.neg (by rw [List.length_cons]; omega) (Ev.pos (by rw [List.length_cons]; omega) (Ev.neg (by omega) ?_))
    have hfull : facL ((a : Int) :: gs) (n : Int) = downF (fun k => (facL gs ((n : Int) - k * (a : Int))).map fun l => k :: l) (n / a) := by rw [← hd]; rfl
    rw [hfull] at hroom ⊢
    -- the loop over the numbers of the first generator, from the greatest one on
    have loop : ∀ (q : Nat) (acc : List (List Int)), q ≤ n / a → (acc ++ downF (fun k => (facL gs ((n : Int) - k * (a : Int))).map fun l => k :: l) q).length ≤ 100000000000 →
        Ev (fun k => impl_factored.l0 k ((a : Int) :: gs) (n : Int) acc (q : Int)) (acc ++ downF (fun k => (facL gs ((n : Int) - k * (a : Int))).map fun l => k :: l) q) := by
      intro q
      -- one round: then 'rest'
      have round : ∀ (q : Nat) (acc : List (List Int)) (res : List (List Int)), q ≤ n / a → (acc ++ (facL gs ((n : Int) - (q : Int) * (a : Int))).map fun l => (q : Int) :: l).length ≤ 100000000000 →
          Ev (fun k => impl_factored.l0 k ((a : Int) :: gs) (n : Int) (acc ++ (facL gs ((n : Int) - (q : Int) * (a : Int))).map fun l => (q : Int) :: l) (wrap64 ((q : Int) - 1))) res →
          Ev (fun k => impl_factored.l0 k ((a : Int) :: gs) (n : Int) acc (q : Int)) res := by
        intro q acc res hq hlen hrest
        have hk2 : q * a ≤ n := Nat.le_trans (Nat.mul_le_mul_right a hq) (Nat.div_mul_le_self n a)
        obtain ⟨e, e1, e2, hle⟩ := left_nat n q a hk2 hn
        rw [e] at hlen hrest
        have hmem := facL_mem gs (n - q * a)
        have ih := ih (n - q * a) hle
        generalize facL gs ((n - q * a : Nat) : Int) = sub at hlen hrest ih hmem
        have hsl : ∀ l ∈ sub, l.length = gs.length := fun l hl => ((hmem l (fun y hy => (hS.rng y (hs y (List.mem_cons_of_mem _ hy))).1)).1 hl).1
        rw [List.length_append, List.length_map] at hlen
        refine Ev.one (fun k => by rw [impl_factored.l0]) ?_
        rw [e0, e1, e2, show List.drop 1 ((a : Int) :: gs) = gs from rfl]
        refine Ev.pos (by omega) (Ev.pos (by rw [List.length_cons]; omega) (Ev.pos (by rw [List.length_cons]; omega) (Ev.bnd ih ?_)))
        have inner : ∀ (d i : Nat), i + d = sub.length → Ev (fun k => impl_factored.l1 k ((a : Int) :: gs) (n : Int) (acc ++ (sub.take i).map fun l => (q : Int) :: l) (q : Int) sub (sub.length : Int) (i : Int)) res := by
          intro d
          induction d with
          | zero =>
            intro i hi
            rw [List.take_of_length_le (by omega)]
            refine Ev.one (fun k => by rw [impl_factored.l1]) ?_
            exact Ev.neg (by omega) hrest
          | succ d ihd =>
            intro i hi
            have hil : i < sub.length := by omega
            have ihd := ihd (i + 1) (by omega)
            rw [List.take_succ_eq_append_getElem hil, List.map_append, List.map_cons, List.map_nil, ← List.append_assoc] at ihd
            refine Ev.one (fun k => by rw [impl_factored.l1]) ?_
            rw [rd_L3_at sub i hil, w64_succ i (by omega)]
            have := hsl sub[i] (List.getElem_mem hil)
            exact Ev.pos (by omega) (Ev.pos (by omega) (Ev.pos (by omega) (Ev.some (Ev.pos (by rw [List.length_singleton]; omega) (Ev.pos (by rw [List.length_append, List.length_map, List.length_take]; omega) ihd)))))
        have h := inner sub.length 0 (by omega)
        rw [List.take_zero, List.map_nil, List.append_nil] at h
        exact h
      induction q with
      | zero =>
        intro acc hq hlen
        rw [downF_zero] at hlen ⊢
        refine round 0 acc _ hq hlen ?_
        rw [w64_pred0]
        refine Ev.one (fun k => by rw [impl_factored.l0]) ?_
        exact Ev.neg (by decide) (Ev.now _)
      | succ q ihq =>
        intro acc hq hlen
        rw [← fac_prefix] at hlen ⊢
        refine round (q + 1) acc _ hq (len_left _ _ _ hlen) ?_
        rw [w64_pred q (Nat.le_trans (Nat.le_of_succ_le hq) (Nat.le_trans hdn (Nat.le_trans hn (by decide))))]
        exact ihq _ (Nat.le_of_succ_le hq) hlen
    have h := loop (n / a) [] (Nat.le_refl _) (by rw [List.nil_append]; exact hroom)
    rw [List.nil_append] at h
    exact h
theorem spec_l11Find_ev (hp : g ≠ []) : ∀ (gs : List Int) (done : List Int), g = g.take done.length ++ gs → gs ≠ [] → done.length + gs.length = g.length → ∀ n : Nat, n ≤ 100 →
    Ev (fun k => spec_l11Find.f k g (n : Int) done) ((facL gs (n : Int)).map fun l => done ++ l)
  | [], _, _, h, _, _, _ => absurd rfl h
  | [x], done, hg, _, hl, n, hn => by
    have hl12 := hS.len2
    have hlt : done.length < g.length := by simp at hl; omega
    have hx : g[done.length] = x := by
      have h1 : (g.take done.length ++ [x])[done.length]? = some x := by
        rw [List.getElem?_append_right (by rw [List.length_take]; omega), List.length_take, Nat.min_eq_left (by omega), Nat.sub_self]
        rfl
      rw [← hg, List.getElem?_eq_getElem hlt] at h1
      exact Option.some.inj h1
    have hr := hS.rng _ (List.getElem_mem hlt)
    rw [hx] at hr
    obtain ⟨a, rfl⟩ : ∃ a : Nat, x = (a : Int) := ⟨x.toNat, by omega⟩
    have e1 : rd g (done.length : Int) = (a : Int) := by rw [rd_at g _ hlt, hx]
    have e2 : wrap64 ((g.length : Int) - 1) = (done.length : Int) := by rw [w64_of (by omega) (by omega)]; simp at hl; omega
    have hdn : n / a ≤ n := Nat.div_le_self n a
    have hdw : wrap64 ((n / a : Nat) : Int) = ((n / a : Nat) : Int) := by
      generalize n / a = x at hdn
      exact w64_of (by omega) (by omega)
    rw [facL_one a (by omega) n]
    refine Ev.one (fun k => by rw [spec_l11Find.f]) ?_
    rw [e1, e2, tmod_nat, tdiv_nat, hdw]
    refine Ev.neg (by omega) (Ev.some (Ev.pos rfl (Ev.pos (by omega) (Ev.pos (by omega) (Ev.neg (by omega) ?_)))))
    by_cases h : n % a = 0
    · rw [if_pos h]
      refine Ev.pos (by omega) (Ev.some (Ev.pos (by simp; omega) (Ev.some (Ev.some (Ev.pos (by simp; omega) (Ev.some (Ev.pos (by simp) ?_)))))))
      exact Ev.now _
    · rw [if_neg h]
      exact Ev.neg (by omega) (Ev.now _)
  | x :: y :: gs, done, hg, _, hl, n, hn => by
    have hl12 := hS.len2
    have hlt : done.length < g.length := by simp at hl; omega
    have hx : g[done.length] = x := by
      have h1 : (g.take done.length ++ (x :: y :: gs))[done.length]? = some x := by
        rw [List.getElem?_append_right (by rw [List.length_take]; omega), List.length_take, Nat.min_eq_left (by omega), Nat.sub_self]
        rfl
      rw [← hg, List.getElem?_eq_getElem hlt] at h1
      exact Option.some.inj h1
    have hr := hS.rng _ (List.getElem_mem hlt)
    rw [hx] at hr
    obtain ⟨a, rfl⟩ : ∃ a : Nat, x = (a : Int) := ⟨x.toNat, by omega⟩
    have e1 : rd g (done.length : Int) = (a : Int) := by rw [rd_at g _ hlt, hx]
    have e2 : wrap64 ((g.length : Int) - 1) = (g.length : Int) - 1 := w64_of (by omega) (by omega)
    have hd : ((n : Int) / (a : Int)).toNat = n / a := by rw [← Int.natCast_ediv, Int.toNat_natCast]
    have hdn : n / a ≤ n := Nat.div_le_self n a
    have hdw : wrap64 ((n / a : Nat) : Int) = ((n / a : Nat) : Int) := by
      generalize n / a = x at hdn
      exact w64_of (by omega) (by omega)
    have hsub : ∀ z ∈ (a : Int) :: y :: gs, z ∈ g := fun z hz => by rw [hg]; exact List.mem_append_right _ hz
    have hroom := facL_room g hS ((a : Int) :: y :: gs) hsub (by omega) n hn
    have hnext : ∀ k : Int, g = g.take (done ++ [k]).length ++ (y :: gs) := by
      intro k
      have h2 : g.take (done.length + 1) = g.take done.length ++ [(a : Int)] := by rw [List.take_succ_eq_append_getElem hlt, hx]
      rw [List.length_append, List.length_singleton, h2, List.append_assoc]
      exact hg
    have hfull : facL ((a : Int) :: y :: gs) (n : Int) = downF (fun k => (facL (y :: gs) ((n : Int) - k * (a : Int))).map fun l => k :: l) (n / a) := by rw [← hd]; rfl
    refine Ev.one (fun k => by rw [spec_l11Find.f]) ?_
    rw [e1, e2, tdiv_nat, hdw]
    refine Ev.neg (by omega) (Ev.some (Ev.neg (by simp at hl; omega) (Ev.pos (by omega) (Ev.pos (by omega) (Ev.neg (by omega) ?_)))))
    rw [hfull] at hroom ⊢
    have loop : ∀ (q : Nat) (acc : List (List Int)), q ≤ n / a → (acc ++ downF (fun k => (facL (y :: gs) ((n : Int) - k * (a : Int))).map fun l => k :: l) q).length ≤ 100000000000 →
        Ev (fun k => spec_l11Find.l0 k g (n : Int) done (done.length : Int) (acc.map fun l => done ++ l) (q : Int)) ((acc ++ downF (fun k => (facL (y :: gs) ((n : Int) - k * (a : Int))).map fun l => k :: l) q).map fun l => done ++ l) := by
      intro q
      have round : ∀ (q : Nat) (acc : List (List Int)) (res : List (List Int)), q ≤ n / a → (acc ++ (facL (y :: gs) ((n : Int) - (q : Int) * (a : Int))).map fun l => (q : Int) :: l).length ≤ 100000000000 →
          Ev (fun k => spec_l11Find.l0 k g (n : Int) done (done.length : Int) ((acc ++ (facL (y :: gs) ((n : Int) - (q : Int) * (a : Int))).map fun l => (q : Int) :: l).map fun l => done ++ l) (wrap64 ((q : Int) - 1))) res →
          Ev (fun k => spec_l11Find.l0 k g (n : Int) done (done.length : Int) (acc.map fun l => done ++ l) (q : Int)) res := by
        intro q acc res hq hlen hrest
        have hk2 : q * a ≤ n := Nat.le_trans (Nat.mul_le_mul_right a hq) (Nat.div_mul_le_self n a)
        obtain ⟨e, e3, e4, hle⟩ := left_nat n q a hk2 hn
        rw [e] at hlen hrest
        have ih := spec_l11Find_ev hp (y :: gs) (done ++ [(q : Int)]) (hnext _) (by simp) (by simp at hl ⊢; omega) (n - q * a) hle
        have emap : ((facL (y :: gs) ((n - q * a : Nat) : Int)).map fun l => (done ++ [(q : Int)]) ++ l) = (((facL (y :: gs) ((n - q * a : Nat) : Int)).map fun l => (q : Int) :: l).map fun l => done ++ l) := by
          rw [List.map_map]
          apply List.map_congr_left
          intro l _
          simp
        rw [emap] at ih
        generalize facL (y :: gs) ((n - q * a : Nat) : Int) = sub at hlen hrest ih
        rw [List.length_append, List.length_map] at hlen
        rw [List.map_append] at hrest
        refine Ev.one (fun k => by rw [spec_l11Find.l0]) ?_
        rw [e1, e3, e4]
        refine Ev.pos (by omega) (Ev.pos (by omega) (Ev.pos (by omega) (Ev.some (Ev.pos (by simp; omega) (Ev.some (Ev.some (Ev.pos (by simp; omega) (Ev.bnd ih (Ev.pos (by simp; omega) hrest)))))))))
      induction q with
      | zero =>
        intro acc hq hlen
        rw [downF_zero] at hlen ⊢
        refine round 0 acc _ hq hlen ?_
        rw [w64_pred0]
        refine Ev.one (fun k => by rw [spec_l11Find.l0]) ?_
        exact Ev.neg (by decide) (Ev.now _)
      | succ q ihq =>
        intro acc hq hlen
        rw [← fac_prefix] at hlen ⊢
        refine round (q + 1) acc _ hq (len_left _ _ _ hlen) ?_
        rw [w64_pred q (Nat.le_trans (Nat.le_of_succ_le hq) (Nat.le_trans hdn (Nat.le_trans hn (by decide))))]
        exact ihq _ (Nat.le_of_succ_le hq) hlen
    have h := loop (n / a) [] (Nat.le_refl _) (by rw [List.nil_append]; exact hroom)
    rw [List.nil_append] at h
    exact h
end
/-- What Factorizations answers. -/
def facS (b : Bool) (g : List Int) (n : Int) : List (List Int) := if b = true ∧ (0 ≤ n ∧ n ≤ 100) then facL g n else []
theorem fac_both (g : List Int) (hlen : g.length ≤ 1048576) (n : Int) : ∃ b, (b = true ↔ SG g) ∧ Ev (fun k => spec_Factorizations.f k g n) (facS b g n) ∧ Ev (fun k => impl_Factorizations.f k g n) (facS b g n) := by
  obtain ⟨b, b1, b2, b3⟩ := sg_both g hlen
  refine ⟨b, b1, ?_⟩
  unfold spec_Factorizations.f impl_Factorizations.f facS
  cases b with
  | false =>
    rw [if_neg (fun e => by cases e.1)]
    exact ⟨Ev.bnd b2 (Ev.neg (by decide) (Ev.now _)), Ev.bnd b3 (Ev.neg (by decide) (Ev.now _))⟩
  | true =>
    have hS := b1.1 rfl
    have hl1 := hS.len1
    by_cases h : 0 ≤ n ∧ n ≤ 100
    · obtain ⟨m, rfl⟩ : ∃ m : Nat, n = (m : Int) := ⟨n.toNat, by omega⟩
      rw [if_pos ⟨rfl, h⟩]
      have hne : g ≠ [] := fun e => by subst e; simp at hl1
      have h1 := spec_l11Find_ev g hS hne g [] (by simp) hne (by simp) m (by omega)
      have e1 : ((facL g (m : Int)).map fun l => [] ++ l) = facL g (m : Int) := by simp
      rw [e1] at h1
      exact ⟨Ev.bnd b2 (Ev.pos rfl (Ev.bnd (spec_l1In_ev _ _ _) (Ev.pos (decide_eq_true h) (Ev.bnd h1 (Ev.now _))))),
        Ev.bnd b3 (Ev.pos rfl (Ev.bnd (impl_within_ev _ _ _) (Ev.pos (decide_eq_true h) (Ev.bnd (impl_factored_ev g hS g (fun x hx => hx) (Nat.le_refl _) m (by omega)) (Ev.now _)))))⟩
    · rw [if_neg (fun e => h e.2)]
      exact ⟨Ev.bnd b2 (Ev.pos rfl (Ev.bnd (spec_l1In_ev _ _ _) (Ev.neg (by rw [decide_eq_false h]; decide) (Ev.now _)))),
        Ev.bnd b3 (Ev.pos rfl (Ev.bnd (impl_within_ev _ _ _) (Ev.neg (by rw [decide_eq_false h]; decide) (Ev.now _))))⟩
/-! lengths: LengthsOf of both sides -/
theorem sum_take (l : List Int) (i : Nat) (hi : i < l.length) : (l.take (i + 1)).sum = (l.take i).sum + l[i] := by
  rw [List.take_succ_eq_append_getElem hi, List.sum_append, List.sum_cons, List.sum_nil, Int.add_zero]
theorem sum_bound (l : List Int) (h : ∀ x ∈ l, 0 ≤ x ∧ x ≤ 1000000) (i : Nat) : 0 ≤ (l.take i).sum ∧ (l.take i).sum ≤ (i : Int) * 1000000 := by
  induction i with
  | zero => simp
  | succ i ih =>
    by_cases hi : i < l.length
    · have := h l[i] (List.getElem_mem hi)
      rw [sum_take l i hi]
      omega
    · rw [List.take_of_length_le (by omega)] at ih ⊢
      omega
theorem spec_sum_l0 (l : List Int) (hl : l.length ≤ 1048576) (h : ∀ x ∈ l, 0 ≤ x ∧ x ≤ 1000000) : ∀ d i, i + d = l.length → Ev (fun k => spec_l12Sum.l0 k l (l.take i).sum (i : Int)) l.sum := by
  intro d
  induction d with
  | zero =>
    intro i hi
    rw [List.take_of_length_le (by omega)]
    refine Ev.one (fun k => by rw [spec_l12Sum.l0]) ?_
    exact Ev.neg (by omega) (Ev.now _)
  | succ d ih =>
    intro i hi
    have ih := ih (i + 1) (by omega)
    have hil : i < l.length := by omega
    have hb := sum_bound l h i
    have hx := h l[i] (List.getElem_mem hil)
    rw [sum_take l i hil] at ih
    refine Ev.one (fun k => by rw [spec_l12Sum.l0]) ?_
    rw [rd_at l i hil, w64_succ i (by omega), w64_of (by omega) (by omega)]
    exact Ev.pos (by omega) (Ev.pos (by omega) ih)
theorem spec_sum_ev (l : List Int) (hl : l.length ≤ 1048576) (h : ∀ x ∈ l, 0 ≤ x ∧ x ≤ 1000000) : Ev (fun k => spec_l12Sum.f k l) l.sum := spec_sum_l0 l hl h l.length 0 (by omega)
theorem impl_total_l0 (l : List Int) (hl : l.length ≤ 1048576) (h : ∀ x ∈ l, 0 ≤ x ∧ x ≤ 1000000) : ∀ d i, i + d = l.length → Ev (fun k => impl_total.l0 k (l.take i).sum l (l.length : Int) (i : Int)) l.sum := by
  intro d
  induction d with
  | zero =>
    intro i hi
    rw [List.take_of_length_le (by omega)]
    refine Ev.one (fun k => by rw [impl_total.l0]) ?_
    exact Ev.neg (by omega) (Ev.now _)
  | succ d ih =>
    intro i hi
    have ih := ih (i + 1) (by omega)
    have hil : i < l.length := by omega
    have hb := sum_bound l h i
    have hx := h l[i] (List.getElem_mem hil)
    rw [sum_take l i hil] at ih
    refine Ev.one (fun k => by rw [impl_total.l0]) ?_
    rw [rd_at l i hil, w64_succ i (by omega), w64_of (by omega) (by omega)]
    exact Ev.pos (by omega) (Ev.pos (by omega) (Ev.pos (by omega) ih))
theorem impl_total_ev (l : List Int) (hl : l.length ≤ 1048576) (h : ∀ x ∈ l, 0 ≤ x ∧ x ≤ 1000000) : Ev (fun k => impl_total.f k l) l.sum := impl_total_l0 l hl h l.length 0 (by omega)
theorem sum_dot : ∀ (l g : List Int), l.length = g.length → (∀ x ∈ l, 0 ≤ x) → (∀ x ∈ g, 1 ≤ x ∧ x ≤ 60) → 0 ≤ l.sum ∧ l.sum ≤ dot l g ∧ dot l g ≤ 60 * l.sum
  | [], g, _, _, _ => by rw [dot_nil]; simp
  | x :: l, [], h, _, _ => by simp at h
  | x :: l, y :: g, h, hl, hg => by
    have h1 := sum_dot l g (by simpa using h) (fun z hz => hl z (List.mem_cons_of_mem _ hz)) (fun z hz => hg z (List.mem_cons_of_mem _ hz))
    have hx := hl x (List.mem_cons_self ..)
    have hy := hg y (List.mem_cons_self ..)
    have h2 : x * 1 ≤ x * y := Int.mul_le_mul_of_nonneg_left hy.1 hx
    have h3 : x * y ≤ x * 60 := Int.mul_le_mul_of_nonneg_left hy.2 hx
    rw [dot_cons, List.sum_cons]
    omega
theorem elem_sum : ∀ (l : List Int), (∀ x ∈ l, 0 ≤ x) → ∀ x ∈ l, x ≤ l.sum
  | [], _, x, hx => by cases hx
  | y :: l, h, x, hx => by
    have hy := h y (List.mem_cons_self ..)
    have h0 : ∀ l : List Int, (∀ x ∈ l, 0 ≤ x) → 0 ≤ l.sum := fun l h => by
      induction l with
      | nil => simp
      | cons z l ih =>
        rw [List.sum_cons]
        have := h z (List.mem_cons_self ..)
        have := ih (fun w hw => h w (List.mem_cons_of_mem _ hw))
        omega
    have h1 := h0 l (fun z hz => h z (List.mem_cons_of_mem _ hz))
    rw [List.sum_cons]
    rcases List.mem_cons.1 hx with rfl | hx
    · omega
    · have := elem_sum l (fun z hz => h z (List.mem_cons_of_mem _ hz)) x hx
      omega
/-- What is known of the factorizations. -/
theorem facS_rows (b : Bool) (g : List Int) (hS : b = true → SG g) (n : Int) : (facS b g n).length ≤ 100000000000 ∧ ∀ l ∈ facS b g n, l.length ≤ 12 ∧ (∀ x ∈ l, 0 ≤ x ∧ x ≤ 1000000) ∧ 0 ≤ l.sum ∧ l.sum ≤ 100 ∧ (n ≠ 0 → 1 ≤ l.sum) := by
  unfold facS
  by_cases h : b = true ∧ (0 ≤ n ∧ n ≤ 100)
  · rw [if_pos h]
    have hS := hS h.1
    obtain ⟨m, rfl⟩ : ∃ m : Nat, n = (m : Int) := ⟨n.toNat, by omega⟩
    refine ⟨facL_room g hS g (fun _ h => h) (Nat.le_refl _) m (by omega), fun l hl => ?_⟩
    have h1 := (facL_mem g m l (fun x hx => (hS.rng x hx).1)).1 hl
    have h2 := sum_dot l g h1.1 h1.2.1 hS.rng
    rw [h1.2.2] at h2
    exact ⟨by have := hS.len2; omega, fun x hx => ⟨h1.2.1 x hx, by have := elem_sum l h1.2.1 x hx; omega⟩, h2.1, by omega, fun _ => by omega⟩
  · rw [if_neg h]
    exact ⟨by simp, fun l hl => by cases hl⟩
theorem asc_len (l : List Int) (h : asc l) (a b : Int) (hl : ∀ x ∈ l, a ≤ x ∧ x ≤ b) (hab : a ≤ b + 1) : (l.length : Int) ≤ b - a + 1 := by
  have key : ∀ i (hi : i < l.length), a + (i : Int) ≤ l[i] := by
    intro i
    induction i with
    | zero => intro hi; have := hl _ (List.getElem_mem hi); omega
    | succ i ih =>
      intro hi
      have h1 := ih (by omega)
      have h2 := List.pairwise_iff_getElem.1 h i (i + 1) (by omega) hi (by omega)
      omega
  by_cases h0 : l.length = 0
  · omega
  · have h1 := key (l.length - 1) (by omega)
    have h2 := hl _ (List.getElem_mem (show l.length - 1 < l.length by omega))
    omega
theorem spec_len_l0 (all : List (List Int)) (hN : all.length ≤ 100000000000) (hr : ∀ l ∈ all, l.length ≤ 12 ∧ ∀ x ∈ l, 0 ≤ x ∧ x ≤ 1000000) : ∀ d i, i + d = all.length → ∀ out : List Int, out.length ≤ i →
    (∀ y, y ∈ out ↔ y ∈ (all.take i).map List.sum) → ∃ r, (asc r ∧ ∀ y, y ∈ r ↔ y ∈ all.map List.sum) ∧ Ev (fun k => spec_LengthsOf.l0 k out all (i : Int)) r := by
  intro d
  induction d with
  | zero =>
    intro i hi out ho hm
    rw [List.take_of_length_le (by omega)] at hm
    obtain ⟨r, r1, r2⟩ := spec_SortList_big out (by omega)
    refine ⟨r, ⟨r1.1, fun y => (r1.2.1 y).trans (hm y)⟩, Ev.one (fun k => by rw [spec_LengthsOf.l0]) ?_⟩
    exact Ev.neg (by omega) (Ev.bnd r2 (Ev.now _))
  | succ d ih =>
    intro i hi out ho hm
    have hil : i < all.length := by omega
    have hl := hr all[i] (List.getElem_mem hil)
    have htk : (all.take (i + 1)).map List.sum = (all.take i).map List.sum ++ [all[i].sum] := by rw [List.take_succ_eq_append_getElem hil, List.map_append]; rfl
    obtain ⟨b, b1, b2⟩ := spec_HasNumber_ev out all[i].sum (by omega)
    cases b with
    | true =>
      obtain ⟨r, r1, r2⟩ := ih (i + 1) (by omega) out (by omega) (fun y => by
        rw [htk, List.mem_append, List.mem_singleton, hm]
        exact ⟨.inl, fun h => h.elim id (fun h => h ▸ (hm _).1 (b1.1 rfl))⟩)
      refine ⟨r, r1, Ev.one (fun k => by rw [spec_LengthsOf.l0]) ?_⟩
      rw [rd_L3_at all i hil, w64_succ i (by omega)]
      exact Ev.pos (by omega) (Ev.pos (by omega) (Ev.bnd (spec_sum_ev all[i] (by omega) hl.2) (Ev.bnd b2 (Ev.pos rfl r2))))
    | false =>
      obtain ⟨r, r1, r2⟩ := ih (i + 1) (by omega) (out ++ [all[i].sum]) (by rw [List.length_append, List.length_singleton]; omega) (fun y => by
        rw [htk, List.mem_append, List.mem_append, List.mem_singleton, hm])
      refine ⟨r, r1, Ev.one (fun k => by rw [spec_LengthsOf.l0]) ?_⟩
      rw [rd_L3_at all i hil, w64_succ i (by omega)]
      exact Ev.pos (by omega) (Ev.pos (by omega) (Ev.bnd (spec_sum_ev all[i] (by omega) hl.2) (Ev.bnd b2 (Ev.neg (by decide) (Ev.pos (by omega) r2)))))
theorem impl_len_l0 (all : List (List Int)) (hN : all.length ≤ 100000000000) (hr : ∀ l ∈ all, l.length ≤ 12 ∧ ∀ x ∈ l, 0 ≤ x ∧ x ≤ 1000000) : ∃ r, (asc r ∧ ∀ y, y ∈ r ↔ y ∈ all.map List.sum) ∧
    ∀ d i, i + d = all.length → Ev (fun k => impl_LengthsOf.l0 k ((all.take i).map List.sum) all (all.length : Int) (i : Int)) r := by
  obtain ⟨r, r1, r2⟩ := impl_SortList_ev (all.map List.sum) (by rw [List.length_map]; omega)
  refine ⟨r, ⟨r1.1, r1.2.1⟩, ?_⟩
  intro d
  induction d with
  | zero =>
    intro i hi
    rw [List.take_of_length_le (by omega)]
    refine Ev.one (fun k => by rw [impl_LengthsOf.l0]) ?_
    exact Ev.neg (by omega) (Ev.bnd r2 (Ev.now _))
  | succ d ih =>
    intro i hi
    have hil : i < all.length := by omega
    have hl := hr all[i] (List.getElem_mem hil)
    have htk : (all.take (i + 1)).map List.sum = (all.take i).map List.sum ++ [all[i].sum] := by rw [List.take_succ_eq_append_getElem hil, List.map_append]; rfl
    have ih := ih (i + 1) (by omega)
    rw [htk] at ih
    refine Ev.one (fun k => by rw [impl_LengthsOf.l0]) ?_
    rw [rd_L3_at all i hil, w64_succ i (by omega)]
    exact Ev.pos (by omega) (Ev.pos (by omega) (Ev.pos (by omega) (Ev.bnd (impl_total_ev all[i] (by omega) hl.2) (Ev.pos (by rw [List.length_map, List.length_take]; omega) ih))))
theorem lengths_both (g : List Int) (hlen : g.length ≤ 1048576) (n : Int) : ∃ r, (asc r ∧ (∀ y ∈ r, 0 ≤ y ∧ y ≤ 100 ∧ (n ≠ 0 → 1 ≤ y)) ∧ r.length ≤ 101) ∧ Ev (fun k => spec_LengthsOf.f k g n) r ∧ Ev (fun k => impl_LengthsOf.f k g n) r := by
  obtain ⟨b, b1, b2, b3⟩ := fac_both g hlen n
  obtain ⟨c, c1, _, c3⟩ := sg_both g hlen
  obtain rfl := bool_same b1 c1
  have hf := facS_rows b g b1.1 n
  have hr : ∀ l ∈ facS b g n, l.length ≤ 12 ∧ ∀ x ∈ l, 0 ≤ x ∧ x ≤ 1000000 := fun l hl => ⟨(hf.2 l hl).1, (hf.2 l hl).2.1⟩
  obtain ⟨r, r1, r2⟩ := spec_len_l0 (facS b g n) hf.1 hr (facS b g n).length 0 (by omega) [] (by simp) (by simp)
  obtain ⟨s, s1, s2⟩ := impl_len_l0 (facS b g n) hf.1 hr
  obtain rfl := asc_uniq r s r1.1 s1.1 (fun x => (r1.2 x).trans (s1.2 x).symm)
  have hy : ∀ y ∈ r, 0 ≤ y ∧ y ≤ 100 ∧ (n ≠ 0 → 1 ≤ y) := fun y hy => by
    obtain ⟨l, hl, rfl⟩ := List.mem_map.1 ((r1.2 y).1 hy)
    exact (hf.2 l hl).2.2
  refine ⟨r, ⟨r1.1, hy, by have := asc_len r r1.1 0 100 (fun x hx => ⟨(hy x hx).1, (hy x hx).2.1⟩) (by omega); omega⟩, ?_, ?_⟩
  · unfold spec_LengthsOf.f
    exact Ev.bnd b2 r2
  · unfold impl_LengthsOf.f
    have hw := impl_within_ev n 0 100
    cases b with
    | false =>
      refine Ev.bnd c3 (Ev.neg (by decide) ?_)
      refine Ev.one (fun k => by rw [impl_LengthsOf.j0]) ?_
      have e : facS false g n = [] := if_neg (by simp)
      have e2 : r = [] := by
        cases r with
        | nil => rfl
        | cons y r => have := (r1.2 y).1 (List.mem_cons_self ..); rw [e] at this; cases this
      rw [e2]
      exact Ev.pos rfl (Ev.now _)
    | true =>
      refine Ev.bnd c3 (Ev.pos rfl (Ev.bnd hw ?_))
      refine Ev.one (fun k => by rw [impl_LengthsOf.j0]) ?_
      by_cases hn : 0 ≤ n ∧ n ≤ 100
      · rw [decide_eq_true hn]
        exact Ev.neg (by decide) (Ev.bnd b3 (s2 (facS true g n).length 0 (by omega)))
      · rw [decide_eq_false hn]
        have e : facS true g n = [] := if_neg (fun h => hn h.2)
        have e2 : r = [] := by
          cases r with
          | nil => rfl
          | cons y r => have := (r1.2 y).1 (List.mem_cons_self ..); rw [e] at this; cases this
        rw [e2]
        exact Ev.pos rfl (Ev.now _)
/-! delta: DeltaOf of both sides -/
def diffs (l : List Int) (i : Nat) : List Int := (List.range i).map fun j => l.getD (j + 1) 0 - l.getD j 0
theorem diffs_succ (l : List Int) (i : Nat) : diffs l (i + 1) = diffs l i ++ [l.getD (i + 1) 0 - l.getD i 0] := by
  unfold diffs
  rw [List.range_succ, List.map_append]
  rfl
theorem diffs_len (l : List Int) (i : Nat) : (diffs l i).length = i := by unfold diffs; rw [List.length_map, List.length_range]
theorem getD_in (l : List Int) (i : Nat) (h : i < l.length) : l.getD i 0 = l[i] := by rw [List.getD_eq_getElem?_getD, List.getElem?_eq_getElem h, Option.getD_some]
theorem rd_getD (l : List Int) (i : Nat) : rd l (i : Int) = l.getD i 0 := by unfold rd; rw [Int.toNat_natCast]
theorem w64_pre (i : Nat) (h : i < 4611686018427387904) (h1 : 1 ≤ i) : wrap64 ((i : Int) - 1) = ((i - 1 : Nat) : Int) := by
  rw [w64_of (by omega) (by omega)]
  omega
theorem spec_delta_l0 (l : List Int) (hl : l.length ≤ 1048576) (hv : ∀ x ∈ l, 0 ≤ x ∧ x ≤ 100) {r : List Int} (hr : Ev (fun k => spec_SortList.f k (diffs l (l.length - 1))) r) : ∀ d i, 1 ≤ i → i + d = l.length → Ev (fun k => spec_DeltaOf.l0 k (diffs l (i - 1)) l (i : Int)) r := by
  intro d
  induction d with
  | zero =>
    intro i h1 hi
    obtain rfl : i = l.length := by omega
    refine Ev.one (fun k => by rw [spec_DeltaOf.l0]) ?_
    exact Ev.neg (by omega) (Ev.bnd hr (Ev.now _))
  | succ d ih =>
    intro i h1 hi
    have ih := ih (i + 1) (by omega) (by omega)
    have hdl := diffs_len l (i - 1)
    have e : diffs l (i + 1 - 1) = diffs l (i - 1) ++ [l.getD i 0 - l.getD (i - 1) 0] := by
      obtain ⟨m, rfl⟩ : ∃ m, i = m + 1 := ⟨i - 1, by omega⟩
      exact diffs_succ l m
    rw [e] at ih
    have h2 := hv _ (List.getElem_mem (show i < l.length by omega))
    have h3 := hv _ (List.getElem_mem (show i - 1 < l.length by omega))
    refine Ev.one (fun k => by rw [spec_DeltaOf.l0]) ?_
    rw [w64_pre i (by omega) h1, rd_getD, rd_getD, w64_succ i (by omega), w64_of (x := l.getD i 0 - l.getD (i - 1) 0) (by rw [getD_in l i (by omega), getD_in l (i - 1) (by omega)]; omega) (by rw [getD_in l i (by omega), getD_in l (i - 1) (by omega)]; omega)]
    exact Ev.pos (by omega) (Ev.pos (by omega) (Ev.pos (by omega) (Ev.pos (by omega) (Ev.pos (by omega) ih))))
theorem impl_delta_l0 (l : List Int) (hl : l.length ≤ 1048576) (hv : ∀ x ∈ l, 0 ≤ x ∧ x ≤ 100) {r : List Int} (hr : Ev (fun _ => impl_SortList.f (diffs l (l.length - 1))) r) : ∀ d i, 1 ≤ i → i + d = l.length → Ev (fun k => impl_DeltaOf.l0 k l (diffs l (i - 1)) (i : Int)) r := by
  intro d
  induction d with
  | zero =>
    intro i h1 hi
    obtain rfl : i = l.length := by omega
    refine Ev.one (fun k => by rw [impl_DeltaOf.l0]) ?_
    exact Ev.neg (by omega) (Ev.bnd hr (Ev.now _))
  | succ d ih =>
    intro i h1 hi
    have ih := ih (i + 1) (by omega) (by omega)
    have hdl := diffs_len l (i - 1)
    have e : diffs l (i + 1 - 1) = diffs l (i - 1) ++ [l.getD i 0 - l.getD (i - 1) 0] := by
      obtain ⟨m, rfl⟩ : ∃ m, i = m + 1 := ⟨i - 1, by omega⟩
      exact diffs_succ l m
    rw [e] at ih
    have h2 := hv _ (List.getElem_mem (show i < l.length by omega))
    have h3 := hv _ (List.getElem_mem (show i - 1 < l.length by omega))
    refine Ev.one (fun k => by rw [impl_DeltaOf.l0]) ?_
    rw [w64_pre i (by omega) h1, rd_getD, rd_getD, w64_succ i (by omega), w64_of (x := l.getD i 0 - l.getD (i - 1) 0) (by rw [getD_in l i (by omega), getD_in l (i - 1) (by omega)]; omega) (by rw [getD_in l i (by omega), getD_in l (i - 1) (by omega)]; omega)]
    exact Ev.pos (by omega) (Ev.pos (by omega) (Ev.pos (by omega) (Ev.pos (by omega) (Ev.pos (by omega) ih))))
theorem delta_both (g : List Int) (hlen : g.length ≤ 1048576) (n : Int) : ∃ r, r.length ≤ 101 ∧ Ev (fun k => spec_DeltaOf.f k g n) r ∧ Ev (fun k => impl_DeltaOf.f k g n) r := by
  obtain ⟨l, l1, l2, l3⟩ := lengths_both g hlen n
  have hdl := diffs_len l (l.length - 1)
  obtain ⟨r, r1, r2, r3⟩ := sort_both (diffs l (l.length - 1)) (by omega)
  refine ⟨r, by omega, ?_, ?_⟩
  · unfold spec_DeltaOf.f
    refine Ev.bnd l2 ?_
    by_cases h : l.length = 0
    · rw [h] at r2
      refine Ev.one (fun k => by rw [spec_DeltaOf.l0]) ?_
      exact Ev.neg (by omega) (Ev.bnd r2 (Ev.now _))
    · exact spec_delta_l0 l (by omega) (fun x hx => ⟨(l1.2.1 x hx).1, (l1.2.1 x hx).2.1⟩) r2 (l.length - 1) 1 (by omega) (by omega)
  · unfold impl_DeltaOf.f
    refine Ev.bnd l3 ?_
    by_cases h : l.length = 0
    · rw [h] at r3
      refine Ev.one (fun k => by rw [impl_DeltaOf.l0]) ?_
      exact Ev.neg (by omega) (Ev.bnd r3 (Ev.now _))
    · exact impl_delta_l0 l (by omega) (fun x hx => ⟨(l1.2.1 x hx).1, (l1.2.1 x hx).2.1⟩) r3 (l.length - 1) 1 (by omega) (by omega)
/-! lengths2: what is known of lengths, of their differences and of the elasticity -/
theorem lengths_more (g : List Int) (hlen : g.length ≤ 1048576) (n : Int) : ∃ b r, (b = true ↔ SG g) ∧ (asc r ∧ (∀ y ∈ r, 0 ≤ y ∧ y ≤ 100 ∧ (n ≠ 0 → 1 ≤ y)) ∧ r.length ≤ 101 ∧ ∀ y, y ∈ r ↔ y ∈ (facS b g n).map List.sum) ∧ Ev (fun k => spec_LengthsOf.f k g n) r ∧ Ev (fun k => impl_LengthsOf.f k g n) r := by
  obtain ⟨r, r1, r2, r3⟩ := lengths_both g hlen n
  obtain ⟨b, b1, b2, b3⟩ := fac_both g hlen n
  have hf := facS_rows b g b1.1 n
  have hr : ∀ l ∈ facS b g n, l.length ≤ 12 ∧ ∀ x ∈ l, 0 ≤ x ∧ x ≤ 1000000 := fun l hl => ⟨(hf.2 l hl).1, (hf.2 l hl).2.1⟩
  obtain ⟨s, s1, s2⟩ := spec_len_l0 (facS b g n) hf.1 hr (facS b g n).length 0 (by omega) [] (by simp) (by simp)
  have e : r = s := by
    refine Ev.uniq r2 ?_
    unfold spec_LengthsOf.f
    exact Ev.bnd b2 s2
  subst e
  exact ⟨b, r, b1, ⟨r1.1, r1.2.1, r1.2.2, s1.2⟩, r2, r3⟩
theorem delta_more (g : List Int) (hlen : g.length ≤ 1048576) (n : Int) (l : List Int) (hl : l.length ≤ 101) (hv : ∀ x ∈ l, 0 ≤ x ∧ x ≤ 100) (h2 : Ev (fun k => spec_LengthsOf.f k g n) l) : ∃ r, (r.length ≤ 101 ∧ ∀ y, y ∈ r ↔ y ∈ diffs l (l.length - 1)) ∧ Ev (fun k => spec_DeltaOf.f k g n) r ∧ Ev (fun k => impl_DeltaOf.f k g n) r := by
  obtain ⟨r, r1, r2, r3⟩ := delta_both g hlen n
  have hdl := diffs_len l (l.length - 1)
  obtain ⟨s, s1, s2, _⟩ := sort_both (diffs l (l.length - 1)) (by omega)
  have e : r = s := by
    refine Ev.uniq r2 ?_
    unfold spec_DeltaOf.f
    refine Ev.bnd h2 ?_
    by_cases h : l.length = 0
    · rw [h] at s2
      refine Ev.one (fun k => by rw [spec_DeltaOf.l0]) ?_
      exact Ev.neg (by omega) (Ev.bnd s2 (Ev.now _))
    · exact spec_delta_l0 l (by omega) hv s2 (l.length - 1) 1 (by omega) (by omega)
  subst e
  exact ⟨r, ⟨r1, s1.2.1⟩, r2, r3⟩
/-- Two numbers in lowest terms. -/
theorem lowest_is (x y : Int) (hx : 1 ≤ x ∧ x ≤ 1000000) (hy : 1 ≤ y ∧ y ≤ 1000000) : ∃ c : Int, 1 ≤ c ∧ gcdS x y = c ∧ x = wrap64 (Int.tdiv x c) * c ∧ y = wrap64 (Int.tdiv y c) * c ∧ (1 ≤ wrap64 (Int.tdiv x c) ∧ wrap64 (Int.tdiv x c) ≤ x) ∧ (1 ≤ wrap64 (Int.tdiv y c) ∧ wrap64 (Int.tdiv y c) ≤ y) := by
  obtain ⟨a, rfl⟩ : ∃ a : Nat, x = (a : Int) := ⟨x.toNat, by omega⟩
  obtain ⟨b, rfl⟩ : ∃ b : Nat, y = (b : Int) := ⟨y.toNat, by omega⟩
  have hp := Nat.gcd_pos_of_pos_left b (show 0 < a by omega)
  obtain ⟨p, hp1⟩ := Nat.gcd_dvd_left a b
  obtain ⟨q, hq1⟩ := Nat.gcd_dvd_right a b
  refine ⟨((Nat.gcd a b : Nat) : Int), by omega, gcdS_nat a b (by omega) (by omega), ?_⟩
  rw [tdiv_nat, tdiv_nat]
  have e1 : a / Nat.gcd a b = p := by
    conv => lhs; rw [hp1]
    rw [Nat.mul_comm, show Nat.gcd (p * Nat.gcd a b) b = Nat.gcd a b from by rw [Nat.mul_comm, ← hp1]]
    exact Nat.mul_div_cancel p hp
  have e2 : b / Nat.gcd a b = q := by
    conv => lhs; rw [hq1]
    rw [Nat.mul_comm, show Nat.gcd a (q * Nat.gcd a b) = Nat.gcd a b from by rw [Nat.mul_comm, ← hq1]]
    exact Nat.mul_div_cancel q hp
  rw [e1, e2]
  have hpl : p ≤ a := by rw [hp1]; exact Nat.le_mul_of_pos_left _ hp
  have hql : q ≤ b := by rw [hq1]; exact Nat.le_mul_of_pos_left _ hp
  have hp0 : 1 ≤ p := Nat.pos_of_ne_zero (fun e => by rw [e, Nat.mul_zero] at hp1; omega)
  have hq0 : 1 ≤ q := Nat.pos_of_ne_zero (fun e => by rw [e, Nat.mul_zero] at hq1; omega)
  rw [w64_of (x := (p : Int)) (by omega) (by omega), w64_of (x := (q : Int)) (by omega) (by omega)]
  refine ⟨?_, ?_, by omega, by omega⟩
  · rw [← Int.natCast_mul, Nat.mul_comm, ← hp1]
  · rw [← Int.natCast_mul, Nat.mul_comm, ← hq1]
theorem elast_more (g : List Int) (n : Int) (hn : n ≠ 0) (l : List Int) (h0 : 0 < l.length) (hl : l.length ≤ 101) (hv : ∀ x ∈ l, 1 ≤ x ∧ x ≤ 100) (h2 : Ev (fun k => spec_LengthsOf.f k g n) l) (h3 : Ev (fun k => impl_LengthsOf.f k g n) l) :
    ∃ (r : Int × Int) (c : Int), (1 ≤ c ∧ l[l.length - 1] = r.1 * c ∧ l[0] = r.2 * c ∧ (1 ≤ r.1 ∧ r.1 ≤ 100) ∧ (1 ≤ r.2 ∧ r.2 ≤ 100)) ∧ Ev (fun k => spec_ElasticityOf.f k g n) r ∧ Ev (fun k => impl_ElasticityOf.f k g n) r := by
  have e1 : wrap64 ((l.length : Int) - 1) = ((l.length - 1 : Nat) : Int) := by rw [w64_of (by omega) (by omega)]; omega
  have hx := hv _ (List.getElem_mem (show l.length - 1 < l.length by omega))
  have hy := hv _ (List.getElem_mem (show 0 < l.length by omega))
  have e3 : rd l 0 = l[0]'(by omega) := rd_at l 0 (by omega)
  obtain ⟨c, c1, c2, c3, c4, c5, c6⟩ := lowest_is (l[l.length - 1]'(by omega)) (l[0]'(by omega)) (by omega) (by omega)
  have hz : c ≠ 0 := by omega
  refine ⟨(wrap64 (Int.tdiv (l[l.length - 1]'(by omega)) c), wrap64 (Int.tdiv (l[0]'(by omega)) c)), c, ⟨c1, c3, c4, by dsimp only; omega, by dsimp only; omega⟩, ?_, ?_⟩
  · unfold spec_ElasticityOf.f
    refine Ev.bnd h2 (Ev.neg (by omega) (Ev.neg hn ?_))
    rw [e1, rd_at l (l.length - 1) (by omega), e3]
    have hg := spec_GcdOf_ev (l[l.length - 1]'(by omega)) (l[0]'(by omega))
    rw [c2] at hg
    exact Ev.pos (by omega) (Ev.pos (by omega) (Ev.pos (by omega) (Ev.bnd hg (Ev.neg hz (Ev.now _)))))
  · unfold impl_ElasticityOf.f
    refine Ev.bnd h3 (Ev.neg hn (Ev.neg (by omega) ?_))
    rw [e1, rd_at l (l.length - 1) (by omega), e3]
    have hg := impl_GcdOf_ev (l[l.length - 1]'(by omega)) (l[0]'(by omega))
    rw [c2] at hg
    refine Ev.pos (by omega) (Ev.pos (by omega) (Ev.pos (by omega) (Ev.bnd (a := (wrap64 (Int.tdiv (l[l.length - 1]'(by omega)) c), wrap64 (Int.tdiv (l[0]'(by omega)) c))) ?_ (Ev.now _))))
    unfold impl_lowest.f
    exact Ev.bnd hg (Ev.neg hz (Ev.now _))
theorem elas_more (g : List Int) (hS : SG g) : ∃ (r : Int × Int) (c : Int), (1 ≤ c ∧ rd g ((g.length - 1 : Nat) : Int) = r.1 * c ∧ rd g 0 = r.2 * c ∧ (1 ≤ r.1 ∧ r.1 ≤ 60) ∧ (1 ≤ r.2 ∧ r.2 ≤ 60)) ∧ Ev (fun k => spec_GreatestElasticity.f k g) r ∧ Ev (fun k => impl_GreatestElasticity.f k g) r := by
  have hl := hS.len1
  have hl2 := hS.len2
  obtain ⟨b, b1, b2, b3⟩ := sg_both g (by omega)
  rw [b1.2 hS] at b2 b3
  have e1 : wrap64 ((g.length : Int) - 1) = ((g.length - 1 : Nat) : Int) := by rw [w64_of (by omega) (by omega)]; omega
  have hx := hS.rng _ (List.getElem_mem (show g.length - 1 < g.length by omega))
  have hy := hS.rng _ (List.getElem_mem (show 0 < g.length by omega))
  have e3 : rd g 0 = g[0] := rd_at g 0 (by omega)
  have e4 := rd_at g (g.length - 1) (by omega)
  obtain ⟨c, c1, c2, c3, c4, c5, c6⟩ := lowest_is (g[g.length - 1]'(by omega)) (g[0]'(by omega)) (by omega) (by omega)
  have hz : c ≠ 0 := by omega
  rw [e3, e4]
  refine ⟨(wrap64 (Int.tdiv (g[g.length - 1]'(by omega)) c), wrap64 (Int.tdiv (g[0]'(by omega)) c)), c, ⟨c1, c3, c4, by dsimp only; omega, by dsimp only; omega⟩, ?_, ?_⟩
  · unfold spec_GreatestElasticity.f
    rw [e1, e4, e3]
    have hg := spec_GcdOf_ev (g[g.length - 1]'(by omega)) (g[0]'(by omega))
    rw [c2] at hg
    exact Ev.bnd b2 (Ev.pos rfl (Ev.pos (by omega) (Ev.pos (by omega) (Ev.pos (by omega) (Ev.bnd hg (Ev.neg hz (Ev.now _)))))))
  · unfold impl_GreatestElasticity.f
    rw [e1, e4, e3]
    have hg := impl_GcdOf_ev (g[g.length - 1]'(by omega)) (g[0]'(by omega))
    rw [c2] at hg
    refine Ev.bnd b3 (Ev.pos rfl (Ev.pos (by omega) (Ev.pos (by omega) (Ev.pos (by omega) (Ev.bnd (a := (wrap64 (Int.tdiv (g[g.length - 1]'(by omega)) c), wrap64 (Int.tdiv (g[0]'(by omega)) c))) ?_ (Ev.now _))))))
    unfold impl_lowest.f
    exact Ev.bnd hg (Ev.neg hz (Ev.now _))
theorem gcdS_ne (x y : Int) (hx : 1 ≤ x ∧ x ≤ 1000000) (hy : 1 ≤ y ∧ y ≤ 1000000) : gcdS x y ≠ 0 := by
  obtain ⟨a, rfl⟩ : ∃ a : Nat, x = (a : Int) := ⟨x.toNat, by omega⟩
  obtain ⟨b, rfl⟩ : ∃ b : Nat, y = (b : Int) := ⟨y.toNat, by omega⟩
  rw [gcdS_nat a b (by omega) (by omega)]
  have := Nat.gcd_pos_of_pos_left b (show 0 < a by omega)
  omega
theorem elast_both (g : List Int) (hlen : g.length ≤ 1048576) (n : Int) : ∃ r : Int × Int, Ev (fun k => spec_ElasticityOf.f k g n) r ∧ Ev (fun k => impl_ElasticityOf.f k g n) r := by
  obtain ⟨l, l1, l2, l3⟩ := lengths_both g hlen n
  unfold spec_ElasticityOf.f impl_ElasticityOf.f
  by_cases hn : n = 0
  · refine ⟨(0, 0), Ev.bnd l2 ?_, Ev.bnd l3 (Ev.pos hn (Ev.now _))⟩
    by_cases h0 : (l.length : Int) = 0
    · exact Ev.pos h0 (Ev.now _)
    · exact Ev.neg h0 (Ev.pos hn (Ev.now _))
  · by_cases h0 : (l.length : Int) = 0
    · exact ⟨(0, 0), Ev.bnd l2 (Ev.pos h0 (Ev.now _)), Ev.bnd l3 (Ev.neg hn (Ev.pos h0 (Ev.now _)))⟩
    · have e1 : wrap64 ((l.length : Int) - 1) = ((l.length - 1 : Nat) : Int) := by rw [w64_of (by omega) (by omega)]; omega
      have hx := l1.2.1 _ (List.getElem_mem (show l.length - 1 < l.length by omega))
      have hy := l1.2.1 _ (List.getElem_mem (show 0 < l.length by omega))
      have e3 : rd l 0 = l[0]'(by omega) := rd_at l 0 (by omega)
      have hz := gcdS_ne _ _ ⟨hx.2.2 hn, Int.le_trans hx.2.1 (by decide)⟩ ⟨hy.2.2 hn, Int.le_trans hy.2.1 (by decide)⟩
      refine ⟨(wrap64 (Int.tdiv (l[l.length - 1]'(by omega)) (gcdS (l[l.length - 1]'(by omega)) (l[0]'(by omega)))), wrap64 (Int.tdiv (l[0]'(by omega)) (gcdS (l[l.length - 1]'(by omega)) (l[0]'(by omega))))),
        Ev.bnd l2 (Ev.neg h0 (Ev.neg hn ?_)), Ev.bnd l3 (Ev.neg hn (Ev.neg h0 ?_))⟩
      · rw [e1, rd_at l (l.length - 1) (by omega), e3]
        exact Ev.pos (by omega) (Ev.pos (by omega) (Ev.pos (by omega) (Ev.bnd (spec_GcdOf_ev _ _) (Ev.neg hz (Ev.now _)))))
      · rw [e1, rd_at l (l.length - 1) (by omega), e3]
        refine Ev.pos (by omega) (Ev.pos (by omega) (Ev.pos (by omega) (Ev.bnd (a := (wrap64 (Int.tdiv (l[l.length - 1]'(by omega)) (gcdS (l[l.length - 1]'(by omega)) (l[0]'(by omega)))), wrap64 (Int.tdiv (l[0]'(by omega)) (gcdS (l[l.length - 1]'(by omega)) (l[0]'(by omega)))))) ?_ (Ev.now _))))
        unfold impl_lowest.f
        exact Ev.bnd (impl_GcdOf_ev _ _) (Ev.neg hz (Ev.now _))
theorem gcdS_pos (x y : Int) (hx : 1 ≤ x ∧ x ≤ 60) (hy : 1 ≤ y ∧ y ≤ 60) : gcdS x y ≠ 0 := by
  obtain ⟨a, rfl⟩ : ∃ a : Nat, x = (a : Int) := ⟨x.toNat, by omega⟩
  obtain ⟨b, rfl⟩ : ∃ b : Nat, y = (b : Int) := ⟨y.toNat, by omega⟩
  rw [gcdS_nat a b (by omega) (by omega)]
  have := Nat.gcd_pos_of_pos_left b (show 0 < a by omega)
  omega
theorem elas_both (g : List Int) (hlen : g.length ≤ 1048576) : ∃ r : Int × Int, Ev (fun k => spec_GreatestElasticity.f k g) r ∧ Ev (fun k => impl_GreatestElasticity.f k g) r := by
  obtain ⟨b, b1, b2, b3⟩ := sg_both g hlen
  unfold spec_GreatestElasticity.f impl_GreatestElasticity.f
  cases b with
  | false => exact ⟨(0, 0), Ev.bnd b2 (Ev.neg (by decide) (Ev.now _)), Ev.bnd b3 (Ev.neg (by decide) (Ev.now _))⟩
  | true =>
    have hS := b1.1 rfl
    have hl := hS.len1
    have e1 : wrap64 ((g.length : Int) - 1) = ((g.length - 1 : Nat) : Int) := by rw [w64_of (by omega) (by omega)]; omega
    have hx := hS.rng _ (List.getElem_mem (show g.length - 1 < g.length by omega))
    have hy := hS.rng _ (List.getElem_mem (show 0 < g.length by omega))
    have e3 : rd g 0 = g[0] := rd_at g 0 (by omega)
    rw [e1, rd_at g (g.length - 1) (by omega), e3]
    have hz := gcdS_pos _ _ hx hy
    refine ⟨_, Ev.bnd b2 (Ev.pos rfl (Ev.pos (by omega) (Ev.pos (by omega) (Ev.pos (by omega) (Ev.bnd (spec_GcdOf_ev _ _) (Ev.neg hz (Ev.now _))))))), Ev.bnd b3 (Ev.pos rfl (Ev.pos (by omega) (Ev.pos (by omega) (Ev.pos (by omega) (Ev.bnd (a := (wrap64 (Int.tdiv g[g.length - 1] (gcdS g[g.length - 1] g[0])), wrap64 (Int.tdiv g[0] (gcdS g[g.length - 1] g[0])))) ?_ (Ev.now _))))))⟩
    unfold impl_lowest.f
    exact Ev.bnd (impl_GcdOf_ev _ _) (Ev.neg hz (Ev.now _))
theorem spec_ds_l1 (g : List Int) (n : Int) (m : Nat) (D : List Int) (hD : D.length ≤ 101) {R : List Int → Prop} : ∀ d j, j + d = D.length → ∀ out : List Int, out.length + (D.length - j) ≤ 1000000 →
    (∀ out' : List Int, out'.length ≤ out.length + (D.length - j) → (∀ y, y ∈ out' ↔ y ∈ out ∨ y ∈ D.drop j) → ∃ r, R r ∧ Ev (fun k => spec_DeltaSet.l0 k n out' (wrap64 ((m : Int) + 1)) g) r) →
    ∃ r, R r ∧ Ev (fun k => spec_DeltaSet.l1 k n out (m : Int) D (j : Int) g) r := by
  intro d
  induction d with
  | zero =>
    intro j hj out ho hn
    obtain ⟨r, r1, r2⟩ := hn out (by omega) (fun y => by rw [List.drop_eq_nil_of_le (by omega)]; simp)
    refine ⟨r, r1, Ev.one (fun k => by rw [spec_DeltaSet.l1]) ?_⟩
    exact Ev.neg (by omega) r2
  | succ d ih =>
    intro j hj out ho hn
    have hjl : j < D.length := by omega
    rw [List.drop_eq_getElem_cons hjl] at hn
    obtain ⟨b, b1, b2⟩ := spec_HasNumber_ev out D[j] (by omega)
    cases b with
    | true =>
      obtain ⟨r, r1, r2⟩ := ih (j + 1) (by omega) out (by omega) (fun out' h1 h2 => hn out' (by omega) (fun y => by
        rw [h2, List.mem_cons]
        exact ⟨fun h => h.elim .inl (fun h => .inr (.inr h)), fun h => h.elim .inl (fun h => h.elim (fun e => .inl (e ▸ b1.1 rfl)) .inr)⟩))
      refine ⟨r, r1, Ev.one (fun k => by rw [spec_DeltaSet.l1]) ?_⟩
      rw [rd_at D j hjl, w64_succ j (by omega)]
      exact Ev.pos (by omega) (Ev.pos (by omega) (Ev.bnd b2 (Ev.pos rfl r2)))
    | false =>
      have hol : (out ++ [D[j]]).length = out.length + 1 := by rw [List.length_append, List.length_singleton]
      obtain ⟨r, r1, r2⟩ := ih (j + 1) (by omega) (out ++ [D[j]]) (by omega) (fun out' h1 h2 => hn out' (by omega) (fun y => by
        rw [h2, List.mem_cons, List.mem_append, List.mem_singleton, or_assoc]))
      refine ⟨r, r1, Ev.one (fun k => by rw [spec_DeltaSet.l1]) ?_⟩
      rw [rd_at D j hjl, w64_succ j (by omega)]
      exact Ev.pos (by omega) (Ev.pos (by omega) (Ev.bnd b2 (Ev.neg (by decide) (Ev.pos (by omega) r2))))
theorem deltaset_both (g : List Int) (hlen : g.length ≤ 1048576) (n : Int) : ∃ r, r.length ≤ 1048576 ∧ Ev (fun k => spec_DeltaSet.f k g n) r ∧ Ev (fun k => impl_DeltaSet.f k g n) r := by
  obtain ⟨b, b1, b2, b3⟩ := sg_both g hlen
  have hw1 := spec_l1In_ev n 0 100
  have hw2 := impl_within_ev n 0 100
  unfold spec_DeltaSet.f impl_DeltaSet.f
  have out_ : ∀ (t : Bool), t = true → Ev (fun k => spec_DeltaSet.j0 k n [] t g) [] ∧ Ev (fun k => impl_DeltaSet.j0 k n t g) [] := fun t ht => by
    subst ht
    exact ⟨Ev.one (fun k => by rw [spec_DeltaSet.j0]) (Ev.pos rfl (Ev.now _)), Ev.one (fun k => by rw [impl_DeltaSet.j0]) (Ev.pos rfl (Ev.now _))⟩
  cases b with
  | false => exact ⟨[], by simp, Ev.some (Ev.bnd b2 (Ev.neg (by decide) (out_ true rfl).1)), Ev.bnd b3 (Ev.neg (by decide) (out_ true rfl).2)⟩
  | true =>
    by_cases hn : 0 ≤ n ∧ n ≤ 100
    rotate_left
    · rw [decide_eq_false hn] at hw1 hw2
      exact ⟨[], by simp, Ev.some (Ev.bnd b2 (Ev.pos rfl (Ev.bnd hw1 (out_ _ rfl).1))), Ev.bnd b3 (Ev.pos rfl (Ev.bnd hw2 (out_ _ rfl).2))⟩
    rw [decide_eq_true hn] at hw1 hw2
    obtain ⟨m, rfl⟩ : ∃ m : Nat, n = (m : Int) := ⟨n.toNat, by omega⟩
    obtain ⟨D, hD⟩ := Classical.axiomOfChoice (fun i : Nat => delta_both g hlen (i : Int))
    -- all that is gathered
    have key : ∀ d i, i + d = m + 1 → ∀ out : List Int, out.length ≤ 101 * i → (∀ y, y ∈ out ↔ ∃ q, q < i ∧ y ∈ D q) →
        ∃ r, (asc r ∧ ∀ y, y ∈ r ↔ ∃ q, q < m + 1 ∧ y ∈ D q) ∧ Ev (fun k => spec_DeltaSet.l0 k (m : Int) out (i : Int) g) r := by
      intro d
      induction d with
      | zero =>
        intro i hi out ho hm
        obtain rfl : i = m + 1 := by omega
        obtain ⟨r, r1, r2⟩ := spec_SortList_big out (by omega)
        refine ⟨r, ⟨r1.1, fun y => (r1.2.1 y).trans (hm y)⟩, Ev.one (fun k => by rw [spec_DeltaSet.l0]) ?_⟩
        exact Ev.neg (by omega) (Ev.bnd r2 (Ev.now _))
      | succ d ih =>
        intro i hi out ho hm
        have hDi := hD i
        obtain ⟨r, r1, r2⟩ := spec_ds_l1 g (m : Int) i (D i) hDi.1 (R := fun r => asc r ∧ ∀ y, y ∈ r ↔ ∃ q, q < m + 1 ∧ y ∈ D q) (D i).length 0 (by omega) out (by omega) (fun out' h1 h2 => by
          rw [w64_succ i (by omega)]
          refine ih (i + 1) (by omega) out' (by omega) (fun y => ?_)
          rw [h2, hm, List.drop_zero]
          constructor
          · rintro (⟨q, q1, q2⟩ | h)
            · exact ⟨q, by omega, q2⟩
            · exact ⟨i, by omega, h⟩
          · rintro ⟨q, q1, q2⟩
            by_cases e : q = i
            · exact .inr (e ▸ q2)
            · exact .inl ⟨q, by omega, q2⟩)
        refine ⟨r, r1, Ev.one (fun k => by rw [spec_DeltaSet.l0]) ?_⟩
        exact Ev.pos (by omega) (Ev.bnd hDi.2.1 r2)
    obtain ⟨r, r1, r2⟩ := key (m + 1) 0 (by omega) [] (by simp) (fun y => ⟨(fun h => by cases h), (fun ⟨q, h, _⟩ => by omega)⟩)
    have key2 : ∀ d i, i + d = m + 1 → ∀ out : List Int, out.length ≤ 101 * i → (∀ y, y ∈ out ↔ ∃ q, q < i ∧ y ∈ D q) →
        ∃ r, (asc r ∧ (∀ y, y ∈ r ↔ ∃ q, q < m + 1 ∧ y ∈ D q) ∧ r.length ≤ 1048576) ∧ Ev (fun k => impl_DeltaSet.l0 k out ((m + 1 : Nat) : Int) (i : Int) g) r := by
      intro d
      induction d with
      | zero =>
        intro i hi out ho hm
        obtain rfl : i = m + 1 := by omega
        obtain ⟨r, r1, r2⟩ := impl_SortList_ev out (by omega)
        refine ⟨r, ⟨r1.1, fun y => (r1.2.1 y).trans (hm y), by omega⟩, Ev.one (fun k => by rw [impl_DeltaSet.l0]) ?_⟩
        exact Ev.neg (by omega) (Ev.bnd r2 (Ev.now _))
      | succ d ih =>
        intro i hi out ho hm
        have hDi := hD i
        obtain ⟨r, r1, r2⟩ := ih (i + 1) (by omega) (out ++ D i) (by rw [List.length_append]; omega) (fun y => by
          rw [List.mem_append, hm]
          constructor
          · rintro (⟨q, q1, q2⟩ | h)
            · exact ⟨q, by omega, q2⟩
            · exact ⟨i, by omega, h⟩
          · rintro ⟨q, q1, q2⟩
            by_cases e : q = i
            · exact .inr (e ▸ q2)
            · exact .inl ⟨q, by omega, q2⟩)
        refine ⟨r, r1, Ev.one (fun k => by rw [impl_DeltaSet.l0]) ?_⟩
        rw [w64_succ i (by omega)]
        exact Ev.pos (by omega) (Ev.bnd hDi.2.2 (Ev.pos (by omega) r2))
    obtain ⟨s, s1, s2⟩ := key2 (m + 1) 0 (by omega) [] (by simp) (fun y => ⟨(fun h => by cases h), (fun ⟨q, h, _⟩ => by omega)⟩)
    obtain rfl := asc_uniq r s r1.1 s1.1 (fun x => (r1.2 x).trans (s1.2.1 x).symm)
    refine ⟨r, s1.2.2, Ev.some (Ev.bnd b2 (Ev.pos rfl (Ev.bnd hw1 ?_))), Ev.bnd b3 (Ev.pos rfl (Ev.bnd hw2 ?_))⟩
    · refine Ev.one (fun k => by rw [spec_DeltaSet.j0]) ?_
      exact Ev.neg (by decide) r2
    · refine Ev.one (fun k => by rw [impl_DeltaSet.j0]) ?_
      rw [w64_succ m (by omega)]
      exact Ev.neg (by decide) s2
/-! lenmath: lengths and the differences of generators -/
theorem dot_between (lo hi : Int) : ∀ (l g : List Int), l.length = g.length → (∀ x ∈ l, 0 ≤ x) → (∀ x ∈ g, lo ≤ x ∧ x ≤ hi) → lo * l.sum ≤ dot l g ∧ dot l g ≤ hi * l.sum
  | [], g, _, _, _ => by rw [dot_nil]; simp
  | x :: l, [], h, _, _ => by simp at h
  | x :: l, y :: g, h, hl, hg => by
    have h1 := dot_between lo hi l g (by simpa using h) (fun z hz => hl z (List.mem_cons_of_mem _ hz)) (fun z hz => hg z (List.mem_cons_of_mem _ hz))
    have hx := hl x (List.mem_cons_self ..)
    have hy := hg y (List.mem_cons_self ..)
    have h2 : lo * x ≤ y * x := Int.mul_le_mul_of_nonneg_right hy.1 hx
    have h3 : y * x ≤ hi * x := Int.mul_le_mul_of_nonneg_right hy.2 hx
    rw [dot_cons, List.sum_cons, Int.mul_add, Int.mul_add, Int.mul_comm x y]
    omega
theorem dot_mod (D a : Int) : ∀ (l g : List Int), l.length = g.length → (∀ x ∈ g, D ∣ x - a) → D ∣ dot l g - l.sum * a
  | [], g, _, _ => by rw [dot_nil]; simp
  | x :: l, [], h, _ => by simp at h
  | x :: l, y :: g, h, hg => by
    obtain ⟨c, hc⟩ := dot_mod D a l g (by simpa using h) (fun z hz => hg z (List.mem_cons_of_mem _ hz))
    obtain ⟨d, hd⟩ := hg y (List.mem_cons_self ..)
    refine ⟨x * d + c, ?_⟩
    rw [dot_cons, List.sum_cons, Int.add_mul, Int.mul_add, ← hc, Int.mul_left_comm, ← hd, Int.mul_sub]
    omega
theorem gcdS_dvd (e x y : Int) (hx : e ∣ x) (hy : e ∣ y) : e ∣ gcdS x y := by
  unfold gcdS
  split
  · exact Int.dvd_coe_gcd hx hy
  · exact Int.dvd_zero e
theorem gcdL_dvd (e : Int) : ∀ (l : List Int) (x : Int), e ∣ x → (∀ y ∈ l, e ∣ y) → e ∣ l.foldl gcdS x
  | [], x, hx, _ => hx
  | y :: l, x, hx, h => gcdL_dvd e l _ (gcdS_dvd e x y hx (h y (List.mem_cons_self ..))) (fun z hz => h z (List.mem_cons_of_mem _ hz))
theorem gcdS_left (x y : Int) (hx : -1000000 ≤ x ∧ x ≤ 1000000) (hy : -1000000 ≤ y ∧ y ≤ 1000000) : gcdS x y ∣ x ∧ gcdS x y ∣ y ∧ 0 ≤ gcdS x y := by
  unfold gcdS
  rw [if_pos ⟨hx, hy⟩]
  exact ⟨Int.gcd_dvd_left x y, Int.gcd_dvd_right x y, by omega⟩
/-- What divides a product with one of two numbers without a common divisor, divides the other factor. -/
theorem dvd_coprime (D a m : Int) (h1 : ∀ e : Int, e ∣ D → e ∣ a → e ∣ 1) (h : D ∣ m * a) : D ∣ m := by
  have e1 : Int.gcd D a = 1 := by
    have := h1 _ (Int.gcd_dvd_left D a) (Int.gcd_dvd_right D a)
    have := Int.natCast_dvd_natCast.1 (show ((Int.gcd D a : Nat) : Int) ∣ ((1 : Nat) : Int) from this)
    exact Nat.dvd_one.1 this
  have h2 : D.natAbs ∣ m.natAbs * a.natAbs := by
    rw [← Int.natAbs_mul]
    exact Int.natAbs_dvd_natAbs.2 h
  have h3 : Nat.Coprime D.natAbs a.natAbs := e1
  exact Int.natAbs_dvd_natAbs.1 (Nat.Coprime.dvd_of_dvd_mul_right h3 h2)
/-- Differences of lengths of one number are multiples of what divides all differences of generators. -/
theorem sum_dvd (g : List Int) (hS : SG g) (D : Int) (hD : ∀ i (h : i + 1 < g.length), D ∣ g[i + 1] - g[i]) (z z' : List Int) (h1 : z.length = g.length) (h2 : z'.length = g.length) (h3 : dot z g = dot z' g) : D ∣ z.sum - z'.sum := by
  have hl := hS.len1
  have hall : ∀ i (h : i < g.length), D ∣ g[i] - g[0] := by
    intro i
    induction i with
    | zero => intro h; rw [Int.sub_self]; exact Int.dvd_zero D
    | succ i ih =>
      intro h
      have := Int.dvd_add (hD i h) (ih (by omega))
      rwa [show g[i + 1] - g[i] + (g[i] - g[0]) = g[i + 1] - g[0] from by omega] at this
  have hg : ∀ x ∈ g, D ∣ x - g[0] := fun x hx => by
    obtain ⟨i, hi, rfl⟩ := List.getElem_of_mem hx
    exact hall i hi
  have a1 := dot_mod D g[0] z g h1 hg
  have a2 := dot_mod D g[0] z' g h2 hg
  have a3 := Int.dvd_sub a2 a1
  rw [h3, show dot z' g - z'.sum * g[0] - (dot z' g - z.sum * g[0]) = z.sum * g[0] - z'.sum * g[0] from by omega, ← Int.sub_mul] at a3
  refine dvd_coprime D g[0] _ (fun e he hea => ?_) a3
  have : e ∣ gcdL g := gcdL_dvd e g 0 (Int.dvd_zero e) (fun y hy => by
    have := Int.dvd_add (Int.dvd_trans he (hg y hy)) hea
    rwa [show y - g[0] + g[0] = y from by omega] at this)
  rwa [hS.gcd1] at this
/-! draw11: a drawn semigroup with a number that is factored -/
theorem l11Case_ok (b : List Int) (hb : b.length ≤ 1048576) : ∃ g n, g.length ≤ 13 ∧ Ev (fun k => spec_l11Case.f k b) (g, n) := by
  have key : ∀ (i h : Int) (g : List Int), CurOk b i → ∃ n, Ev (fun k => spec_l11Case.j0 k b i h g) (g, n) := fun i h g ok => by
    obtain ⟨x, i1, h1, e1, _, k1⟩ := l1Below_ok b i h 40 ok
    obtain ⟨y, i2, h2, e2, _, k2⟩ := l1Below_ok b i1 h1 40 k1
    obtain ⟨z, i3, h3, e3, _, k3⟩ := l1Below_ok b i2 h2 50 k2
    obtain ⟨v, i4, h4, e4, _, _⟩ := l1PickInt_ok b i3 h3 [x, y, z, (-1), 101] k3 (by simp)
    have f1 : Ev (fun _ : Nat => spec_l1Below.f b i h 40) (x, i1, h1) := Ev.const e1
    have f2 : Ev (fun _ : Nat => spec_l1Below.f b i1 h1 40) (y, i2, h2) := Ev.const e2
    have f3 : Ev (fun _ : Nat => spec_l1Below.f b i2 h2 50) (z, i3, h3) := Ev.const e3
    have f4 : Ev (fun _ : Nat => spec_l1PickInt.f b i3 h3 [x, y, z, (-1), 101]) (v, i4, h4) := Ev.const e4
    by_cases c1 : (g.length : Int) > 4
    · by_cases c2 : v > 30
      · by_cases c3 : v < 101
        · refine ⟨30, Ev.one (fun k => by rw [spec_l11Case.j0]) ?_⟩
          exact Ev.bnd f1 (Ev.bnd f2 (Ev.bnd f3 (Ev.bnd f4 (Ev.pos c1 (Ev.pos c2 (Ev.pos c3 (Ev.now _)))))))
        · refine ⟨v, Ev.one (fun k => by rw [spec_l11Case.j0]) ?_⟩
          exact Ev.bnd f1 (Ev.bnd f2 (Ev.bnd f3 (Ev.bnd f4 (Ev.pos c1 (Ev.pos c2 (Ev.neg c3 (Ev.now _)))))))
      · refine ⟨v, Ev.one (fun k => by rw [spec_l11Case.j0]) ?_⟩
        exact Ev.bnd f1 (Ev.bnd f2 (Ev.bnd f3 (Ev.bnd f4 (Ev.pos c1 (Ev.neg c2 (Ev.now _))))))
    · refine ⟨v, Ev.one (fun k => by rw [spec_l11Case.j0]) ?_⟩
      exact Ev.bnd f1 (Ev.bnd f2 (Ev.bnd f3 (Ev.bnd f4 (Ev.neg c1 (Ev.now _)))))
  unfold spec_l11Case.f
  obtain ⟨h0, e0, k0⟩ := l1New_ok b hb
  obtain ⟨g, i1, h1, hS, k1, e1⟩ := l3Draw_ok b 0 h0 k0
  have n2 := hS.len2
  obtain ⟨y, i2, h2, e2, k2⟩ := l1Once_ok b i1 h1 12 k1
  have f2 : Ev (fun _ : Nat => spec_l1Once.f b i1 h1 12) (y, i2, h2) := Ev.const e2
  cases y with
  | true =>
    obtain ⟨s, i3, h3, hs, k3, e3⟩ := l3Bent_ok b i2 h2 k2
    obtain ⟨n, hn⟩ := key i3 h3 s k3
    exact ⟨s, n, hs, Ev.bnd e0 (Ev.bnd e1 (Ev.bnd f2 (Ev.pos rfl (Ev.bnd e3 hn))))⟩
  | false =>
    obtain ⟨n, hn⟩ := key i2 h2 g k2
    exact ⟨g, n, by omega, Ev.bnd e0 (Ev.bnd e1 (Ev.bnd f2 (Ev.neg (show ¬ false = true by decide) hn)))⟩
end Go.Proofs.Ytkfplkdchkmgbaa.Pure
