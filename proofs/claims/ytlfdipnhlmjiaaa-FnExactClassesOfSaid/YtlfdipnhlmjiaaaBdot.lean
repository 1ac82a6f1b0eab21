/- Plain lemmas (dot, factor, pigeon, facboth, minmax, label, classes, classboth): no program, no memory. -/
import Derived.Test.YtlfdipnhlmjiaaaC0
import Derived.Test.YtlfdipnhlmjiaaaC1
import Derived.Test.YtlfdipnhlmjiaaaC10
import Derived.Test.YtlfdipnhlmjiaaaC7
import Derived.Test.YtlfdipnhlmjiaaaC8
import Derived.Test.YtlfdipnhlmjiaaaC9
import Derived.Test.YtlfdipnhlmjiaaaBbase
namespace Go.Proofs.Ytlfdipnhlmjiaaa.Pure
open Go.RowKit Go.Proofs.Ytlfdipnhlmjiaaa.C Go.Proofs.YtlfdipnhlmjiaaaW.PrintWords Go.Proofs.YtlfdipnhlmjiaaaW.PrintLast Go.Proofs.YtlfdipnhlmjiaaaW.PrintMore
set_option linter.unusedVariables false
set_option linter.unusedSimpArgs false
/-! dot: the sum of the products of two lists -/
/-- The sum of the products of two lists. -/
def dot : List Int → List Int → Int
 | x :: a, y :: b => x * y + dot a b
 | _, _ => 0
theorem dot_cons (x : Int) (a : List Int) (y : Int) (b : List Int) : dot (x :: a) (y :: b) = x * y + dot a b := rfl
theorem dot_nil (b : List Int) : dot [] b = 0 := by cases b <;> rfl
theorem mul_le60 {x y : Int} (hx : 0 ≤ x ∧ x ≤ 1000000) (hy : 1 ≤ y ∧ y ≤ 60) : 0 ≤ x * y ∧ x * y ≤ 60000000 := by
 have h1 : 0 ≤ x * y := Int.mul_nonneg hx.1 (by omega)
 have h2 : x * y ≤ 1000000 * 60 := Int.mul_le_mul hx.2 hy.2 (by omega) (by omega)
 omega
/-! factor: factorizations of both sides -/
/-- What a function tells of q, q - 1, .., 0, one behind the other. -/
def downF (F : Int → List (List Int)) : Nat → List (List Int)
 | 0 => F 0
 | q + 1 => F ((q + 1 : Nat) : Int) ++ downF F q
def facL : List Int → Int → List (List Int)
 | [], n => if n = 0 then [[]] else []
 | g :: gs, n => downF (fun k => (facL gs (n - k * g)).map fun l => k :: l) (n / g).toNat
theorem downF_congr (F G : Int → List (List Int)) : ∀ q : Nat, (∀ k : Nat, k ≤ q → F (k : Int) = G (k : Int)) → downF F q = downF G q
 | 0, h => h 0 (Nat.le_refl _)
 | q + 1, h => by
  show F _ ++ downF F q = G _ ++ downF G q
  rw [h (q + 1) (Nat.le_refl _), downF_congr F G q (fun k hk => h k (by omega))]
theorem downF_nil (F : Int → List (List Int)) : ∀ q : Nat, (∀ k : Nat, k ≤ q → F (k : Int) = []) → downF F q = []
 | 0, h => h 0 (Nat.le_refl _)
 | q + 1, h => by
  show F _ ++ downF F q = []
  rw [h (q + 1) (Nat.le_refl _), downF_nil F q (fun k hk => h k (by omega))]
  rfl
theorem downF_len (F : Int → List (List Int)) (c : Nat) : ∀ q : Nat, (∀ k : Nat, k ≤ q → (F (k : Int)).length ≤ c) → (downF F q).length ≤ c * (q + 1)
 | 0, h => by have := h 0 (Nat.le_refl _); show (F 0).length ≤ _; simpa using this
 | q + 1, h => by
  have h1 := h (q + 1) (Nat.le_refl _)
  have h2 := downF_len F c q (fun k hk => h k (by omega))
  show (F _ ++ downF F q).length ≤ _
  rw [List.length_append, Nat.mul_succ]
  omega
theorem downF_mem (F : Int → List (List Int)) (l : List Int) : ∀ q : Nat, l ∈ downF F q ↔ ∃ k : Nat, k ≤ q ∧ l ∈ F (k : Int)
 | 0 => by
  show l ∈ F 0 ↔ _
  exact ⟨fun h => ⟨0, Nat.le_refl _, h⟩, fun ⟨k, hk, h⟩ => by
   obtain rfl : k = 0 := by omega
   exact h⟩
 | q + 1 => by
  show l ∈ F _ ++ downF F q ↔ _
  rw [List.mem_append, downF_mem F l q]
  constructor
  ·rintro (h | ⟨k, hk, h⟩)
   ·exact ⟨q + 1, Nat.le_refl _, h⟩
   ·exact ⟨k, by omega, h⟩
  ·rintro ⟨k, hk, h⟩
   by_cases e : k = q + 1
   ·subst e; exact .inl h
   ·exact .inr ⟨k, by omega, h⟩
/-- One generator: at most one list. -/
theorem facL_one (g : Nat) (hg : 1 ≤ g) (n : Nat) : facL [(g : Int)] (n : Int) = if n % g = 0 then [[((n / g : Nat) : Int)]] else [] := by
 have hd : ((n : Int) / (g : Int)).toNat = n / g := by rw [← Int.natCast_ediv, Int.toNat_natCast]
 show downF (fun k => (facL [] ((n : Int) - k * (g : Int))).map fun l => k :: l) ((n : Int) / (g : Int)).toNat = _
 rw [hd]
 have hm := Nat.div_add_mod n g
 have hmlt := Nat.mod_lt n (show 0 < g by omega)
 have key : ∀ k : Nat, (n : Int) - (k : Int) * (g : Int) = 0 ↔ n = k * g := fun k => by rw [← Int.natCast_mul]; omega
 by_cases h : n % g = 0
 ·rw [if_pos h]
  have hq : n = n / g * g := by rw [Nat.mul_comm]; omega
  cases hc : n / g with
  | zero =>
   rw [hc] at hq
   show (facL [] ((n : Int) - 0 * (g : Int))).map _ = _
   have e : (n : Int) - 0 * (g : Int) = 0 := by omega
   rw [e]
   rfl
  | succ q =>
   rw [hc] at hq
   have e : (n : Int) - ((q + 1 : Nat) : Int) * (g : Int) = 0 := (key (q + 1)).2 hq
   show (facL [] ((n : Int) - ((q + 1 : Nat) : Int) * (g : Int))).map _ ++ downF _ q = _
   rw [e, downF_nil _ q (fun k hk => by
    have e2 : ¬ (n : Int) - (k : Int) * (g : Int) = 0 := fun e3 => by
     have e4 := (key k).1 e3
     have : k * g < (q + 1) * g := Nat.mul_lt_mul_of_pos_right (by omega) (by omega)
     omega
    show (facL [] _).map _ = []
    unfold facL
    rw [if_neg e2]
    rfl)]
   rfl
 ·rw [if_neg h]
  refine downF_nil _ _ (fun k hk => ?_)
  have e2 : ¬ (n : Int) - (k : Int) * (g : Int) = 0 := fun e3 => by
   have e4 := (key k).1 e3
   apply h
   rw [e4, Nat.mul_mod_left]
  show (facL [] _).map _ = []
  unfold facL
  rw [if_neg e2]
  rfl
theorem facL_len (m : Nat) (hm : 1 ≤ m) : ∀ (gs : List Int) (n : Nat), gs ≠ [] → (∀ x ∈ gs, (m : Int) ≤ x) → n ≤ 100 → (facL gs (n : Int)).length ≤ (100 / m + 1) ^ (gs.length - 1)
 | [], _, h, _, _ => absurd rfl h
 | [x], n, _, hg, hn => by
  have hx := hg x (List.mem_cons_self ..)
  obtain ⟨g, rfl⟩ : ∃ g : Nat, x = (g : Int) := ⟨x.toNat, by omega⟩
  rw [facL_one g (by omega) n]
  split <;> simp
 | x :: y :: gs, n, _, hg, hn => by
  have hx := hg x (List.mem_cons_self ..)
  obtain ⟨g, rfl⟩ : ∃ g : Nat, x = (g : Int) := ⟨x.toNat, by omega⟩
  have hd : ((n : Int) / (g : Int)).toNat = n / g := by rw [← Int.natCast_ediv, Int.toNat_natCast]
  show (downF (fun k => (facL (y :: gs) ((n : Int) - k * (g : Int))).map fun l => k :: l) ((n : Int) / (g : Int)).toNat).length ≤ _
  rw [hd]
  refine Nat.le_trans (downF_len _ ((100 / m + 1) ^ ((y :: gs).length - 1)) (n / g) (fun k hk => ?_)) ?_
  ·rw [List.length_map]
   have hk2 : k * g ≤ n := Nat.le_trans (Nat.mul_le_mul_right g hk) (Nat.div_mul_le_self n g)
   have e : (n : Int) - (k : Int) * (g : Int) = ((n - k * g : Nat) : Int) := by rw [← Int.natCast_mul]; omega
   rw [e]
   exact facL_len m hm (y :: gs) (n - k * g) (by simp) (fun z hz => hg z (List.mem_cons_of_mem _ hz)) (by omega)
  ·have h1 : n / g ≤ 100 / m := Nat.le_trans (Nat.div_le_div_right hn) (Nat.div_le_div_left (by omega) (by omega))
   show (100 / m + 1) ^ gs.length * (n / g + 1) ≤ (100 / m + 1) ^ (gs.length + 1)
   rw [Nat.pow_succ]
   exact Nat.mul_le_mul_left _ (by omega)
theorem dot_nonneg : ∀ (l gs : List Int), (∀ x ∈ l, 0 ≤ x) → (∀ x ∈ gs, 0 ≤ x) → 0 ≤ dot l gs
 | [], gs, _, _ => by rw [dot_nil]; omega
 | _ :: _, [], _, _ => by show (0 : Int) ≤ 0; omega
 | x :: l, y :: gs, h1, h2 => by
  rw [dot_cons]
  have a := Int.mul_nonneg (h1 x (List.mem_cons_self ..)) (h2 y (List.mem_cons_self ..))
  have b := dot_nonneg l gs (fun z hz => h1 z (List.mem_cons_of_mem _ hz)) (fun z hz => h2 z (List.mem_cons_of_mem _ hz))
  omega
/-- Every list has as many numbers as there are generators, from 0 to n, and their sum is n. -/
theorem facL_mem : ∀ (gs : List Int) (n : Nat) (l : List Int), (∀ x ∈ gs, 1 ≤ x) → (l ∈ facL gs (n : Int) ↔ l.length = gs.length ∧ (∀ x ∈ l, 0 ≤ x) ∧ dot l gs = (n : Int))
 | [], n, l, _ => by
  unfold facL
  constructor
  ·intro h
   split at h
   ·obtain rfl := List.mem_singleton.1 h
    rename_i h0
    exact ⟨rfl, by simp, by rw [dot_nil]; omega⟩
   ·simp at h
  ·rintro ⟨h1, _, h2⟩
   have : l = [] := List.length_eq_zero_iff.1 h1
   subst this
   rw [dot_nil] at h2
   rw [if_pos (by omega)]
   simp
 | x :: gs, n, l, hg => by
  have hx := hg x (List.mem_cons_self ..)
  obtain ⟨g, rfl⟩ : ∃ g : Nat, x = (g : Int) := ⟨x.toNat, by omega⟩
  have hd : ((n : Int) / (g : Int)).toNat = n / g := by rw [← Int.natCast_ediv, Int.toNat_natCast]
  show l ∈ downF (fun k => (facL gs ((n : Int) - k * (g : Int))).map fun l => k :: l) ((n : Int) / (g : Int)).toNat ↔ _
  rw [hd, downF_mem]
  constructor
  ·rintro ⟨k, hk, h⟩
   have hk2 : k * g ≤ n := Nat.le_trans (Nat.mul_le_mul_right g hk) (Nat.div_mul_le_self n g)
   have e : (n : Int) - (k : Int) * (g : Int) = ((n - k * g : Nat) : Int) := by rw [← Int.natCast_mul]; omega
   obtain ⟨l', hl', rfl⟩ := List.mem_map.1 h
   rw [e] at hl'
   obtain ⟨h1, h2, h3⟩ := (facL_mem gs (n - k * g) l' (fun z hz => hg z (List.mem_cons_of_mem _ hz))).1 hl'
   refine ⟨by rw [List.length_cons, List.length_cons, h1], fun z hz => ?_, ?_⟩
   ·rcases List.mem_cons.1 hz with rfl | hz
    ·omega
    ·exact h2 z hz
   ·rw [dot_cons, h3, ← Int.natCast_mul]
    omega
  ·rintro ⟨h1, h2, h3⟩
   cases l with
   | nil => simp at h1
   | cons y l' =>
    have hy := h2 y (List.mem_cons_self ..)
    obtain ⟨k, rfl⟩ : ∃ k : Nat, y = (k : Int) := ⟨y.toNat, by omega⟩
    rw [dot_cons, ← Int.natCast_mul] at h3
    have hdot : 0 ≤ dot l' gs := dot_nonneg l' gs (fun z hz => h2 z (List.mem_cons_of_mem _ hz)) (fun z hz => by have := hg z (List.mem_cons_of_mem _ hz); omega)
    have hk2 : k * g ≤ n := by omega
    have e : (n : Int) - (k : Int) * (g : Int) = ((n - k * g : Nat) : Int) := by rw [← Int.natCast_mul]; omega
    refine ⟨k, (Nat.le_div_iff_mul_le (by omega)).2 hk2, List.mem_map.2 ⟨l', ?_, rfl⟩⟩
    rw [e]
    exact (facL_mem gs (n - k * g) l' (fun z hz => hg z (List.mem_cons_of_mem _ hz))).2 ⟨by simpa using h1, fun z hz => h2 z (List.mem_cons_of_mem _ hz), by omega⟩
/-! pigeon: a semigroup has at most as many generators as its least one tells; how many factorizations there are -/
theorem nodup_len : ∀ (m : Nat) (l : List Nat), l.Nodup → (∀ x ∈ l, x < m) → l.length ≤ m
 | 0, l, _, h => by
  cases l with
  | nil => simp
  | cons x l => have := h x (List.mem_cons_self ..); omega
 | m + 1, l, hn, h => by
  have h1 := nodup_len m (l.erase m) (hn.erase m) (fun x hx => by
   have := (hn.mem_erase_iff).1 hx
   have := h x this.2
   omega)
  by_cases hm : m ∈ l
  ·rw [List.length_erase_of_mem hm] at h1
   omega
  ·rw [List.erase_of_not_mem hm] at h1
   omega
theorem SG.len_le (g : List Int) (h : SG g) (a : Nat) (ha : rd g 0 = (a : Int)) (ha1 : 1 ≤ a) : g.length ≤ a := by
 have hmem : ∀ i (hi : i < g.length), 1 ≤ g[i] ∧ g[i] ≤ 60 := fun i hi => h.rng _ (List.getElem_mem hi)
 have h0 : rd g ((0 : Nat) : Int) = g[0]'(by have := h.len1; omega) := rd_at g 0 (by have := h.len1; omega)
 have h0' : g[0]'(by have := h.len1; omega) = (a : Int) := by rw [← h0]; exact ha
 have key := nodup_len a (g.map fun x => x.toNat % a) ?_ (fun x hx => by
  obtain ⟨y, _, rfl⟩ := List.mem_map.1 hx
  exact Nat.mod_lt _ (by omega))
 ·rwa [List.length_map] at key
 ·rw [List.nodup_iff_pairwise_ne, List.pairwise_map, List.pairwise_iff_getElem]
  intro i j hi hj hij e
  have hlt := List.pairwise_iff_getElem.1 h.up i j hi hj hij
  have hi1 := hmem i hi
  have hj1 := hmem j hj
  obtain ⟨x, hx⟩ : ∃ x : Nat, g[i] = (x : Int) := ⟨g[i].toNat, by omega⟩
  obtain ⟨y, hy⟩ : ∃ y : Nat, g[j] = (y : Int) := ⟨g[j].toNat, by omega⟩
  rw [hx, hy, Int.toNat_natCast, Int.toNat_natCast] at e
  rw [hx, hy] at hlt
  rcases h.free j hj with h1 | h1
  ·omega
  ·rw [getD_at g j hj, hy] at h1
   apply h1
   have m1 := Nat.mod_add_div x a
   have m2 := Nat.mod_add_div y a
   have m3 : x / a ≤ y / a := Nat.div_le_div_right (by omega)
   obtain ⟨c, hc⟩ : ∃ c, y / a = x / a + c := ⟨y / a - x / a, by omega⟩
   have e3 : (y : Int) = (x : Int) + ((c : Nat) : Int) * (a : Int) := by
    rw [hc, Nat.mul_add] at m2
    have : a * c = c * a := Nat.mul_comm a c
    rw [← Int.natCast_mul]
    omega
   rw [e3]
   refine (Sums.one ?_).both (Sums.times ?_ c)
   ·rw [← hx]
    have : g[i] = (g.take j)[i]'(by rw [List.length_take]; omega) := by rw [List.getElem_take]
    rw [this]
    exact List.getElem_mem _
   ·rw [← h0']
    have : g[0]'(by omega) = (g.take j)[0]'(by rw [List.length_take]; omega) := by rw [List.getElem_take]
    rw [this]
    exact List.getElem_mem _
theorem asc_first (g : List Int) (h : asc g) (h0 : 0 < g.length) : ∀ x ∈ g, g[0] ≤ x := by
 intro x hx
 obtain ⟨i, hi, rfl⟩ := List.getElem_of_mem hx
 by_cases e : i = 0
 ·subst e; omega
 ·have := List.pairwise_iff_getElem.1 h 0 i h0 hi (by omega); omega
theorem pow_room : ∀ k : Nat, k ≤ 12 → 1 ≤ k → (100 / k + 1) ^ (k - 1) ≤ 100000000000 := by decide
/-- There are fewer factorizations than a slice has room for. -/
theorem facL_room (g : List Int) (h : SG g) (gs : List Int) (hs : ∀ x ∈ gs, x ∈ g) (hl : gs.length ≤ g.length) (n : Nat) (hn : n ≤ 100) : (facL gs (n : Int)).length ≤ 100000000000 := by
 have hl1 := h.len1
 have hl2 := h.len2
 obtain ⟨a, ha, ha1, ha2, hmem⟩ := first_of g (by omega) h.rng
 have hk := h.len_le g a ha ha1
 have h0 : rd g ((0 : Nat) : Int) = g[0] := rd_at g 0 (by omega)
 have h0' : g[0] = (a : Int) := by rw [← h0]; exact ha
 by_cases e : gs = []
 ·subst e
  unfold facL
  split <;> simp
 ·have h1 := facL_len g.length hl1 gs n e (fun x hx => by
   have := asc_first g h.up (by omega) x (hs x hx)
   omega) hn
  have h2 : (100 / g.length + 1) ^ (gs.length - 1) ≤ (100 / g.length + 1) ^ (g.length - 1) := Nat.pow_le_pow_right (Nat.succ_pos _) (by omega)
  have h3 := pow_room g.length hl2 hl1
  omega
/-! facboth: spec.Factorizations and impl.Factorizations -/
theorem rd_L2_at (xs : List (List Int)) (i : Nat) (h : i < xs.length) : rd_L2 xs (i : Int) = xs[i] := by
 unfold rd_L2
 rw [Int.toNat_natCast, List.getD_eq_getElem?_getD, List.getElem?_eq_getElem h, Option.getD_some]
theorem tdiv_nat (a b : Nat) : Int.tdiv (a : Int) (b : Int) = ((a / b : Nat) : Int) := by
 rw [Int.tdiv_eq_ediv_of_nonneg (by omega)]
 simp
/-- What is left of n behind q times a. -/
theorem left_nat (n q a : Nat) (hk2 : q * a ≤ n) (hn : n ≤ 100) : (n : Int) - (q : Int) * (a : Int) = ((n - q * a : Nat) : Int) ∧ wrap64 ((q : Int) * (a : Int)) = (q : Int) * (a : Int) ∧ wrap64 ((n : Int) - (q : Int) * (a : Int)) = ((n - q * a : Nat) : Int) ∧ n - q * a ≤ 100 := by
 generalize hx : q * a = x at hk2
 have e0 : (q : Int) * (a : Int) = (x : Int) := by rw [← hx, Int.natCast_mul]
 rw [e0]
 have e : (n : Int) - (x : Int) = ((n - x : Nat) : Int) := by omega
 exact ⟨e, w64_of (by omega) (by omega), by rw [e]; exact w64_of (by omega) (by omega), by omega⟩
theorem w64_pred (q : Nat) (h : q ≤ 1000000000000) : wrap64 (((q + 1 : Nat) : Int) - 1) = (q : Int) := by
 rw [w64_of (by omega) (by omega)]
 omega
theorem w64_pred0 : wrap64 (((0 : Nat) : Int) - 1) = -1 := w64_of (by omega) (by omega)
theorem len_left {α : Type} (a b : List α) (c : Nat) (h : (a ++ b).length ≤ c) : a.length ≤ c := by
 rw [List.length_append] at h
 omega
theorem downF_zero (F : Int → List (List Int)) : downF F 0 = F ((0 : Nat) : Int) := rfl
theorem fac_prefix (F : Int → List (List Int)) (acc : List (List Int)) (q : Nat) : (acc ++ F ((q + 1 : Nat) : Int)) ++ downF F q = acc ++ downF F (q + 1) := by rw [List.append_assoc]; rfl
section
variable (g : List Int) (hS : SG g)
include hS
theorem impl_factored_ev : ∀ (gs : List Int), (∀ x ∈ gs, x ∈ g) → gs.length ≤ g.length → ∀ n : Nat, n ≤ 100 → Ev (fun k => impl_factored.f k gs (n : Int)) (facL gs (n : Int))
 | [], _, _, n, hn => by
  refine Ev.one (fun k => by rw [impl_factored.f]) ?_
  unfold facL
  refine Ev.pos rfl ?_
  by_cases h : (n : Int) = 0
  ·simp only [if_pos h]; exact Ev.now _
  ·simp only [if_neg h]; exact Ev.now _
 | x :: gs, hs, hl, n, hn => by
  have ih := fun m hm => impl_factored_ev gs (fun y hy => hs y (List.mem_cons_of_mem _ hy)) (by simp at hl; omega) m hm
  have hx := hS.rng x (hs x (List.mem_cons_self ..))
  have hl12 := hS.len2
  have hlg : gs.length ≤ 12 := by simp at hl; omega
  obtain ⟨a, rfl⟩ : ∃ a : Nat, x = (a : Int) := ⟨x.toNat, by omega⟩
  have hd : ((n : Int) / (a : Int)).toNat = n / a := by rw [← Int.natCast_ediv, Int.toNat_natCast]
  have hroom := facL_room g hS ((a : Int) :: gs) hs hl n hn
  have e0 : rd ((a : Int) :: gs) 0 = (a : Int) := rfl
  have hdn : n / a ≤ n := Nat.div_le_self n a
  have hdw : wrap64 ((n / a : Nat) : Int) = ((n / a : Nat) : Int) := by
   generalize n / a = x at hdn
   exact w64_of (by omega) (by omega)
  refine Ev.one (fun k => by rw [impl_factored.f]) ?_
  rw [e0, tdiv_nat, hdw]
  refine Ev.neg (by rw [List.length_cons]; omega) (Ev.pos (by rw [List.length_cons]; omega) (Ev.neg (by omega) ?_))
  have hfull : facL ((a : Int) :: gs) (n : Int) = downF (fun k => (facL gs ((n : Int) - k * (a : Int))).map fun l => k :: l) (n / a) := by rw [← hd]; rfl
  rw [hfull] at hroom ⊢
  -- the loop over the numbers of the first generator, from the greatest one on
  have loop : ∀ (q : Nat) (acc : List (List Int)), q ≤ n / a → (acc ++ downF (fun k => (facL gs ((n : Int) - k * (a : Int))).map fun l => k :: l) q).length ≤ 100000000000 →
    Ev (fun k => impl_factored.l0 k ((a : Int) :: gs) (n : Int) acc (q : Int)) (acc ++ downF (fun k => (facL gs ((n : Int) - k * (a : Int))).map fun l => k :: l) q) := by
   intro q
   -- one round: then 'rest'
   have round : ∀ (q : Nat) (acc : List (List Int)) (res : List (List Int)), q ≤ n / a → (acc ++ (facL gs ((n : Int) - (q : Int) * (a : Int))).map fun l => (q : Int) :: l).length ≤ 100000000000 →
     Ev (fun k => impl_factored.l0 k ((a : Int) :: gs) (n : Int) (acc ++ (facL gs ((n : Int) - (q : Int) * (a : Int))).map fun l => (q : Int) :: l) (wrap64 ((q : Int) - 1))) res →
     Ev (fun k => impl_factored.l0 k ((a : Int) :: gs) (n : Int) acc (q : Int)) res := by
    intro q acc res hq hlen hrest
    have hk2 : q * a ≤ n := Nat.le_trans (Nat.mul_le_mul_right a hq) (Nat.div_mul_le_self n a)
    obtain ⟨e, e1, e2, hle⟩ := left_nat n q a hk2 hn
    rw [e] at hlen hrest
    have hmem := facL_mem gs (n - q * a)
    have ih := ih (n - q * a) hle
    generalize facL gs ((n - q * a : Nat) : Int) = sub at hlen hrest ih hmem
    have hsl : ∀ l ∈ sub, l.length = gs.length := fun l hl => ((hmem l (fun y hy => (hS.rng y (hs y (List.mem_cons_of_mem _ hy))).1)).1 hl).1
    rw [List.length_append, List.length_map] at hlen
    refine Ev.one (fun k => by rw [impl_factored.l0]) ?_
    rw [e0, e1, e2, show List.drop 1 ((a : Int) :: gs) = gs from rfl]
    refine Ev.pos (by omega) (Ev.pos (by rw [List.length_cons]; omega) (Ev.pos (by rw [List.length_cons]; omega) (Ev.bnd ih ?_)))
    have inner : ∀ (d i : Nat), i + d = sub.length → Ev (fun k => impl_factored.l1 k ((a : Int) :: gs) (n : Int) (acc ++ (sub.take i).map fun l => (q : Int) :: l) (q : Int) sub (sub.length : Int) (i : Int)) res := by
     intro d
     induction d with
     | zero =>
      intro i hi
      rw [List.take_of_length_le (by omega)]
      refine Ev.one (fun k => by rw [impl_factored.l1]) ?_
      exact Ev.neg (by omega) hrest
     | succ d ihd =>
      intro i hi
      have hil : i < sub.length := by omega
      have ihd := ihd (i + 1) (by omega)
      rw [List.take_succ_eq_append_getElem hil, List.map_append, List.map_cons, List.map_nil, ← List.append_assoc] at ihd
      refine Ev.one (fun k => by rw [impl_factored.l1]) ?_
      rw [rd_L2_at sub i hil, w64_succ i (by omega)]
      have := hsl sub[i] (List.getElem_mem hil)
      exact Ev.pos (by omega) (Ev.pos (by omega) (Ev.pos (by omega) (Ev.some (Ev.pos (by rw [List.length_singleton]; omega) (Ev.pos (by rw [List.length_append, List.length_map, List.length_take]; omega) ihd)))))
    have h := inner sub.length 0 (by omega)
    rw [List.take_zero, List.map_nil, List.append_nil] at h
    exact h
   induction q with
   | zero =>
    intro acc hq hlen
    rw [downF_zero] at hlen ⊢
    refine round 0 acc _ hq hlen ?_
    rw [w64_pred0]
    refine Ev.one (fun k => by rw [impl_factored.l0]) ?_
    exact Ev.neg (by decide) (Ev.now _)
   | succ q ihq =>
    intro acc hq hlen
    rw [← fac_prefix] at hlen ⊢
    refine round (q + 1) acc _ hq (len_left _ _ _ hlen) ?_
    rw [w64_pred q (Nat.le_trans (Nat.le_of_succ_le hq) (Nat.le_trans hdn (Nat.le_trans hn (by decide))))]
    exact ihq _ (Nat.le_of_succ_le hq) hlen
  have h := loop (n / a) [] (Nat.le_refl _) (by rw [List.nil_append]; exact hroom)
  rw [List.nil_append] at h
  exact h
theorem spec_l11Find_ev (hp : g ≠ []) : ∀ (gs : List Int) (done : List Int), g = g.take done.length ++ gs → gs ≠ [] → done.length + gs.length = g.length → ∀ n : Nat, n ≤ 100 →
  Ev (fun k => spec_l11Find.f k g (n : Int) done) ((facL gs (n : Int)).map fun l => done ++ l)
 | [], _, _, h, _, _, _ => absurd rfl h
 | [x], done, hg, _, hl, n, hn => by
  have hl12 := hS.len2
  have hlt : done.length < g.length := by simp at hl; omega
  have hx : g[done.length] = x := by
   have h1 : (g.take done.length ++ [x])[done.length]? = some x := by
    rw [List.getElem?_append_right (by rw [List.length_take]; omega), List.length_take, Nat.min_eq_left (by omega), Nat.sub_self]
    rfl
   rw [← hg, List.getElem?_eq_getElem hlt] at h1
   exact Option.some.inj h1
  have hr := hS.rng _ (List.getElem_mem hlt)
  rw [hx] at hr
  obtain ⟨a, rfl⟩ : ∃ a : Nat, x = (a : Int) := ⟨x.toNat, by omega⟩
  have e1 : rd g (done.length : Int) = (a : Int) := by rw [rd_at g _ hlt, hx]
  have e2 : wrap64 ((g.length : Int) - 1) = (done.length : Int) := by rw [w64_of (by omega) (by omega)]; simp at hl; omega
  have hdn : n / a ≤ n := Nat.div_le_self n a
  have hdw : wrap64 ((n / a : Nat) : Int) = ((n / a : Nat) : Int) := by
   generalize n / a = x at hdn
   exact w64_of (by omega) (by omega)
  rw [facL_one a (by omega) n]
  refine Ev.one (fun k => by rw [spec_l11Find.f]) ?_
  rw [e1, e2, tmod_nat, tdiv_nat, hdw]
  refine Ev.neg (by omega) (Ev.some (Ev.pos rfl (Ev.pos (by omega) (Ev.pos (by omega) (Ev.neg (by omega) ?_)))))
  by_cases h : n % a = 0
  ·rw [if_pos h]
   refine Ev.pos (by omega) (Ev.some (Ev.pos (by simp; omega) (Ev.some (Ev.some (Ev.pos (by simp; omega) (Ev.some (Ev.pos (by simp) ?_)))))))
   exact Ev.now _
  ·rw [if_neg h]
   exact Ev.neg (by omega) (Ev.now _)
 | x :: y :: gs, done, hg, _, hl, n, hn => by
  have hl12 := hS.len2
  have hlt : done.length < g.length := by simp at hl; omega
  have hx : g[done.length] = x := by
   have h1 : (g.take done.length ++ (x :: y :: gs))[done.length]? = some x := by
    rw [List.getElem?_append_right (by rw [List.length_take]; omega), List.length_take, Nat.min_eq_left (by omega), Nat.sub_self]
    rfl
   rw [← hg, List.getElem?_eq_getElem hlt] at h1
   exact Option.some.inj h1
  have hr := hS.rng _ (List.getElem_mem hlt)
  rw [hx] at hr
  obtain ⟨a, rfl⟩ : ∃ a : Nat, x = (a : Int) := ⟨x.toNat, by omega⟩
  have e1 : rd g (done.length : Int) = (a : Int) := by rw [rd_at g _ hlt, hx]
  have e2 : wrap64 ((g.length : Int) - 1) = (g.length : Int) - 1 := w64_of (by omega) (by omega)
  have hd : ((n : Int) / (a : Int)).toNat = n / a := by rw [← Int.natCast_ediv, Int.toNat_natCast]
  have hdn : n / a ≤ n := Nat.div_le_self n a
  have hdw : wrap64 ((n / a : Nat) : Int) = ((n / a : Nat) : Int) := by
   generalize n / a = x at hdn
   exact w64_of (by omega) (by omega)
  have hsub : ∀ z ∈ (a : Int) :: y :: gs, z ∈ g := fun z hz => by rw [hg]; exact List.mem_append_right _ hz
  have hroom := facL_room g hS ((a : Int) :: y :: gs) hsub (by omega) n hn
  have hnext : ∀ k : Int, g = g.take (done ++ [k]).length ++ (y :: gs) := by
   intro k
   have h2 : g.take (done.length + 1) = g.take done.length ++ [(a : Int)] := by rw [List.take_succ_eq_append_getElem hlt, hx]
   rw [List.length_append, List.length_singleton, h2, List.append_assoc]
   exact hg
  have hfull : facL ((a : Int) :: y :: gs) (n : Int) = downF (fun k => (facL (y :: gs) ((n : Int) - k * (a : Int))).map fun l => k :: l) (n / a) := by rw [← hd]; rfl
  refine Ev.one (fun k => by rw [spec_l11Find.f]) ?_
  rw [e1, e2, tdiv_nat, hdw]
  refine Ev.neg (by omega) (Ev.some (Ev.neg (by simp at hl; omega) (Ev.pos (by omega) (Ev.pos (by omega) (Ev.neg (by omega) ?_)))))
  rw [hfull] at hroom ⊢
  have loop : ∀ (q : Nat) (acc : List (List Int)), q ≤ n / a → (acc ++ downF (fun k => (facL (y :: gs) ((n : Int) - k * (a : Int))).map fun l => k :: l) q).length ≤ 100000000000 →
    Ev (fun k => spec_l11Find.l0 k g (n : Int) done (done.length : Int) (acc.map fun l => done ++ l) (q : Int)) ((acc ++ downF (fun k => (facL (y :: gs) ((n : Int) - k * (a : Int))).map fun l => k :: l) q).map fun l => done ++ l) := by
   intro q
   have round : ∀ (q : Nat) (acc : List (List Int)) (res : List (List Int)), q ≤ n / a → (acc ++ (facL (y :: gs) ((n : Int) - (q : Int) * (a : Int))).map fun l => (q : Int) :: l).length ≤ 100000000000 →
     Ev (fun k => spec_l11Find.l0 k g (n : Int) done (done.length : Int) ((acc ++ (facL (y :: gs) ((n : Int) - (q : Int) * (a : Int))).map fun l => (q : Int) :: l).map fun l => done ++ l) (wrap64 ((q : Int) - 1))) res →
     Ev (fun k => spec_l11Find.l0 k g (n : Int) done (done.length : Int) (acc.map fun l => done ++ l) (q : Int)) res := by
    intro q acc res hq hlen hrest
    have hk2 : q * a ≤ n := Nat.le_trans (Nat.mul_le_mul_right a hq) (Nat.div_mul_le_self n a)
    obtain ⟨e, e3, e4, hle⟩ := left_nat n q a hk2 hn
    rw [e] at hlen hrest
    have ih := spec_l11Find_ev hp (y :: gs) (done ++ [(q : Int)]) (hnext _) (by simp) (by simp at hl ⊢; omega) (n - q * a) hle
    have emap : ((facL (y :: gs) ((n - q * a : Nat) : Int)).map fun l => (done ++ [(q : Int)]) ++ l) = (((facL (y :: gs) ((n - q * a : Nat) : Int)).map fun l => (q : Int) :: l).map fun l => done ++ l) := by
     rw [List.map_map]
     apply List.map_congr_left
     intro l _
     simp
    rw [emap] at ih
    generalize facL (y :: gs) ((n - q * a : Nat) : Int) = sub at hlen hrest ih
    rw [List.length_append, List.length_map] at hlen
    rw [List.map_append] at hrest
    refine Ev.one (fun k => by rw [spec_l11Find.l0]) ?_
    rw [e1, e3, e4]
    refine Ev.pos (by omega) (Ev.pos (by omega) (Ev.pos (by omega) (Ev.some (Ev.pos (by simp; omega) (Ev.some (Ev.some (Ev.pos (by simp; omega) (Ev.bnd ih (Ev.pos (by simp; omega) hrest)))))))))
   induction q with
   | zero =>
    intro acc hq hlen
    rw [downF_zero] at hlen ⊢
    refine round 0 acc _ hq hlen ?_
    rw [w64_pred0]
    refine Ev.one (fun k => by rw [spec_l11Find.l0]) ?_
    exact Ev.neg (by decide) (Ev.now _)
   | succ q ihq =>
    intro acc hq hlen
    rw [← fac_prefix] at hlen ⊢
    refine round (q + 1) acc _ hq (len_left _ _ _ hlen) ?_
    rw [w64_pred q (Nat.le_trans (Nat.le_of_succ_le hq) (Nat.le_trans hdn (Nat.le_trans hn (by decide))))]
    exact ihq _ (Nat.le_of_succ_le hq) hlen
  have h := loop (n / a) [] (Nat.le_refl _) (by rw [List.nil_append]; exact hroom)
  rw [List.nil_append] at h
  exact h
end
/-- What Factorizations answers. -/
def facS (b : Bool) (g : List Int) (n : Int) : List (List Int) := if b = true ∧ (0 ≤ n ∧ n ≤ 100) then facL g n else []
theorem fac_both (g : List Int) (hlen : g.length ≤ 1048576) (n : Int) : ∃ b, (b = true ↔ SG g) ∧ Ev (fun k => spec_Factorizations.f k g n) (facS b g n) ∧ Ev (fun k => impl_Factorizations.f k g n) (facS b g n) := by
 obtain ⟨b, b1, b2, b3⟩ := sg_both g hlen
 refine ⟨b, b1, ?_⟩
 unfold spec_Factorizations.f impl_Factorizations.f facS
 cases b with
 | false =>
  rw [if_neg (fun e => by cases e.1)]
  exact ⟨Ev.bnd b2 (Ev.neg (by decide) (Ev.now _)), Ev.bnd b3 (Ev.neg (by decide) (Ev.now _))⟩
 | true =>
  have hS := b1.1 rfl
  have hl1 := hS.len1
  by_cases h : 0 ≤ n ∧ n ≤ 100
  ·obtain ⟨m, rfl⟩ : ∃ m : Nat, n = (m : Int) := ⟨n.toNat, by omega⟩
   rw [if_pos ⟨rfl, h⟩]
   have hne : g ≠ [] := fun e => by subst e; simp at hl1
   have h1 := spec_l11Find_ev g hS hne g [] (by simp) hne (by simp) m (by omega)
   have e1 : ((facL g (m : Int)).map fun l => [] ++ l) = facL g (m : Int) := by simp
   rw [e1] at h1
   exact ⟨Ev.bnd b2 (Ev.pos rfl (Ev.bnd (spec_l1In_ev _ _ _) (Ev.pos (decide_eq_true h) (Ev.bnd h1 (Ev.now _))))),
    Ev.bnd b3 (Ev.pos rfl (Ev.bnd (impl_within_ev _ _ _) (Ev.pos (decide_eq_true h) (Ev.bnd (impl_factored_ev g hS g (fun x hx => hx) (Nat.le_refl _) m (by omega)) (Ev.now _)))))⟩
  ·rw [if_neg (fun e => h e.2)]
   exact ⟨Ev.bnd b2 (Ev.pos rfl (Ev.bnd (spec_l1In_ev _ _ _) (Ev.neg (by rw [decide_eq_false h]; decide) (Ev.now _)))),
    Ev.bnd b3 (Ev.pos rfl (Ev.bnd (impl_within_ev _ _ _) (Ev.neg (by rw [decide_eq_false h]; decide) (Ev.now _))))⟩
/-! minmax: the second program's lesser and greater of two -/
theorem spec_l1Min_at (a b : Int) : spec_l1Min.f a b = some (min a b) := by
 unfold spec_l1Min.f
 by_cases h : a < b
 ·rw [if_pos h]; congr 1; omega
 ·rw [if_neg h]; congr 1; omega
theorem spec_l1Max_at (a b : Int) : spec_l1Max.f a b = some (max a b) := by
 unfold spec_l1Max.f
 by_cases h : a > b
 ·rw [if_pos h]; congr 1; omega
 ·rw [if_neg h]; congr 1; omega
/-! label: labellings of places by a symmetric relation: the least place of each part -/
structure Lab0 (L : Nat → Nat → Bool) (N : Nat) (m : List Int) : Prop where
 len : m.length = N
 low : ∀ k, k < N → 0 ≤ rd m (k : Int) ∧ rd m (k : Int) ≤ (k : Int)
 inv : ∀ f : Int → Int, (∀ i j, i < N → j < N → L i j = true → f (i : Int) = f (j : Int)) → ∀ k, k < N → f (rd m (k : Int)) = f (k : Int)
structure Lab (L : Nat → Nat → Bool) (N : Nat) (m : List Int) : Prop extends Lab0 L N m where
 same : ∀ i j, i < N → j < N → L i j = true → rd m (i : Int) = rd m (j : Int)
theorem Lab.le {L : Nat → Nat → Bool} {N : Nat} {a b : List Int} (ha : Lab L N a) (hb : Lab L N b) (k : Nat) (hk : k < N) : rd b (k : Int) ≤ rd a (k : Int) := by
 have h1 := ha.inv (fun x => rd b x) hb.same k hk
 have h2 := ha.low k hk
 have h3 := hb.low (rd a (k : Int)).toNat (by omega)
 rw [show (((rd a (k : Int)).toNat : Nat) : Int) = rd a (k : Int) from by omega] at h3
 have h1 : rd b (rd a (k : Int)) = rd b (k : Int) := h1
 omega
theorem Lab.uniq {L : Nat → Nat → Bool} {N : Nat} {a b : List Int} (ha : Lab L N a) (hb : Lab L N b) : a = b := by
 refine List.ext_getElem (by rw [ha.len, hb.len]) (fun k h1 h2 => ?_)
 have h3 := ha.le hb k (by rw [← ha.len]; exact h1)
 have h4 := hb.le ha k (by rw [← ha.len]; exact h1)
 rw [rd_at _ _ h1, rd_at _ _ h2] at h3 h4
 omega
theorem Lab0.idx {L : Nat → Nat → Bool} {N : Nat} {m : List Int} (h0 : m.length = N) (h : ∀ k, k < N → rd m (k : Int) = (k : Int)) : Lab0 L N m :=
 ⟨h0, fun k hk => by rw [h k hk]; omega, fun f _ k hk => by rw [h k hk]⟩
/-- One entry takes the label of a neighbour. -/
theorem Lab0.set1 {L : Nat → Nat → Bool} {N : Nat} {m : List Int} (h : Lab0 L N m) (i j : Nat) (hi : i < N) (hj : j < N) (hL : L i j = true) (hlt : rd m (i : Int) < rd m (j : Int)) : Lab0 L N (m.set j (rd m (i : Int))) := by
 refine ⟨by rw [List.length_set]; exact h.len, fun k hk => ?_, fun f hf k hk => ?_⟩
 ·have h1 := h.low k hk
  have h2 := h.low i hi
  by_cases e : k = j
  ·subst e
   rw [rd_set_eq _ _ _ (by rw [h.len]; exact hk)]
   omega
  ·rw [rd_set_ne _ _ _ _ (fun q => e q.symm)]
   exact h1
 ·by_cases e : k = j
  ·subst e
   rw [rd_set_eq _ _ _ (by rw [h.len]; exact hk), h.inv f hf i hi]
   exact hf i k hi hk hL
  ·rw [rd_set_ne _ _ _ _ (fun q => e q.symm)]
   exact h.inv f hf k hk
def sumI (l : List Int) : Int := l.sum
theorem sumI_set : ∀ (l : List Int) (j : Nat) (v : Int), j < l.length → sumI (l.set j v) = sumI l - rd l (j : Int) + v
 | [], _, _, h => by simp at h
 | x :: l, 0, v, _ => by
  show (v :: l).sum = (x :: l).sum - x + v
  rw [List.sum_cons, List.sum_cons]
  omega
 | x :: l, j + 1, v, h => by
  have ih := sumI_set l j v (by simpa using h)
  have e : rd (x :: l) ((j + 1 : Nat) : Int) = rd l (j : Int) := rfl
  show (x :: l.set j v).sum = (x :: l).sum - rd (x :: l) ((j + 1 : Nat) : Int) + v
  unfold sumI at ih
  rw [e, List.sum_cons, List.sum_cons, ih]
  omega
theorem sumI_nonneg : ∀ (l : List Int), (∀ k, k < l.length → 0 ≤ rd l (k : Int)) → 0 ≤ sumI l
 | [], _ => by simp [sumI]
 | x :: l, h => by
  have ih := sumI_nonneg l (fun k hk => h (k + 1) (by simpa using hk))
  have h0 : 0 ≤ x := h 0 (by simp)
  unfold sumI at ih ⊢
  rw [List.sum_cons]
  omega
/-- All entries of one label take another one. -/
theorem Lab0.map {L : Nat → Nat → Bool} {N : Nat} {m m' : List Int} (h : Lab0 L N m) (i k : Nat) (hi : i < N) (hk : k < N) (hL : L i k = true) (lo hi' : Int)
  (hlo : lo = rd m (i : Int) ∧ hi' = rd m (k : Int) ∨ lo = rd m (k : Int) ∧ hi' = rd m (i : Int)) (hlt : lo ≤ hi') (hl : m'.length = N)
  (hr : ∀ j, j < N → rd m' (j : Int) = if rd m (j : Int) = hi' then lo else rd m (j : Int)) : Lab0 L N m' := by
 have r1 := h.low i hi
 have r2 := h.low k hk
 refine ⟨hl, fun j hj => ?_, fun f hf j hj => ?_⟩
 ·have h1 := h.low j hj
  rw [hr j hj]
  split <;> omega
 ·have h1 := h.inv f hf j hj
  have h2 := h.inv f hf i hi
  have h3 := h.inv f hf k hk
  have h4 := hf i k hi hk hL
  rw [hr j hj]
  split
  ·rename_i e
   rw [← h1, e]
   rcases hlo with ⟨rfl, rfl⟩ | ⟨rfl, rfl⟩
   ·rw [h2, h4, ← h3]
   ·rw [h3, ← h4, ← h2]
  ·exact h1
/-! classes: linked factorizations, both labellings and what is made of them -/
def lnk (a b : List Int) : Bool := (List.range a.length).any fun i => rd a (i : Int) != 0 && rd b (i : Int) != 0
theorem lnk_iff (a b : List Int) : lnk a b = true ↔ ∃ i : Nat, i < a.length ∧ rd a (i : Int) ≠ 0 ∧ rd b (i : Int) ≠ 0 := by
 unfold lnk
 rw [List.any_eq_true]
 constructor
 ·rintro ⟨i, h1, h2⟩
  rw [Bool.and_eq_true, bne_iff_ne, bne_iff_ne] at h2
  exact ⟨i, List.mem_range.1 h1, h2⟩
 ·rintro ⟨i, h1, h2⟩
  exact ⟨i, List.mem_range.2 h1, by rw [Bool.and_eq_true, bne_iff_ne, bne_iff_ne]; exact h2⟩
theorem lnk_symm (a b : List Int) (h : a.length = b.length) (hl : lnk a b = true) : lnk b a = true := by
 obtain ⟨i, h1, h2, h3⟩ := (lnk_iff a b).1 hl
 exact (lnk_iff b a).2 ⟨i, by omega, h3, h2⟩
theorem lnk_no (a b : List Int) (h : ∀ t : Nat, t < a.length → ¬ (rd a (t : Int) ≠ 0 ∧ rd b (t : Int) ≠ 0)) : lnk a b = false := by
 cases e : lnk a b with
 | false => rfl
 | true =>
  obtain ⟨i, h1, h2⟩ := (lnk_iff a b).1 e
  exact absurd h2 (h i h1)
theorem impl_linked_ev (a b : List Int) (hb : b.length = a.length) (ha : a.length ≤ 100000) : Ev (fun k => impl_linked.f k a b) (lnk a b) := by
 unfold impl_linked.f
 have go : ∀ (d i : Nat), i + d = a.length → (∀ t : Nat, t < i → ¬ (rd a (t : Int) ≠ 0 ∧ rd b (t : Int) ≠ 0)) → Ev (fun k => impl_linked.l0 k a b (a.length : Int) (i : Int)) (lnk a b) := by
  intro d
  induction d with
  | zero =>
   intro i hi h
   refine Ev.one (fun k => by rw [impl_linked.l0]) ?_
   rw [lnk_no a b (fun t ht => h t (by omega))]
   exact Ev.neg (by omega) (Ev.now _)
  | succ d ih =>
   intro i hi h
   refine Ev.one (fun k => by rw [impl_linked.l0]) ?_
   rw [w64_succ i (by omega)]
   refine Ev.pos (by omega) (Ev.pos (by omega) (Ev.pos (by omega) ?_))
   have nx : ¬ (rd a (i : Int) ≠ 0 ∧ rd b (i : Int) ≠ 0) → Ev (fun k => impl_linked.l0 k a b (a.length : Int) ((i + 1 : Nat) : Int)) (lnk a b) := fun hn => ih (i + 1) (by omega) (fun t ht => by
    by_cases e : t = i
    ·subst e; exact hn
    ·exact h t (by omega))
   by_cases c : rd a (i : Int) = 0
   ·exact Ev.pos c (nx (fun q => q.1 c))
   ·refine Ev.neg c (Ev.pos (by omega) ?_)
    by_cases c2 : rd b (i : Int) = 0
    ·exact Ev.pos c2 (nx (fun q => q.2 c2))
    ·rw [(lnk_iff a b).2 ⟨i, by omega, c, c2⟩]
     exact Ev.neg c2 (Ev.now _)
 exact go a.length 0 (by omega) (fun t ht => absurd ht (by omega))
theorem spec_linked_ev (a b : List Int) (hb : b.length = a.length) (ha : a.length ≤ 100000) (pa : ∀ i : Nat, 0 ≤ rd a (i : Int)) (pb : ∀ i : Nat, 0 ≤ rd b (i : Int)) : Ev (fun k => spec_l14Linked.f k a b) (lnk a b) := by
 unfold spec_l14Linked.f
 have go : ∀ (d i : Nat), i + d = a.length → (∀ t : Nat, t < i → ¬ (rd a (t : Int) ≠ 0 ∧ rd b (t : Int) ≠ 0)) → Ev (fun k => spec_l14Linked.l0 k a b (i : Int)) (lnk a b) := by
  intro d
  induction d with
  | zero =>
   intro i hi h
   refine Ev.one (fun k => by rw [spec_l14Linked.l0]) ?_
   rw [lnk_no a b (fun t ht => h t (by omega))]
   exact Ev.neg (by omega) (Ev.now _)
  | succ d ih =>
   intro i hi h
   have qa := pa i
   have qb := pb i
   refine Ev.one (fun k => by rw [spec_l14Linked.l0]) ?_
   rw [w64_succ i (by omega)]
   refine Ev.pos (by omega) (Ev.pos (by omega) ?_)
   have nx : ¬ (rd a (i : Int) ≠ 0 ∧ rd b (i : Int) ≠ 0) → Ev (fun k => spec_l14Linked.l0 k a b ((i + 1 : Nat) : Int)) (lnk a b) := fun hn => ih (i + 1) (by omega) (fun t ht => by
    by_cases e : t = i
    ·subst e; exact hn
    ·exact h t (by omega))
   by_cases c : rd a (i : Int) = 0
   ·exact Ev.neg (by omega) (nx (fun q => q.1 c))
   ·refine Ev.pos (by omega) (Ev.pos (by omega) ?_)
    by_cases c2 : rd b (i : Int) = 0
    ·exact Ev.neg (by omega) (nx (fun q => q.2 c2))
    ·rw [(lnk_iff a b).2 ⟨i, by omega, c, c2⟩]
     exact Ev.pos (by omega) (Ev.now _)
 exact go a.length 0 (by omega) (fun t ht => absurd ht (by omega))
/-- What is asked of the rows. -/
structure Rows (all : List (List Int)) (m : Nat) : Prop where
 few : all.length ≤ 100000000000
 len : ∀ x ∈ all, x.length = m
 pos : ∀ x ∈ all, ∀ y ∈ x, 0 ≤ y
 m1 : m ≤ 1000
def LR (all : List (List Int)) (i j : Nat) : Bool := lnk (rd_L2 all (i : Int)) (rd_L2 all (j : Int))
theorem Rows.at {all : List (List Int)} {m : Nat} (h : Rows all m) (i : Nat) (hi : i < all.length) : (rd_L2 all (i : Int)).length = m ∧ ∀ t : Nat, 0 ≤ rd (rd_L2 all (i : Int)) (t : Int) := by
 rw [rd_L2_at all i hi]
 have hm := List.getElem_mem hi
 refine ⟨h.len _ hm, fun t => ?_⟩
 by_cases c : t < (all[i]).length
 ·rw [rd_at _ _ c]
  exact h.pos _ hm _ (List.getElem_mem c)
 ·unfold rd
  rw [Int.toNat_natCast, List.getD_eq_getElem?_getD, List.getElem?_eq_none (by omega)]
  exact Int.le_refl _
theorem Rows.symm {all : List (List Int)} {m : Nat} (h : Rows all m) (i j : Nat) (hi : i < all.length) (hj : j < all.length) (hl : LR all i j = true) : LR all j i = true :=
 lnk_symm _ _ (by rw [(h.at i hi).1, (h.at j hj).1]) hl
theorem Rows.impl {all : List (List Int)} {m : Nat} (h : Rows all m) (i j : Nat) (hi : i < all.length) (hj : j < all.length) : Ev (fun k => impl_linked.f k (rd_L2 all (i : Int)) (rd_L2 all (j : Int))) (LR all i j) :=
 impl_linked_ev _ _ (by rw [(h.at i hi).1, (h.at j hj).1]) (by rw [(h.at i hi).1]; have := h.m1; omega)
theorem Rows.spec {all : List (List Int)} {m : Nat} (h : Rows all m) (i j : Nat) (hi : i < all.length) (hj : j < all.length) : Ev (fun k => spec_l14Linked.f k (rd_L2 all (i : Int)) (rd_L2 all (j : Int))) (LR all i j) :=
 spec_linked_ev _ _ (by rw [(h.at i hi).1, (h.at j hj).1]) (by rw [(h.at i hi).1]; have := h.m1; omega) (h.at i hi).2 (h.at j hj).2
section
variable {α : Type} (all : List (List Int)) (m : Nat) (hR : Rows all m)
include hR
/-- Between two steps of one round of the first program's labelling. -/
structure Sweep (cls0 cls : List Int) (ch : Bool) (i j : Nat) : Prop where
 lab : Lab0 (LR all) all.length cls
 le : sumI cls ≤ sumI cls0
 up : ch = true → sumI cls < sumI cls0
 no : ch = false → ∀ i' j' : Nat, j' < all.length → (i' < i ∨ i' = i ∧ j' < j) → ¬ (rd cls (i' : Int) < rd cls (j' : Int) ∧ LR all i' j' = true)
theorem classes_l3 (cls0 : List Int) (i : Nat) (hi : i < all.length) (res : List (List (List Int)))
  (next : ∀ cls ch, Sweep all cls0 cls ch (i + 1) 0 → Ev (fun k => impl_ClassesOf.l2 k all cls ch (all.length : Int) ((i + 1 : Nat) : Int)) res) :
  ∀ (d j : Nat) (cls : List Int) (ch : Bool), j + d = all.length → Sweep all cls0 cls ch i j → Ev (fun k => impl_ClassesOf.l3 k all cls ch (i : Int) (all.length : Int) (i : Int) (all.length : Int) (j : Int)) res := by
 have hf := hR.few
 intro d
 induction d with
 | zero =>
  intro j cls ch hj hS
  refine Ev.one (fun k => by rw [impl_ClassesOf.l3]) ?_
  rw [w64_succ i (by omega)]
  refine Ev.neg (by omega) (next cls ch ⟨hS.lab, hS.le, hS.up, fun h i' j' hj' hlt => hS.no h i' j' hj' (by omega)⟩)
 | succ d ih =>
  intro j cls ch hj hS
  have hl := hS.lab.len
  refine Ev.one (fun k => by rw [impl_ClassesOf.l3]) ?_
  rw [w64_succ j (by omega), Int.toNat_natCast]
  refine Ev.pos (by omega) (Ev.pos (by omega) (Ev.pos (by omega) (Ev.pos (by omega) (Ev.pos (by omega) ?_))))
  have stay : ¬ (rd cls (i : Int) < rd cls (j : Int) ∧ LR all i j = true) → Ev (fun k => impl_ClassesOf.l3 k all cls ch (i : Int) (all.length : Int) (i : Int) (all.length : Int) ((j + 1 : Nat) : Int)) res := fun hn =>
   ih (j + 1) cls ch (by omega) ⟨hS.lab, hS.le, hS.up, fun h i' j' hj' hlt => by
    by_cases e : i' = i ∧ j' = j
    ·obtain ⟨rfl, rfl⟩ := e
     exact hn
    ·exact hS.no h i' j' hj' (by omega)⟩
  by_cases c : rd cls (i : Int) < rd cls (j : Int)
  ·refine Ev.pos c (Ev.pos (by omega) (Ev.pos (by omega) (Ev.bnd (hR.impl i j hi (by omega)) ?_)))
   cases e : LR all i j with
   | false => exact Ev.neg (by decide) (stay (fun q => by rw [e] at q; exact absurd q.2 (by decide)))
   | true =>
    have hs := sumI_set cls j (rd cls (i : Int)) (by omega)
    have h0 := hS.le
    exact Ev.pos rfl (ih (j + 1) _ true (by omega) ⟨hS.lab.set1 i j hi (by omega) e c, by omega, fun _ => by omega, fun h => absurd h (by decide)⟩)
  ·exact Ev.neg c (stay (fun q => c q.1))
theorem classes_l2 (cls0 : List Int) (res : List (List (List Int)))
  (next : ∀ cls ch, Sweep all cls0 cls ch all.length 0 → Ev (fun k => impl_ClassesOf.l1 k all cls ch) res) :
  ∀ (d i : Nat) (cls : List Int) (ch : Bool), i + d = all.length → Sweep all cls0 cls ch i 0 → Ev (fun k => impl_ClassesOf.l2 k all cls ch (all.length : Int) (i : Int)) res := by
 intro d
 induction d with
 | zero =>
  intro i cls ch hi hS
  refine Ev.one (fun k => by rw [impl_ClassesOf.l2]) ?_
  rw [show i = all.length from by omega] at hS ⊢
  exact Ev.neg (by omega) (next cls ch hS)
 | succ d ih =>
  intro i cls ch hi hS
  refine Ev.one (fun k => by rw [impl_ClassesOf.l2]) ?_
  exact Ev.pos (by omega) (classes_l3 all m hR cls0 i (by omega) res (fun cls' ch' hS' => ih (i + 1) cls' ch' (by omega) hS') all.length 0 cls ch (by omega) hS)
theorem classes_l1 (res : List (List (List Int)))
  (next : ∀ cls, Lab (LR all) all.length cls → Ev (fun k => impl_ClassesOf.l4 k all cls [] (all.length : Int) 0) res) :
  ∀ (s : Nat) (cls : List Int), Lab0 (LR all) all.length cls → sumI cls ≤ (s : Int) → Ev (fun k => impl_ClassesOf.l1 k all cls true) res := by
 intro s
 induction s with
 | zero =>
  intro cls hL hs
  refine Ev.one (fun k => by rw [impl_ClassesOf.l1]) ?_
  refine Ev.pos rfl (classes_l2 all m hR cls res (fun cls' ch hS => ?_) all.length 0 cls false (by omega) ⟨hL, Int.le_refl _, fun h => absurd h (by decide), fun _ i' j' _ h => by omega⟩)
  have h0 := sumI_nonneg cls' (fun k hk => (hS.lab.low k (by rw [← hS.lab.len]; exact hk)).1)
  cases ch with
  | true => have := hS.up rfl; omega
  | false =>
   refine Ev.one (fun k => by rw [impl_ClassesOf.l1]) ?_
   refine Ev.neg (by decide) (next cls' ⟨hS.lab, fun i j hi hj hl => ?_⟩)
   have h1 := hS.no rfl i j hj (.inl hi)
   have h2 := hS.no rfl j i hi (.inl hj)
   have h3 := hR.symm i j hi hj hl
   have h1' : ¬ rd cls' (i : Int) < rd cls' (j : Int) := fun q => h1 ⟨q, hl⟩
   have h2' : ¬ rd cls' (j : Int) < rd cls' (i : Int) := fun q => h2 ⟨q, h3⟩
   omega
 | succ s ih =>
  intro cls hL hs
  refine Ev.one (fun k => by rw [impl_ClassesOf.l1]) ?_
  refine Ev.pos rfl (classes_l2 all m hR cls res (fun cls' ch hS => ?_) all.length 0 cls false (by omega) ⟨hL, Int.le_refl _, fun h => absurd h (by decide), fun _ i' j' _ h => by omega⟩)
  cases ch with
  | true =>
   have := hS.up rfl
   exact ih cls' hS.lab (by omega)
  | false =>
   refine Ev.one (fun k => by rw [impl_ClassesOf.l1]) ?_
   refine Ev.neg (by decide) (next cls' ⟨hS.lab, fun i j hi hj hl => ?_⟩)
   have h1 := hS.no rfl i j hj (.inl hi)
   have h2 := hS.no rfl j i hi (.inl hj)
   have h3 := hR.symm i j hi hj hl
   have h1' : ¬ rd cls' (i : Int) < rd cls' (j : Int) := fun q => h1 ⟨q, hl⟩
   have h2' : ¬ rd cls' (j : Int) < rd cls' (i : Int) := fun q => h2 ⟨q, h3⟩
   omega
theorem classes_l0 (res : List (List (List Int)))
  (next : ∀ cls, Lab (LR all) all.length cls → Ev (fun k => impl_ClassesOf.l4 k all cls [] (all.length : Int) 0) res) :
  ∀ (d i : Nat) (cls : List Int), i + d = all.length → cls.length = all.length → (∀ k, k < i → rd cls (k : Int) = (k : Int)) → Ev (fun k => impl_ClassesOf.l0 k all cls (all.length : Int) (i : Int)) res := by
 have hf := hR.few
 intro d
 induction d with
 | zero =>
  intro i cls hi hl h
  refine Ev.one (fun k => by rw [impl_ClassesOf.l0]) ?_
  have hL : Lab0 (LR all) all.length cls := Lab0.idx hl (fun k hk => h k (by omega))
  exact Ev.neg (by omega) (classes_l1 all m hR res next (sumI cls).toNat cls hL (by omega))
 | succ d ih =>
  intro i cls hi hl h
  refine Ev.one (fun k => by rw [impl_ClassesOf.l0]) ?_
  rw [w64_succ i (by omega), Int.toNat_natCast]
  refine Ev.pos (by omega) (Ev.pos (by omega) (Ev.pos (by omega) (ih (i + 1) _ (by omega) (by rw [List.length_set]; exact hl) (fun k hk => ?_))))
  by_cases e : k = i
  ·subst e
   rw [rd_set_eq _ _ _ (by omega)]
  ·rw [rd_set_ne _ _ _ _ (fun q => e q.symm)]
   exact h k (by omega)
/-- The second program's labelling. -/
structure Marked (mk : List Int) (i k : Nat) : Prop where
 lab : Lab0 (LR all) all.length mk
 same : ∀ i' k' : Nat, k' < i' → i' < all.length → (i' < i ∨ i' = i ∧ k' < k) → LR all i' k' = true → rd mk (i' : Int) = rd mk (k' : Int)
theorem marks_l3 (mk : List Int) (hl : mk.length = all.length) (i kk : Nat) (hkk : kk ≤ all.length) (lo hi : Int) (res : List Int)
  (next : ∀ cur : List Int, cur.length = all.length → (∀ t : Nat, t < all.length → rd cur (t : Int) = if rd mk (t : Int) = hi then lo else rd mk (t : Int)) → Ev (fun k => spec_l14Marks.l2 k all cur (i : Int) ((kk + 1 : Nat) : Int)) res) :
  ∀ (d j : Nat) (cur : List Int), j + d = all.length → cur.length = all.length → (∀ t : Nat, t < all.length → rd cur (t : Int) = if t < j then (if rd mk (t : Int) = hi then lo else rd mk (t : Int)) else rd mk (t : Int)) → Ev (fun k => spec_l14Marks.l3 k all cur (i : Int) (kk : Int) lo hi (j : Int)) res := by
 have hf := hR.few
 intro d
 induction d with
 | zero =>
  intro j cur hj hc h
  refine Ev.one (fun k => by rw [spec_l14Marks.l3]) ?_
  rw [w64_succ kk (by omega)]
  exact Ev.neg (by omega) (next cur hc (fun t ht => by rw [h t ht, if_pos (by omega)]))
 | succ d ih =>
  intro j cur hj hc h
  refine Ev.one (fun k => by rw [spec_l14Marks.l3]) ?_
  rw [w64_succ j (by omega), Int.toNat_natCast]
  have hjj := h j (by omega)
  rw [if_neg (by omega)] at hjj
  refine Ev.pos (by omega) (Ev.pos (by omega) (Ev.pos (by omega) ?_))
  rw [hjj]
  by_cases c : rd mk (j : Int) = hi
  ·refine Ev.pos c (ih (j + 1) _ (by omega) (by rw [List.length_set]; exact hc) (fun t ht => ?_))
   by_cases e : t = j
   ·subst e
    rw [rd_set_eq _ _ _ (by omega), if_pos (by omega), if_pos c]
   ·rw [rd_set_ne _ _ _ _ (fun q => e q.symm), h t ht]
    by_cases c2 : t < j
    ·rw [if_pos c2, if_pos (show t < j + 1 by omega)]
    ·rw [if_neg c2, if_neg (show ¬ t < j + 1 by omega)]
  ·refine Ev.neg c (ih (j + 1) cur (by omega) hc (fun t ht => ?_))
   rw [h t ht]
   by_cases e : t = j
   ·subst e
    rw [if_neg (Nat.lt_irrefl _), if_pos (Nat.lt_succ_self _), if_neg c]
   ·by_cases c2 : t < j
    ·rw [if_pos c2, if_pos (show t < j + 1 by omega)]
    ·rw [if_neg c2, if_neg (show ¬ t < j + 1 by omega)]
theorem marks_l2 (i : Nat) (hi : i < all.length) (res : List Int)
  (next : ∀ mk, Marked all mk (i + 1) 0 → Ev (fun k => spec_l14Marks.l1 k all mk ((i + 1 : Nat) : Int)) res) :
  ∀ (d kk : Nat) (mk : List Int), kk + d = i → Marked all mk i kk → Ev (fun k => spec_l14Marks.l2 k all mk (i : Int) (kk : Int)) res := by
 have hf := hR.few
 intro d
 induction d with
 | zero =>
  intro kk mk hk hM
  refine Ev.one (fun k => by rw [spec_l14Marks.l2]) ?_
  rw [w64_succ i (by omega)]
  exact Ev.neg (by omega) (next mk ⟨hM.lab, fun i' k' h1 h2 h3 => hM.same i' k' h1 h2 (by omega)⟩)
 | succ d ih =>
  intro kk mk hk hM
  have hl := hM.lab.len
  refine Ev.one (fun k => by rw [spec_l14Marks.l2]) ?_
  refine Ev.pos (by omega) (Ev.pos (by omega) (Ev.pos (by omega) (Ev.pos (by omega) (Ev.pos (by omega) ?_))))
  have stay : (LR all i kk = true → rd mk (i : Int) = rd mk (kk : Int)) → Ev (fun k => spec_l14Marks.j3 k all mk (i : Int) (kk : Int) true) res := fun hs => by
   refine Ev.one (fun k => by rw [spec_l14Marks.j3]) ?_
   rw [w64_succ kk (by omega)]
   refine Ev.pos rfl (ih (kk + 1) mk (by omega) ⟨hM.lab, fun i' k' h1 h2 h3 hL => ?_⟩)
   by_cases e : i' = i ∧ k' = kk
   ·obtain ⟨rfl, rfl⟩ := e
    exact hs hL
   ·exact hM.same i' k' h1 h2 (by omega) hL
  by_cases c : rd mk (i : Int) = rd mk (kk : Int)
  ·exact Ev.pos c (stay (fun _ => c))
  ·refine Ev.neg c (Ev.pos (by omega) (Ev.pos (by omega) (Ev.bnd (hR.spec i kk hi (by omega)) ?_)))
   cases e : LR all i kk with
   | false => exact stay (fun q => by rw [e] at q; exact absurd q (by decide))
   | true =>
    refine Ev.one (fun k => by rw [spec_l14Marks.j3]) ?_
    have e1 : spec_l1Min.f (rd mk (i : Int)) (rd mk (kk : Int)) = some (min (rd mk (i : Int)) (rd mk (kk : Int))) := spec_l1Min_at _ _
    have e2 : spec_l1Max.f (rd mk (i : Int)) (rd mk (kk : Int)) = some (max (rd mk (i : Int)) (rd mk (kk : Int))) := spec_l1Max_at _ _
    refine Ev.neg (by decide) (Ev.pos (by omega) (Ev.pos (by omega) (Ev.pos (by omega) (Ev.pos (by omega) (Ev.bnd (Ev.const e1) (Ev.bnd (Ev.const e2) ?_))))))
    refine marks_l3 all m hR mk hl i kk (by omega) _ _ res (fun cur hc hr => ?_) all.length 0 mk (by omega) hl (fun t ht => by rw [if_neg (by omega)])
    refine ih (kk + 1) cur (by omega) ⟨hM.lab.map i kk hi (by omega) e _ _ (by omega) (by omega) hc hr, fun i' k' h1 h2 h3 hL => ?_⟩
    rw [hr i' h2, hr k' (by omega)]
    by_cases e' : i' = i ∧ k' = kk
    ·obtain ⟨rfl, rfl⟩ := e'
     split <;> split <;> omega
    ·rw [hM.same i' k' h1 h2 (by omega) hL]
theorem marks_l1 (res : List Int) (hres : ∀ mk, Lab (LR all) all.length mk → mk = res) :
  ∀ (d i : Nat) (mk : List Int), i + d = all.length → Marked all mk i 0 → Ev (fun k => spec_l14Marks.l1 k all mk (i : Int)) res := by
 intro d
 induction d with
 | zero =>
  intro i mk hi hM
  refine Ev.one (fun k => by rw [spec_l14Marks.l1]) ?_
  have : mk = res := hres mk ⟨hM.lab, fun a b ha hb hl => by
   rcases Nat.lt_trichotomy a b with h | h | h
   ·exact (hM.same b a h hb (by omega) (hR.symm a b ha hb hl)).symm
   ·rw [h]
   ·exact hM.same a b h ha (by omega) hl⟩
  rw [this]
  exact Ev.neg (by omega) (Ev.now _)
 | succ d ih =>
  intro i mk hi hM
  refine Ev.one (fun k => by rw [spec_l14Marks.l1]) ?_
  exact Ev.pos (by omega) (marks_l2 all m hR i (by omega) res (fun mk' hM' => ih (i + 1) mk' (by omega) hM') i 0 mk (by omega) hM)
theorem marks_l0 (res : List Int) (hres : ∀ mk, Lab (LR all) all.length mk → mk = res) :
  ∀ (d i : Nat) (mk : List Int), i + d = all.length → mk.length = i → (∀ k, k < i → rd mk (k : Int) = (k : Int)) → Ev (fun k => spec_l14Marks.l0 k all mk (i : Int)) res := by
 have hf := hR.few
 intro d
 induction d with
 | zero =>
  intro i mk hi hl h
  refine Ev.one (fun k => by rw [spec_l14Marks.l0]) ?_
  exact Ev.neg (by omega) (marks_l1 all m hR res hres all.length 0 mk (by omega) ⟨Lab0.idx (by omega) (fun k hk => h k (by omega)), fun i' k' _ _ h3 => by omega⟩)
 | succ d ih =>
  intro i mk hi hl h
  refine Ev.one (fun k => by rw [spec_l14Marks.l0]) ?_
  rw [w64_succ i (by omega)]
  refine Ev.pos (by omega) (Ev.pos (by omega) (ih (i + 1) _ (by omega) (by rw [List.length_append, List.length_singleton]; omega) (fun k hk => ?_)))
  by_cases e : k = i
  ·subst e
   rw [← hl]
   unfold rd
   rw [Int.toNat_natCast, List.getD_eq_getElem?_getD, List.getElem?_append_right (Nat.le_refl _), Nat.sub_self]
   rfl
  ·unfold rd
   rw [Int.toNat_natCast, List.getD_eq_getElem?_getD, List.getElem?_append_left (by omega)]
   have := h k (by omega)
   unfold rd at this
   rwa [Int.toNat_natCast, List.getD_eq_getElem?_getD] at this
def totc (mk : List Int) : Nat → Nat
 | 0 => 0
 | i + 1 => totc mk i + mk.count (i : Int)
/-- What is known of the lists of lists that both make. -/
structure Parts (r : List (List (List Int))) : Prop where
 few : r.length ≤ all.length
 tot : (r.map List.length).sum ≤ all.length
 each : ∀ c ∈ r, 1 ≤ c.length ∧ c.length ≤ all.length ∧ ∀ x ∈ c, x ∈ all
omit hR in
theorem totc_cons (x : Int) (mk : List Int) : ∀ n, totc (x :: mk) n = totc mk n + if 0 ≤ x ∧ x < (n : Int) then 1 else 0
 | 0 => by
  rw [if_neg (by omega)]
  rfl
 | n + 1 => by
  have ih := totc_cons x mk n
  show totc (x :: mk) n + (x :: mk).count (n : Int) = totc mk n + mk.count (n : Int) + _
  rw [ih, List.count_cons]
  by_cases c : x = (n : Int)
  ·subst c
   rw [if_neg (by omega), if_pos (by simp), if_pos (by omega)]
   omega
  ·rw [if_neg (c := (x == (n : Int)) = true) (by simpa using c)]
   by_cases c2 : 0 ≤ x ∧ x < (n : Int)
   ·rw [if_pos c2, if_pos (by omega)]
    omega
   ·rw [if_neg c2, if_neg (by omega)]
    omega
omit hR in
theorem totc_le (n : Nat) : ∀ mk : List Int, totc mk n ≤ mk.length
 | [] => by
  have : ∀ n, totc ([] : List Int) n = 0 := by
   intro n
   induction n with
   | zero => rfl
   | succ n ih => show totc [] n + ([] : List Int).count (n : Int) = 0; rw [ih]; simp
  rw [this n]
  exact Nat.zero_le _
 | x :: mk => by
  have ih := totc_le n mk
  rw [totc_cons, List.length_cons]
  split <;> omega
omit hR in
theorem count_take_succ (mk : List Int) (j : Nat) (hj : j < mk.length) (c : Int) : (mk.take (j + 1)).count c = (mk.take j).count c + if rd mk (j : Int) = c then 1 else 0 := by
 rw [List.take_succ_eq_append_getElem hj, List.count_append, List.count_singleton, rd_at mk j hj]
 by_cases e : mk[j] = c
 ·rw [if_pos e, if_pos (by simpa using e)]
 ·rw [if_neg e, if_neg (by simpa using e)]
theorem parts_both (mk : List Int) (hl : mk.length = all.length) : ∀ (d i : Nat) (acc : List (List (List Int))), i + d = all.length → acc.length ≤ i → (acc.map List.length).sum ≤ totc mk i → (∀ c ∈ acc, 1 ≤ c.length ∧ c.length ≤ all.length ∧ ∀ x ∈ c, x ∈ all) →
  ∃ r, Parts all r ∧ Ev (fun k => impl_ClassesOf.l4 k all mk acc (all.length : Int) (i : Int)) r ∧ Ev (fun k => spec_ClassesOf.l0 k acc all mk (i : Int)) r := by
 have hf := hR.few
 have hm := hR.m1
 intro d
 induction d with
 | zero =>
  intro i acc hi ha ht hc
  refine ⟨acc, ⟨by omega, Nat.le_trans ht (by rw [← hl]; exact totc_le i mk), hc⟩, Ev.one (fun k => by rw [impl_ClassesOf.l4]) ?_, Ev.one (fun k => by rw [spec_ClassesOf.l0]) ?_⟩
  ·exact Ev.neg (by omega) (Ev.now _)
  ·exact Ev.neg (by omega) (Ev.now _)
 | succ d ih =>
  intro i acc hi ha ht hc
  by_cases c : rd mk (i : Int) = (i : Int)
  ·have inner : ∀ (e j : Nat) (one : List (List Int)), j + e = all.length → one.length = (mk.take j).count (i : Int) → (∀ x ∈ one, x ∈ all) →
     ∃ r, Parts all r ∧ Ev (fun k => impl_ClassesOf.l5 k all mk acc (i : Int) one (all.length : Int) (i : Int) (all.length : Int) (j : Int)) r ∧ Ev (fun k => spec_ClassesOf.l1 k acc all mk (i : Int) one (j : Int)) r := by
    intro e
    induction e with
    | zero =>
     intro j one hj ho hx
     rw [show j = mk.length from by omega, List.take_length] at ho
     have hmem : (i : Int) ∈ mk := by rw [← c, rd_at mk i (by omega)]; exact List.getElem_mem _
     have hcp : 0 < mk.count (i : Int) := List.count_pos_iff.2 hmem
     have hcl : mk.count (i : Int) ≤ mk.length := List.count_le_length
     obtain ⟨r, h0, h1, h2⟩ := ih (i + 1) (acc ++ [one]) (by omega) (by rw [List.length_append, List.length_singleton]; omega)
      (by rw [List.map_append, List.sum_append, List.map_singleton, List.sum_singleton]; show _ ≤ totc mk i + mk.count (i : Int); omega)
      (fun z hz => by
       rcases List.mem_append.1 hz with h | h
       ·exact hc z h
       ·rw [List.mem_singleton.1 h]
        exact ⟨by omega, by omega, hx⟩)
     refine ⟨r, h0, Ev.one (fun k => by rw [impl_ClassesOf.l5]) ?_, Ev.one (fun k => by rw [spec_ClassesOf.l1]) ?_⟩
     ·rw [w64_succ i (by omega)]
      exact Ev.neg (by omega) (Ev.pos (by omega) h1)
     ·rw [w64_succ i (by omega)]
      exact Ev.neg (by omega) (Ev.pos (by omega) h2)
    | succ e ihe =>
     intro j one hj ho hx
     have hjl := (hR.at j (by omega)).1
     have ho1 : one.length ≤ mk.length := by rw [ho]; exact Nat.le_trans List.count_le_length (by rw [List.length_take]; omega)
     by_cases c2 : rd mk (j : Int) = (i : Int)
     ·have hmem : rd_L2 all (j : Int) ∈ all := by rw [rd_L2_at all j (by omega)]; exact List.getElem_mem _
      obtain ⟨r, h0, h1, h2⟩ := ihe (j + 1) (one ++ [rd_L2 all (j : Int)]) (by omega) (by rw [List.length_append, List.length_singleton, count_take_succ mk j (by omega), if_pos c2, ho])
       (fun z hz => by
        rcases List.mem_append.1 hz with h | h
        ·exact hx z h
        ·rw [List.mem_singleton.1 h]; exact hmem)
      refine ⟨r, h0, Ev.one (fun k => by rw [impl_ClassesOf.l5]) ?_, Ev.one (fun k => by rw [spec_ClassesOf.l1]) ?_⟩
      ·rw [w64_succ j (by omega)]
       unfold slices_Clone_int_int.f
       exact Ev.pos (by omega) (Ev.pos (by omega) (Ev.pos (by omega) (Ev.pos c2 (Ev.pos (by omega) (Ev.bnd (Ev.pos (by omega) (Ev.now _)) (Ev.pos (by omega) h1))))))
      ·rw [w64_succ j (by omega)]
       exact Ev.pos (by omega) (Ev.pos (by omega) (Ev.pos (by omega) (Ev.pos c2 (Ev.bnd (Ev.now _) (Ev.pos (by simp only [List.length_nil]; omega) (Ev.pos (by omega) h2))))))
     ·obtain ⟨r, h0, h1, h2⟩ := ihe (j + 1) one (by omega) (by rw [count_take_succ mk j (by omega), if_neg c2, ho]; omega) hx
      refine ⟨r, h0, Ev.one (fun k => by rw [impl_ClassesOf.l5]) ?_, Ev.one (fun k => by rw [spec_ClassesOf.l1]) ?_⟩
      ·rw [w64_succ j (by omega)]
       exact Ev.pos (by omega) (Ev.pos (by omega) (Ev.pos (by omega) (Ev.neg c2 h1)))
      ·rw [w64_succ j (by omega)]
       exact Ev.pos (by omega) (Ev.pos (by omega) (Ev.pos (by omega) (Ev.neg c2 h2)))
   obtain ⟨r, h0, h1, h2⟩ := inner all.length 0 [] (by omega) (by simp) (fun x hx => by cases hx)
   refine ⟨r, h0, Ev.one (fun k => by rw [impl_ClassesOf.l4]) ?_, Ev.one (fun k => by rw [spec_ClassesOf.l0]) ?_⟩
   ·exact Ev.pos (by omega) (Ev.pos (by omega) (Ev.pos (by omega) (Ev.pos c h1)))
   ·exact Ev.pos (by omega) (Ev.pos (by omega) (Ev.pos (by omega) (Ev.pos c h2)))
  ·obtain ⟨r, h0, h1, h2⟩ := ih (i + 1) acc (by omega) (by omega) (Nat.le_trans ht (Nat.le_add_right _ _)) hc
   refine ⟨r, h0, Ev.one (fun k => by rw [impl_ClassesOf.l4]) ?_, Ev.one (fun k => by rw [spec_ClassesOf.l0]) ?_⟩
   ·rw [w64_succ i (by omega)]
    exact Ev.pos (by omega) (Ev.pos (by omega) (Ev.pos (by omega) (Ev.neg c h1)))
   ·rw [w64_succ i (by omega)]
    exact Ev.pos (by omega) (Ev.pos (by omega) (Ev.pos (by omega) (Ev.neg c h2)))
end
/-! classboth: ClassesOf of both sides -/
theorem facL_zero : ∀ gs : List Int, (facL gs 0).length = 1
 | [] => rfl
 | g :: gs => by
  show (downF (fun k => (facL gs (0 - k * g)).map fun l => k :: l) ((0 : Int) / g).toNat).length = 1
  rw [Int.zero_ediv]
  show ((facL gs (0 - 0 * g)).map fun l => (0 : Int) :: l).length = 1
  rw [List.length_map, Int.zero_mul, Int.sub_zero]
  exact facL_zero gs
theorem facS_rows (b : Bool) (g : List Int) (hS : b = true → SG g) (n : Int) : Rows (facS b g n) g.length ∨ facS b g n = [] := by
 unfold facS
 split
 ·rename_i h
  obtain ⟨hb, hn⟩ := h
  have hS := hS hb
  obtain ⟨m, rfl⟩ : ∃ m : Nat, n = (m : Int) := ⟨n.toNat, by omega⟩
  have h2 := hS.len2
  have hm := fun x => facL_mem g m x (fun y hy => (hS.rng y hy).1)
  exact .inl ⟨facL_room g hS g (fun x hx => hx) (Nat.le_refl _) m (by omega), fun x hx => ((hm x).1 hx).1, fun x hx => ((hm x).1 hx).2.1, by omega⟩
 ·exact .inr rfl
theorem facS_rows' (b : Bool) (g : List Int) (hS : b = true → SG g) (n : Int) : ∃ m, Rows (facS b g n) m := by
 rcases facS_rows b g hS n with h | h
 ·exact ⟨_, h⟩
 ·rw [h]
  exact ⟨0, by simp, by simp, by simp, by omega⟩
theorem classes_both (g : List Int) (hlen : g.length ≤ 1048576) (n : Int) : ∃ b r, (b = true ↔ SG g) ∧ Parts (facS b g n) r ∧ Ev (fun k => spec_ClassesOf.f k g n) r ∧ Ev (fun k => impl_ClassesOf.f k g n) r := by
 obtain ⟨b, b1, h1, h2⟩ := fac_both g hlen n
 obtain ⟨m, hR⟩ := facS_rows' b g b1.1 n
 have hf := hR.few
 -- the labelling that both find
 have lab : ∃ lb, Lab (LR (facS b g n)) (facS b g n).length lb := by
  apply Classical.byContradiction
  intro hno
  have bad : ∀ res : List (List (List Int)), Ev (fun k => impl_ClassesOf.l0 k (facS b g n) (List.replicate (facS b g n).length 0) ((facS b g n).length : Int) ((0 : Nat) : Int)) res := fun res =>
   classes_l0 (facS b g n) m hR res (fun cls hL => absurd ⟨cls, hL⟩ hno) (facS b g n).length 0 _ (by omega) (by simp) (fun k hk => absurd hk (by omega))
  have := Ev.uniq (bad []) (bad [[]])
  cases this
 obtain ⟨lb, hL⟩ := lab
 obtain ⟨r, h0, r1, r2⟩ := parts_both (facS b g n) m hR lb hL.len (facS b g n).length 0 [] (by omega) (by simp) (by simp) (fun c hc => by cases hc)
 refine ⟨b, r, b1, h0, ?_, ?_⟩
 ·unfold spec_ClassesOf.f
  refine Ev.bnd h1 (Ev.bnd (a := lb) ?_ r2)
  unfold spec_l14Marks.f
  exact marks_l0 (facS b g n) m hR lb (fun mk hM => hM.uniq hL) (facS b g n).length 0 [] (by omega) rfl (fun k hk => absurd hk (by omega))
 ·unfold impl_ClassesOf.f
  refine Ev.bnd h2 (Ev.pos (by omega) (Ev.pos (by omega) ?_))
  rw [Int.toNat_natCast]
  exact classes_l0 (facS b g n) m hR r (fun cls hM => by rw [hM.uniq hL]; exact r1) (facS b g n).length 0 _ (by omega) (by simp) (fun k hk => absurd hk (by omega))
end Go.Proofs.Ytlfdipnhlmjiaaa.Pure
