/- Plain lemmas (leasts): no program, no memory. -/
import Derived.Test.YtiejmnnnjmmifaaC0
import Derived.Test.YtiejmnnnjmmifaaC6
import Derived.Test.YtiejmnnnjmmifaaBsums
import Derived.Test.YtiejmnnnjmmifaaBtable
import Derived.Test.YtiejmnnnjmmifaaBbase
namespace Go.Proofs.Ytiejmnnnjmmifaa.Pure
open Go.RowKit Go.Proofs.Ytiejmnnnjmmifaa.C Go.Proofs.YtiejmnnnjmmifaaW.PrintWords Go.Proofs.YtiejmnnnjmmifaaW.PrintLast Go.Proofs.YtiejmnnnjmmifaaW.PrintMore
set_option linter.unusedVariables false
set_option linter.unusedSimpArgs false
/-! leasts: impl.leasts -/
theorem rd_set_eq (xs : List Int) (i : Nat) (v : Int) (h : i < xs.length) : rd (xs.set i v) (i : Int) = v := by
  unfold rd
  rw [Int.toNat_natCast]
  exact getD_set_eq 0 xs i v h
theorem rd_set_ne (xs : List Int) (i j : Nat) (v : Int) (h : i ≠ j) : rd (xs.set i v) (j : Int) = rd xs (j : Int) := by
  unfold rd
  rw [Int.toNat_natCast]
  exact getD_set_ne 0 xs i j v h
def tot (f : Int → Nat) (xs : List Int) : Nat := (xs.map f).sum
theorem tot_set (f : Int → Nat) (v : Int) : ∀ (xs : List Int) (i : Nat), i < xs.length → tot f (xs.set i v) + f (rd xs (i : Int)) = tot f xs + f v
  | [], _, h => by simp at h
  | x :: xs, 0, _ => by
    show tot f (v :: xs) + f x = tot f (x :: xs) + f v
    unfold tot
    rw [List.map_cons, List.map_cons, List.sum_cons, List.sum_cons]
    omega
  | x :: xs, i + 1, h => by
    have ih := tot_set f v xs i (by simpa using h)
    have e : rd (x :: xs) ((i + 1 : Nat) : Int) = rd xs (i : Int) := by
      unfold rd
      rw [Int.toNat_natCast, Int.toNat_natCast]
      rfl
    show tot f (x :: xs.set i v) + f (rd (x :: xs) ((i + 1 : Nat) : Int)) = tot f (x :: xs) + f v
    rw [e]
    unfold tot at ih ⊢
    rw [List.map_cons, List.map_cons, List.sum_cons, List.sum_cons]
    omega
def neg1 (x : Int) : Nat := if x < 0 then 1 else 0
def phi (x : Int) : Nat := if x < 0 then 5000 else x.toNat
/-- The table while it is made. -/
structure Mid (g : List Int) (a : Nat) (xs : List Int) : Prop where
  len : xs.length = a
  zero : rd xs 0 = 0
  row : ∀ i : Nat, i < a → rd xs (i : Int) = -1 ∨ (0 ≤ rd xs (i : Int) ∧ Sums g (rd xs (i : Int)) ∧ rd xs (i : Int) % (a : Int) = (i : Int))
  room : ∀ i : Nat, i < a → rd xs (i : Int) + 60 * ((tot neg1 xs : Nat) : Int) ≤ 60 * ((a : Int) - 1)
theorem Mid.le {g : List Int} {a : Nat} {xs : List Int} (h : Mid g a xs) (ha : a ≤ 60) (i : Nat) (hi : i < a) : -1 ≤ rd xs (i : Int) ∧ rd xs (i : Int) ≤ 3600 := by
  have h1 := h.room i hi
  have h2 := h.row i hi
  omega
theorem Mid.set {g : List Int} {a : Nat} {xs : List Int} (h : Mid g a xs) (ha : a ≤ 60) {r t : Nat} (hr : r < a) (ht : t < a) {x : Int} (hx : x ∈ g) (hx1 : 1 ≤ x) (hx2 : x ≤ 60)
    (hn : 0 ≤ rd xs (r : Int)) (htr : ((r : Int) + x) % (a : Int) = (t : Int)) (hlt : rd xs (t : Int) < 0 ∨ rd xs (r : Int) + x < rd xs (t : Int)) :
    Mid g a (xs.set t (rd xs (r : Int) + x)) ∧ tot phi (xs.set t (rd xs (r : Int) + x)) < tot phi xs := by
  have hl := h.len
  have hb := h.le ha r hr
  have hbt := h.le ha t ht
  have hroom := h.room r hr
  have hroomt := h.room t ht
  have n1 := tot_set neg1 (rd xs (r : Int) + x) xs t (by omega)
  have p1 := tot_set phi (rd xs (r : Int) + x) xs t (by omega)
  have e1 : neg1 (rd xs (r : Int) + x) = 0 := by unfold neg1; rw [if_neg (by omega)]
  have e2 : phi (rd xs (r : Int) + x) = (rd xs (r : Int) + x).toNat := by unfold phi; rw [if_neg (by omega)]
  have ht0 : t ≠ 0 := by
    intro e
    subst e
    have hz := h.zero
    have : rd xs ((0 : Nat) : Int) = 0 := hz
    omega
  have hmono : ∀ i : Nat, i < a → rd (xs.set t (rd xs (r : Int) + x)) (i : Int) + 60 * ((tot neg1 (xs.set t (rd xs (r : Int) + x)) : Nat) : Int) ≤ 60 * ((a : Int) - 1) := by
    intro i hi
    have hroomi := h.room i hi
    by_cases c : rd xs (t : Int) < 0
    · have e3 : neg1 (rd xs (t : Int)) = 1 := by unfold neg1; rw [if_pos c]
      by_cases e : i = t
      · subst e; rw [rd_set_eq _ _ _ (by omega)]; omega
      · rw [rd_set_ne _ _ _ _ (fun q => e q.symm)]; omega
    · have e3 : neg1 (rd xs (t : Int)) = 0 := by unfold neg1; rw [if_neg c]
      by_cases e : i = t
      · subst e; rw [rd_set_eq _ _ _ (by omega)]; omega
      · rw [rd_set_ne _ _ _ _ (fun q => e q.symm)]; omega
  refine ⟨⟨by rw [List.length_set]; exact hl, ?_, ?_, hmono⟩, ?_⟩
  · have := rd_set_ne xs t 0 (rd xs (r : Int) + x) ht0
    exact this.trans h.zero
  · intro i hi
    by_cases e : i = t
    · subst e
      rw [rd_set_eq _ _ _ (by omega)]
      rcases h.row r hr with h1 | ⟨_, h2, h3⟩
      · omega
      · refine .inr ⟨by omega, h2.add hx, ?_⟩
        rw [← htr, ← Int.emod_add_emod, h3]
    · rw [rd_set_ne _ _ _ _ (fun q => e q.symm)]
      exact h.row i hi
  · by_cases c : rd xs (t : Int) < 0
    · have e3 : phi (rd xs (t : Int)) = 5000 := by unfold phi; rw [if_pos c]
      omega
    · have e3 : phi (rd xs (t : Int)) = (rd xs (t : Int)).toNat := by unfold phi; rw [if_neg c]
      omega
def shut1 (a : Nat) (xs : List Int) (r : Nat) (x : Int) : Prop := 0 ≤ rd xs (((r : Int) + x) % (a : Int)) ∧ rd xs (((r : Int) + x) % (a : Int)) ≤ rd xs (r : Int) + x
def shutR (g : List Int) (a : Nat) (xs : List Int) (r : Nat) : Prop := rd xs (r : Int) < 0 ∨ ∀ x ∈ g, shut1 a xs r x
/-- Of each remainder the least sum with it. -/
structure Least (g : List Int) (a : Nat) (xs : List Int) : Prop where
  len : xs.length = a
  row : ∀ i : Nat, i < a → (rd xs (i : Int) = -1 ∧ ∀ n, Sums g n → n % (a : Int) ≠ (i : Int)) ∨
    (0 ≤ rd xs (i : Int) ∧ rd xs (i : Int) ≤ 3600 ∧ Sums g (rd xs (i : Int)) ∧ rd xs (i : Int) % (a : Int) = (i : Int) ∧ ∀ n, Sums g n → n % (a : Int) = (i : Int) → rd xs (i : Int) ≤ n)
theorem Least.of {g : List Int} {a : Nat} {xs : List Int} (h : Mid g a xs) (ha1 : 1 ≤ a) (ha : a ≤ 60) (hs : ∀ r : Nat, r < a → shutR g a xs r) : Least g a xs := by
  have key : ∀ n, Sums g n → 0 ≤ rd xs (n % (a : Int)) ∧ rd xs (n % (a : Int)) ≤ n := by
    intro n hn
    refine Sums.ind (P := fun n => 0 ≤ rd xs (n % (a : Int)) ∧ rd xs (n % (a : Int)) ≤ n) ?_ ?_ hn
    · have e : (0 : Int) % (a : Int) = 0 := by simp
      have hz := h.zero
      simp only [e, hz]
      omega
    · intro x n hx _ ⟨h1, h2⟩
      obtain ⟨r, hr⟩ : ∃ r : Nat, n % (a : Int) = (r : Int) := ⟨(n % (a : Int)).toNat, by have := Int.emod_nonneg n (show (a : Int) ≠ 0 by omega); omega⟩
      have hra : r < a := by have := Int.emod_lt_of_pos n (show (0 : Int) < (a : Int) by omega); omega
      rw [hr] at h1 h2
      rcases hs r hra with h3 | h3
      · omega
      · have h4 := h3 x hx
        unfold shut1 at h4
        rw [← hr, Int.emod_add_emod] at h4
        rw [hr] at h4
        exact ⟨h4.1, by omega⟩
  refine ⟨h.len, fun i hi => ?_⟩
  have hb := h.le ha i hi
  rcases h.row i hi with h1 | ⟨h1, h2, h3⟩
  · refine .inl ⟨h1, fun n hn e => ?_⟩
    have := key n hn
    rw [e] at this
    omega
  · refine .inr ⟨h1, hb.2, h2, h3, fun n hn e => ?_⟩
    have := key n hn
    rw [e] at this
    exact this.2
section
variable (g : List Int) (a : Nat) (hg : ∀ x ∈ g, 1 ≤ x ∧ x ≤ 60) (hlen : g.length ≤ 1048576) (ha1 : 1 ≤ a) (ha : a ≤ 60)
include hg hlen ha1 ha
theorem impl_leasts_l3 (m : Nat) (r : Nat) (hr : r < a) (n : Int)
    (next : ∀ (xs : List Int) (c : Bool), Mid g a xs → tot phi xs ≤ m → (c = true → tot phi xs < m) → (c = false → ∀ q : Nat, q < r + 1 → shutR g a xs q) →
      ∃ res, Least g a res ∧ Ev (fun k => impl_leasts.l2 k g (a : Int) xs c (a : Int) ((r + 1 : Nat) : Int)) res) :
    ∀ (d j : Nat) (xs : List Int) (c : Bool), j + d = g.length → Mid g a xs → rd xs (r : Int) = n → 0 ≤ n → tot phi xs ≤ m → (c = true → tot phi xs < m) →
      (c = false → (∀ q : Nat, q < r → shutR g a xs q) ∧ ∀ x ∈ g.take j, shut1 a xs r x) →
      ∃ res, Least g a res ∧ Ev (fun k => impl_leasts.l3 k g (a : Int) xs c (r : Int) n (a : Int) (r : Int) g (g.length : Int) (j : Int)) res := by
  intro d
  induction d with
  | zero =>
    intro j xs c hj hM hrn hn hm hc hs
    obtain ⟨res, r1, r2⟩ := next xs c hM hm hc (fun e q hq => by
      have hs := hs e
      by_cases e : q = r
      · subst e
        rw [List.take_of_length_le (by omega)] at hs
        exact .inr hs.2
      · exact hs.1 q (by omega))
    refine ⟨res, r1, Ev.one (fun k => by rw [impl_leasts.l3]) ?_⟩
    rw [w64_succ r (by omega)]
    exact Ev.neg (by omega) r2
  | succ d ih =>
    intro j xs c hj hM hrn hn hm hc hs
    have hjl : j < g.length := by omega
    have hgj := hg g[j] (List.getElem_mem hjl)
    have hbr := hM.le ha r hr
    have hlenx := hM.len
    obtain ⟨t, ht⟩ : ∃ t : Nat, ((r : Int) + g[j]) % (a : Int) = (t : Int) := ⟨(((r : Int) + g[j]) % (a : Int)).toNat, by have := Int.emod_nonneg ((r : Int) + g[j]) (show (a : Int) ≠ 0 by omega); omega⟩
    have hta : t < a := by have := Int.emod_lt_of_pos ((r : Int) + g[j]) (show (0 : Int) < (a : Int) by omega); omega
    have e1 : Int.tmod (wrap64 ((r : Int) + g[j])) (a : Int) = (t : Int) := by
      rw [w64_of (by omega) (by omega), Int.tmod_eq_emod_of_nonneg (by omega), ht]
    have e2 : wrap64 (n + g[j]) = n + g[j] := w64_of (by omega) (by omega)
    have htake : g.take (j + 1) = g.take j ++ [g[j]] := by rw [List.take_succ_eq_append_getElem hjl]
    by_cases hlt : rd xs (t : Int) < 0 ∨ n + g[j] < rd xs (t : Int)
    · obtain ⟨M1, M2⟩ := hM.set ha hr hta (List.getElem_mem hjl) hgj.1 hgj.2 (by omega) ht (by rw [hrn]; exact hlt)
      rw [hrn] at M1 M2
      have htr : t ≠ r := by
        intro e
        subst e
        omega
      obtain ⟨res, r1, r2⟩ := ih (j + 1) (xs.set t (n + g[j])) true (by omega) M1 (by rw [rd_set_ne _ _ _ _ htr]; exact hrn) hn (by omega) (fun _ => by omega) (fun e => by cases e)
      refine ⟨res, r1, Ev.one (fun k => by rw [impl_leasts.l3]) ?_⟩
      rw [rd_at g j hjl, e1, e2, w64_succ j (by omega), Int.toNat_natCast]
      refine Ev.pos (by omega) (Ev.pos (by omega) (Ev.pos (by omega) (Ev.neg (by omega) (Ev.pos (by omega) (Ev.pos (by omega) ?_)))))
      by_cases c1 : rd xs (t : Int) < 0
      · exact Ev.pos c1 r2
      · exact Ev.neg c1 (Ev.pos (by omega) r2)
    · obtain ⟨res, r1, r2⟩ := ih (j + 1) xs c (by omega) hM hrn hn hm hc (fun e => ⟨(hs e).1, fun x hx => by
        rw [htake] at hx
        rcases List.mem_append.1 hx with hx | hx
        · exact (hs e).2 x hx
        · obtain rfl := List.mem_singleton.1 hx
          unfold shut1
          rw [ht]
          omega⟩)
      refine ⟨res, r1, Ev.one (fun k => by rw [impl_leasts.l3]) ?_⟩
      rw [rd_at g j hjl, e1, e2, w64_succ j (by omega)]
      exact Ev.pos (by omega) (Ev.pos (by omega) (Ev.pos (by omega) (Ev.neg (by omega) (Ev.pos (by omega) (Ev.pos (by omega) (Ev.neg (by omega) (Ev.neg (by omega) r2)))))))
theorem impl_leasts_l2 (m : Nat)
    (again : ∀ (xs : List Int), Mid g a xs → tot phi xs < m → ∃ res, Least g a res ∧ Ev (fun k => impl_leasts.l1 k g (a : Int) xs true) res) :
    ∀ (d r : Nat) (xs : List Int) (c : Bool), r + d = a → Mid g a xs → tot phi xs ≤ m → (c = true → tot phi xs < m) → (c = false → ∀ q : Nat, q < r → shutR g a xs q) →
      ∃ res, Least g a res ∧ Ev (fun k => impl_leasts.l2 k g (a : Int) xs c (a : Int) (r : Int)) res := by
  intro d
  induction d with
  | zero =>
    intro r xs c hr hM hm hc hs
    cases c with
    | true =>
      obtain ⟨res, r1, r2⟩ := again xs hM (hc rfl)
      refine ⟨res, r1, Ev.one (fun k => by rw [impl_leasts.l2]) ?_⟩
      exact Ev.neg (by omega) r2
    | false =>
      refine ⟨xs, Least.of hM ha1 ha (fun q hq => hs rfl q (by omega)), Ev.one (fun k => by rw [impl_leasts.l2]) (Ev.neg (by omega) (Ev.one (fun k => by rw [impl_leasts.l1]) ?_))⟩
      exact Ev.neg (by simp) (Ev.now _)
  | succ d ih =>
    intro r xs c hr hM hm hc hs
    have hra : r < a := by omega
    have hlenx := hM.len
    by_cases hn : rd xs (r : Int) < 0
    · obtain ⟨res, r1, r2⟩ := ih (r + 1) xs c (by omega) hM hm hc (fun e q hq => by
        by_cases eq : q = r
        · subst eq; exact .inl hn
        · exact hs e q (by omega))
      refine ⟨res, r1, Ev.one (fun k => by rw [impl_leasts.l2]) ?_⟩
      rw [w64_succ r (by omega)]
      exact Ev.pos (by omega) (Ev.pos (by omega) (Ev.pos (by omega) (Ev.pos hn r2)))
    · obtain ⟨res, r1, r2⟩ := impl_leasts_l3 g a hg hlen ha1 ha m r hra (rd xs (r : Int)) (fun xs c h1 h2 h3 h4 => ih (r + 1) xs c (by omega) h1 h2 h3 h4) g.length 0 xs c (by omega) hM rfl (by omega) hm hc
        (fun e => ⟨hs e, fun x hx => by simp at hx⟩)
      refine ⟨res, r1, Ev.one (fun k => by rw [impl_leasts.l2]) ?_⟩
      exact Ev.pos (by omega) (Ev.pos (by omega) (Ev.pos (by omega) (Ev.neg hn r2)))
theorem impl_leasts_l1 : ∀ (m : Nat) (xs : List Int), Mid g a xs → tot phi xs = m → ∃ res, Least g a res ∧ Ev (fun k => impl_leasts.l1 k g (a : Int) xs true) res := by
  intro m
  induction m using Nat.strongRecOn with
  | ind m ih =>
    intro xs hM hm
    have hlenx := hM.len
    obtain ⟨res, r1, r2⟩ := impl_leasts_l2 g a hg hlen ha1 ha m (fun xs h1 h2 => ih _ h2 xs h1 rfl) a 0 xs false (by omega) hM (by omega) (fun e => by cases e) (fun _ q hq => by omega)
    refine ⟨res, r1, Ev.one (fun k => by rw [impl_leasts.l1]) ?_⟩
    rw [hlenx]
    exact Ev.pos rfl r2
omit hg hlen ha1 in
theorem impl_leasts_l0 : ∀ (d i : Nat) (xs : List Int), i + d = a → xs.length = a → (∀ j : Nat, j < i → rd xs (j : Int) = -1) → (res : List Int) →
    (∀ ys : List Int, ys.length = a → (∀ j : Nat, j < a → rd ys (j : Int) = -1) → Ev (fun k => impl_leasts.l1 k g (a : Int) (ys.set 0 0) true) res) → 1 ≤ a →
    Ev (fun k => impl_leasts.l0 k g (a : Int) xs (a : Int) (i : Int)) res := by
  intro d
  induction d with
  | zero =>
    intro i xs hi hx hs res next h1
    refine Ev.one (fun k => by rw [impl_leasts.l0]) ?_
    exact Ev.neg (by omega) (Ev.pos (by omega) (next xs hx (fun j hj => hs j (by omega))))
  | succ d ih =>
    intro i xs hi hx hs res next h1
    refine Ev.one (fun k => by rw [impl_leasts.l0]) ?_
    rw [w64_succ i (by omega), Int.toNat_natCast]
    refine Ev.pos (by omega) (Ev.pos (by omega) (Ev.pos (by omega) (ih (i + 1) _ (by omega) (by rw [List.length_set]; exact hx) (fun j hj => ?_) res next h1)))
    by_cases e : j = i
    · subst e; rw [rd_set_eq _ _ _ (by omega)]
    · rw [rd_set_ne _ _ _ _ (by omega)]; exact hs j (by omega)
theorem impl_leasts_ev : ∃ res, Least g a res ∧ Ev (fun k => impl_leasts.f k g (a : Int)) res := by
  -- the table at the begin of the first round
  have first : ∀ ys : List Int, ys.length = a → (∀ j : Nat, j < a → rd ys (j : Int) = -1) → ys.set 0 0 = (List.replicate a (-1)).set 0 (0 : Int) := by
    intro ys hl hy
    congr 1
    apply List.ext_getElem
    · rw [hl, List.length_replicate]
    · intro j h1 h2
      rw [List.getElem_replicate]
      have := hy j (by omega)
      rwa [rd_at _ _ h1] at this
  have hrep : ∀ j : Nat, j < a → rd (List.replicate a (-1)) (j : Int) = -1 := fun j hj => by rw [rd_at _ _ (by rw [List.length_replicate]; exact hj), List.getElem_replicate]
  have hM : Mid g a ((List.replicate a (-1)).set 0 (0 : Int)) := by
    have hl : (List.replicate a (-1 : Int)).length = a := List.length_replicate
    have hz : rd ((List.replicate a (-1)).set 0 (0 : Int)) ((0 : Nat) : Int) = 0 := rd_set_eq _ 0 0 (by omega)
    have ht := tot_set neg1 0 (List.replicate a (-1)) 0 (by omega)
    have ht2 : tot neg1 (List.replicate a (-1)) = a := by
      unfold tot
      rw [List.map_replicate]
      simp [neg1]
    have e1 : neg1 0 = 0 := rfl
    have e2 : neg1 (rd (List.replicate a (-1)) ((0 : Nat) : Int)) = 1 := by rw [hrep 0 (by omega)]; rfl
    refine ⟨by rw [List.length_set, hl], hz, fun i hi => ?_, fun i hi => ?_⟩
    · by_cases e : i = 0
      · subst e
        rw [hz]
        exact .inr ⟨by omega, Sums.zero g, by simp⟩
      · rw [rd_set_ne _ _ _ _ (fun q => e q.symm)]
        exact .inl (hrep i hi)
    · by_cases e : i = 0
      · subst e
        rw [hz]
        omega
      · rw [rd_set_ne _ _ _ _ (fun q => e q.symm), hrep i hi]
        omega
  obtain ⟨res, r1, r2⟩ := impl_leasts_l1 g a hg hlen ha1 ha _ _ hM rfl
  refine ⟨res, r1, ?_⟩
  unfold impl_leasts.f
  rw [Int.toNat_natCast]
  refine Ev.pos (by omega) (Ev.pos (by omega) (Ev.some ?_))
  rw [List.length_replicate]
  exact impl_leasts_l0 g a ha a 0 (List.replicate a 0) (by omega) List.length_replicate (fun j hj => by omega) res (fun ys h1 h2 => by rw [first ys h1 h2]; exact r2) ha1
end
end Go.Proofs.Ytiejmnnnjmmifaa.Pure
