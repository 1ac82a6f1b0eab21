/- Plain lemmas (issg): no program, no memory. -/
import Derived.Test.YtiejmnnnjmmifaaC0
import Derived.Test.YtiejmnnnjmmifaaC2
import Derived.Test.YtiejmnnnjmmifaaC3
import Derived.Test.YtiejmnnnjmmifaaC4
import Derived.Test.YtiejmnnnjmmifaaC6
import Derived.Test.YtiejmnnnjmmifaaC7
import Derived.Test.YtiejmnnnjmmifaaBwithin
import Derived.Test.YtiejmnnnjmmifaaBallwithin
import Derived.Test.YtiejmnnnjmmifaaBsums
import Derived.Test.YtiejmnnnjmmifaaBtable
import Derived.Test.YtiejmnnnjmmifaaBgcd
import Derived.Test.YtiejmnnnjmmifaaBasc
import Derived.Test.YtiejmnnnjmmifaaBleasts
import Derived.Test.YtiejmnnnjmmifaaBsortspec
import Derived.Test.YtiejmnnnjmmifaaBminimal
import Derived.Test.YtiejmnnnjmmifaaBbase
namespace Go.Proofs.Ytiejmnnnjmmifaa.Pure
open Go.RowKit Go.Proofs.Ytiejmnnnjmmifaa.C Go.Proofs.YtiejmnnnjmmifaaW.PrintWords Go.Proofs.YtiejmnnnjmmifaaW.PrintLast Go.Proofs.YtiejmnnnjmmifaaW.PrintMore
set_option linter.unusedVariables false
set_option linter.unusedSimpArgs false
/-! issg: which lists are semigroups; spec.IsSemigroup and impl.IsSemigroup -/
theorem gcdS_nat (x y : Nat) (hx : x ≤ 1000000) (hy : y ≤ 1000000) : gcdS (x : Int) (y : Int) = ((Nat.gcd x y : Nat) : Int) := by
  unfold gcdS
  rw [if_pos ⟨by omega, by omega⟩]
  rfl
/-- From each number one comes to the residue of n + d, and to that of n - d. -/
structure Way (g : List Int) (a : Int) (d : Int) : Prop where
  up : ∀ n, (∃ m, Sums g m ∧ m % a = n % a) → ∃ m, Sums g m ∧ m % a = (n + d) % a
  down : ∀ n, (∃ m, Sums g m ∧ m % a = n % a) → ∃ m, Sums g m ∧ m % a = (n - d) % a
theorem Way.zero (g : List Int) (a : Int) : Way g a 0 := ⟨fun n h => by rwa [Int.add_zero], fun n h => by rwa [Int.sub_zero]⟩
theorem Way.add {g : List Int} {a d e : Int} (h : Way g a d) (k : Way g a e) : Way g a (d + e) :=
  ⟨fun n hn => by rw [← Int.add_assoc]; exact k.up _ (h.up n hn), fun n hn => by rw [show n - (d + e) = (n - d) - e from by omega]; exact k.down _ (h.down n hn)⟩
theorem Way.neg {g : List Int} {a d : Int} (h : Way g a d) : Way g a (-d) :=
  ⟨fun n hn => by have := h.down n hn; rwa [show n - d = n + -d from by omega] at this, fun n hn => by have := h.up n hn; rwa [show n + d = n - -d from by omega] at this⟩
theorem Way.mul {g : List Int} {a d : Int} (h : Way g a d) (k : Nat) : Way g a (d * (k : Int)) := by
  induction k with
  | zero => rw [show d * ((0 : Nat) : Int) = 0 from by simp]; exact Way.zero g a
  | succ k ih => rw [show d * ((k + 1 : Nat) : Int) = d * (k : Int) + d from by rw [Int.natCast_add, Int.mul_add]; simp]; exact ih.add h
theorem Way.mem {g : List Int} {a : Nat} {x : Int} (ha : 1 ≤ a) (hx : x ∈ g) : Way g (a : Int) x := by
  have up : ∀ n, (∃ m, Sums g m ∧ m % (a : Int) = n % (a : Int)) → ∃ m, Sums g m ∧ m % (a : Int) = (n + x) % (a : Int) := by
    rintro n ⟨m, h1, h2⟩
    exact ⟨m + x, h1.add hx, by rw [Int.add_emod, h2, ← Int.add_emod]⟩
  refine ⟨up, fun n hn => ?_⟩
  obtain ⟨m, h1, h2⟩ := hn
  refine ⟨m + ((a - 1 : Nat) : Int) * x, h1.both (Sums.times hx (a - 1)), ?_⟩
  have e : n - x + (a : Int) * x = n + ((a - 1 : Nat) : Int) * x := by
    obtain ⟨b, rfl⟩ : ∃ b, a = b + 1 := ⟨a - 1, by omega⟩
    rw [Nat.add_sub_cancel, Int.natCast_add, Int.add_mul]
    simp
    omega
  rw [Int.add_emod, h2, ← Int.add_emod, ← e, Int.add_mul_emod_self_left]
theorem Way.gcd {g : List Int} {a : Int} (x y : Nat) : Way g a (x : Int) → Way g a (y : Int) → Way g a ((Nat.gcd x y : Nat) : Int) := by
  induction x, y using Nat.gcd.induction with
  | H0 y => intro _ h; rw [Nat.gcd_zero_left]; exact h
  | H1 x y hx ih =>
    intro h1 h2
    rw [Nat.gcd_rec]
    refine ih ?_ h1
    have e : ((y % x : Nat) : Int) = (y : Int) + -((x : Int) * ((y / x : Nat) : Int)) := by
      have := Nat.mod_add_div y x
      rw [← Int.natCast_mul]
      omega
    rw [e]
    exact h2.add (h1.mul (y / x)).neg
theorem Way.list {g : List Int} {a : Int} : ∀ (l : List Int) (x : Nat), x ≤ 1000000 → (∀ y ∈ l, 1 ≤ y ∧ y ≤ 1000000) → Way g a (x : Int) → (∀ y ∈ l, Way g a y) → Way g a (l.foldl gcdS (x : Int))
  | [], x, _, _, h, _ => h
  | y :: l, x, hx, hl, h, hw => by
    have hy := hl y (List.mem_cons_self ..)
    obtain ⟨z, rfl⟩ : ∃ z : Nat, y = (z : Int) := ⟨y.toNat, by omega⟩
    rw [List.foldl_cons, gcdS_nat x z hx (by omega)]
    refine Way.list l _ ?_ (fun w hw' => hl w (List.mem_cons_of_mem _ hw')) (Way.gcd x z h (hw _ (List.mem_cons_self ..))) (fun w hw' => hw w (List.mem_cons_of_mem _ hw'))
    exact Nat.le_trans (Nat.gcd_le_right x (by omega)) (by omega)
theorem residues (g : List Int) (a : Nat) (ha : 1 ≤ a) (hg : ∀ x ∈ g, 1 ≤ x ∧ x ≤ 60) (h1 : gcdL g = 1) (i : Nat) : ∃ m, Sums g m ∧ m % (a : Int) = (i : Int) % (a : Int) := by
  have w : Way g (a : Int) 1 := by
    rw [← h1]
    exact Way.list g 0 (by omega) (fun y hy => by have := hg y hy; omega) (Way.zero g a) (fun y hy => Way.mem ha hy)
  induction i with
  | zero => exact ⟨0, Sums.zero g, by simp⟩
  | succ i ih => exact w.up _ ih
/-- The lists that generate a semigroup of this size. -/
structure SG (g : List Int) : Prop where
  len1 : 1 ≤ g.length
  len2 : g.length ≤ 12
  rng : ∀ x ∈ g, 1 ≤ x ∧ x ≤ 60
  up : asc g
  gcd1 : gcdL g = 1
  free : ∀ k, k < g.length → kept g k
  ends : ∀ n : Int, 200 ≤ n → Sums g n
theorem spec_l3Gens_l0 (l : List Int) (hl : l.length ≤ 1048576) : ∀ (d i : Nat), i + d = l.length → Ev (fun k => spec_l3Gens.l0 k l (i : Int)) (allIn (l.drop i) 1 60 && decide ((1 : Int) ≤ (l.length : Int) ∧ (l.length : Int) ≤ 20)) := by
  intro d
  induction d with
  | zero =>
    intro i hi
    rw [List.drop_eq_nil_of_le (by omega)]
    refine Ev.one (fun k => by rw [spec_l3Gens.l0]) ?_
    exact Ev.neg (by omega) (Ev.bnd (spec_l1In_ev _ _ _) (Ev.now _))
  | succ d ih =>
    intro i hi
    rw [List.drop_eq_getElem_cons (show i < l.length by omega)]
    refine Ev.one (fun k => by rw [spec_l3Gens.l0]) ?_
    rw [rd_at l i (by omega), w64_succ i (by omega)]
    refine Ev.pos (by omega) (Ev.pos (by omega) (Ev.bnd (spec_l1In_ev _ _ _) ?_))
    by_cases h : (1 : Int) ≤ l[i] ∧ l[i] ≤ 60
    · rw [allIn_cons _ _ _ _ h]
      exact Ev.pos (decide_eq_true h) (ih (i + 1) (by omega))
    · rw [allIn_cons_not _ _ _ _ h]
      exact Ev.neg (by rw [decide_eq_false h]; decide) (Ev.now _)
theorem spec_l3Gens_ev (l : List Int) (hl : l.length ≤ 1048576) : Ev (fun k => spec_l3Gens.f k l) (allIn l 1 60 && decide ((1 : Int) ≤ (l.length : Int) ∧ (l.length : Int) ≤ 20)) := by
  unfold spec_l3Gens.f
  exact spec_l3Gens_l0 l hl l.length 0 (by omega)
theorem impl_usable_ev (l : List Int) (hl : l.length ≤ 1048576) : Ev (fun k => impl_usable.f k l) (allIn l 1 60 && decide ((1 : Int) ≤ (l.length : Int) ∧ (l.length : Int) ≤ 20)) := by
  unfold impl_usable.f
  refine Ev.bnd (impl_within_ev _ _ _) ?_
  by_cases h : (1 : Int) ≤ (l.length : Int) ∧ (l.length : Int) ≤ 20
  · rw [decide_eq_true h, Bool.and_true]
    exact Ev.pos rfl (Ev.bnd (impl_allWithin_ev l 1 60 (by omega)) (Ev.now _))
  · rw [decide_eq_false h, Bool.and_false]
    exact Ev.neg (by decide) (Ev.now _)
theorem spec_l2Same_l0 (a b : List Int) (hab : a.length = b.length) (hl : a.length ≤ 1048576) : ∀ (d i : Nat), i + d = a.length → ∃ r, (r = true ↔ a.drop i = b.drop i) ∧ Ev (fun k => spec_l2Same.l0 k a b (i : Int)) r := by
  intro d
  induction d with
  | zero =>
    intro i hi
    refine ⟨true, by rw [List.drop_eq_nil_of_le (show a.length ≤ i by omega), List.drop_eq_nil_of_le (show b.length ≤ i by omega)]; simp, Ev.one (fun k => by rw [spec_l2Same.l0]) ?_⟩
    exact Ev.neg (by omega) (Ev.now _)
  | succ d ih =>
    intro i hi
    rw [List.drop_eq_getElem_cons (show i < a.length by omega), List.drop_eq_getElem_cons (show i < b.length by omega)]
    by_cases h : a[i] = b[i]
    · obtain ⟨r, r1, r2⟩ := ih (i + 1) (by omega)
      refine ⟨r, by rw [r1, h, List.cons.injEq]; simp, Ev.one (fun k => by rw [spec_l2Same.l0]) ?_⟩
      rw [rd_at a i (by omega), rd_at b i (by omega), w64_succ i (by omega)]
      exact Ev.pos (by omega) (Ev.pos (by omega) (Ev.pos (by omega) (Ev.pos h r2)))
    · refine ⟨false, ⟨(fun e => by cases e), fun e => absurd (List.cons.inj e).1 h⟩, Ev.one (fun k => by rw [spec_l2Same.l0]) ?_⟩
      rw [rd_at a i (by omega), rd_at b i (by omega)]
      exact Ev.pos (by omega) (Ev.pos (by omega) (Ev.pos (by omega) (Ev.neg h (Ev.now _))))
theorem spec_l2Same_ev (a b : List Int) (hl : a.length ≤ 1048576) : ∃ r, (r = true ↔ a = b) ∧ Ev (fun k => spec_l2Same.f k a b) r := by
  unfold spec_l2Same.f
  by_cases h : a.length = b.length
  · obtain ⟨r, r1, r2⟩ := spec_l2Same_l0 a b h hl a.length 0 (by omega)
    exact ⟨r, by rw [r1]; simp, Ev.pos (by omega) r2⟩
  · exact ⟨false, ⟨(fun e => by cases e), fun e => absurd (congrArg List.length e) h⟩, Ev.neg (by omega) (Ev.now _)⟩
theorem spec_l3Ends_l0 (g : List Int) (a : Nat) (h0 : 0 < g.length) (hg0 : rd g 0 = (a : Int)) (ha : 1 ≤ a ∧ a ≤ 60) (t : List Bool) (ht : t.length = 261) (hs : ∀ m : Nat, m ≤ 260 → (t.getD m false = true ↔ Sums g (m : Int))) :
    ∀ (d n : Nat), n + d = 200 + a → 200 ≤ n → ∃ r, (r = true ↔ ∀ m : Nat, n ≤ m → m < 200 + a → Sums g (m : Int)) ∧ Ev (fun k => spec_l3Ends.l0 k g t (n : Int)) r := by
  intro d
  have e1 : wrap64 (200 + (a : Int)) = 200 + (a : Int) := w64_of (by omega) (by omega)
  induction d with
  | zero =>
    intro n hn hn2
    refine ⟨true, ⟨fun _ m h1 h2 => by omega, fun _ => rfl⟩, Ev.one (fun k => by rw [spec_l3Ends.l0]) ?_⟩
    rw [hg0, e1]
    exact Ev.pos (by omega) (Ev.neg (by omega) (Ev.now _))
  | succ d ih =>
    intro n hn hn2
    by_cases h : t.getD n false = true
    · obtain ⟨r, r1, r2⟩ := ih (n + 1) (by omega) (by omega)
      refine ⟨r, ?_, Ev.one (fun k => by rw [spec_l3Ends.l0]) ?_⟩
      · rw [r1]
        exact ⟨fun q m h1 h2 => by
          by_cases e : m = n
          · subst e; exact (hs m (by omega)).1 h
          · exact q m (by omega) h2, fun q m h1 h2 => q m (by omega) h2⟩
      · rw [hg0, e1, rdOf_at, w64_succ n (by omega)]
        exact Ev.pos (by omega) (Ev.pos (by omega) (Ev.pos (by omega) (Ev.pos (by omega) (Ev.pos h r2))))
    · refine ⟨false, ⟨(fun e => by cases e), fun q => absurd ((hs n (by omega)).2 (q n (by omega) (by omega))) h⟩, Ev.one (fun k => by rw [spec_l3Ends.l0]) ?_⟩
      rw [hg0, e1, rdOf_at]
      exact Ev.pos (by omega) (Ev.pos (by omega) (Ev.pos (by omega) (Ev.pos (by omega) (Ev.neg h (Ev.now _)))))
theorem ends_iff (g : List Int) (a : Nat) (h0 : 0 < g.length) (hg0 : rd g 0 = (a : Int)) (ha : 1 ≤ a) : (∀ m : Nat, 200 ≤ m → m < 200 + a → Sums g (m : Int)) ↔ ∀ n : Int, 200 ≤ n → Sums g n := by
  have hmem : (a : Int) ∈ g := by
    have : rd g ((0 : Nat) : Int) = g[0] := rd_at g 0 h0
    rw [← hg0]
    exact this ▸ List.getElem_mem h0
  constructor
  · intro h n hn
    obtain ⟨q, rfl⟩ : ∃ q : Nat, n = 200 + (q : Int) := ⟨(n - 200).toNat, by omega⟩
    have e : (200 : Int) + (q : Int) = ((200 + q % a : Nat) : Int) + ((q / a : Nat) : Int) * (a : Int) := by
      have := Nat.mod_add_div q a
      rw [← Int.natCast_mul, Nat.mul_comm]
      omega
    rw [e]
    exact (h (200 + q % a) (by omega) (by have := Nat.mod_lt q (show 0 < a by omega); omega)).both (Sums.times hmem _)
  · intro h m h1 _
    exact h m (by omega)
theorem first_of (g : List Int) (h0 : 0 < g.length) (hr : ∀ x ∈ g, 1 ≤ x ∧ x ≤ 60) : ∃ a : Nat, rd g 0 = (a : Int) ∧ 1 ≤ a ∧ a ≤ 60 ∧ (a : Int) ∈ g := by
  have e : rd g ((0 : Nat) : Int) = g[0] := rd_at g 0 h0
  have h := hr g[0] (List.getElem_mem h0)
  refine ⟨g[0].toNat, ?_, by omega, by omega, ?_⟩
  · show rd g ((0 : Nat) : Int) = _
    rw [e]; omega
  · rw [show ((g[0].toNat : Nat) : Int) = g[0] from by omega]
    exact List.getElem_mem h0
theorem spec_l3Ends_ev (g : List Int) (h0 : 0 < g.length) (hlen : g.length ≤ 1048576) (hr : ∀ x ∈ g, 1 ≤ x ∧ x ≤ 60) : ∃ r, (r = true ↔ ∀ n : Int, 200 ≤ n → Sums g n) ∧ Ev (fun k => spec_l3Ends.f k g) r := by
  obtain ⟨a, ha, ha1, ha2, _⟩ := first_of g h0 hr
  obtain ⟨t, t1, t2, t3⟩ := spec_l3Table_ev g 260 (fun x hx => (hr x hx).1) hlen (by omega)
  obtain ⟨r, r1, r2⟩ := spec_l3Ends_l0 g a h0 ha ⟨ha1, ha2⟩ t t1 t2 a 200 (by omega) (Nat.le_refl _)
  refine ⟨r, r1.trans (ends_iff g a h0 ha ha1), ?_⟩
  unfold spec_l3Ends.f
  exact Ev.bnd t3 r2
theorem spec_IsSemigroup_ev (g : List Int) (hlen : g.length ≤ 1048576) : ∃ b, (b = true ↔ SG g) ∧ Ev (fun k => spec_IsSemigroup.f k g) b := by
  unfold spec_IsSemigroup.f
  by_cases h1 : allIn g 1 60 = true ∧ ((1 : Int) ≤ (g.length : Int) ∧ (g.length : Int) ≤ 20)
  · have hr := (allIn_iff g 1 60).1 h1.1
    have e1 : (allIn g 1 60 && decide ((1 : Int) ≤ (g.length : Int) ∧ (g.length : Int) ≤ 20)) = true := by rw [h1.1, decide_eq_true h1.2]; rfl
    by_cases h2 : (g.length : Int) ≤ 12
    · obtain ⟨b3, b3i, b3e⟩ := spec_IsAscending_ev g hlen
      cases b3 with
      | false => exact ⟨false, ⟨(fun e => by cases e), fun e => by have := b3i.2 e.up; cases this⟩, Ev.bnd (spec_l3Gens_ev g hlen) (Ev.pos e1 (Ev.pos h2 (Ev.bnd b3e (Ev.neg (by decide) (Ev.now _)))))⟩
      | true =>
        have hup := b3i.1 rfl
        by_cases h4 : gcdL g = 1
        · obtain ⟨s, s1, s2⟩ := spec_l3Minimal_ev g hlen (fun x hx => by have := hr x hx; omega)
          obtain rfl : s = g := asc_uniq s g s1.1 hup s1.2.1
          obtain ⟨b5, b5i, b5e⟩ := spec_l2Same_ev (minL s) s (by have := minL_len s; omega)
          cases b5 with
          | false => exact ⟨false, ⟨(fun e => by cases e), fun e => by have := b5i.2 ((minL_iff s).2 e.free); cases this⟩, Ev.bnd (spec_l3Gens_ev s hlen) (Ev.pos e1 (Ev.pos h2 (Ev.bnd b3e (Ev.pos rfl (Ev.bnd (spec_GcdOfList_ev s hlen) (Ev.pos h4 (Ev.bnd s2 (Ev.bnd b5e (Ev.neg (by decide) (Ev.now _))))))))))⟩
          | true =>
            obtain ⟨b6, b6i, b6e⟩ := spec_l3Ends_ev s (by omega) hlen hr
            refine ⟨b6, ⟨fun e => ⟨by omega, by omega, hr, hup, h4, (minL_iff s).1 (b5i.1 rfl), b6i.1 e⟩, fun e => b6i.2 e.ends⟩, ?_⟩
            exact Ev.bnd (spec_l3Gens_ev s hlen) (Ev.pos e1 (Ev.pos h2 (Ev.bnd b3e (Ev.pos rfl (Ev.bnd (spec_GcdOfList_ev s hlen) (Ev.pos h4 (Ev.bnd s2 (Ev.bnd b5e (Ev.pos rfl (Ev.bnd b6e (Ev.now _)))))))))))
        · exact ⟨false, ⟨(fun e => by cases e), fun e => absurd e.gcd1 h4⟩, Ev.bnd (spec_l3Gens_ev g hlen) (Ev.pos e1 (Ev.pos h2 (Ev.bnd b3e (Ev.pos rfl (Ev.bnd (spec_GcdOfList_ev g hlen) (Ev.neg h4 (Ev.now _)))))))⟩
    · exact ⟨false, ⟨(fun e => by cases e), fun e => by have := e.len2; omega⟩, Ev.bnd (spec_l3Gens_ev g hlen) (Ev.pos e1 (Ev.neg h2 (Ev.now _)))⟩
  · refine ⟨false, ⟨(fun e => by cases e), fun e => absurd ⟨(allIn_iff g 1 60).2 e.rng, by have := e.len1; have := e.len2; omega⟩ h1⟩, Ev.bnd (spec_l3Gens_ev g hlen) (Ev.neg (fun e => h1 ?_) (Ev.now _))⟩
    rw [Bool.and_eq_true, decide_eq_true_eq] at e
    exact e
/-- What Generates answers for numbers that can generate. -/
theorem impl_Generates_ev (g : List Int) (n : Int) (h1 : 1 ≤ g.length) (h2 : g.length ≤ 20) (hr : ∀ x ∈ g, 1 ≤ x ∧ x ≤ 60) (hn0 : 0 ≤ n) (hn1 : n ≤ 1000000) :
    ∃ b, (b = true ↔ Sums g n) ∧ Ev (fun k => impl_Generates.f k g n) b := by
  obtain ⟨a, ha, ha1, ha2, hmem⟩ := first_of g (by omega) hr
  obtain ⟨res, L, e⟩ := impl_leasts_ev g a hr (by omega) ha1 ha2
  have hlr := L.len
  obtain ⟨q, rfl⟩ : ∃ q : Nat, n = (q : Int) := ⟨n.toNat, by omega⟩
  have e1 : (allIn g 1 60 && decide ((1 : Int) ≤ (g.length : Int) ∧ (g.length : Int) ≤ 20)) = true := by rw [(allIn_iff g 1 60).2 hr, decide_eq_true (by omega)]; rfl
  have e2 : Int.tmod (q : Int) (a : Int) = ((q % a : Nat) : Int) := tmod_nat q a
  have hlt := Nat.mod_lt q (show 0 < a by omega)
  have hmod : (q : Int) % (a : Int) = ((q % a : Nat) : Int) := by simp
  have pre : ∀ b, Ev (fun _ : Nat => if rd res ((q % a : Nat) : Int) ≥ 0 then (some (decide (rd res ((q % a : Nat) : Int) ≤ (q : Int)))) else (some false)) b → Ev (fun k => impl_Generates.f k g (q : Int)) b := by
    intro b hb
    unfold impl_Generates.f
    rw [ha, e2]
    exact Ev.bnd (impl_usable_ev g (by omega)) (Ev.pos e1 (Ev.bnd (impl_within_ev _ _ _) (Ev.pos (decide_eq_true ⟨hn0, hn1⟩) (Ev.pos (by omega) (Ev.bnd e (Ev.neg (by omega) (Ev.pos (by omega) (Ev.pos (by omega) hb))))))))
  rcases L.row (q % a) hlt with ⟨h3, h4⟩ | ⟨h3, h4, h5, h6, h7⟩
  · exact ⟨false, ⟨(fun e => by cases e), fun e => absurd hmod (h4 _ e)⟩, pre _ (Ev.neg (by omega) (Ev.now _))⟩
  · refine ⟨decide (rd res ((q % a : Nat) : Int) ≤ (q : Int)), ?_, pre _ (Ev.pos h3 (Ev.now _))⟩
    rw [decide_eq_true_eq]
    refine ⟨fun h => ?_, fun h => h7 _ h hmod⟩
    obtain ⟨p, hp⟩ : ∃ p : Nat, rd res ((q % a : Nat) : Int) = (p : Int) := ⟨(rd res ((q % a : Nat) : Int)).toNat, by omega⟩
    rw [hp] at h h5 h6
    have h6' : p % a = q % a := by
      have : ((p % a : Nat) : Int) = ((q % a : Nat) : Int) := by rw [← h6]; simp
      omega
    have e3 : (q : Int) = (p : Int) + ((q / a - p / a : Nat) : Int) * (a : Int) := by
      have m1 := Nat.mod_add_div q a
      have m2 := Nat.mod_add_div p a
      have m3 : p / a ≤ q / a := Nat.div_le_div_right (by omega)
      obtain ⟨c, hc⟩ : ∃ c, q / a = p / a + c := ⟨q / a - p / a, by omega⟩
      rw [hc, Nat.add_sub_cancel_left, ← Int.natCast_mul]
      rw [hc, Nat.mul_add] at m1
      have : a * c = c * a := Nat.mul_comm a c
      omega
    rw [e3]
    exact h5.both (Sums.times hmem _)
theorem impl_IsSemigroup_l1 (g : List Int) (a : Nat) (h0 : 0 < g.length) (hg0 : rd g 0 = (a : Int)) (ha : 1 ≤ a ∧ a ≤ 60) (t : List Int) (ht : t.length = a) (hb : ∀ i : Nat, i < a → -1 ≤ rd t (i : Int) ∧ rd t (i : Int) ≤ 3600) :
    ∀ (d i : Nat), i + d = a → ∃ r, (r = true ↔ ∀ j : Nat, i ≤ j → j < a → rd t (j : Int) - (a : Int) < 200) ∧ Ev (fun k => impl_IsSemigroup.l1 k g t (a : Int) (i : Int)) r := by
  intro d
  induction d with
  | zero =>
    intro i hi
    refine ⟨true, ⟨fun _ j h1 h2 => by omega, fun _ => rfl⟩, Ev.one (fun k => by rw [impl_IsSemigroup.l1]) ?_⟩
    exact Ev.neg (by omega) (Ev.now _)
  | succ d ih =>
    intro i hi
    have hbi := hb i (by omega)
    have e1 : wrap64 (rd t (i : Int) - (a : Int)) = rd t (i : Int) - (a : Int) := w64_of (by omega) (by omega)
    by_cases h : rd t (i : Int) - (a : Int) ≥ 200
    · refine ⟨false, ⟨(fun e => by cases e), fun q => by have := q i (Nat.le_refl _) (by omega); omega⟩, Ev.one (fun k => by rw [impl_IsSemigroup.l1]) ?_⟩
      rw [hg0, e1]
      exact Ev.pos (by omega) (Ev.pos (by omega) (Ev.pos (by omega) (Ev.pos (by omega) (Ev.pos h (Ev.now _)))))
    · obtain ⟨r, r1, r2⟩ := ih (i + 1) (by omega)
      refine ⟨r, ?_, Ev.one (fun k => by rw [impl_IsSemigroup.l1]) ?_⟩
      · rw [r1]
        exact ⟨fun q j h1 h2 => by
          by_cases e : j = i
          · subst e; omega
          · exact q j (by omega) h2, fun q j h1 h2 => q j (by omega) h2⟩
      · rw [hg0, e1, w64_succ i (by omega)]
        exact Ev.pos (by omega) (Ev.pos (by omega) (Ev.pos (by omega) (Ev.pos (by omega) (Ev.neg h r2))))
theorem least_ends (g : List Int) (a : Nat) (t : List Int) (L : Least g a t) (ha1 : 1 ≤ a) (ha : (a : Int) ∈ g) (hg : ∀ x ∈ g, 1 ≤ x ∧ x ≤ 60) (h1 : gcdL g = 1) :
    (∀ j : Nat, 0 ≤ j → j < a → rd t (j : Int) - (a : Int) < 200) ↔ ∀ m : Nat, 200 ≤ m → m < 200 + a → Sums g (m : Int) := by
  constructor
  · intro h m hm1 hm2
    have hlt := Nat.mod_lt m (show 0 < a by omega)
    have hm := h (m % a) (by omega) hlt
    rcases L.row (m % a) hlt with ⟨_, h4⟩ | ⟨h3, h4, h5, h6, h7⟩
    · obtain ⟨q, q1, q2⟩ := residues g a ha1 hg h1 m
      exact absurd (q2.trans (by simp)) (h4 q q1)
    · obtain ⟨p, hp⟩ : ∃ p : Nat, rd t ((m % a : Nat) : Int) = (p : Int) := ⟨(rd t ((m % a : Nat) : Int)).toNat, by omega⟩
      rw [hp] at h5 h6 hm
      have h6' : p % a = m % a := by
        have : ((p % a : Nat) : Int) = ((m % a : Nat) : Int) := by rw [← h6]; simp
        omega
      have m1 := Nat.mod_add_div m a
      have m2 := Nat.mod_add_div p a
      have m3 : p / a ≤ m / a := by
        rcases Nat.lt_or_ge (m / a) (p / a) with hlt2 | hge
        · obtain ⟨c, hc⟩ : ∃ c, p / a = m / a + 1 + c := ⟨p / a - m / a - 1, by omega⟩
          rw [hc, Nat.mul_add, Nat.mul_add] at m2
          omega
        · exact hge
      have e3 : (m : Int) = (p : Int) + ((m / a - p / a : Nat) : Int) * (a : Int) := by
        obtain ⟨c, hc⟩ : ∃ c, m / a = p / a + c := ⟨m / a - p / a, by omega⟩
        rw [hc, Nat.add_sub_cancel_left, ← Int.natCast_mul]
        rw [hc, Nat.mul_add] at m1
        have : a * c = c * a := Nat.mul_comm a c
        omega
      rw [e3]
      exact h5.both (Sums.times ha _)
  · intro h j _ hj
    rcases L.row j hj with ⟨h3, _⟩ | ⟨h3, h4, h5, h6, h7⟩
    · omega
    · -- the one number of the range with this remainder
      obtain ⟨m, m1, m2, m3⟩ : ∃ m : Nat, 200 ≤ m ∧ m < 200 + a ∧ m % a = j := by
        by_cases c : 200 % a ≤ j
        · refine ⟨200 + (j - 200 % a), by omega, by omega, ?_⟩
          have := Nat.mod_add_div 200 a
          rw [show 200 + (j - 200 % a) = j + a * (200 / a) from by omega, Nat.add_mul_mod_self_left, Nat.mod_eq_of_lt hj]
        · have hlt := Nat.mod_lt 200 (show 0 < a by omega)
          refine ⟨200 + (a + j - 200 % a), by omega, by omega, ?_⟩
          have := Nat.mod_add_div 200 a
          rw [show 200 + (a + j - 200 % a) = j + a * (200 / a + 1) from by rw [Nat.mul_add]; omega, Nat.add_mul_mod_self_left, Nat.mod_eq_of_lt hj]
      have := h7 m (h m m1 m2) (by rw [← m3]; simp)
      omega
theorem impl_IsSemigroup_l0 (g : List Int) (hl : 1 ≤ g.length) (hl2 : g.length ≤ 12) (hr : ∀ x ∈ g, 1 ≤ x ∧ x ≤ 60) (h1 : gcdL g = 1) :
    ∀ (d i : Nat), i + d = g.length → 1 ≤ i → ∃ r, (r = true ↔ (∀ k, i ≤ k → k < g.length → kept g k) ∧ ∀ n : Int, 200 ≤ n → Sums g n) ∧ Ev (fun k => impl_IsSemigroup.l0 k g (i : Int)) r := by
  intro d
  induction d with
  | zero =>
    intro i hi _
    obtain ⟨a, ha, ha1, ha2, hmem⟩ := first_of g (by omega) hr
    obtain ⟨t, L, e⟩ := impl_leasts_ev g a hr (by omega) ha1 ha2
    have hlt := L.len
    obtain ⟨r, r1, r2⟩ := impl_IsSemigroup_l1 g a (by omega) ha ⟨ha1, ha2⟩ t L.len (fun i hi => by rcases L.row i hi with ⟨h3, _⟩ | ⟨h3, h4, _⟩ <;> omega) a 0 (by omega)
    refine ⟨r, ?_, Ev.one (fun k => by rw [impl_IsSemigroup.l0]) ?_⟩
    · rw [r1, least_ends g a t L ha1 hmem hr h1, ends_iff g a (by omega) ha ha1]
      exact ⟨fun h => ⟨fun k h1 h2 => by omega, h⟩, fun h => h.2⟩
    · rw [ha]
      refine Ev.neg (by omega) (Ev.pos (by omega) (Ev.bnd e ?_))
      rw [hlt]
      exact r2
  | succ d ih =>
    intro i hi h2
    have hil : i < g.length := by omega
    have hx := hr g[i] (List.getElem_mem hil)
    obtain ⟨b, b1, b2⟩ := impl_Generates_ev (g.take i) g[i] (by rw [List.length_take]; omega) (by rw [List.length_take]; omega) (fun x hx => hr x (List.mem_of_mem_take hx)) (by omega) (by omega)
    cases b with
    | true =>
      refine ⟨false, ⟨(fun e => by cases e), fun e => ?_⟩, Ev.one (fun k => by rw [impl_IsSemigroup.l0]) ?_⟩
      · rcases e.1 i (Nat.le_refl _) hil with h | h
        · omega
        · rw [getD_at g i hil] at h
          exact absurd (b1.1 rfl) h
      · rw [rd_at g i hil, Int.toNat_natCast]
        exact Ev.pos (by omega) (Ev.pos (by omega) (Ev.pos (by omega) (Ev.bnd b2 (Ev.pos rfl (Ev.now _)))))
    | false =>
      obtain ⟨r, r1, r2⟩ := ih (i + 1) (by omega) (by omega)
      refine ⟨r, ?_, Ev.one (fun k => by rw [impl_IsSemigroup.l0]) ?_⟩
      · rw [r1]
        refine ⟨fun e => ⟨fun k k1 k2 => ?_, e.2⟩, fun e => ⟨fun k k1 k2 => e.1 k (by omega) k2, e.2⟩⟩
        by_cases ek : k = i
        · subst ek
          refine .inr ?_
          rw [getD_at g k hil]
          exact fun h => by have := b1.2 h; cases this
        · exact e.1 k (by omega) k2
      · rw [rd_at g i hil, Int.toNat_natCast, w64_succ i (by omega)]
        exact Ev.pos (by omega) (Ev.pos (by omega) (Ev.pos (by omega) (Ev.bnd b2 (Ev.neg (by decide) r2))))
theorem impl_IsSemigroup_ev (g : List Int) (hlen : g.length ≤ 1048576) : ∃ b, (b = true ↔ SG g) ∧ Ev (fun k => impl_IsSemigroup.f k g) b := by
  have stop : ∀ x, Ev (fun k => impl_IsSemigroup.j0 k g true) x ↔ x = false := by
    intro x
    have h : Ev (fun k => impl_IsSemigroup.j0 k g true) false := by
      refine Ev.one (fun k => by rw [impl_IsSemigroup.j0]) ?_
      exact Ev.pos rfl (Ev.now _)
    exact ⟨fun e => Ev.uniq e h, fun e => by rw [e]; exact h⟩
  have stop := (stop false).2 rfl
  unfold impl_IsSemigroup.f
  by_cases h1 : (1 : Int) ≤ (g.length : Int) ∧ (g.length : Int) ≤ 12
  · by_cases h2 : allIn g 1 60 = true
    · have hr := (allIn_iff g 1 60).1 h2
      obtain ⟨b3, b3i, b3e⟩ := impl_IsAscending_ev g hlen
      cases b3 with
      | false => exact ⟨false, ⟨(fun e => by cases e), fun e => by have := b3i.2 e.up; cases this⟩, Ev.bnd (impl_within_ev _ _ _) (Ev.pos (decide_eq_true h1) (Ev.bnd (impl_allWithin_ev g 1 60 (by omega)) (Ev.pos h2 (Ev.bnd b3e (Ev.neg (by decide) stop)))))⟩
      | true =>
        have hup := b3i.1 rfl
        by_cases h4 : gcdL g = 1
        · obtain ⟨r, r1, r2⟩ := impl_IsSemigroup_l0 g (by omega) (by omega) hr h4 (g.length - 1) 1 (by omega) (by omega)
          refine ⟨r, ⟨fun e => ⟨by omega, by omega, hr, hup, h4, fun k hk => ?_, (r1.1 e).2⟩, fun e => r1.2 ⟨fun k _ hk => e.free k hk, e.ends⟩⟩, ?_⟩
          · by_cases e0 : k = 0
            · exact .inl e0
            · exact (r1.1 e).1 k (by omega) hk
          · refine Ev.bnd (impl_within_ev _ _ _) (Ev.pos (decide_eq_true h1) (Ev.bnd (impl_allWithin_ev g 1 60 (by omega)) (Ev.pos h2 (Ev.bnd b3e (Ev.pos rfl (Ev.bnd (impl_GcdOfList_ev g hlen) ?_))))))
            refine Ev.one (fun k => by rw [impl_IsSemigroup.j0]) ?_
            exact Ev.neg (by rw [h4]; decide) r2
        · refine ⟨false, ⟨(fun e => by cases e), fun e => absurd e.gcd1 h4⟩, Ev.bnd (impl_within_ev _ _ _) (Ev.pos (decide_eq_true h1) (Ev.bnd (impl_allWithin_ev g 1 60 (by omega)) (Ev.pos h2 (Ev.bnd b3e (Ev.pos rfl (Ev.bnd (impl_GcdOfList_ev g hlen) ?_))))))⟩
          rw [show (gcdL g != 1) = true from by simpa using h4]
          exact stop
    · exact ⟨false, ⟨(fun e => by cases e), fun e => absurd ((allIn_iff g 1 60).2 e.rng) h2⟩, Ev.bnd (impl_within_ev _ _ _) (Ev.pos (decide_eq_true h1) (Ev.bnd (impl_allWithin_ev g 1 60 (by omega)) (Ev.neg h2 stop)))⟩
  · exact ⟨false, ⟨(fun e => by cases e), fun e => absurd ⟨by have := e.len1; omega, by have := e.len2; omega⟩ h1⟩, Ev.bnd (impl_within_ev _ _ _) (Ev.neg (by rw [decide_eq_false h1]; decide) stop)⟩
end Go.Proofs.Ytiejmnnnjmmifaa.Pure
