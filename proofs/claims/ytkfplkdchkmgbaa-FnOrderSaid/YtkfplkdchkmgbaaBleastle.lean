/- Plain lemmas (leastle, spechas, has, elems, gapl, ascpick, spechas2): no program, no memory. -/
import Derived.Test.YtkfplkdchkmgbaaC0
import Derived.Test.YtkfplkdchkmgbaaC13
import Derived.Test.YtkfplkdchkmgbaaC2
import Derived.Test.YtkfplkdchkmgbaaC9
import Derived.Test.YtkfplkdchkmgbaaBbase
namespace Go.Proofs.Ytkfplkdchkmgbaa.Pure
open Go.RowKit Go.Proofs.Ytkfplkdchkmgbaa.C Go.Proofs.YtkfplkdchkmgbaaW.PrintWords Go.Proofs.YtkfplkdchkmgbaaW.PrintLast Go.Proofs.YtkfplkdchkmgbaaW.PrintMore
set_option linter.unusedVariables false
set_option linter.unusedSimpArgs false
/-! leastle: the least numbers and the sums -/
theorem least_le_iff (g : List Int) (a : Nat) (t : List Int) (L : Least g a t) (ha1 : 1 ≤ a) (ha : (a : Int) ∈ g) (hg : ∀ x ∈ g, 1 ≤ x ∧ x ≤ 60) (h1 : gcdL g = 1) (q : Nat) :
    rd t ((q % a : Nat) : Int) ≤ (q : Int) ↔ Sums g (q : Int) := by
  have hlt := Nat.mod_lt q (show 0 < a by omega)
  have hmod : (q : Int) % (a : Int) = ((q % a : Nat) : Int) := by simp
  rcases L.row (q % a) hlt with ⟨h3, h4⟩ | ⟨h3, h4, h5, h6, h7⟩
  · obtain ⟨m, m1, m2⟩ := residues g a ha1 hg h1 q
    exact absurd (m2.trans hmod) (h4 m m1)
  · refine ⟨fun h => ?_, fun h => h7 _ h hmod⟩
    obtain ⟨p, hp⟩ : ∃ p : Nat, rd t ((q % a : Nat) : Int) = (p : Int) := ⟨(rd t ((q % a : Nat) : Int)).toNat, by omega⟩
    rw [hp] at h h5 h6
    have h6' : p % a = q % a := by
      have : ((p % a : Nat) : Int) = ((q % a : Nat) : Int) := by rw [← h6]; simp
      omega
    have e3 : (q : Int) = (p : Int) + ((q / a - p / a : Nat) : Int) * (a : Int) := by
      have m1 := Nat.mod_add_div q a
      have m2 := Nat.mod_add_div p a
      have m3 : p / a ≤ q / a := Nat.div_le_div_right (by omega)
      obtain ⟨c, hc⟩ : ∃ c, q / a = p / a + c := ⟨q / a - p / a, by omega⟩
      rw [hc, Nat.add_sub_cancel_left, ← Int.natCast_mul]
      rw [hc, Nat.mul_add] at m1
      have : a * c = c * a := Nat.mul_comm a c
      omega
    rw [e3]
    exact h5.both (Sums.times ha _)
/-! spechas: spec.l3Has -/
theorem spec_l3Has_ev (g : List Int) (h : SG g) (n : Int) : ∃ b, (b = true ↔ Sums g n ∧ (n ≠ 0 ∨ n = 0)) ∧ Ev (fun k => spec_l3Has.f k g n) b := by
  have hp : ∀ x ∈ g, 1 ≤ x := fun x hx => (h.rng x hx).1
  have := h.len2
  unfold spec_l3Has.f
  by_cases h1 : n < 0
  · exact ⟨decide (n > 0), ⟨fun e => by simp at e; omega, fun e => by have := e.1.nonneg hp; omega⟩, Ev.pos h1 (Ev.now _)⟩
  · by_cases h2 : n ≥ 200
    · exact ⟨decide (n > 0), ⟨fun _ => ⟨h.ends n h2, by omega⟩, fun _ => by simp; omega⟩, Ev.neg h1 (Ev.pos h2 (Ev.now _))⟩
    · obtain ⟨q, rfl⟩ : ∃ q : Nat, n = (q : Int) := ⟨n.toNat, by omega⟩
      obtain ⟨t, t1, t2, t3⟩ := spec_l3Table_ev g q hp (by omega) (by omega)
      refine ⟨t.getD q false, ?_, ?_⟩
      · rw [t2 q (Nat.le_refl _)]
        exact ⟨fun e => ⟨e, by omega⟩, fun e => e.1⟩
      · refine Ev.neg h1 (Ev.neg h2 (Ev.bnd t3 (Ev.pos (by omega) (Ev.pos (by omega) ?_))))
        rw [rdOf_at]
        exact Ev.now _
/-! has: impl.Contains -/
theorem impl_Contains_ev (g : List Int) (hlen : g.length ≤ 1048576) (n : Int) (hn : n ≤ 9223372036854775807) : ∃ b, (b = true ↔ SG g ∧ Sums g n) ∧ Ev (fun k => impl_Contains.f k g n) b := by
  unfold impl_Contains.f
  by_cases h0 : n < 0
  · exact ⟨false, ⟨(fun e => by cases e), fun e => by have := e.2.nonneg (fun x hx => (e.1.rng x hx).1); omega⟩, Ev.pos h0 (Ev.now _)⟩
  obtain ⟨b, b1, b2⟩ := impl_IsSemigroup_ev g hlen
  cases b with
  | false => exact ⟨false, ⟨(fun e => by cases e), fun e => by have := b1.2 e.1; cases this⟩, Ev.neg h0 (Ev.bnd b2 (Ev.neg (by decide) (Ev.now _)))⟩
  | true =>
    have hS := b1.1 rfl
    by_cases h2 : n ≥ 200
    · exact ⟨true, ⟨fun _ => ⟨hS, hS.ends n h2⟩, fun _ => rfl⟩, Ev.neg h0 (Ev.bnd b2 (Ev.pos rfl (Ev.pos h2 (Ev.now _))))⟩
    · have hl1 := hS.len1
      have hl2 := hS.len2
      obtain ⟨a, ha, ha1, ha2, hmem⟩ := first_of g (by omega) hS.rng
      obtain ⟨t, L, e⟩ := impl_leasts_ev g a hS.rng (by omega) ha1 ha2
      have hlt := L.len
      obtain ⟨q, rfl⟩ : ∃ q : Nat, n = (q : Int) := ⟨n.toNat, by omega⟩
      have e2 : Int.tmod (q : Int) (a : Int) = ((q % a : Nat) : Int) := tmod_nat q a
      have hq := Nat.mod_lt q (show 0 < a by omega)
      refine ⟨decide (rd t ((q % a : Nat) : Int) ≤ (q : Int)), ?_, ?_⟩
      · rw [decide_eq_true_eq, least_le_iff g a t L ha1 hmem hS.rng hS.gcd1 q]
        exact ⟨fun h => ⟨hS, h⟩, fun h => h.2⟩
      · rw [ha, e2]
        exact Ev.neg h0 (Ev.bnd b2 (Ev.pos rfl (Ev.neg h2 (Ev.pos (by omega) (Ev.bnd e (Ev.neg (by omega) (Ev.pos (by omega) (Ev.pos (by omega) (Ev.now _)))))))))
/-! elems: tables of elements, of both sides -/
noncomputable def elB (g : List Int) (n : Int) : Bool := @decide (Sums g n) (Classical.propDecidable _)
theorem elB_iff (g : List Int) (n : Int) : elB g n = true ↔ Sums g n := by unfold elB; exact @decide_eq_true_iff (Sums g n) (Classical.propDecidable _)
theorem elB_of {g : List Int} {n : Int} {b : Bool} (h : b = true ↔ Sums g n) : b = elB g n := bool_same h (elB_iff g n)
/-- Of each number below n whether it is a sum. -/
noncomputable def tblL (g : List Int) (n : Nat) : List Bool := (List.range n).map fun m : Nat => elB g (m : Int)
theorem tblL_length (g : List Int) (n : Nat) : (tblL g n).length = n := by simp [tblL]
theorem tblL_at (g : List Int) (n m : Nat) (h : m < n) : (tblL g n).getD m false = elB g (m : Int) := by
  unfold tblL
  rw [List.getD_eq_getElem?_getD, List.getElem?_map, List.getElem?_range h]
  rfl
theorem rdOf_tblL (g : List Int) (n m : Nat) (h : m < n) : rdOf false (tblL g n) (m : Int) = elB g (m : Int) := by rw [rdOf_at, tblL_at g n m h]
theorem tbl_eq (g : List Int) (n : Nat) (t : List Bool) (h1 : t.length = n) (h2 : ∀ m : Nat, m < n → t.getD m false = elB g (m : Int)) : t = tblL g n := by
  apply List.ext_getElem
  · rw [h1, tblL_length]
  · intro i hi hi2
    have a := h2 i (by omega)
    have b := tblL_at g n i (by omega)
    rw [List.getD_eq_getElem?_getD, List.getElem?_eq_getElem hi, Option.getD_some] at a
    rw [List.getD_eq_getElem?_getD, List.getElem?_eq_getElem hi2, Option.getD_some] at b
    rw [a, b]
theorem spec_tbl_ev (g : List Int) (most : Nat) (hg : ∀ x ∈ g, 1 ≤ x) (hlen : g.length ≤ 1048576) (hm : most ≤ 2000000) : Ev (fun k => spec_l3Table.f k g (most : Int)) (tblL g (most + 1)) := by
  obtain ⟨t, t1, t2, t3⟩ := spec_l3Table_ev g most hg hlen hm
  rw [← tbl_eq g (most + 1) t t1 (fun m hm => elB_of (t2 m (by omega)))]
  exact t3
/-- What is picked of the numbers below n. -/
def pick {α : Type} (p : Nat → Bool) (f : Nat → α) (n : Nat) : List α := ((List.range n).filter p).map f
theorem pick_pos {α : Type} (p : Nat → Bool) (f : Nat → α) (n : Nat) (h : p n = true) : pick p f (n + 1) = pick p f n ++ [f n] := by
  unfold pick
  rw [List.range_succ, List.filter_append, List.filter_cons_of_pos h, List.filter_nil, List.map_append, List.map_cons, List.map_nil]
theorem pick_neg {α : Type} (p : Nat → Bool) (f : Nat → α) (n : Nat) (h : p n = false) : pick p f (n + 1) = pick p f n := by
  unfold pick
  rw [List.range_succ, List.filter_append, List.filter_cons_of_neg (by rw [h]; decide), List.filter_nil, List.append_nil]
theorem pick_len {α : Type} (p : Nat → Bool) (f : Nat → α) (n : Nat) : (pick p f n).length ≤ n := by
  unfold pick
  rw [List.length_map]
  have := List.length_filter_le p (List.range n)
  rwa [List.length_range] at this
theorem impl_table_l0 (g : List Int) (hS : SG g) (a : Nat) (ha : rd g 0 = (a : Int)) (ha1 : 1 ≤ a) (hmem : (a : Int) ∈ g) (t : List Int) (L : Least g a t) (n : Nat) (hn : n ≤ 2000000) :
    ∀ (d i : Nat) (xs : List Bool), i + d = n → xs.length = n → (∀ m : Nat, m < i → xs.getD m false = elB g (m : Int)) → Ev (fun k => impl_table.l0 k t xs (n : Int) (i : Int) g) (tblL g n) := by
  have hl := hS.len1
  have hlt := L.len
  intro d
  induction d with
  | zero =>
    intro i xs hi hx hs
    rw [← tbl_eq g n xs hx (fun m hm => hs m (by omega))]
    refine Ev.one (fun k => by rw [impl_table.l0]) ?_
    exact Ev.neg (by omega) (Ev.now _)
  | succ d ih =>
    intro i xs hi hx hs
    have hlt2 := Nat.mod_lt i (show 0 < a by omega)
    refine Ev.one (fun k => by rw [impl_table.l0]) ?_
    rw [ha, tmod_nat, w64_succ i (by omega), Int.toNat_natCast]
    refine Ev.pos (by omega) (Ev.pos (by omega) (Ev.neg (by omega) (Ev.pos (by omega) (Ev.pos (by omega) (Ev.pos (by omega) (Ev.pos (by omega) (ih (i + 1) _ (by omega) (by rw [List.length_set]; exact hx) (fun m hm => ?_))))))))
    by_cases e : m = i
    · subst e
      rw [getD_set_eq _ _ _ _ (by omega)]
      refine elB_of ?_
      rw [decide_eq_true_eq]
      exact least_le_iff g a t L ha1 hmem hS.rng hS.gcd1 m
    · rw [getD_set_ne _ _ _ _ _ (by omega)]
      exact hs m (by omega)
theorem impl_table_ev (g : List Int) (hS : SG g) (n : Nat) (hn : n ≤ 1000000) : Ev (fun k => impl_table.f k g (n : Int)) (tblL g (n + 1)) := by
  have hl1 := hS.len1
  have hl2 := hS.len2
  obtain ⟨a, ha, ha1, ha2, hmem⟩ := first_of g (by omega) hS.rng
  obtain ⟨t, L, e⟩ := impl_leasts_ev g a hS.rng (by omega) ha1 ha2
  unfold impl_table.f
  rw [ha, w64_succ n (by omega), Int.toNat_natCast]
  refine Ev.pos (by omega) (Ev.bnd e (Ev.pos (by omega) (Ev.pos (by omega) (Ev.some ?_))))
  rw [List.length_replicate]
  exact impl_table_l0 g hS a ha ha1 hmem t L (n + 1) (by omega) (n + 1) 0 _ (by omega) List.length_replicate (fun m hm => by omega)
/-! gapl: the gaps of a semigroup -/
noncomputable def gapL (g : List Int) : List Int := pick (fun n => !elB g (n : Int)) (fun n => (n : Int)) 200
theorem gapL_len (g : List Int) : (gapL g).length ≤ 200 := pick_len _ _ _
theorem gapL_mem (g : List Int) (x : Int) : x ∈ gapL g ↔ 0 ≤ x ∧ x < 200 ∧ ¬ Sums g x := by
  unfold gapL pick
  rw [List.mem_map]
  constructor
  · rintro ⟨m, hm, rfl⟩
    rw [List.mem_filter, List.mem_range] at hm
    refine ⟨by omega, by omega, fun h => ?_⟩
    rw [(elB_iff g _).2 h] at hm
    exact absurd hm.2 (by decide)
  · rintro ⟨h0, h1, h2⟩
    refine ⟨x.toNat, ?_, by omega⟩
    rw [List.mem_filter, List.mem_range]
    refine ⟨by omega, ?_⟩
    rw [show ((x.toNat : Nat) : Int) = x from by omega]
    cases hb : elB g x with
    | true => exact absurd ((elB_iff g x).1 hb) h2
    | false => rfl
/-- What Gaps answers. -/
noncomputable def gapsS (b : Bool) (g : List Int) : List Int := if b = true then gapL g else []
theorem gapsS_len (b : Bool) (g : List Int) : (gapsS b g).length ≤ 200 := by
  unfold gapsS
  split
  · exact gapL_len g
  · simp
/-- The greatest gap; -1 if there is none. -/
def lastS (l : List Int) : Int := if l.length = 0 then -1 else rd l ((l.length - 1 : Nat) : Int)
theorem gapsS_mem (b : Bool) (g : List Int) : ∀ x ∈ gapsS b g, 0 ≤ x ∧ x < 200 := by
  intro x hx
  unfold gapsS at hx
  cases b with
  | true =>
    rw [if_pos rfl] at hx
    have := (gapL_mem g x).1 hx
    omega
  | false =>
    rw [if_neg (by decide)] at hx
    simp at hx
theorem lastS_gaps (b : Bool) (g : List Int) : -1 ≤ lastS (gapsS b g) ∧ lastS (gapsS b g) ≤ 199 := by
  unfold lastS
  split
  · omega
  · rename_i h
    rw [rd_at _ _ (by omega)]
    have := gapsS_mem b g _ (List.getElem_mem (show (gapsS b g).length - 1 < (gapsS b g).length by omega))
    omega
/-! ascpick: what is picked in order ascends -/
theorem asc_pick (p : Nat → Bool) (n : Nat) : asc (pick p (fun n => (n : Int)) n) := by
  unfold asc pick
  rw [List.pairwise_map]
  refine List.Pairwise.imp (R := fun a b : Nat => a < b) (fun h => by omega) (List.Pairwise.filter _ ?_)
  exact List.pairwise_lt_range
/-! spechas2: spec.Contains -/
theorem spec_Contains_ev (g : List Int) (hlen : g.length ≤ 1048576) (n : Int) : ∃ b, (b = true ↔ SG g ∧ Sums g n) ∧ Ev (fun k => spec_Contains.f k g n) b := by
  obtain ⟨b, b1, b2⟩ := spec_IsSemigroup_ev g hlen
  unfold spec_Contains.f
  cases b with
  | false => exact ⟨false, ⟨(fun e => by cases e), fun e => by have := b1.2 e.1; cases this⟩, Ev.bnd b2 (Ev.neg (by decide) (Ev.now _))⟩
  | true =>
    have hS := b1.1 rfl
    obtain ⟨c, c1, c2⟩ := spec_l3Has_ev g hS n
    exact ⟨c, ⟨fun e => ⟨hS, (c1.1 e).1⟩, fun e => c1.2 ⟨e.2, by omega⟩⟩, Ev.bnd b2 (Ev.pos rfl (Ev.bnd c2 (Ev.now _)))⟩
end Go.Proofs.Ytkfplkdchkmgbaa.Pure
