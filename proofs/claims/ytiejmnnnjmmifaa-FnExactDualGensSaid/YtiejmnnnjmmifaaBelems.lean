/- Plain lemmas (elems): no program, no memory. -/
import Derived.Test.YtiejmnnnjmmifaaC0
import Derived.Test.YtiejmnnnjmmifaaC3
import Derived.Test.YtiejmnnnjmmifaaC7
import Derived.Test.YtiejmnnnjmmifaaBsums
import Derived.Test.YtiejmnnnjmmifaaBtable
import Derived.Test.YtiejmnnnjmmifaaBgcd
import Derived.Test.YtiejmnnnjmmifaaBleasts
import Derived.Test.YtiejmnnnjmmifaaBissg
import Derived.Test.YtiejmnnnjmmifaaBshell
import Derived.Test.YtiejmnnnjmmifaaBleastle
import Derived.Test.YtiejmnnnjmmifaaBbase
namespace Go.Proofs.Ytiejmnnnjmmifaa.Pure
open Go.RowKit Go.Proofs.Ytiejmnnnjmmifaa.C Go.Proofs.YtiejmnnnjmmifaaW.PrintWords Go.Proofs.YtiejmnnnjmmifaaW.PrintLast Go.Proofs.YtiejmnnnjmmifaaW.PrintMore
set_option linter.unusedVariables false
set_option linter.unusedSimpArgs false
/-! elems: tables of elements, of both sides -/
noncomputable def elB (g : List Int) (n : Int) : Bool := @decide (Sums g n) (Classical.propDecidable _)
theorem elB_iff (g : List Int) (n : Int) : elB g n = true ↔ Sums g n := by unfold elB; exact @decide_eq_true_iff (Sums g n) (Classical.propDecidable _)
theorem elB_of {g : List Int} {n : Int} {b : Bool} (h : b = true ↔ Sums g n) : b = elB g n := bool_same h (elB_iff g n)
/-- Of each number below n whether it is a sum. -/
noncomputable def tblL (g : List Int) (n : Nat) : List Bool := (List.range n).map fun m : Nat => elB g (m : Int)
theorem tblL_length (g : List Int) (n : Nat) : (tblL g n).length = n := by simp [tblL]
theorem tblL_at (g : List Int) (n m : Nat) (h : m < n) : (tblL g n).getD m false = elB g (m : Int) := by
  unfold tblL
  rw [List.getD_eq_getElem?_getD, List.getElem?_map, List.getElem?_range h]
  rfl
theorem rdOf_tblL (g : List Int) (n m : Nat) (h : m < n) : rdOf false (tblL g n) (m : Int) = elB g (m : Int) := by rw [rdOf_at, tblL_at g n m h]
theorem tbl_eq (g : List Int) (n : Nat) (t : List Bool) (h1 : t.length = n) (h2 : ∀ m : Nat, m < n → t.getD m false = elB g (m : Int)) : t = tblL g n := by
  apply List.ext_getElem
  · rw [h1, tblL_length]
  · intro i hi hi2
    have a := h2 i (by omega)
    have b := tblL_at g n i (by omega)
    rw [List.getD_eq_getElem?_getD, List.getElem?_eq_getElem hi, Option.getD_some] at a
    rw [List.getD_eq_getElem?_getD, List.getElem?_eq_getElem hi2, Option.getD_some] at b
    rw [a, b]
theorem spec_tbl_ev (g : List Int) (most : Nat) (hg : ∀ x ∈ g, 1 ≤ x) (hlen : g.length ≤ 1048576) (hm : most ≤ 2000000) : Ev (fun k => spec_l3Table.f k g (most : Int)) (tblL g (most + 1)) := by
  obtain ⟨t, t1, t2, t3⟩ := spec_l3Table_ev g most hg hlen hm
  rw [← tbl_eq g (most + 1) t t1 (fun m hm => elB_of (t2 m (by omega)))]
  exact t3
/-- What is picked of the numbers below n. -/
def pick {α : Type} (p : Nat → Bool) (f : Nat → α) (n : Nat) : List α := ((List.range n).filter p).map f
theorem pick_pos {α : Type} (p : Nat → Bool) (f : Nat → α) (n : Nat) (h : p n = true) : pick p f (n + 1) = pick p f n ++ [f n] := by
  unfold pick
  rw [List.range_succ, List.filter_append, List.filter_cons_of_pos h, List.filter_nil, List.map_append, List.map_cons, List.map_nil]
theorem pick_neg {α : Type} (p : Nat → Bool) (f : Nat → α) (n : Nat) (h : p n = false) : pick p f (n + 1) = pick p f n := by
  unfold pick
  rw [List.range_succ, List.filter_append, List.filter_cons_of_neg (by rw [h]; decide), List.filter_nil, List.append_nil]
theorem pick_len {α : Type} (p : Nat → Bool) (f : Nat → α) (n : Nat) : (pick p f n).length ≤ n := by
  unfold pick
  rw [List.length_map]
  have := List.length_filter_le p (List.range n)
  rwa [List.length_range] at this
theorem impl_table_l0 (g : List Int) (hS : SG g) (a : Nat) (ha : rd g 0 = (a : Int)) (ha1 : 1 ≤ a) (hmem : (a : Int) ∈ g) (t : List Int) (L : Least g a t) (n : Nat) (hn : n ≤ 2000000) :
    ∀ (d i : Nat) (xs : List Bool), i + d = n → xs.length = n → (∀ m : Nat, m < i → xs.getD m false = elB g (m : Int)) → Ev (fun k => impl_table.l0 k t xs (n : Int) (i : Int) g) (tblL g n) := by
  have hl := hS.len1
  have hlt := L.len
  intro d
  induction d with
  | zero =>
    intro i xs hi hx hs
    rw [← tbl_eq g n xs hx (fun m hm => hs m (by omega))]
    refine Ev.one (fun k => by rw [impl_table.l0]) ?_
    exact Ev.neg (by omega) (Ev.now _)
  | succ d ih =>
    intro i xs hi hx hs
    have hlt2 := Nat.mod_lt i (show 0 < a by omega)
    refine Ev.one (fun k => by rw [impl_table.l0]) ?_
    rw [ha, tmod_nat, w64_succ i (by omega), Int.toNat_natCast]
    refine Ev.pos (by omega) (Ev.pos (by omega) (Ev.neg (by omega) (Ev.pos (by omega) (Ev.pos (by omega) (Ev.pos (by omega) (Ev.pos (by omega) (ih (i + 1) _ (by omega) (by rw [List.length_set]; exact hx) (fun m hm => ?_))))))))
    by_cases e : m = i
    · subst e
      rw [getD_set_eq _ _ _ _ (by omega)]
      refine elB_of ?_
      rw [decide_eq_true_eq]
      exact least_le_iff g a t L ha1 hmem hS.rng hS.gcd1 m
    · rw [getD_set_ne _ _ _ _ _ (by omega)]
      exact hs m (by omega)
theorem impl_table_ev (g : List Int) (hS : SG g) (n : Nat) (hn : n ≤ 1000000) : Ev (fun k => impl_table.f k g (n : Int)) (tblL g (n + 1)) := by
  have hl1 := hS.len1
  have hl2 := hS.len2
  obtain ⟨a, ha, ha1, ha2, hmem⟩ := first_of g (by omega) hS.rng
  obtain ⟨t, L, e⟩ := impl_leasts_ev g a hS.rng (by omega) ha1 ha2
  unfold impl_table.f
  rw [ha, w64_succ n (by omega), Int.toNat_natCast]
  refine Ev.pos (by omega) (Ev.bnd e (Ev.pos (by omega) (Ev.pos (by omega) (Ev.some ?_))))
  rw [List.length_replicate]
  exact impl_table_l0 g hS a ha ha1 hmem t L (n + 1) (by omega) (n + 1) 0 _ (by omega) List.length_replicate (fun m hm => by omega)
end Go.Proofs.Ytiejmnnnjmmifaa.Pure
