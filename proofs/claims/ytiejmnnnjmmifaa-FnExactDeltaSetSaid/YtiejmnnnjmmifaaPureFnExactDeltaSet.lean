/- For every semigroup value and number the program's DeltaSet returns what the reference's returns; no condition besides the row's own. -/
import Derived.Test.YtiejmnnnjmmifaaC0
import Derived.Test.YtiejmnnnjmmifaaC13
import Derived.Test.YtiejmnnnjmmifaaBbase
import Derived.Test.YtiejmnnnjmmifaaBlaws0
import Derived.Test.YtiejmnnnjmmifaaBlaws1
import Derived.Test.YtiejmnnnjmmifaaBsz
import Derived.Test.YtiejmnnnjmmifaaBwithin
import Derived.Test.YtiejmnnnjmmifaaBallwithin
import Derived.Test.YtiejmnnnjmmifaaBsums
import Derived.Test.YtiejmnnnjmmifaaBtable
import Derived.Test.YtiejmnnnjmmifaaBgcd
import Derived.Test.YtiejmnnnjmmifaaBasc
import Derived.Test.YtiejmnnnjmmifaaBleasts
import Derived.Test.YtiejmnnnjmmifaaBsortspec
import Derived.Test.YtiejmnnnjmmifaaBisort
import Derived.Test.YtiejmnnnjmmifaaBminimal
import Derived.Test.YtiejmnnnjmmifaaBissg
import Derived.Test.YtiejmnnnjmmifaaBshell
import Derived.Test.YtiejmnnnjmmifaaBsemig
import Derived.Test.YtiejmnnnjmmifaaBmarksg
import Derived.Test.YtiejmnnnjmmifaaBdot
import Derived.Test.YtiejmnnnjmmifaaBfactor
import Derived.Test.YtiejmnnnjmmifaaBpigeon
import Derived.Test.YtiejmnnnjmmifaaBfacboth
import Derived.Test.YtiejmnnnjmmifaaBhasnum
import Derived.Test.YtiejmnnnjmmifaaBlengths
import Derived.Test.YtiejmnnnjmmifaaBdelta
namespace Go.Proofs.Ytiejmnnnjmmifaa.Pure
open Go.RowKit Go.Proofs.Ytiejmnnnjmmifaa.C Go.Proofs.YtiejmnnnjmmifaaW.PrintWords Go.Proofs.YtiejmnnnjmmifaaW.PrintLast Go.Proofs.YtiejmnnnjmmifaaW.PrintMore
set_option linter.unusedVariables false
set_option linter.unusedSimpArgs false
theorem spec_ds_l1 (g : List Int) (n : Int) (m : Nat) (D : List Int) (hD : D.length ≤ 101) {R : List Int → Prop} : ∀ d j, j + d = D.length → ∀ out : List Int, out.length + (D.length - j) ≤ 1000000 →
    (∀ out' : List Int, out'.length ≤ out.length + (D.length - j) → (∀ y, y ∈ out' ↔ y ∈ out ∨ y ∈ D.drop j) → ∃ r, R r ∧ Ev (fun k => spec_DeltaSet.l0 k n out' (wrap64 ((m : Int) + 1)) g) r) →
    ∃ r, R r ∧ Ev (fun k => spec_DeltaSet.l1 k n out (m : Int) D (j : Int) g) r := by
  intro d
  induction d with
  | zero =>
    intro j hj out ho hn
    obtain ⟨r, r1, r2⟩ := hn out (by omega) (fun y => by rw [List.drop_eq_nil_of_le (by omega)]; simp)
    refine ⟨r, r1, Ev.one (fun k => by rw [spec_DeltaSet.l1]) ?_⟩
    exact Ev.neg (by omega) r2
  | succ d ih =>
    intro j hj out ho hn
    have hjl : j < D.length := by omega
    rw [List.drop_eq_getElem_cons hjl] at hn
    obtain ⟨b, b1, b2⟩ := spec_HasNumber_ev out D[j] (by omega)
    cases b with
    | true =>
      obtain ⟨r, r1, r2⟩ := ih (j + 1) (by omega) out (by omega) (fun out' h1 h2 => hn out' (by omega) (fun y => by
        rw [h2, List.mem_cons]
        exact ⟨fun h => h.elim .inl (fun h => .inr (.inr h)), fun h => h.elim .inl (fun h => h.elim (fun e => .inl (e ▸ b1.1 rfl)) .inr)⟩))
      refine ⟨r, r1, Ev.one (fun k => by rw [spec_DeltaSet.l1]) ?_⟩
      rw [rd_at D j hjl, w64_succ j (by omega)]
      exact Ev.pos (by omega) (Ev.pos (by omega) (Ev.bnd b2 (Ev.pos rfl r2)))
    | false =>
      have hol : (out ++ [D[j]]).length = out.length + 1 := by rw [List.length_append, List.length_singleton]
      obtain ⟨r, r1, r2⟩ := ih (j + 1) (by omega) (out ++ [D[j]]) (by omega) (fun out' h1 h2 => hn out' (by omega) (fun y => by
        rw [h2, List.mem_cons, List.mem_append, List.mem_singleton, or_assoc]))
      refine ⟨r, r1, Ev.one (fun k => by rw [spec_DeltaSet.l1]) ?_⟩
      rw [rd_at D j hjl, w64_succ j (by omega)]
      exact Ev.pos (by omega) (Ev.pos (by omega) (Ev.bnd b2 (Ev.neg (by decide) (Ev.pos (by omega) r2))))
theorem deltaset_both (g : List Int) (hlen : g.length ≤ 1048576) (n : Int) : ∃ r, r.length ≤ 1048576 ∧ Ev (fun k => spec_DeltaSet.f k g n) r ∧ Ev (fun k => impl_DeltaSet.f k g n) r := by
  obtain ⟨b, b1, b2, b3⟩ := sg_both g hlen
  have hw1 := spec_l1In_ev n 0 100
  have hw2 := impl_within_ev n 0 100
  unfold spec_DeltaSet.f impl_DeltaSet.f
  have out_ : ∀ (t : Bool), t = true → Ev (fun k => spec_DeltaSet.j0 k n [] t g) [] ∧ Ev (fun k => impl_DeltaSet.j0 k n t g) [] := fun t ht => by
    subst ht
    exact ⟨Ev.one (fun k => by rw [spec_DeltaSet.j0]) (Ev.pos rfl (Ev.now _)), Ev.one (fun k => by rw [impl_DeltaSet.j0]) (Ev.pos rfl (Ev.now _))⟩
  cases b with
  | false => exact ⟨[], by simp, Ev.some (Ev.bnd b2 (Ev.neg (by decide) (out_ true rfl).1)), Ev.bnd b3 (Ev.neg (by decide) (out_ true rfl).2)⟩
  | true =>
    by_cases hn : 0 ≤ n ∧ n ≤ 100
    rotate_left
    · rw [decide_eq_false hn] at hw1 hw2
      exact ⟨[], by simp, Ev.some (Ev.bnd b2 (Ev.pos rfl (Ev.bnd hw1 (out_ _ rfl).1))), Ev.bnd b3 (Ev.pos rfl (Ev.bnd hw2 (out_ _ rfl).2))⟩
    rw [decide_eq_true hn] at hw1 hw2
    obtain ⟨m, rfl⟩ : ∃ m : Nat, n = (m : Int) := ⟨n.toNat, by omega⟩
    obtain ⟨D, hD⟩ := Classical.axiomOfChoice (fun i : Nat => delta_both g hlen (i : Int))
    -- all that is gathered
    have key : ∀ d i, i + d = m + 1 → ∀ out : List Int, out.length ≤ 101 * i → (∀ y, y ∈ out ↔ ∃ q, q < i ∧ y ∈ D q) →
        ∃ r, (asc r ∧ ∀ y, y ∈ r ↔ ∃ q, q < m + 1 ∧ y ∈ D q) ∧ Ev (fun k => spec_DeltaSet.l0 k (m : Int) out (i : Int) g) r := by
      intro d
      induction d with
      | zero =>
        intro i hi out ho hm
        obtain rfl : i = m + 1 := by omega
        obtain ⟨r, r1, r2⟩ := spec_SortList_big out (by omega)
        refine ⟨r, ⟨r1.1, fun y => (r1.2.1 y).trans (hm y)⟩, Ev.one (fun k => by rw [spec_DeltaSet.l0]) ?_⟩
        exact Ev.neg (by omega) (Ev.bnd r2 (Ev.now _))
      | succ d ih =>
        intro i hi out ho hm
        have hDi := hD i
        obtain ⟨r, r1, r2⟩ := spec_ds_l1 g (m : Int) i (D i) hDi.1 (R := fun r => asc r ∧ ∀ y, y ∈ r ↔ ∃ q, q < m + 1 ∧ y ∈ D q) (D i).length 0 (by omega) out (by omega) (fun out' h1 h2 => by
          rw [w64_succ i (by omega)]
          refine ih (i + 1) (by omega) out' (by omega) (fun y => ?_)
          rw [h2, hm, List.drop_zero]
          constructor
          · rintro (⟨q, q1, q2⟩ | h)
            · exact ⟨q, by omega, q2⟩
            · exact ⟨i, by omega, h⟩
          · rintro ⟨q, q1, q2⟩
            by_cases e : q = i
            · exact .inr (e ▸ q2)
            · exact .inl ⟨q, by omega, q2⟩)
        refine ⟨r, r1, Ev.one (fun k => by rw [spec_DeltaSet.l0]) ?_⟩
        exact Ev.pos (by omega) (Ev.bnd hDi.2.1 r2)
    obtain ⟨r, r1, r2⟩ := key (m + 1) 0 (by omega) [] (by simp) (fun y => ⟨(fun h => by cases h), (fun ⟨q, h, _⟩ => by omega)⟩)
    have key2 : ∀ d i, i + d = m + 1 → ∀ out : List Int, out.length ≤ 101 * i → (∀ y, y ∈ out ↔ ∃ q, q < i ∧ y ∈ D q) →
        ∃ r, (asc r ∧ (∀ y, y ∈ r ↔ ∃ q, q < m + 1 ∧ y ∈ D q) ∧ r.length ≤ 1048576) ∧ Ev (fun k => impl_DeltaSet.l0 k out ((m + 1 : Nat) : Int) (i : Int) g) r := by
      intro d
      induction d with
      | zero =>
        intro i hi out ho hm
        obtain rfl : i = m + 1 := by omega
        obtain ⟨r, r1, r2⟩ := impl_SortList_ev out (by omega)
        refine ⟨r, ⟨r1.1, fun y => (r1.2.1 y).trans (hm y), by omega⟩, Ev.one (fun k => by rw [impl_DeltaSet.l0]) ?_⟩
        exact Ev.neg (by omega) (Ev.bnd r2 (Ev.now _))
      | succ d ih =>
        intro i hi out ho hm
        have hDi := hD i
        obtain ⟨r, r1, r2⟩ := ih (i + 1) (by omega) (out ++ D i) (by rw [List.length_append]; omega) (fun y => by
          rw [List.mem_append, hm]
          constructor
          · rintro (⟨q, q1, q2⟩ | h)
            · exact ⟨q, by omega, q2⟩
            · exact ⟨i, by omega, h⟩
          · rintro ⟨q, q1, q2⟩
            by_cases e : q = i
            · exact .inr (e ▸ q2)
            · exact .inl ⟨q, by omega, q2⟩)
        refine ⟨r, r1, Ev.one (fun k => by rw [impl_DeltaSet.l0]) ?_⟩
        rw [w64_succ i (by omega)]
        exact Ev.pos (by omega) (Ev.bnd hDi.2.2 (Ev.pos (by omega) r2))
    obtain ⟨s, s1, s2⟩ := key2 (m + 1) 0 (by omega) [] (by simp) (fun y => ⟨(fun h => by cases h), (fun ⟨q, h, _⟩ => by omega)⟩)
    obtain rfl := asc_uniq r s r1.1 s1.1 (fun x => (r1.2 x).trans (s1.2.1 x).symm)
    refine ⟨r, s1.2.2, Ev.some (Ev.bnd b2 (Ev.pos rfl (Ev.bnd hw1 ?_))), Ev.bnd b3 (Ev.pos rfl (Ev.bnd hw2 ?_))⟩
    · refine Ev.one (fun k => by rw [spec_DeltaSet.j0]) ?_
      exact Ev.neg (by decide) r2
    · refine Ev.one (fun k => by rw [impl_DeltaSet.j0]) ?_
      rw [w64_succ m (by omega)]
      exact Ev.neg (by decide) s2
theorem FnExactDeltaSet (g : List Int) (n : Int) (hm_g : g.length ≤ maxLen) (hw_g : ∀ x ∈ g, (Lit.int .i64 x).wf = true) (h_n : (Lit.int .i64 n).wf = true) : ∃ k, laws_FnExactDeltaSet.f k g n = some true := by
  apply Ev.rounds
  unfold laws_FnExactDeltaSet.f
  by_cases hl_g : (g.length : Int) ≤ 1048576
  rotate_left
  · exact Ev.bnd (szSemigroup_out g hm_g hl_g) (Ev.pos (by omega) (Ev.now _))
  refine Ev.bnd (szSemigroup_in g hm_g hl_g) (Ev.neg (by omega) ?_)
  have ht_g := toSemigroup_ev g (by omega)
  have he_g := eqSemigroup_ev g (by omega)
  obtain ⟨r, hr, h1, h2⟩ := deltaset_both g (by omega) n
  have hr : r.length ≤ 1048576 := Nat.le_trans hr (by decide)
  have her := eqIntS_ev r (by omega)
  have hmr := markIntS_ev r 1 (by omega) (by omega) (by omega)
  have hhr := heldIntS_ev r 1 (by omega) (by omega) (by omega)
  have hmk_g := markSemigroup_ev g (1) (by omega) (by omega) (by omega)
  repeat (first | exact Ev.now _ | (refine Ev.bnd (by assumption) ?_; try dsimp only) | refine Ev.pos (by first | with_reducible rfl | omega) ?_ | refine Ev.neg (by first | omega | decide | (simp; done)) ?_ | (refine Ev.one (fun k => by rw [laws_FnExactDeltaSet.j0]) ?_) | (refine Ev.one (fun k => by rw [laws_FnExactDeltaSet.j1]) ?_) | (refine Ev.one (fun k => by rw [laws_FnExactDeltaSet.j2]) ?_))
end Go.Proofs.Ytiejmnnnjmmifaa.Pure
