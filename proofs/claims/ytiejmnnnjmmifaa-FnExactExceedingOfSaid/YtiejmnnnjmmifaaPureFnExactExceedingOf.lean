/- For every semigroup value and number the program's ExceedingOf returns what the reference's returns; no condition besides the row's own. -/
import Derived.Test.YtiejmnnnjmmifaaC0
import Derived.Test.YtiejmnnnjmmifaaC15
import Derived.Test.YtiejmnnnjmmifaaC16
import Derived.Test.YtiejmnnnjmmifaaBbase
import Derived.Test.YtiejmnnnjmmifaaBlaws0
import Derived.Test.YtiejmnnnjmmifaaBlaws1
import Derived.Test.YtiejmnnnjmmifaaBsz
import Derived.Test.YtiejmnnnjmmifaaBwithin
import Derived.Test.YtiejmnnnjmmifaaBallwithin
import Derived.Test.YtiejmnnnjmmifaaBsums
import Derived.Test.YtiejmnnnjmmifaaBtable
import Derived.Test.YtiejmnnnjmmifaaBgcd
import Derived.Test.YtiejmnnnjmmifaaBasc
import Derived.Test.YtiejmnnnjmmifaaBleasts
import Derived.Test.YtiejmnnnjmmifaaBsortspec
import Derived.Test.YtiejmnnnjmmifaaBisort
import Derived.Test.YtiejmnnnjmmifaaBminimal
import Derived.Test.YtiejmnnnjmmifaaBissg
import Derived.Test.YtiejmnnnjmmifaaBshell
import Derived.Test.YtiejmnnnjmmifaaBleastle
import Derived.Test.YtiejmnnnjmmifaaBspechas
import Derived.Test.YtiejmnnnjmmifaaBhas
import Derived.Test.YtiejmnnnjmmifaaBsemig
import Derived.Test.YtiejmnnnjmmifaaBmarksg
import Derived.Test.YtiejmnnnjmmifaaBelems
import Derived.Test.YtiejmnnnjmmifaaBreach
import Derived.Test.YtiejmnnnjmmifaaBextreme
import Derived.Test.YtiejmnnnjmmifaaBmaximal
import Derived.Test.YtiejmnnnjmmifaaBapery
namespace Go.Proofs.Ytiejmnnnjmmifaa.Pure
open Go.RowKit Go.Proofs.Ytiejmnnnjmmifaa.C Go.Proofs.YtiejmnnnjmmifaaW.PrintWords Go.Proofs.YtiejmnnnjmmifaaW.PrintLast Go.Proofs.YtiejmnnnjmmifaaW.PrintMore
set_option linter.unusedVariables false
set_option linter.unusedSimpArgs false
theorem spec_exc_l0 (l : List Int) (n : Int) (hl : l.length ≤ 1000) (hv : ∀ x ∈ l, -10000 ≤ x - n ∧ x - n ≤ 10000) : ∀ d i, i + d = l.length → Ev (fun k => spec_ExceedingOf.l0 k n ((l.take i).map (fun x => x - n) ++ l.drop i) (i : Int)) (l.map fun x => x - n) := by
  intro d
  induction d with
  | zero =>
    intro i hi
    rw [List.take_of_length_le (by omega), List.drop_eq_nil_of_le (by omega), List.append_nil]
    refine Ev.one (fun k => by rw [spec_ExceedingOf.l0]) ?_
    exact Ev.neg (by rw [List.length_map]; omega) (Ev.now _)
  | succ d ih =>
    intro i hi
    have hil : i < l.length := by omega
    have hx := hv _ (List.getElem_mem hil)
    have ih := ih (i + 1) (by omega)
    have e : ((l.take i).map fun x => x - n).length = i := by rw [List.length_map, List.length_take]; omega
    have hr : rd ((l.take i).map (fun x => x - n) ++ l[i] :: l.drop (i + 1)) (i : Int) = l[i] := by
      have := rd_mid ((l.take i).map fun x => x - n) (l.drop (i + 1)) l[i]
      rwa [e] at this
    have hs : ((l.take i).map (fun x => x - n) ++ l[i] :: l.drop (i + 1)).set i (l[i] - n) = (l.take (i + 1)).map (fun x => x - n) ++ l.drop (i + 1) := by
      have := set_mid ((l.take i).map fun x => x - n) (l.drop (i + 1)) l[i] (l[i] - n)
      rw [e] at this
      rw [this, List.take_succ_eq_append_getElem hil, List.map_append, List.append_assoc]
      rfl
    rw [List.drop_eq_getElem_cons hil]
    refine Ev.one (fun k => by rw [spec_ExceedingOf.l0]) ?_
    rw [hr, w64_succ i (by omega), w64_of (x := l[i] - n) (by omega) (by omega), Int.toNat_natCast, hs]
    exact Ev.pos (by rw [List.length_append, e, List.length_cons]; omega) (Ev.pos (by omega) ih)
theorem impl_exc_l0 (l : List Int) (n : Int) (hl : l.length ≤ 1000) (hv : ∀ x ∈ l, -10000 ≤ x - n ∧ x - n ≤ 10000) : ∀ d i, i + d = l.length → Ev (fun k => impl_ExceedingOf.l0 k n ((l.take i).map fun x => x - n) l (l.length : Int) (i : Int)) (l.map fun x => x - n) := by
  intro d
  induction d with
  | zero =>
    intro i hi
    rw [List.take_of_length_le (by omega)]
    refine Ev.one (fun k => by rw [impl_ExceedingOf.l0]) ?_
    exact Ev.neg (by omega) (Ev.now _)
  | succ d ih =>
    intro i hi
    have hil : i < l.length := by omega
    have hx := hv _ (List.getElem_mem hil)
    have ih := ih (i + 1) (by omega)
    rw [List.take_succ_eq_append_getElem hil, List.map_append, List.map_cons, List.map_nil] at ih
    refine Ev.one (fun k => by rw [impl_ExceedingOf.l0]) ?_
    rw [rd_at l i hil, w64_succ i (by omega), w64_of (x := l[i] - n) (by omega) (by omega)]
    exact Ev.pos (by omega) (Ev.pos (by omega) (Ev.pos (by omega) (Ev.pos (by rw [List.length_map, List.length_take]; omega) ih)))
theorem exceeding_both (g : List Int) (n : Int) (hlen : g.length ≤ 1048576) (hn64 : n ≤ 9223372036854775807) : ∃ r, r.length ≤ 1048576 ∧ Ev (fun k => spec_ExceedingOf.f k g n) r ∧ Ev (fun k => impl_ExceedingOf.f k g n) r := by
  obtain ⟨a, a1, a2, a3⟩ := apery_both g hlen n hn64
  obtain ⟨m, m1, m2, m3⟩ := maximal_both g a hlen (by omega)
  have hv : ∀ x ∈ m, -10000 ≤ x - n ∧ x - n ≤ 10000 := fun x hx => by
    have h1 := a1.2.1 x (m1.2.1 x hx)
    have h2 := a1.2.2 (fun e => by have := m1.2.1 x hx; rw [e] at this; cases this)
    omega
  refine ⟨m.map fun x => x - n, by rw [List.length_map]; omega, ?_, ?_⟩
  · unfold spec_ExceedingOf.f
    have h := spec_exc_l0 m n (by omega) hv m.length 0 (by omega)
    rw [List.take_zero, List.map_nil, List.nil_append, List.drop_zero] at h
    exact Ev.bnd a2 (Ev.bnd m2 h)
  · unfold impl_ExceedingOf.f
    refine Ev.bnd a3 ?_
    by_cases h0 : (a.length : Int) = 0
    · have e : m = [] := List.eq_nil_of_length_eq_zero (by omega)
      rw [e]
      exact Ev.pos h0 (Ev.now _)
    · exact Ev.neg h0 (Ev.bnd m3 (impl_exc_l0 m n (by omega) hv m.length 0 (by omega)))
theorem FnExactExceedingOf (g : List Int) (n : Int) (hm_g : g.length ≤ maxLen) (hw_g : ∀ x ∈ g, (Lit.int .i64 x).wf = true) (h_n : (Lit.int .i64 n).wf = true) : ∃ k, laws_FnExactExceedingOf.f k g n = some true := by
  apply Ev.rounds
  unfold laws_FnExactExceedingOf.f
  by_cases hl_g : (g.length : Int) ≤ 1048576
  rotate_left
  · exact Ev.bnd (szSemigroup_out g hm_g hl_g) (Ev.pos (by omega) (Ev.now _))
  refine Ev.bnd (szSemigroup_in g hm_g hl_g) (Ev.neg (by omega) ?_)
  have ht_g := toSemigroup_ev g (by omega)
  have he_g := eqSemigroup_ev g (by omega)
  obtain ⟨r, hr, h1, h2⟩ := exceeding_both g n (by omega) (wf64 h_n).2
  have hr : r.length ≤ 1048576 := Nat.le_trans hr (by decide)
  have her := eqIntS_ev r (by omega)
  have hmr := markIntS_ev r 1 (by omega) (by omega) (by omega)
  have hhr := heldIntS_ev r 1 (by omega) (by omega) (by omega)
  have hmk_g := markSemigroup_ev g (1) (by omega) (by omega) (by omega)
  repeat (first | exact Ev.now _ | (refine Ev.bnd (by assumption) ?_; try dsimp only) | refine Ev.pos (by first | with_reducible rfl | omega) ?_ | refine Ev.neg (by first | omega | decide | (simp; done)) ?_ | (refine Ev.one (fun k => by rw [laws_FnExactExceedingOf.j0]) ?_) | (refine Ev.one (fun k => by rw [laws_FnExactExceedingOf.j1]) ?_) | (refine Ev.one (fun k => by rw [laws_FnExactExceedingOf.j2]) ?_))
end Go.Proofs.Ytiejmnnnjmmifaa.Pure
