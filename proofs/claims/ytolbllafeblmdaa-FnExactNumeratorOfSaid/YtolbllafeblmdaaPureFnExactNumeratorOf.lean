/- For all arguments the program's NumeratorOf returns what the reference's returns, in memory of its own; no condition besides the row's own. -/
import Derived.Test.YtolbllafeblmdaaC0
import Derived.Test.YtolbllafeblmdaaC13
import Derived.Test.YtolbllafeblmdaaC25
import Derived.Test.YtolbllafeblmdaaC26
import Derived.Test.YtolbllafeblmdaaC27
import Derived.Test.YtolbllafeblmdaaBbase
import Derived.Test.YtolbllafeblmdaaBlaws0
import Derived.Test.YtolbllafeblmdaaBlaws1
import Derived.Test.YtolbllafeblmdaaBsz
import Derived.Test.YtolbllafeblmdaaBwithin
import Derived.Test.YtolbllafeblmdaaBallwithin
import Derived.Test.YtolbllafeblmdaaBsums
import Derived.Test.YtolbllafeblmdaaBtable
import Derived.Test.YtolbllafeblmdaaBgcd
import Derived.Test.YtolbllafeblmdaaBasc
import Derived.Test.YtolbllafeblmdaaBleasts
import Derived.Test.YtolbllafeblmdaaBsortspec
import Derived.Test.YtolbllafeblmdaaBminimal
import Derived.Test.YtolbllafeblmdaaBissg
import Derived.Test.YtolbllafeblmdaaBshell
import Derived.Test.YtolbllafeblmdaaBhas
import Derived.Test.YtolbllafeblmdaaBsemig
import Derived.Test.YtolbllafeblmdaaBmarksg
import Derived.Test.YtolbllafeblmdaaBelems
import Derived.Test.YtolbllafeblmdaaBgaps
namespace Go.Proofs.Ytolbllafeblmdaa.Pure
open Go.RowKit Go.Proofs.Ytolbllafeblmdaa.C Go.Proofs.YtolbllafeblmdaaW.PrintWords Go.Proofs.YtolbllafeblmdaaW.PrintLast Go.Proofs.YtolbllafeblmdaaW.PrintMore
set_option linter.unusedVariables false
set_option linter.unusedSimpArgs false
/-- The coefficient of a number. -/
noncomputable def numF (g : List Int) (n : Nat) : Int := (if elB g (n : Int) = true then 1 else 0) - (if n ≠ 0 ∧ elB g ((n : Int) - 1) = true then 1 else 0)
noncomputable def numL (g : List Int) (m : Nat) : List Int := (List.range m).map (numF g)
theorem numL_succ (g : List Int) (m : Nat) : numL g (m + 1) = numL g m ++ [numF g m] := by
  unfold numL
  rw [List.range_succ, List.map_append, List.map_cons, List.map_nil]
theorem numL_len (g : List Int) (m : Nat) : (numL g m).length = m := by simp [numL]
theorem l15Has_ev (g : List Int) (h : SG g) (n : Int) : Ev (fun k => spec_l15Has.f k g n) (elB g n) := by
  unfold spec_l15Has.f
  by_cases h0 : n = 0
  · rw [h0, show elB g 0 = true from (elB_iff g 0).2 (Sums.zero g)]
    exact Ev.pos rfl (Ev.now _)
  · obtain ⟨d, d1, d2⟩ := spec_l3Has_ev g h n
    rw [← elB_of (d1.trans ⟨fun e => e.1, fun e => ⟨e, by omega⟩⟩)]
    exact Ev.neg h0 (Ev.bnd d2 (Ev.now _))
theorem l1Bit_ev (b : Bool) : Ev (fun _ => spec_l1Bit.f b) (if b = true then 1 else 0) := by
  refine Ev.const ?_
  unfold spec_l1Bit.f
  cases b <;> rfl
theorem elB_neg (g : List Int) (hg : ∀ x ∈ g, 1 ≤ x) : elB g (-1) = false := by
  cases h : elB g (-1) with
  | false => rfl
  | true => have := ((elB_iff g _).1 h).nonneg hg; omega
theorem num_spec_l0 (g : List Int) (hS : SG g) (C : Nat) (hC : C ≤ 200) (hc : Ev (fun k => spec_ConductorOf.f k g) (C : Int)) : ∀ (d i : Nat), i + d = C + 1 → Ev (fun k => spec_NumeratorOf.l0 k (numL g i) (i : Int) g) (numL g (C + 1)) := by
  intro d
  induction d with
  | zero =>
    intro i hi
    obtain rfl : i = C + 1 := by omega
    refine Ev.one (fun k => by rw [spec_NumeratorOf.l0]) ?_
    exact Ev.bnd hc (Ev.neg (by omega) (Ev.now _))
  | succ d ih =>
    intro i hi
    have ih := ih (i + 1) (by omega)
    rw [numL_succ] at ih
    refine Ev.one (fun k => by rw [spec_NumeratorOf.l0]) ?_
    have e1 : wrap64 ((i : Int) - 1) = (i : Int) - 1 := w64_of (by omega) (by omega)
    rw [e1, w64_succ i (by omega)]
    refine Ev.bnd hc (Ev.pos (by omega) (Ev.bnd (l15Has_ev g hS _) (Ev.bnd (l1Bit_ev _) (Ev.bnd (l15Has_ev g hS _) (Ev.bnd (l1Bit_ev _) (Ev.pos (by rw [numL_len]; omega) ?_))))))
    have e2 : wrap64 ((if elB g (i : Int) = true then 1 else 0) - (if elB g ((i : Int) - 1) = true then 1 else 0)) = numF g i := by
      unfold numF
      by_cases h0 : i = 0
      · subst h0
        rw [show (((0 : Nat) : Int) - 1) = -1 from by omega, elB_neg g (fun x hx => (hS.rng x hx).1)]
        rw [w64_of (by split <;> simp) (by split <;> simp)]
        simp
      · have : (i ≠ 0 ∧ elB g ((i : Int) - 1) = true) ↔ elB g ((i : Int) - 1) = true := ⟨fun h => h.2, fun h => ⟨h0, h⟩⟩
        rw [w64_of (by split <;> split <;> omega) (by split <;> split <;> omega)]
        simp only [this]
    rw [e2]
    exact ih
theorem num_impl_l0 (g : List Int) (C : Nat) (hC : C ≤ 200) : ∀ (d i : Nat), i + d = C + 1 →
    Ev (fun k => impl_NumeratorOf.l0 k (tblL g 201) (numL g i) (decide (i ≠ 0) && elB g ((i : Int) - 1)) ((C + 1 : Nat) : Int) (i : Int)) (numL g (C + 1)) := by
  intro d
  induction d with
  | zero =>
    intro i hi
    obtain rfl : i = C + 1 := by omega
    refine Ev.one (fun k => by rw [impl_NumeratorOf.l0]) ?_
    exact Ev.neg (by omega) (Ev.now _)
  | succ d ih =>
    intro i hi
    have ih := ih (i + 1) (by omega)
    have ht := tblL_length g 201
    have hn := numL_len g i
    rw [numL_succ] at ih
    have e3 : (decide (i + 1 ≠ 0) && elB g (((i + 1 : Nat) : Int) - 1)) = elB g (i : Int) := by
      rw [show (((i + 1 : Nat) : Int) - 1) = (i : Int) from by omega]
      simp
    rw [e3] at ih
    refine Ev.one (fun k => by rw [impl_NumeratorOf.l0]) ?_
    rw [rdOf_tblL g 201 i (by omega)]
    refine Ev.pos (by omega) (Ev.pos (by omega) (Ev.pos (by omega) ?_))
    have e4 : (i ≠ 0 ∧ elB g ((i : Int) - 1) = true) ↔ (decide (i ≠ 0) && elB g ((i : Int) - 1)) = true := by simp
    unfold numF at ih
    simp only [e4] at ih
    generalize (decide (i ≠ 0) && elB g ((i : Int) - 1)) = last at ih ⊢
    cases hb : elB g (i : Int) with
    | true =>
      rw [hb] at ih
      refine Ev.pos rfl (Ev.one (fun k => by rw [impl_NumeratorOf.j1]) ?_)
      rw [rdOf_tblL g 201 i (by omega), hb, w64_succ i (by omega)]
      cases last with
      | true => exact Ev.neg (by decide) (Ev.pos rfl (Ev.pos (by omega) (Ev.pos (by omega) (Ev.pos rfl (Ev.pos (by omega) ih)))))
      | false => exact Ev.pos rfl (Ev.pos (by omega) (Ev.pos (by omega) (Ev.pos (by omega) ih)))
    | false =>
      rw [hb] at ih
      refine Ev.neg (by decide) (Ev.one (fun k => by rw [impl_NumeratorOf.j1]) ?_)
      rw [rdOf_tblL g 201 i (by omega), hb, w64_succ i (by omega)]
      cases last with
      | true => exact Ev.neg (by decide) (Ev.pos rfl (Ev.pos (by omega) (Ev.pos (by omega) (Ev.neg (by decide) (Ev.pos (by omega) ih)))))
      | false => exact Ev.neg (by decide) (Ev.neg (by decide) (Ev.pos (by omega) (Ev.pos (by omega) (Ev.pos (by omega) ih))))
theorem num_both (g : List Int) (hlen : g.length ≤ 1048576) : ∃ r : List Int, r.length ≤ 1000 ∧ Ev (fun k => spec_NumeratorOf.f k g) r ∧ Ev (fun k => impl_NumeratorOf.f k g) r := by
  obtain ⟨b, b1, b2, b3⟩ := sg_both g hlen
  obtain ⟨c, _, c1, c2⟩ := cond_both g hlen
  have hb := lastS_gaps c g
  obtain ⟨C, hC⟩ : ∃ C : Nat, lastS (gapsS c g) + 1 = (C : Int) := ⟨(lastS (gapsS c g) + 1).toNat, by omega⟩
  rw [hC] at c1 c2
  unfold spec_NumeratorOf.f impl_NumeratorOf.f
  cases b with
  | false => exact ⟨[], by simp, Ev.some (Ev.bnd b2 (Ev.neg (by decide) (Ev.now _))), Ev.bnd b3 (Ev.neg (by decide) (Ev.now _))⟩
  | true =>
    have hS := b1.1 rfl
    refine ⟨numL g (C + 1), by rw [numL_len]; omega, Ev.some (Ev.bnd b2 (Ev.pos rfl (num_spec_l0 g hS C (by omega) c1 (C + 1) 0 (by omega)))), Ev.bnd b3 (Ev.pos rfl (Ev.bnd (impl_table_ev g hS 200 (by omega)) (Ev.bnd c2 ?_)))⟩
    rw [w64_succ C (by omega)]
    exact num_impl_l0 g C (by omega) (C + 1) 0 (by omega)
theorem FnExactNumeratorOf (g : List Int) (hm : g.length ≤ maxLen) (hw : ∀ x ∈ g, (Lit.int .i64 x).wf = true) : ∃ k, laws_FnExactNumeratorOf.f k g  = some true := by
  apply Ev.rounds
  unfold laws_FnExactNumeratorOf.f
  by_cases hl : (g.length : Int) ≤ 1048576
  · obtain ⟨r, hr, h1, h2⟩ := num_both g (by omega) 
    have ht := toSemigroup_ev g (by omega)
    have he := eqSemigroup_ev g (by omega)
    have her := eqIntS_ev r (by omega)
    have hmk := markSemigroup_ev g 1 (by omega) (by omega) (by omega)
    have hmr := markIntS_ev r 1 (by omega) (by omega) (by omega)
    have hhr := heldIntS_ev r 1 (by omega) (by omega) (by omega)
    refine Ev.bnd (szSemigroup_in g hm hl) (Ev.neg (by omega) (Ev.bnd ht (Ev.bnd h1 (Ev.bnd ht (Ev.bnd h2 (Ev.bnd her (Ev.pos rfl (Ev.bnd ht (Ev.bnd he (Ev.pos rfl (Ev.bnd hmk ?_)))))))))))
    dsimp only
    refine Ev.neg (by omega) (Ev.bnd her (Ev.one (fun k => by rw [laws_FnExactNumeratorOf.j0]) ?_))
    refine Ev.neg (by simp) (Ev.bnd hmr ?_)
    dsimp only
    exact Ev.bnd hhr (Ev.neg (by omega) (Ev.pos rfl (Ev.bnd ht (Ev.bnd h2 (Ev.bnd her (Ev.pos rfl (Ev.bnd hhr (Ev.neg (by omega) (Ev.pos rfl (Ev.now _))))))))))
  · exact Ev.bnd (szSemigroup_out g hm hl) (Ev.pos (by omega) (Ev.now _))

end Go.Proofs.Ytolbllafeblmdaa.Pure
