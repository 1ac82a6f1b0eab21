/- Plain lemmas (delta): no program, no memory. -/
import Derived.Test.YtiejmnnnjmmifaaC0
import Derived.Test.YtiejmnnnjmmifaaC2
import Derived.Test.YtiejmnnnjmmifaaC5
import Derived.Test.YtiejmnnnjmmifaaC9
import Derived.Test.YtiejmnnnjmmifaaBisort
import Derived.Test.YtiejmnnnjmmifaaBlengths
import Derived.Test.YtiejmnnnjmmifaaBbase
namespace Go.Proofs.Ytiejmnnnjmmifaa.Pure
open Go.RowKit Go.Proofs.Ytiejmnnnjmmifaa.C Go.Proofs.YtiejmnnnjmmifaaW.PrintWords Go.Proofs.YtiejmnnnjmmifaaW.PrintLast Go.Proofs.YtiejmnnnjmmifaaW.PrintMore
set_option linter.unusedVariables false
set_option linter.unusedSimpArgs false
/-! delta: DeltaOf of both sides -/
def diffs (l : List Int) (i : Nat) : List Int := (List.range i).map fun j => l.getD (j + 1) 0 - l.getD j 0
theorem diffs_succ (l : List Int) (i : Nat) : diffs l (i + 1) = diffs l i ++ [l.getD (i + 1) 0 - l.getD i 0] := by
  unfold diffs
  rw [List.range_succ, List.map_append]
  rfl
theorem diffs_len (l : List Int) (i : Nat) : (diffs l i).length = i := by unfold diffs; rw [List.length_map, List.length_range]
theorem getD_in (l : List Int) (i : Nat) (h : i < l.length) : l.getD i 0 = l[i] := by rw [List.getD_eq_getElem?_getD, List.getElem?_eq_getElem h, Option.getD_some]
theorem rd_getD (l : List Int) (i : Nat) : rd l (i : Int) = l.getD i 0 := by unfold rd; rw [Int.toNat_natCast]
theorem w64_pre (i : Nat) (h : i < 4611686018427387904) (h1 : 1 ≤ i) : wrap64 ((i : Int) - 1) = ((i - 1 : Nat) : Int) := by
  rw [w64_of (by omega) (by omega)]
  omega
theorem spec_delta_l0 (l : List Int) (hl : l.length ≤ 1048576) (hv : ∀ x ∈ l, 0 ≤ x ∧ x ≤ 100) {r : List Int} (hr : Ev (fun k => spec_SortList.f k (diffs l (l.length - 1))) r) : ∀ d i, 1 ≤ i → i + d = l.length → Ev (fun k => spec_DeltaOf.l0 k (diffs l (i - 1)) l (i : Int)) r := by
  intro d
  induction d with
  | zero =>
    intro i h1 hi
    obtain rfl : i = l.length := by omega
    refine Ev.one (fun k => by rw [spec_DeltaOf.l0]) ?_
    exact Ev.neg (by omega) (Ev.bnd hr (Ev.now _))
  | succ d ih =>
    intro i h1 hi
    have ih := ih (i + 1) (by omega) (by omega)
    have hdl := diffs_len l (i - 1)
    have e : diffs l (i + 1 - 1) = diffs l (i - 1) ++ [l.getD i 0 - l.getD (i - 1) 0] := by
      obtain ⟨m, rfl⟩ : ∃ m, i = m + 1 := ⟨i - 1, by omega⟩
      exact diffs_succ l m
    rw [e] at ih
    have h2 := hv _ (List.getElem_mem (show i < l.length by omega))
    have h3 := hv _ (List.getElem_mem (show i - 1 < l.length by omega))
    refine Ev.one (fun k => by rw [spec_DeltaOf.l0]) ?_
    rw [w64_pre i (by omega) h1, rd_getD, rd_getD, w64_succ i (by omega), w64_of (x := l.getD i 0 - l.getD (i - 1) 0) (by rw [getD_in l i (by omega), getD_in l (i - 1) (by omega)]; omega) (by rw [getD_in l i (by omega), getD_in l (i - 1) (by omega)]; omega)]
    exact Ev.pos (by omega) (Ev.pos (by omega) (Ev.pos (by omega) (Ev.pos (by omega) (Ev.pos (by omega) ih))))
theorem impl_delta_l0 (l : List Int) (hl : l.length ≤ 1048576) (hv : ∀ x ∈ l, 0 ≤ x ∧ x ≤ 100) {r : List Int} (hr : Ev (fun _ => impl_SortList.f (diffs l (l.length - 1))) r) : ∀ d i, 1 ≤ i → i + d = l.length → Ev (fun k => impl_DeltaOf.l0 k l (diffs l (i - 1)) (i : Int)) r := by
  intro d
  induction d with
  | zero =>
    intro i h1 hi
    obtain rfl : i = l.length := by omega
    refine Ev.one (fun k => by rw [impl_DeltaOf.l0]) ?_
    exact Ev.neg (by omega) (Ev.bnd hr (Ev.now _))
  | succ d ih =>
    intro i h1 hi
    have ih := ih (i + 1) (by omega) (by omega)
    have hdl := diffs_len l (i - 1)
    have e : diffs l (i + 1 - 1) = diffs l (i - 1) ++ [l.getD i 0 - l.getD (i - 1) 0] := by
      obtain ⟨m, rfl⟩ : ∃ m, i = m + 1 := ⟨i - 1, by omega⟩
      exact diffs_succ l m
    rw [e] at ih
    have h2 := hv _ (List.getElem_mem (show i < l.length by omega))
    have h3 := hv _ (List.getElem_mem (show i - 1 < l.length by omega))
    refine Ev.one (fun k => by rw [impl_DeltaOf.l0]) ?_
    rw [w64_pre i (by omega) h1, rd_getD, rd_getD, w64_succ i (by omega), w64_of (x := l.getD i 0 - l.getD (i - 1) 0) (by rw [getD_in l i (by omega), getD_in l (i - 1) (by omega)]; omega) (by rw [getD_in l i (by omega), getD_in l (i - 1) (by omega)]; omega)]
    exact Ev.pos (by omega) (Ev.pos (by omega) (Ev.pos (by omega) (Ev.pos (by omega) (Ev.pos (by omega) ih))))
theorem delta_both (g : List Int) (hlen : g.length ≤ 1048576) (n : Int) : ∃ r, r.length ≤ 101 ∧ Ev (fun k => spec_DeltaOf.f k g n) r ∧ Ev (fun k => impl_DeltaOf.f k g n) r := by
  obtain ⟨l, l1, l2, l3⟩ := lengths_both g hlen n
  have hdl := diffs_len l (l.length - 1)
  obtain ⟨r, r1, r2, r3⟩ := sort_both (diffs l (l.length - 1)) (by omega)
  refine ⟨r, by omega, ?_, ?_⟩
  · unfold spec_DeltaOf.f
    refine Ev.bnd l2 ?_
    by_cases h : l.length = 0
    · rw [h] at r2
      refine Ev.one (fun k => by rw [spec_DeltaOf.l0]) ?_
      exact Ev.neg (by omega) (Ev.bnd r2 (Ev.now _))
    · exact spec_delta_l0 l (by omega) (fun x hx => ⟨(l1.2.1 x hx).1, (l1.2.1 x hx).2.1⟩) r2 (l.length - 1) 1 (by omega) (by omega)
  · unfold impl_DeltaOf.f
    refine Ev.bnd l3 ?_
    by_cases h : l.length = 0
    · rw [h] at r3
      refine Ev.one (fun k => by rw [impl_DeltaOf.l0]) ?_
      exact Ev.neg (by omega) (Ev.bnd r3 (Ev.now _))
    · exact impl_delta_l0 l (by omega) (fun x hx => ⟨(l1.2.1 x hx).1, (l1.2.1 x hx).2.1⟩) r3 (l.length - 1) 1 (by omega) (by omega)
end Go.Proofs.Ytiejmnnnjmmifaa.Pure
