/- Plain lemmas (pfro0): no program, no memory. -/
import Derived.Test.YtiejmnnnjmmifaaC0
import Derived.Test.YtiejmnnnjmmifaaC4
import Derived.Test.YtiejmnnnjmmifaaC5
import Derived.Test.YtiejmnnnjmmifaaBissg
import Derived.Test.YtiejmnnnjmmifaaBelems
import Derived.Test.YtiejmnnnjmmifaaBgaps
import Derived.Test.YtiejmnnnjmmifaaBhasnum
import Derived.Test.YtiejmnnnjmmifaaBbase
namespace Go.Proofs.Ytiejmnnnjmmifaa.Pure
open Go.RowKit Go.Proofs.Ytiejmnnnjmmifaa.C Go.Proofs.YtiejmnnnjmmifaaW.PrintWords Go.Proofs.YtiejmnnnjmmifaaW.PrintLast Go.Proofs.YtiejmnnnjmmifaaW.PrintMore
set_option linter.unusedVariables false
set_option linter.unusedSimpArgs false
/-! pfro0: PseudoFrobenius of both sides -/
noncomputable def pfB (g : List Int) (x : Int) : Bool := g.all fun y => elB g (x + y)
noncomputable def pfL (g : List Int) : List Int := (gapL g).filter (pfB g)
theorem gap_at (g : List Int) (j : Nat) (hj : j < (gapL g).length) : 0 ≤ (gapL g)[j] ∧ (gapL g)[j] < 200 := by
  have := (gapL_mem g _).1 (List.getElem_mem hj)
  omega
theorem gap_sum (g : List Int) (hS : SG g) (j : Nat) (hj : j < (gapL g).length) (y : Int) (hy : y ∈ g) (b : Bool) (hb : b = true ↔ (gapL g)[j] + y ∈ gapL g) : (!b) = elB g ((gapL g)[j] + y) := by
  have h1 := gap_at g j hj
  have h2 := hS.rng y hy
  refine elB_of ?_
  rw [Bool.not_eq_true', ← Bool.not_eq_true, hb, gapL_mem]
  constructor
  · intro h
    refine Classical.byContradiction fun hn => h ⟨by omega, ?_, hn⟩
    refine Classical.byContradiction fun h3 => hn (hS.ends _ (by omega))
  · intro h h3
    exact h3.2.2 h
theorem all_succ (g : List Int) (p : Int → Bool) (i : Nat) (hi : i < g.length) : (g.take (i + 1)).all p = ((g.take i).all p && p g[i]) := by
  rw [List.take_succ_eq_append_getElem hi, List.all_append]
  simp
theorem spec_pf_l1 (g : List Int) (hS : SG g) (acc : List Int) (j : Nat) (hj : j < (gapL g).length) (hacc : acc.length ≤ 200) {r : List Int}
    (hn : Ev (fun k => spec_PseudoFrobenius.l0 k (if pfB g (gapL g)[j] = true then acc ++ [(gapL g)[j]] else acc) (gapL g) ((j + 1 : Nat) : Int) g) r) :
    ∀ d i, i + d = g.length → Ev (fun k => spec_PseudoFrobenius.l1 k acc (gapL g) (j : Int) ((g.take i).all fun y => elB g ((gapL g)[j] + y)) (i : Int) g) r := by
  have hgl := gapL_len g
  have h200 := gap_at g j hj
  have hl2 := hS.len2
  intro d
  induction d with
  | zero =>
    intro i hi
    obtain rfl : i = g.length := by omega
    rw [List.take_length]
    refine Ev.one (fun k => by rw [spec_PseudoFrobenius.l1]) ?_
    rw [rd_at _ j hj, w64_succ j (by omega)]
    refine Ev.neg (by omega) ?_
    change Ev (fun k => if pfB g (gapL g)[j] = true then _ else _) r
    cases hb : pfB g (gapL g)[j] with
    | true =>
      rw [hb, if_pos rfl] at hn
      exact Ev.pos rfl (Ev.pos (by omega) (Ev.pos (by omega) (Ev.pos (by omega) hn)))
    | false =>
      rw [hb, if_neg (by decide)] at hn
      exact Ev.neg (by decide) hn
  | succ d ih =>
    intro i hi
    have hig : i < g.length := by omega
    have hy := hS.rng g[i] (List.getElem_mem hig)
    have ih := ih (i + 1) (by omega)
    rw [all_succ g _ i hig] at ih
    refine Ev.one (fun k => by rw [spec_PseudoFrobenius.l1]) ?_
    rw [rd_at _ j hj, rd_at g i hig, w64_succ i (by omega), w64_of (by omega) (by omega)]
    refine Ev.pos (by omega) ?_
    cases hb : (g.take i).all fun y => elB g ((gapL g)[j] + y) with
    | false =>
      rw [hb, Bool.false_and] at ih
      exact Ev.neg (by decide) ih
    | true =>
      rw [hb, Bool.true_and] at ih
      obtain ⟨b, b1, b2⟩ := spec_HasNumber_ev (gapL g) ((gapL g)[j] + g[i]) (by omega)
      rw [← gap_sum g hS j hj g[i] (List.getElem_mem hig) b b1] at ih
      exact Ev.pos rfl (Ev.pos (by omega) (Ev.pos (by omega) (Ev.pos (by omega) (Ev.bnd b2 ih))))
theorem spec_pf_l0 (g : List Int) (hS : SG g) : ∀ d j, j + d = (gapL g).length → Ev (fun k => spec_PseudoFrobenius.l0 k (((gapL g).take j).filter (pfB g)) (gapL g) (j : Int) g) (pfL g) := by
  have hgl := gapL_len g
  intro d
  induction d with
  | zero =>
    intro j hj
    rw [List.take_of_length_le (by omega)]
    refine Ev.one (fun k => by rw [spec_PseudoFrobenius.l0]) ?_
    exact Ev.neg (by omega) (Ev.now _)
  | succ d ih =>
    intro j hj
    have hjl : j < (gapL g).length := by omega
    have ih := ih (j + 1) (by omega)
    have hf := List.length_filter_le (pfB g) ((gapL g).take j)
    rw [List.length_take] at hf
    rw [List.take_succ_eq_append_getElem hjl, List.filter_append] at ih
    refine Ev.one (fun k => by rw [spec_PseudoFrobenius.l0]) ?_
    refine Ev.pos (by omega) ?_
    refine spec_pf_l1 g hS _ j hjl (by omega) ?_ g.length 0 (by omega)
    cases hb : pfB g (gapL g)[j] with
    | true => rw [List.filter_cons_of_pos hb, List.filter_nil] at ih; rw [if_pos rfl]; exact ih
    | false => rw [List.filter_cons_of_neg (by rw [hb]; decide), List.filter_nil, List.append_nil] at ih; rw [if_neg (by decide)]; exact ih
noncomputable def pfS (b : Bool) (g : List Int) : List Int := if b = true then pfL g else []
theorem pfS_len (b : Bool) (g : List Int) : (pfS b g).length ≤ 200 := by
  unfold pfS
  split
  · exact Nat.le_trans (List.length_filter_le ..) (gapL_len g)
  · simp
theorem pfS_mem (b : Bool) (g : List Int) (x : Int) (h : x ∈ pfS b g) : b = true ∧ x ∈ gapL g := by
  unfold pfS at h
  cases b with
  | true => rw [if_pos rfl] at h; exact ⟨rfl, (List.mem_filter.1 h).1⟩
  | false => rw [if_neg (by decide)] at h; cases h
theorem spec_pf_ev (g : List Int) (b : Bool) (b1 : b = true ↔ SG g) (b2 : Ev (fun k => spec_Gaps.f k g) (gapsS b g)) : Ev (fun k => spec_PseudoFrobenius.f k g) (pfS b g) := by
  unfold spec_PseudoFrobenius.f
  cases b with
  | false =>
    refine Ev.bnd b2 ?_
    refine Ev.one (fun k => by rw [spec_PseudoFrobenius.l0]) ?_
    exact Ev.neg (by simp [gapsS]) (Ev.now _)
  | true =>
    have hS := b1.1 rfl
    have e : gapsS true g = gapL g := if_pos rfl
    rw [e] at b2
    exact Ev.bnd b2 (spec_pf_l0 g hS (gapL g).length 0 (by omega))
end Go.Proofs.Ytiejmnnnjmmifaa.Pure
