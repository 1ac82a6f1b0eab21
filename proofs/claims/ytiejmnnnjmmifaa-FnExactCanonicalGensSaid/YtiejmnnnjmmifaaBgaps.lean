/- Plain lemmas (gaps): no program, no memory. -/
import Derived.Test.YtiejmnnnjmmifaaC0
import Derived.Test.YtiejmnnnjmmifaaC7
import Derived.Test.YtiejmnnnjmmifaaBsums
import Derived.Test.YtiejmnnnjmmifaaBissg
import Derived.Test.YtiejmnnnjmmifaaBelems
import Derived.Test.YtiejmnnnjmmifaaBbase
namespace Go.Proofs.Ytiejmnnnjmmifaa.Pure
open Go.RowKit Go.Proofs.Ytiejmnnnjmmifaa.C Go.Proofs.YtiejmnnnjmmifaaW.PrintWords Go.Proofs.YtiejmnnnjmmifaaW.PrintLast Go.Proofs.YtiejmnnnjmmifaaW.PrintMore
set_option linter.unusedVariables false
set_option linter.unusedSimpArgs false
/-! gaps: Gaps, FrobeniusOf, ConductorOf of both sides -/
noncomputable def gapL (g : List Int) : List Int := pick (fun n => !elB g (n : Int)) (fun n => (n : Int)) 200
theorem gapL_len (g : List Int) : (gapL g).length ≤ 200 := pick_len _ _ _
theorem gapL_mem (g : List Int) (x : Int) : x ∈ gapL g ↔ 0 ≤ x ∧ x < 200 ∧ ¬ Sums g x := by
  unfold gapL pick
  rw [List.mem_map]
  constructor
  · rintro ⟨m, hm, rfl⟩
    rw [List.mem_filter, List.mem_range] at hm
    refine ⟨by omega, by omega, fun h => ?_⟩
    rw [(elB_iff g _).2 h] at hm
    exact absurd hm.2 (by decide)
  · rintro ⟨h0, h1, h2⟩
    refine ⟨x.toNat, ?_, by omega⟩
    rw [List.mem_filter, List.mem_range]
    refine ⟨by omega, ?_⟩
    rw [show ((x.toNat : Nat) : Int) = x from by omega]
    cases hb : elB g x with
    | true => exact absurd ((elB_iff g x).1 hb) h2
    | false => rfl
theorem impl_Gaps_l0 (g : List Int) (hS : SG g) : ∀ (d i : Nat), i + d = 201 → Ev (fun k => impl_Gaps.l0 k (pick (fun n => !elB g (n : Int)) (fun n => (n : Int)) i) (tblL g 201) 201 (i : Int)) (gapL g) := by
  intro d
  induction d with
  | zero =>
    intro i hi
    obtain rfl : i = 201 := by omega
    refine Ev.one (fun k => by rw [impl_Gaps.l0]) ?_
    rw [pick_neg _ _ 200 (by rw [show elB g ((200 : Nat) : Int) = true from (elB_iff g _).2 (hS.ends _ (by omega))]; rfl)]
    exact Ev.neg (by omega) (Ev.now _)
  | succ d ih =>
    intro i hi
    have ih := ih (i + 1) (by omega)
    have hl := pick_len (fun n => !elB g (n : Int)) (fun n => (n : Int)) i
    have ht := tblL_length g 201
    refine Ev.one (fun k => by rw [impl_Gaps.l0]) ?_
    rw [rdOf_tblL g 201 i (by omega), w64_succ i (by omega)]
    cases hb : elB g (i : Int) with
    | true =>
      rw [pick_neg _ _ i (by rw [hb]; rfl)] at ih
      exact Ev.pos (by omega) (Ev.pos (by omega) (Ev.pos (by omega) (Ev.pos rfl ih)))
    | false =>
      rw [pick_pos _ _ i (by rw [hb]; rfl)] at ih
      exact Ev.pos (by omega) (Ev.pos (by omega) (Ev.pos (by omega) (Ev.neg (by decide) (Ev.pos (by omega) ih))))
/-- What Gaps answers. -/
noncomputable def gapsS (b : Bool) (g : List Int) : List Int := if b = true then gapL g else []
theorem gapsS_len (b : Bool) (g : List Int) : (gapsS b g).length ≤ 200 := by
  unfold gapsS
  split
  · exact gapL_len g
  · simp
theorem impl_gaps_ev (g : List Int) (hlen : g.length ≤ 1048576) : ∃ b, (b = true ↔ SG g) ∧ Ev (fun k => impl_Gaps.f k g) (gapsS b g) := by
  obtain ⟨b, b1, b3⟩ := impl_IsSemigroup_ev g hlen
  refine ⟨b, b1, ?_⟩
  unfold impl_Gaps.f gapsS
  cases b with
  | false => exact Ev.bnd b3 (Ev.neg (by decide) (Ev.now _))
  | true =>
    have hS := b1.1 rfl
    refine Ev.bnd b3 (Ev.pos rfl (Ev.bnd (impl_table_ev g hS 200 (by omega)) ?_))
    rw [tblL_length]
    exact impl_Gaps_l0 g hS 201 0 (by omega)
/-- The greatest gap; -1 if there is none. -/
def lastS (l : List Int) : Int := if l.length = 0 then -1 else rd l ((l.length - 1 : Nat) : Int)
theorem gapsS_mem (b : Bool) (g : List Int) : ∀ x ∈ gapsS b g, 0 ≤ x ∧ x < 200 := by
  intro x hx
  unfold gapsS at hx
  cases b with
  | true =>
    rw [if_pos rfl] at hx
    have := (gapL_mem g x).1 hx
    omega
  | false =>
    rw [if_neg (by decide)] at hx
    simp at hx
theorem lastS_gaps (b : Bool) (g : List Int) : -1 ≤ lastS (gapsS b g) ∧ lastS (gapsS b g) ≤ 199 := by
  unfold lastS
  split
  · omega
  · rename_i h
    rw [rd_at _ _ (by omega)]
    have := gapsS_mem b g _ (List.getElem_mem (show (gapsS b g).length - 1 < (gapsS b g).length by omega))
    omega
end Go.Proofs.Ytiejmnnnjmmifaa.Pure
