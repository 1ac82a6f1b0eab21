/- Plain lemmas (gapl): no program, no memory. -/
import Derived.Test.YtiejmnnnjmmifaaC0
import Derived.Test.YtiejmnnnjmmifaaBsums
import Derived.Test.YtiejmnnnjmmifaaBelems
import Derived.Test.YtiejmnnnjmmifaaBbase
namespace Go.Proofs.Ytiejmnnnjmmifaa.Pure
open Go.RowKit Go.Proofs.Ytiejmnnnjmmifaa.C Go.Proofs.YtiejmnnnjmmifaaW.PrintWords Go.Proofs.YtiejmnnnjmmifaaW.PrintLast Go.Proofs.YtiejmnnnjmmifaaW.PrintMore
set_option linter.unusedVariables false
set_option linter.unusedSimpArgs false
/-! gapl: the gaps of a semigroup -/
noncomputable def gapL (g : List Int) : List Int := pick (fun n => !elB g (n : Int)) (fun n => (n : Int)) 200
theorem gapL_len (g : List Int) : (gapL g).length ≤ 200 := pick_len _ _ _
theorem gapL_mem (g : List Int) (x : Int) : x ∈ gapL g ↔ 0 ≤ x ∧ x < 200 ∧ ¬ Sums g x := by
  unfold gapL pick
  rw [List.mem_map]
  constructor
  · rintro ⟨m, hm, rfl⟩
    rw [List.mem_filter, List.mem_range] at hm
    refine ⟨by omega, by omega, fun h => ?_⟩
    rw [(elB_iff g _).2 h] at hm
    exact absurd hm.2 (by decide)
  · rintro ⟨h0, h1, h2⟩
    refine ⟨x.toNat, ?_, by omega⟩
    rw [List.mem_filter, List.mem_range]
    refine ⟨by omega, ?_⟩
    rw [show ((x.toNat : Nat) : Int) = x from by omega]
    cases hb : elB g x with
    | true => exact absurd ((elB_iff g x).1 hb) h2
    | false => rfl
/-- What Gaps answers. -/
noncomputable def gapsS (b : Bool) (g : List Int) : List Int := if b = true then gapL g else []
theorem gapsS_len (b : Bool) (g : List Int) : (gapsS b g).length ≤ 200 := by
  unfold gapsS
  split
  · exact gapL_len g
  · simp
/-- The greatest gap; -1 if there is none. -/
def lastS (l : List Int) : Int := if l.length = 0 then -1 else rd l ((l.length - 1 : Nat) : Int)
theorem gapsS_mem (b : Bool) (g : List Int) : ∀ x ∈ gapsS b g, 0 ≤ x ∧ x < 200 := by
  intro x hx
  unfold gapsS at hx
  cases b with
  | true =>
    rw [if_pos rfl] at hx
    have := (gapL_mem g x).1 hx
    omega
  | false =>
    rw [if_neg (by decide)] at hx
    simp at hx
theorem lastS_gaps (b : Bool) (g : List Int) : -1 ≤ lastS (gapsS b g) ∧ lastS (gapsS b g) ≤ 199 := by
  unfold lastS
  split
  · omega
  · rename_i h
    rw [rd_at _ _ (by omega)]
    have := gapsS_mem b g _ (List.getElem_mem (show (gapsS b g).length - 1 < (gapsS b g).length by omega))
    omega
end Go.Proofs.Ytiejmnnnjmmifaa.Pure
