/- Plain lemmas (specgaps): no program, no memory. -/
import Derived.Test.YtkfplkdchkmgbaaC0
import Derived.Test.YtkfplkdchkmgbaaC14
import Derived.Test.YtkfplkdchkmgbaaBbase
import Derived.Test.YtkfplkdchkmgbaaBleastle
namespace Go.Proofs.Ytkfplkdchkmgbaa.Pure
open Go.RowKit Go.Proofs.Ytkfplkdchkmgbaa.C Go.Proofs.YtkfplkdchkmgbaaW.PrintWords Go.Proofs.YtkfplkdchkmgbaaW.PrintLast Go.Proofs.YtkfplkdchkmgbaaW.PrintMore
set_option linter.unusedVariables false
set_option linter.unusedSimpArgs false
/-! specgaps: spec.l4Gaps -/
theorem spec_l4Gaps_l0 (g : List Int) : ∀ (d i : Nat), i + d = 200 → Ev (fun k => spec_l4Gaps.l0 k (pick (fun n => !elB g (n : Int)) (fun n => (n : Int)) i) (tblL g 201) (i : Int)) (gapL g) := by
  intro d
  induction d with
  | zero =>
    intro i hi
    obtain rfl : i = 200 := by omega
    refine Ev.one (fun k => by rw [spec_l4Gaps.l0]) ?_
    exact Ev.neg (by omega) (Ev.now _)
  | succ d ih =>
    intro i hi
    have ih := ih (i + 1) (by omega)
    have hl := pick_len (fun n => !elB g (n : Int)) (fun n => (n : Int)) i
    have ht := tblL_length g 201
    refine Ev.one (fun k => by rw [spec_l4Gaps.l0]) ?_
    rw [rdOf_tblL g 201 i (by omega), w64_succ i (by omega)]
    cases hb : elB g (i : Int) with
    | true =>
      rw [pick_neg _ _ i (by rw [hb]; rfl)] at ih
      exact Ev.pos (by omega) (Ev.pos (by omega) (Ev.pos (by omega) (Ev.pos rfl ih)))
    | false =>
      rw [pick_pos _ _ i (by rw [hb]; rfl)] at ih
      exact Ev.pos (by omega) (Ev.pos (by omega) (Ev.pos (by omega) (Ev.neg (by decide) (Ev.pos (by omega) ih))))
theorem spec_l4Gaps_ev (g : List Int) (hg : ∀ x ∈ g, 1 ≤ x) (hlen : g.length ≤ 1048576) : Ev (fun k => spec_l4Gaps.f k g) (gapL g) := by
  unfold spec_l4Gaps.f
  have e : pick (fun n => !elB g (n : Int)) (fun n => (n : Int)) 1 = [] := by
    rw [pick_neg _ _ 0 (by rw [show elB g ((0 : Nat) : Int) = true from (elB_iff g _).2 (Sums.zero g)]; rfl)]
    rfl
  have h := spec_l4Gaps_l0 g 199 1 (by omega)
  rw [e] at h
  exact Ev.bnd (spec_tbl_ev g 200 hg hlen (by omega)) h
end Go.Proofs.Ytkfplkdchkmgbaa.Pure
