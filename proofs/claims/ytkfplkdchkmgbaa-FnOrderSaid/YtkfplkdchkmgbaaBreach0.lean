/- Plain lemmas (reach0, reach, small): no program, no memory. -/
import Derived.Test.YtkfplkdchkmgbaaC0
import Derived.Test.YtkfplkdchkmgbaaC16
import Derived.Test.YtkfplkdchkmgbaaC18
import Derived.Test.YtkfplkdchkmgbaaC9
import Derived.Test.YtkfplkdchkmgbaaBbase
import Derived.Test.YtkfplkdchkmgbaaBleastle
namespace Go.Proofs.Ytkfplkdchkmgbaa.Pure
open Go.RowKit Go.Proofs.Ytkfplkdchkmgbaa.C Go.Proofs.YtkfplkdchkmgbaaW.PrintWords Go.Proofs.YtkfplkdchkmgbaaW.PrintLast Go.Proofs.YtkfplkdchkmgbaaW.PrintMore
set_option linter.unusedVariables false
set_option linter.unusedSimpArgs false
/-! reach0: impl.reach -/
theorem reach_at (g : List Int) (hS : SG g) (d : Int) : impl_reach.p (tblL g 201) d = some (elB g d) := by
  unfold impl_reach.p
  have ht := tblL_length g 201
  by_cases h1 : d ≥ 200
  · rw [if_pos h1]
    exact congrArg some ((elB_iff g d).2 (hS.ends d h1)).symm
  · rw [if_neg h1]
    by_cases h2 : d ≥ 0
    · obtain ⟨m, rfl⟩ : ∃ m : Nat, d = (m : Int) := ⟨d.toNat, by omega⟩
      rw [if_pos h2, if_pos (by omega), rdOf_tblL g 201 m (by omega)]
    · rw [if_neg h2]
      refine congrArg some (elB_of ⟨(fun e => by cases e), fun e => ?_⟩)
      have := e.nonneg (fun x hx => (hS.rng x hx).1)
      omega
theorem reach_ev (g : List Int) (hlen : g.length ≤ 1048576) (hS : SG g) : Ev (fun k => impl_reach.f k g) (impl_reach.p (tblL g 201)) := by
  obtain ⟨b, b1, b2⟩ := impl_IsSemigroup_ev g hlen
  obtain rfl := b1.2 hS
  unfold impl_reach.f
  exact Ev.bnd b2 (Ev.pos rfl (Ev.bnd (impl_table_ev g hS 200 (by omega)) (Ev.now _)))
theorem reach_ap (g : List Int) (hS : SG g) (d : Int) : Ev (fun _ => apF1.f (impl_reach.p (tblL g 201)) d) (elB g d) := Ev.const (reach_at g hS d)
/-! reach: spec.l3Has as a test -/
theorem spec_l3Has_el (g : List Int) (hS : SG g) (n : Int) : Ev (fun k => spec_l3Has.f k g n) (elB g n) := by
  obtain ⟨b, b1, b2⟩ := spec_l3Has_ev g hS n
  rw [show b = elB g n from elB_of (b1.trans ⟨fun h => h.1, fun h => ⟨h, by omega⟩⟩)] at b2
  exact b2
/-! small: spec.l4Small -/
theorem spec_l4Small_l0 (g : List Int) (m : Nat) (hm : m ≤ 1000000) : ∀ (d i : Nat), i + d = m →
    Ev (fun k => spec_l4Small.l0 k (m : Int) (pick (fun n => elB g (n : Int)) (fun n => (n : Int)) i) (tblL g (m + 1)) (i : Int)) (pick (fun n => elB g (n : Int)) (fun n => (n : Int)) m) := by
  intro d
  induction d with
  | zero =>
    intro i hi
    obtain rfl : i = m := by omega
    refine Ev.one (fun k => by rw [spec_l4Small.l0]) ?_
    exact Ev.neg (by omega) (Ev.now _)
  | succ d ih =>
    intro i hi
    have ih := ih (i + 1) (by omega)
    have hl := pick_len (fun n => elB g (n : Int)) (fun n => (n : Int)) i
    have ht := tblL_length g (m + 1)
    refine Ev.one (fun k => by rw [spec_l4Small.l0]) ?_
    rw [rdOf_tblL g (m + 1) i (by omega), w64_succ i (by omega)]
    cases hb : elB g (i : Int) with
    | true =>
      rw [pick_pos _ _ i hb] at ih
      exact Ev.pos (by omega) (Ev.pos (by omega) (Ev.pos (by omega) (Ev.pos rfl (Ev.pos (by omega) ih))))
    | false =>
      rw [pick_neg _ _ i hb] at ih
      exact Ev.pos (by omega) (Ev.pos (by omega) (Ev.pos (by omega) (Ev.neg (by decide) ih)))
theorem spec_l4Small_ev (g : List Int) (m : Nat) (h1 : 1 ≤ m) (hm : m ≤ 1000000) (hg : ∀ x ∈ g, 1 ≤ x) (hlen : g.length ≤ 1048576) : Ev (fun k => spec_l4Small.f k g (m : Int)) (pick (fun n => elB g (n : Int)) (fun n => (n : Int)) m) := by
  unfold spec_l4Small.f
  exact Ev.some (Ev.neg (by omega) (Ev.bnd (spec_tbl_ev g m hg hlen (by omega)) (spec_l4Small_l0 g m hm m 0 (by omega))))
end Go.Proofs.Ytkfplkdchkmgbaa.Pure
