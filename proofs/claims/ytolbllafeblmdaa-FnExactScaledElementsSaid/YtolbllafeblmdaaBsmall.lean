/- Plain lemmas (small): no program, no memory. -/
import Derived.Test.YtolbllafeblmdaaC0
import Derived.Test.YtolbllafeblmdaaC28
import Derived.Test.YtolbllafeblmdaaBelems
import Derived.Test.YtolbllafeblmdaaBbase
namespace Go.Proofs.Ytolbllafeblmdaa.Pure
open Go.RowKit Go.Proofs.Ytolbllafeblmdaa.C Go.Proofs.YtolbllafeblmdaaW.PrintWords Go.Proofs.YtolbllafeblmdaaW.PrintLast Go.Proofs.YtolbllafeblmdaaW.PrintMore
set_option linter.unusedVariables false
set_option linter.unusedSimpArgs false
/-! small: spec.l4Small -/
theorem spec_l4Small_l0 (g : List Int) (m : Nat) (hm : m ≤ 1000000) : ∀ (d i : Nat), i + d = m →
    Ev (fun k => spec_l4Small.l0 k (m : Int) (pick (fun n => elB g (n : Int)) (fun n => (n : Int)) i) (tblL g (m + 1)) (i : Int)) (pick (fun n => elB g (n : Int)) (fun n => (n : Int)) m) := by
  intro d
  induction d with
  | zero =>
    intro i hi
    obtain rfl : i = m := by omega
    refine Ev.one (fun k => by rw [spec_l4Small.l0]) ?_
    exact Ev.neg (by omega) (Ev.now _)
  | succ d ih =>
    intro i hi
    have ih := ih (i + 1) (by omega)
    have hl := pick_len (fun n => elB g (n : Int)) (fun n => (n : Int)) i
    have ht := tblL_length g (m + 1)
    refine Ev.one (fun k => by rw [spec_l4Small.l0]) ?_
    rw [rdOf_tblL g (m + 1) i (by omega), w64_succ i (by omega)]
    cases hb : elB g (i : Int) with
    | true =>
      rw [pick_pos _ _ i hb] at ih
      exact Ev.pos (by omega) (Ev.pos (by omega) (Ev.pos (by omega) (Ev.pos rfl (Ev.pos (by omega) ih))))
    | false =>
      rw [pick_neg _ _ i hb] at ih
      exact Ev.pos (by omega) (Ev.pos (by omega) (Ev.pos (by omega) (Ev.neg (by decide) ih)))
theorem spec_l4Small_ev (g : List Int) (m : Nat) (h1 : 1 ≤ m) (hm : m ≤ 1000000) (hg : ∀ x ∈ g, 1 ≤ x) (hlen : g.length ≤ 1048576) : Ev (fun k => spec_l4Small.f k g (m : Int)) (pick (fun n => elB g (n : Int)) (fun n => (n : Int)) m) := by
  unfold spec_l4Small.f
  exact Ev.some (Ev.neg (by omega) (Ev.bnd (spec_tbl_ev g m hg hlen (by omega)) (spec_l4Small_l0 g m hm m 0 (by omega))))
end Go.Proofs.Ytolbllafeblmdaa.Pure
