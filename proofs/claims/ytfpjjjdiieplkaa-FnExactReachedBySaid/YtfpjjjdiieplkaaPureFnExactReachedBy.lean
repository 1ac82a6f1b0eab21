/- For all lists of relations, all lists and all caps the program's ReachedBy returns what the reference's returns, in memory of its own; no condition besides the row's own. -/
import Derived.Test.YtfpjjjdiieplkaaC0
import Derived.Test.YtfpjjjdiieplkaaC5
import Derived.Test.YtfpjjjdiieplkaaBbase
namespace Go.Proofs.Ytfpjjjdiieplkaa.Pure
open Go.RowKit Go.Proofs.Ytfpjjjdiieplkaa.C Go.Proofs.YtfpjjjdiieplkaaW.PrintWords Go.Proofs.YtfpjjjdiieplkaaW.PrintLast Go.Proofs.YtfpjjjdiieplkaaW.PrintMore
set_option linter.unusedVariables false
set_option linter.unusedSimpArgs false
theorem FnExactReachedBy (rs : List S32) (l : List Int) (most : Int) (hm : rs.length ≤ maxLen) (hx : ∀ x ∈ rs, (x.f0.length ≤ maxLen ∧ ∀ z ∈ x.f0, (Lit.int .i64 z).wf = true) ∧ (x.f1.length ≤ maxLen ∧ ∀ z ∈ x.f1, (Lit.int .i64 z).wf = true)) (hml : l.length ≤ maxLen) (hwl : ∀ z ∈ l, (Lit.int .i64 z).wf = true) (hw : (Lit.int .i64 most).wf = true) :
  ∃ k, laws_FnExactReachedBy.f k rs l most = some true := by
 apply Ev.rounds
 unfold laws_FnExactReachedBy.f
 by_cases cl : 1048576 < (l.length : Int)
 ·exact Ev.pos cl (Ev.now _)
 refine Ev.neg cl ?_
 have hsz := szRelationS_ev rs hm (fun x h => ⟨(hx x h).1.1, (hx x h).2.1⟩)
 have hn := tot2_nn rs
 by_cases hs : (rs.length : Int) + tot2 rs ≤ 1048576
 rotate_left
 ·rw [if_neg hs] at hsz
  exact Ev.bnd hsz (Ev.pos (by omega) (Ev.now _))
 rw [if_pos hs] at hsz
 have hsm : ∀ x ∈ rs, x.f0.length ≤ 1048576 ∧ x.f1.length ≤ 1048576 := fun x h => by have := tot2_mem rs x h; omega
 have hco : ∀ x ∈ cvR rs, x.f0.length ≤ 1048576 ∧ x.f1.length ≤ 1048576 := fun x h => by
  unfold cvR at h
  obtain ⟨y, hy, rfl⟩ := List.mem_map.1 h
  exact hsm y hy
 have hlc := cvR_len rs
 obtain ⟨r, h0, h1, e1, e2⟩ := reached_both (cvR rs) (by omega) l (by omega) most
 have ht := toRelationS_ev rs (by omega) hsm
 have he := eqRelationS_ev (cvR rs) (by omega) hco
 obtain ⟨mk, hmk⟩ := markRelationS_ev (cvR rs) (by omega) hco (by rw [tot2o_cv]; omega)
 rw [tot2o_cv] at hmk
 have tl := toIntS_ev l (by omega)
 have el := eqIntS_ev l (by omega)
 have kl := markIntS_ev l (1 + tot2 rs) (by omega) (by omega) (by omega)
 have ht0 := (totSS_rng 1048576 r h1).1
 have es := eqIntSS_ev r (by omega) h1
 have ms := markIntSS_ev r (by omega) h1
 have hh := heldIntSS_ev r (by omega) h1
 refine Ev.bnd hsz (Ev.neg (by omega) (Ev.bnd ht (Ev.bnd tl (Ev.bnd e1 (Ev.bnd ht (Ev.bnd tl (Ev.bnd e2 (Ev.bnd es (Ev.pos rfl (Ev.bnd ht (Ev.bnd he (Ev.pos rfl (Ev.bnd tl (Ev.bnd el (Ev.pos rfl (Ev.bnd hmk (Ev.bnd kl (Ev.neg (by show ¬ (1 + tot2 rs + (l.length : Int)) < 0; omega) ?_))))))))))))))))))
 exact Ev.bnd es (Ev.pos rfl (Ev.bnd ms (Ev.bnd hh (Ev.neg (by omega) (Ev.pos rfl (Ev.bnd ht (Ev.bnd tl (Ev.bnd e2 (Ev.bnd es (Ev.pos rfl (Ev.bnd hh (Ev.neg (by omega) (Ev.pos rfl (Ev.now _))))))))))))))
end Go.Proofs.Ytfpjjjdiieplkaa.Pure
