/- Plain lemmas (removegen): no program, no memory. -/
import Derived.Test.YtlhcpbpcdicleaaC0
import Derived.Test.YtlhcpbpcdicleaaC4
import Derived.Test.YtlhcpbpcdicleaaC7
import Derived.Test.YtlhcpbpcdicleaaBisort
import Derived.Test.YtlhcpbpcdicleaaBshell
import Derived.Test.YtlhcpbpcdicleaaBgaps
import Derived.Test.YtlhcpbpcdicleaaBspecgaps
import Derived.Test.YtlhcpbpcdicleaaBhasnum
import Derived.Test.YtlhcpbpcdicleaaBgapgens
import Derived.Test.YtlhcpbpcdicleaaBfromboth
import Derived.Test.YtlhcpbpcdicleaaBcontains
import Derived.Test.YtlhcpbpcdicleaaBbase
namespace Go.Proofs.Ytlhcpbpcdicleaa.Pure
open Go.RowKit Go.Proofs.Ytlhcpbpcdicleaa.C Go.Proofs.YtlhcpbpcdicleaaW.PrintWords Go.Proofs.YtlhcpbpcdicleaaW.PrintLast Go.Proofs.YtlhcpbpcdicleaaW.PrintMore
set_option linter.unusedVariables false
set_option linter.unusedSimpArgs false
/-! removegen: RemoveGenerator of both sides -/
theorem remove_both (g : List Int) (x : Int) (hlen : g.length ≤ 1048576) : ∃ r : List Int × Bool, r.1.length ≤ 401 ∧ Ev (fun k => spec_RemoveGenerator.f k g x) r ∧ Ev (fun k => impl_RemoveGenerator.f k g x) r := by
  obtain ⟨b, b1, b2, b3⟩ := sg_both g hlen
  have out_ : ∀ t : Bool, t = true → Ev (fun k => spec_RemoveGenerator.j0 k x t g) ([], false) ∧ Ev (fun k => impl_RemoveGenerator.j0 k x t g) ([], false) := fun t ht => by
    subst ht
    exact ⟨Ev.one (fun k => by rw [spec_RemoveGenerator.j0]) (Ev.pos rfl (Ev.now _)), Ev.one (fun k => by rw [impl_RemoveGenerator.j0]) (Ev.pos rfl (Ev.now _))⟩
  obtain ⟨d, d1, d2⟩ := spec_HasNumber_ev g x (by omega)
  obtain ⟨e, e1, e2⟩ := slices_Contains_ev g x (by omega)
  obtain rfl := bool_same d1 e1
  unfold spec_RemoveGenerator.f impl_RemoveGenerator.f
  cases b with
  | false => exact ⟨([], false), by simp, Ev.bnd b2 (Ev.neg (by decide) (out_ _ rfl).1), Ev.bnd b3 (Ev.neg (by decide) (out_ _ rfl).2)⟩
  | true =>
    cases d with
    | false => exact ⟨([], false), by simp, Ev.bnd b2 (Ev.pos rfl (Ev.bnd d2 (out_ _ rfl).1)), Ev.bnd b3 (Ev.pos rfl (Ev.bnd e2 (out_ _ rfl).2))⟩
    | true =>
      have hS := b1.1 rfl
      obtain ⟨c, c1, c3⟩ := impl_gaps_ev g hlen
      obtain rfl := bool_same b1 c1
      have eg : gapsS true g = gapL g := if_pos rfl
      rw [eg] at c3
      have h1 := gapL_len g
      have hl : (gapL g ++ [x]).length ≤ 201 := by rw [List.length_append, List.length_singleton]; omega
      obtain ⟨s, s1, s2, s3⟩ := sort_both (gapL g ++ [x]) (by omega)
      obtain ⟨q, _, q1, q2⟩ := from_both s (by omega)
      refine ⟨fromS s q, fromS_len _ _, Ev.bnd b2 (Ev.pos rfl (Ev.bnd d2 ?_)), Ev.bnd b3 (Ev.pos rfl (Ev.bnd e2 ?_))⟩
      · refine Ev.one (fun k => by rw [spec_RemoveGenerator.j0]) ?_
        exact Ev.neg (by decide) (Ev.bnd (spec_l4Gaps_ev g (fun x hx => (hS.rng x hx).1) hlen) (Ev.pos (by omega) (Ev.bnd s2 (Ev.bnd q1 (Ev.now _)))))
      · refine Ev.one (fun k => by rw [impl_RemoveGenerator.j0]) ?_
        exact Ev.neg (by decide) (Ev.bnd c3 (Ev.pos (by omega) (Ev.bnd s3 (Ev.bnd q2 (Ev.now _)))))
end Go.Proofs.Ytlhcpbpcdicleaa.Pure
