/- For every semigroup value and number the program's AddGap returns what the reference's returns; no condition besides the row's own. -/
import Derived.Test.YtlfdipnhlmjiaaaC0
import Derived.Test.YtlfdipnhlmjiaaaC11
import Derived.Test.YtlfdipnhlmjiaaaC14
import Derived.Test.YtlfdipnhlmjiaaaC15
import Derived.Test.YtlfdipnhlmjiaaaBbase
import Derived.Test.YtlfdipnhlmjiaaaBlaws0
import Derived.Test.YtlfdipnhlmjiaaaBlaws1
import Derived.Test.YtlfdipnhlmjiaaaBsz
import Derived.Test.YtlfdipnhlmjiaaaBwithin
import Derived.Test.YtlfdipnhlmjiaaaBallwithin
import Derived.Test.YtlfdipnhlmjiaaaBsums
import Derived.Test.YtlfdipnhlmjiaaaBtable
import Derived.Test.YtlfdipnhlmjiaaaBgcd
import Derived.Test.YtlfdipnhlmjiaaaBasc
import Derived.Test.YtlfdipnhlmjiaaaBleasts
import Derived.Test.YtlfdipnhlmjiaaaBsortspec
import Derived.Test.YtlfdipnhlmjiaaaBminimal
import Derived.Test.YtlfdipnhlmjiaaaBissg
import Derived.Test.YtlfdipnhlmjiaaaBshell
import Derived.Test.YtlfdipnhlmjiaaaBleastle
import Derived.Test.YtlfdipnhlmjiaaaBhas
import Derived.Test.YtlfdipnhlmjiaaaBsemig
import Derived.Test.YtlfdipnhlmjiaaaBmarksg
import Derived.Test.YtlfdipnhlmjiaaaBelems
import Derived.Test.YtlfdipnhlmjiaaaBgaps
import Derived.Test.YtlfdipnhlmjiaaaBhasnum
import Derived.Test.YtlfdipnhlmjiaaaBfromgaps
import Derived.Test.YtlfdipnhlmjiaaaBgapgens
import Derived.Test.YtlfdipnhlmjiaaaBfromboth
import Derived.Test.YtlfdipnhlmjiaaaBwithout
import Derived.Test.YtlfdipnhlmjiaaaBpfro
import Derived.Test.YtlfdipnhlmjiaaaBcontains
import Derived.Test.YtlfdipnhlmjiaaaBheldsg
namespace Go.Proofs.Ytlfdipnhlmjiaaa.Pure
open Go.RowKit Go.Proofs.Ytlfdipnhlmjiaaa.C Go.Proofs.YtlfdipnhlmjiaaaW.PrintWords Go.Proofs.YtlfdipnhlmjiaaaW.PrintLast Go.Proofs.YtlfdipnhlmjiaaaW.PrintMore
set_option linter.unusedVariables false
set_option linter.unusedSimpArgs false
theorem lacking_ev (l : List Int) (x : Int) (hl : l.length ≤ 1048576) : Ev (fun _ => impl_lacking.f l x) (l.filter fun y => decide (y ≠ x)) := by
  refine Ev.const ?_
  unfold impl_lacking.f slices_Clone_int_int.f
  rw [if_pos (by omega)]
  refine congrArg some (List.filter_congr fun y _ => ?_)
  by_cases h : y = x <;> simp [h]
theorem addgap_both (g : List Int) (x : Int) (hlen : g.length ≤ 1048576) : ∃ r : List Int × Bool, r.1.length ≤ 401 ∧ Ev (fun k => spec_AddGap.f k g x) r ∧ Ev (fun k => impl_AddGap.f k g x) r := by
  obtain ⟨b, b1, b2, b3⟩ := sp_both g hlen
  obtain ⟨c, c1, _, c3⟩ := gaps_both g hlen
  obtain rfl := bool_same b1 c1
  have hl := spS_len b g
  obtain ⟨d, d1, d2⟩ := spec_HasNumber_ev (spS b g) x (by omega)
  obtain ⟨e, e1, e2⟩ := slices_Contains_ev (spS b g) x (by omega)
  obtain rfl := bool_same d1 e1
  unfold spec_AddGap.f impl_AddGap.f
  cases d with
  | false => exact ⟨([], false), by simp, Ev.bnd b2 (Ev.bnd d2 (Ev.neg (by decide) (Ev.now _))), Ev.bnd b3 (Ev.bnd e2 (Ev.neg (by decide) (Ev.now _)))⟩
  | true =>
    have hx := (List.mem_filter.1 (d1.1 rfl)).1
    obtain ⟨hb, _⟩ := pfS_mem b g x hx
    subst hb
    have hS := b1.1 rfl
    have eg : gapsS true g = gapL g := if_pos rfl
    rw [eg] at c3
    have hgl := gapL_len g
    have hf := List.length_filter_le (fun y => decide (y ≠ x)) (gapL g)
    obtain ⟨q, _, q1, q2⟩ := from_both ((gapL g).filter fun y => decide (y ≠ x)) (by omega)
    exact ⟨fromS ((gapL g).filter fun y => decide (y ≠ x)) q, fromS_len _ _,
      Ev.bnd b2 (Ev.bnd d2 (Ev.pos rfl (Ev.bnd (spec_l4Gaps_ev g (fun x hx => (hS.rng x hx).1) hlen) (Ev.bnd (spec_l19Without_ev (gapL g) x (by omega)) (Ev.bnd q1 (Ev.now _)))))),
      Ev.bnd b3 (Ev.bnd e2 (Ev.pos rfl (Ev.bnd c3 (Ev.bnd (lacking_ev (gapL g) x (by omega)) (Ev.bnd q2 (Ev.now _))))))⟩
theorem FnExactAddGap (g : List Int) (x : Int) (hm_g : g.length ≤ maxLen) (hw_g : ∀ x ∈ g, (Lit.int .i64 x).wf = true) (h_x : (Lit.int .i64 x).wf = true) : ∃ k, laws_FnExactAddGap.f k g x = some true := by
  apply Ev.rounds
  unfold laws_FnExactAddGap.f
  by_cases hl_g : (g.length : Int) ≤ 1048576
  rotate_left
  · exact Ev.bnd (szSemigroup_out g hm_g hl_g) (Ev.pos (by omega) (Ev.now _))
  refine Ev.bnd (szSemigroup_in g hm_g hl_g) (Ev.neg (by omega) ?_)
  have ht_g := toSemigroup_ev g (by omega)
  have he_g := eqSemigroup_ev g (by omega)
  obtain ⟨⟨r, t⟩, hr, h1, h2⟩ := addgap_both g x (by omega)
  have hr : r.length ≤ 1048576 := Nat.le_trans hr (by decide)
  have her := eqSemigroup_ev r (by omega)
  have hmr := markSemigroup_ev r 1 (by omega) (by omega) (by omega)
  have hhr := heldSemigroup_ev r (by omega)
  have ett : (t != t) = false := by cases t <;> rfl
  have hmk_g := markSemigroup_ev g (1) (by omega) (by omega) (by omega)
  repeat (first | exact Ev.now _ | (refine Ev.bnd (by assumption) ?_; try dsimp only) | refine Ev.pos (by first | with_reducible rfl | omega) ?_ | refine Ev.neg (by first | omega | decide | (simp; done)) ?_ | rw [ett] | (refine Ev.one (fun k => by rw [laws_FnExactAddGap.j0]) ?_) | (refine Ev.one (fun k => by rw [laws_FnExactAddGap.j1]) ?_) | (refine Ev.one (fun k => by rw [laws_FnExactAddGap.j2]) ?_))
end Go.Proofs.Ytlfdipnhlmjiaaa.Pure
