/- For every semigroup value the program's ParentOf returns what the reference's returns; no condition besides the row's own. -/
import Derived.Test.YtlfdipnhlmjiaaaC0
import Derived.Test.YtlfdipnhlmjiaaaC15
import Derived.Test.YtlfdipnhlmjiaaaC19
import Derived.Test.YtlfdipnhlmjiaaaC20
import Derived.Test.YtlfdipnhlmjiaaaC21
import Derived.Test.YtlfdipnhlmjiaaaBbase
import Derived.Test.YtlfdipnhlmjiaaaBlaws0
import Derived.Test.YtlfdipnhlmjiaaaBlaws1
import Derived.Test.YtlfdipnhlmjiaaaBsz
import Derived.Test.YtlfdipnhlmjiaaaBwithin
import Derived.Test.YtlfdipnhlmjiaaaBallwithin
import Derived.Test.YtlfdipnhlmjiaaaBsums
import Derived.Test.YtlfdipnhlmjiaaaBtable
import Derived.Test.YtlfdipnhlmjiaaaBgcd
import Derived.Test.YtlfdipnhlmjiaaaBasc
import Derived.Test.YtlfdipnhlmjiaaaBleasts
import Derived.Test.YtlfdipnhlmjiaaaBsortspec
import Derived.Test.YtlfdipnhlmjiaaaBminimal
import Derived.Test.YtlfdipnhlmjiaaaBissg
import Derived.Test.YtlfdipnhlmjiaaaBshell
import Derived.Test.YtlfdipnhlmjiaaaBleastle
import Derived.Test.YtlfdipnhlmjiaaaBsemig
import Derived.Test.YtlfdipnhlmjiaaaBmarksg
import Derived.Test.YtlfdipnhlmjiaaaBelems
import Derived.Test.YtlfdipnhlmjiaaaBgaps
import Derived.Test.YtlfdipnhlmjiaaaBhasnum
import Derived.Test.YtlfdipnhlmjiaaaBfromgaps
import Derived.Test.YtlfdipnhlmjiaaaBgapgens
import Derived.Test.YtlfdipnhlmjiaaaBfromboth
import Derived.Test.YtlfdipnhlmjiaaaBwithout
namespace Go.Proofs.Ytlfdipnhlmjiaaa.Pure
open Go.RowKit Go.Proofs.Ytlfdipnhlmjiaaa.C Go.Proofs.YtlfdipnhlmjiaaaW.PrintWords Go.Proofs.YtlfdipnhlmjiaaaW.PrintLast Go.Proofs.YtlfdipnhlmjiaaaW.PrintMore
set_option linter.unusedVariables false
set_option linter.unusedSimpArgs false
theorem heldSemigroup_ev (l : List Int) (hl : l.length ≤ 1048576) : Ev (fun k => laws_heldSemigroup.f k (marks l 1) 1) (1 + (l.length : Int)) := by
 unfold laws_heldSemigroup.f
 exact Ev.bnd (heldIntS_ev l 1 (by omega) (by omega) (by omega)) (Ev.neg (by omega) (Ev.now _))
theorem asc_front (l : List Int) (h : asc l) (h0 : 0 < l.length) : (l.filter fun y => decide (y ≠ rd l ((l.length - 1 : Nat) : Int))) = l.take (l.length - 1) := by
 rw [rd_at l _ (by omega)]
 have e : l = l.take (l.length - 1) ++ [l[l.length - 1]] := by
  have := List.take_succ_eq_append_getElem (show l.length - 1 < l.length by omega)
  rw [List.take_of_length_le (by omega)] at this
  exact this
 have f1 : (l.take (l.length - 1)).filter (fun y => decide (y ≠ l[l.length - 1])) = l.take (l.length - 1) := by
  refine List.filter_eq_self.2 (fun y hy => decide_eq_true ?_)
  obtain ⟨j, hj, ej⟩ := List.getElem_of_mem hy
  rw [List.length_take] at hj
  rw [List.getElem_take] at ej
  have := List.pairwise_iff_getElem.1 h j (l.length - 1) (by omega) (by omega) (by omega)
  omega
 have f2 : (l.take (l.length - 1) ++ [l[l.length - 1]]).filter (fun y => decide (y ≠ l[l.length - 1])) = l.take (l.length - 1) := by
  rw [List.filter_append, f1, List.filter_cons_of_neg (by simp), List.filter_nil, List.append_nil]
 exact (congrArg (List.filter fun y => decide (y ≠ l[l.length - 1])) e).trans f2
theorem spec_frob_ev (g : List Int) (hlen : g.length ≤ 1048576) : ∃ b, (b = true ↔ SG g) ∧ Ev (fun k => spec_FrobeniusOf.f k g) (lastS (gapsS b g)) := by
 obtain ⟨b, b1, b2, _⟩ := gaps_both g hlen
 have hl := gapsS_len b g
 refine ⟨b, b1, ?_⟩
 unfold spec_FrobeniusOf.f lastS
 by_cases h : (gapsS b g).length = 0
 ·rw [if_pos h]
  exact Ev.bnd b2 (Ev.pos (by omega) (Ev.now _))
 ·rw [if_neg h]
  have e1 : wrap64 (((gapsS b g).length : Int) - 1) = (((gapsS b g).length - 1 : Nat) : Int) := by rw [w64_of (by omega) (by omega)]; omega
  refine Ev.bnd b2 (Ev.neg (by omega) ?_)
  rw [e1]
  exact Ev.pos (by omega) (Ev.pos (by omega) (Ev.now _))
theorem parent_both (g : List Int) (hlen : g.length ≤ 1048576) : ∃ r : List Int × Bool, r.1.length ≤ 401 ∧ Ev (fun k => spec_ParentOf.f k g) r ∧ Ev (fun k => impl_ParentOf.f k g) r := by
 obtain ⟨b, b1, b2, b3⟩ := gaps_both g hlen
 obtain ⟨c, c1, c2⟩ := spec_frob_ev g hlen
 obtain rfl : b = c := bool_same b1 c1
 have hl := gapsS_len b g
 have hlast : lastS (gapsS b g) = if (gapsS b g).length = 0 then -1 else rd (gapsS b g) (((gapsS b g).length - 1 : Nat) : Int) := rfl
 unfold spec_ParentOf.f impl_ParentOf.f
 by_cases h0 : (gapsS b g).length = 0
 ·rw [if_pos h0] at hlast
  exact ⟨([], false), by simp, Ev.bnd c2 (Ev.pos (by omega) (Ev.now _)), Ev.bnd b3 (Ev.pos (by omega) (Ev.now _))⟩
 ·rw [if_neg h0] at hlast
  have hb : b = true := by
   cases b with
   | true => rfl
   | false => exact absurd rfl h0
  subst hb
  have hS := b1.1 rfl
  have eg : gapsS true g = gapL g := by unfold gapsS; rw [if_pos rfl]
  rw [eg] at hl h0 hlast b3 c2
  have hx := (gapL_mem g (rd (gapL g) (((gapL g).length - 1 : Nat) : Int))).1 (by rw [rd_at _ _ (by omega)]; exact List.getElem_mem _)
  have hx1 : 1 ≤ lastS (gapL g) := by
   rw [hlast]
   refine Classical.byContradiction fun h => hx.2.2 ?_
   rw [show rd (gapL g) (((gapL g).length - 1 : Nat) : Int) = 0 from by omega]
   exact Sums.zero g
  have hf := asc_front (gapL g) (asc_pick _ _) (by omega)
  rw [← hlast] at hf
  have hw := spec_l19Without_ev (gapL g) (lastS (gapL g)) (by omega)
  rw [hf] at hw
  have e1 : wrap64 (((gapL g).length : Int) - 1) = (((gapL g).length - 1 : Nat) : Int) := by rw [w64_of (by omega) (by omega)]; omega
  obtain ⟨q, _, q1, q2⟩ := from_both ((gapL g).take ((gapL g).length - 1)) (by rw [List.length_take]; omega)
  refine ⟨fromS ((gapL g).take ((gapL g).length - 1)) q, fromS_len _ _, Ev.bnd c2 (Ev.neg (by omega) (Ev.bnd (spec_l4Gaps_ev g (fun x hx => (hS.rng x hx).1) hlen) (Ev.bnd hw (Ev.bnd q1 (Ev.now _))))), Ev.bnd b3 ?_⟩
  rw [e1, Int.toNat_natCast]
  exact Ev.neg (by omega) (Ev.pos (by omega) (Ev.pos (by omega) (Ev.bnd q2 (Ev.now _))))
theorem FnExactParentOf (g : List Int) (hm : g.length ≤ maxLen) (hw : ∀ x ∈ g, (Lit.int .i64 x).wf = true) : ∃ k, laws_FnExactParentOf.f k g = some true := by
 apply Ev.rounds
 unfold laws_FnExactParentOf.f
 by_cases hl : (g.length : Int) ≤ 1048576
 ·obtain ⟨⟨r, t⟩, hr, h1, h2⟩ := parent_both g (by omega)
  have hr : r.length ≤ 401 := hr
  have ht := toSemigroup_ev g (by omega)
  have he := eqSemigroup_ev g (by omega)
  have her := eqSemigroup_ev r (by omega)
  have hmk := markSemigroup_ev g 1 (by omega) (by omega) (by omega)
  have hmr := markSemigroup_ev r 1 (by omega) (by omega) (by omega)
  have hhr := heldSemigroup_ev r (by omega)
  have ett : (t != t) = false := by cases t <;> rfl
  refine Ev.bnd (szSemigroup_in g hm hl) (Ev.neg (by omega) (Ev.bnd ht (Ev.bnd h1 (Ev.bnd ht (Ev.bnd h2 (Ev.bnd her (Ev.pos rfl ?_)))))))
  dsimp only
  rw [ett]
  refine Ev.one (fun k => by rw [laws_FnExactParentOf.j0]) ?_
  refine Ev.neg (by decide) (Ev.bnd ht (Ev.bnd he (Ev.pos rfl (Ev.bnd hmk ?_))))
  dsimp only
  refine Ev.neg (by omega) (Ev.bnd her (Ev.pos rfl ?_))
  rw [ett]
  refine Ev.one (fun k => by rw [laws_FnExactParentOf.j1]) ?_
  refine Ev.neg (by decide) (Ev.bnd hmr ?_)
  dsimp only
  refine Ev.bnd hhr (Ev.neg (by omega) (Ev.pos rfl (Ev.bnd ht (Ev.bnd h2 (Ev.bnd her (Ev.pos rfl ?_))))))
  dsimp only
  rw [ett]
  refine Ev.one (fun k => by rw [laws_FnExactParentOf.j2]) ?_
  exact Ev.neg (by decide) (Ev.bnd hhr (Ev.neg (by omega) (Ev.pos rfl (Ev.now _))))
 ·exact Ev.bnd (szSemigroup_out g hm hl) (Ev.pos (by omega) (Ev.now _))
end Go.Proofs.Ytlfdipnhlmjiaaa.Pure
