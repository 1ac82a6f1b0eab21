/- For every semigroup value and number the program's CatenaryDegree returns what the reference's returns; no condition besides the row's own. -/
import Derived.Test.YtlfdipnhlmjiaaaC0
import Derived.Test.YtlfdipnhlmjiaaaC11
import Derived.Test.YtlfdipnhlmjiaaaC13
import Derived.Test.YtlfdipnhlmjiaaaC14
import Derived.Test.YtlfdipnhlmjiaaaBbase
import Derived.Test.YtlfdipnhlmjiaaaBlaws0
import Derived.Test.YtlfdipnhlmjiaaaBsz
import Derived.Test.YtlfdipnhlmjiaaaBwithin
import Derived.Test.YtlfdipnhlmjiaaaBallwithin
import Derived.Test.YtlfdipnhlmjiaaaBsums
import Derived.Test.YtlfdipnhlmjiaaaBtable
import Derived.Test.YtlfdipnhlmjiaaaBgcd
import Derived.Test.YtlfdipnhlmjiaaaBasc
import Derived.Test.YtlfdipnhlmjiaaaBleasts
import Derived.Test.YtlfdipnhlmjiaaaBsortspec
import Derived.Test.YtlfdipnhlmjiaaaBminimal
import Derived.Test.YtlfdipnhlmjiaaaBissg
import Derived.Test.YtlfdipnhlmjiaaaBshell
import Derived.Test.YtlfdipnhlmjiaaaBsemig
import Derived.Test.YtlfdipnhlmjiaaaBdot
import Derived.Test.YtlfdipnhlmjiaaaBfactor
import Derived.Test.YtlfdipnhlmjiaaaBpigeon
import Derived.Test.YtlfdipnhlmjiaaaBfacboth
import Derived.Test.YtlfdipnhlmjiaaaBapart
import Derived.Test.YtlfdipnhlmjiaaaBspecdist
import Derived.Test.YtlfdipnhlmjiaaaBgraph
import Derived.Test.YtlfdipnhlmjiaaaBbfs
import Derived.Test.YtlfdipnhlmjiaaaBcatenary
namespace Go.Proofs.Ytlfdipnhlmjiaaa.Pure
open Go.RowKit Go.Proofs.Ytlfdipnhlmjiaaa.C Go.Proofs.YtlfdipnhlmjiaaaW.PrintWords Go.Proofs.YtlfdipnhlmjiaaaW.PrintLast Go.Proofs.YtlfdipnhlmjiaaaW.PrintMore
set_option linter.unusedVariables false
set_option linter.unusedSimpArgs false
theorem catdeg_l0 (g : List Int) (hlen : g.length ≤ 1048576) (n : Nat) (hn : n ≤ 100) : ∀ (d i : Nat) (x : Int), i + d = n + 1 → -1 ≤ x → x ≤ 1000000000000 →
    ∃ r : Int, Ev (fun k => spec_CatenaryDegree.l0 k (n : Int) x (i : Int) g) r ∧ Ev (fun k => impl_CatenaryDegree.l0 k x ((n + 1 : Nat) : Int) (i : Int) g) r := by
  intro d
  induction d with
  | zero =>
    intro i x hi h0 h1
    refine ⟨x, Ev.one (fun k => by rw [spec_CatenaryDegree.l0]) ?_, Ev.one (fun k => by rw [impl_CatenaryDegree.l0]) ?_⟩
    · exact Ev.neg (by omega) (Ev.now _)
    · exact Ev.neg (by omega) (Ev.now _)
  | succ d ih =>
    intro i x hi h0 h1
    obtain ⟨c, c0, c1, c2, c3⟩ := catenary_both g hlen (i : Int)
    obtain ⟨r, r1, r2⟩ := ih (i + 1) (max x c) (by omega) (by omega) (by omega)
    refine ⟨r, Ev.one (fun k => by rw [spec_CatenaryDegree.l0]) ?_, Ev.one (fun k => by rw [impl_CatenaryDegree.l0]) ?_⟩
    · rw [w64_succ i (by omega)]
      exact Ev.pos (by omega) (Ev.bnd c2 (Ev.bnd (Ev.const (spec_l1Max_eq x c)) r1))
    · rw [w64_succ i (by omega)]
      refine Ev.pos (by omega) (Ev.bnd c3 ?_)
      rw [show mx x c = max x c from by unfold mx; omega]
      exact r2
theorem catdeg_both (g : List Int) (hlen : g.length ≤ 1048576) (n : Int) : ∃ r : Int, Ev (fun k => spec_CatenaryDegree.f k g n) r ∧ Ev (fun k => impl_CatenaryDegree.f k g n) r := by
  obtain ⟨b, b1, b2, b3⟩ := sg_both g hlen
  unfold spec_CatenaryDegree.f impl_CatenaryDegree.f
  cases b with
  | false =>
    refine ⟨-1, Ev.bnd b2 (Ev.neg (by decide) (Ev.one (fun k => by rw [spec_CatenaryDegree.j0]) ?_)), Ev.bnd b3 (Ev.neg (by decide) (Ev.one (fun k => by rw [impl_CatenaryDegree.j0]) ?_))⟩
    · exact Ev.pos rfl (Ev.now _)
    · exact Ev.pos rfl (Ev.now _)
  | true =>
    by_cases h : 0 ≤ n ∧ n ≤ 100
    · obtain ⟨q, rfl⟩ : ∃ q : Nat, n = (q : Int) := ⟨n.toNat, by omega⟩
      obtain ⟨r, r1, r2⟩ := catdeg_l0 g hlen q (by omega) (q + 1) 0 0 (by omega) (by omega) (by omega)
      refine ⟨r, Ev.bnd b2 (Ev.pos rfl (Ev.bnd (spec_l1In_ev _ _ _) (Ev.one (fun k => by rw [spec_CatenaryDegree.j0]) ?_))), Ev.bnd b3 (Ev.pos rfl (Ev.bnd (impl_within_ev _ _ _) (Ev.one (fun k => by rw [impl_CatenaryDegree.j0]) ?_)))⟩
      · exact Ev.neg (by rw [decide_eq_true h]; decide) r1
      · rw [w64_succ q (by omega)]
        exact Ev.neg (by rw [decide_eq_true h]; decide) r2
    · refine ⟨-1, Ev.bnd b2 (Ev.pos rfl (Ev.bnd (spec_l1In_ev _ _ _) (Ev.one (fun k => by rw [spec_CatenaryDegree.j0]) ?_))), Ev.bnd b3 (Ev.pos rfl (Ev.bnd (impl_within_ev _ _ _) (Ev.one (fun k => by rw [impl_CatenaryDegree.j0]) ?_)))⟩
      · exact Ev.pos (by rw [decide_eq_false h]; decide) (Ev.now _)
      · exact Ev.pos (by rw [decide_eq_false h]; decide) (Ev.now _)
theorem FnExactCatenaryDegree (g : List Int) (n : Int) (hm : g.length ≤ maxLen) (hw : ∀ x ∈ g, (Lit.int .i64 x).wf = true) (hn : (Lit.int .i64 n).wf = true) : ∃ k, laws_FnExactCatenaryDegree.f k g n = some true := by
  apply Ev.rounds
  unfold laws_FnExactCatenaryDegree.f
  by_cases hl : (g.length : Int) ≤ 1048576
  · obtain ⟨r, h1, h2⟩ := catdeg_both g (by omega) n
    have ht := toSemigroup_ev g (by omega)
    have he := eqSemigroup_ev g (by omega)
    exact Ev.bnd (szSemigroup_in g hm hl) (Ev.neg (by omega) (Ev.bnd ht (Ev.bnd h1 (Ev.bnd ht (Ev.bnd h2 (Ev.pos rfl (Ev.bnd ht (Ev.bnd he (Ev.pos rfl (Ev.now _))))))))))
  · exact Ev.bnd (szSemigroup_out g hm hl) (Ev.pos (by omega) (Ev.now _))
end Go.Proofs.Ytlfdipnhlmjiaaa.Pure
