/- For all arguments the program's CountFactorizations returns what the reference's returns and leaves its arguments as they were; no condition besides the row's own. -/
import Derived.Test.YtolbllafeblmdaaC0
import Derived.Test.YtolbllafeblmdaaC19
import Derived.Test.YtolbllafeblmdaaC20
import Derived.Test.YtolbllafeblmdaaBbase
import Derived.Test.YtolbllafeblmdaaBlaws0
import Derived.Test.YtolbllafeblmdaaBsz
import Derived.Test.YtolbllafeblmdaaBwithin
import Derived.Test.YtolbllafeblmdaaBallwithin
import Derived.Test.YtolbllafeblmdaaBsums
import Derived.Test.YtolbllafeblmdaaBtable
import Derived.Test.YtolbllafeblmdaaBgcd
import Derived.Test.YtolbllafeblmdaaBasc
import Derived.Test.YtolbllafeblmdaaBleasts
import Derived.Test.YtolbllafeblmdaaBsortspec
import Derived.Test.YtolbllafeblmdaaBminimal
import Derived.Test.YtolbllafeblmdaaBissg
import Derived.Test.YtolbllafeblmdaaBshell
import Derived.Test.YtolbllafeblmdaaBsemig
namespace Go.Proofs.Ytolbllafeblmdaa.Pure
open Go.RowKit Go.Proofs.Ytolbllafeblmdaa.C Go.Proofs.YtolbllafeblmdaaW.PrintWords Go.Proofs.YtolbllafeblmdaaW.PrintLast Go.Proofs.YtolbllafeblmdaaW.PrintMore
set_option linter.unusedVariables false
set_option linter.unusedSimpArgs false
theorem count_both (g : List Int) (n : Nat) (hl : g.length ≤ 12) (hn : n ≤ 1000) (hg : ∀ x ∈ g, 1 ≤ x ∧ x ≤ 60) : ∀ (d i : Nat) (xs : List Int), i + d = g.length → xs.length = n + 1 →
    ∃ r : Int, Ev (fun k => spec_CountFactorizations.l0 k (n : Int) xs (i : Int) g) r ∧ Ev (fun k => impl_CountFactorizations.l0 k (n : Int) xs g (g.length : Int) (i : Int)) r := by
  intro d
  induction d with
  | zero =>
    intro i xs hi hx
    refine ⟨rd xs (n : Int), Ev.one (fun k => by rw [spec_CountFactorizations.l0]) ?_, Ev.one (fun k => by rw [impl_CountFactorizations.l0]) ?_⟩
    · exact Ev.neg (by omega) (Ev.pos (by omega) (Ev.pos (by omega) (Ev.now _)))
    · exact Ev.neg (by omega) (Ev.pos (by omega) (Ev.pos (by omega) (Ev.now _)))
  | succ d ih =>
    intro i xs hi hx
    have hil : i < g.length := by omega
    have hgi := hg g[i] (List.getElem_mem hil)
    obtain ⟨a, ha⟩ : ∃ a : Nat, g[i] = (a : Int) := ⟨g[i].toNat, by omega⟩
    rw [ha] at hgi
    have inner : ∀ (e j : Nat) (xs : List Int), (j + e = n + 1 ∨ (e = 0 ∧ n < j)) → a ≤ j → j ≤ n + 61 → xs.length = n + 1 →
        ∃ r : Int, Ev (fun k => spec_CountFactorizations.l1 k (n : Int) xs (i : Int) (j : Int) g) r ∧ Ev (fun k => impl_CountFactorizations.l1 k (n : Int) xs (a : Int) (j : Int) g (g.length : Int) (i : Int)) r := by
      intro e
      induction e with
      | zero =>
        intro j xs hj haj hjn hx
        obtain ⟨r, h1, h2⟩ := ih (i + 1) xs (by omega) hx
        refine ⟨r, Ev.one (fun k => by rw [spec_CountFactorizations.l1]) ?_, Ev.one (fun k => by rw [impl_CountFactorizations.l1]) ?_⟩
        · rw [w64_succ i (by omega)]; exact Ev.neg (by omega) h1
        · rw [w64_succ i (by omega)]; exact Ev.neg (by omega) h2
      | succ e ihe =>
        intro j xs hj haj hjn hx
        have e1 : wrap64 ((j : Int) - (a : Int)) = ((j - a : Nat) : Int) := by rw [w64_of (by omega) (by omega)]; omega
        obtain ⟨r, h1, h2⟩ := ihe (j + 1) (xs.set j (wrap64 (rd xs (j : Int) + rd xs ((j - a : Nat) : Int)))) (by omega) (by omega) (by omega) (by rw [List.length_set]; exact hx)
        refine ⟨r, Ev.one (fun k => by rw [spec_CountFactorizations.l1]) ?_, Ev.one (fun k => by rw [impl_CountFactorizations.l1]) ?_⟩
        · rw [rd_at g i hil, ha, e1, w64_succ j (by omega), Int.toNat_natCast]
          exact Ev.pos (by omega) (Ev.pos (by omega) (Ev.pos (by omega) (Ev.pos (by omega) (Ev.pos (by omega) (Ev.pos (by omega) (Ev.pos (by omega) h1))))))
        · rw [e1, w64_succ j (by omega), Int.toNat_natCast]
          exact Ev.pos (by omega) (Ev.pos (by omega) (Ev.pos (by omega) (Ev.pos (by omega) (Ev.pos (by omega) h2))))
    obtain ⟨r, h1, h2⟩ := inner (n + 1 - a) a xs (by omega) (Nat.le_refl _) (by omega) hx
    refine ⟨r, Ev.one (fun k => by rw [spec_CountFactorizations.l0]) ?_, Ev.one (fun k => by rw [impl_CountFactorizations.l0]) ?_⟩
    · rw [rd_at g i hil, ha]; exact Ev.pos (by omega) (Ev.pos (by omega) h1)
    · rw [rd_at g i hil, ha]; exact Ev.pos (by omega) (Ev.pos (by omega) (Ev.pos (by omega) h2))
theorem count_f (g : List Int) (n : Int) (hlen : g.length ≤ 1048576) : ∃ r : Int, Ev (fun k => spec_CountFactorizations.f k g n) r ∧ Ev (fun k => impl_CountFactorizations.f k g n) r := by
  obtain ⟨b, b1, b2, b3⟩ := sg_both g hlen
  unfold spec_CountFactorizations.f impl_CountFactorizations.f
  cases b with
  | false =>
    refine ⟨-1, Ev.bnd b2 (Ev.neg (by decide) (Ev.one (fun k => by rw [spec_CountFactorizations.j0]) ?_)), Ev.bnd b3 (Ev.neg (by decide) (Ev.one (fun k => by rw [impl_CountFactorizations.j0]) ?_))⟩
    · exact Ev.pos rfl (Ev.now _)
    · exact Ev.pos rfl (Ev.now _)
  | true =>
    have hS := b1.1 rfl
    by_cases h : 0 ≤ n ∧ n ≤ 1000
    · obtain ⟨q, rfl⟩ : ∃ q : Nat, n = (q : Int) := ⟨n.toNat, by omega⟩
      obtain ⟨r, h1, h2⟩ := count_both g q hS.len2 (by omega) hS.rng g.length 0 ((List.replicate (q + 1) 0).set 0 1) (by omega) (by rw [List.length_set, List.length_replicate])
      refine ⟨r, Ev.bnd b2 (Ev.pos rfl (Ev.bnd (spec_l1In_ev _ _ _) (Ev.one (fun k => by rw [spec_CountFactorizations.j0]) ?_))), Ev.bnd b3 (Ev.pos rfl (Ev.bnd (impl_within_ev _ _ _) (Ev.one (fun k => by rw [impl_CountFactorizations.j0]) ?_)))⟩
      · rw [w64_succ q (by omega), Int.toNat_natCast]
        exact Ev.neg (by rw [decide_eq_true h]; decide) (Ev.pos (by omega) (Ev.pos (by omega) (Ev.some (Ev.pos (by rw [List.length_replicate]; omega) h1))))
      · rw [w64_succ q (by omega), Int.toNat_natCast]
        exact Ev.neg (by rw [decide_eq_true h]; decide) (Ev.pos (by omega) (Ev.pos (by omega) (Ev.some (Ev.pos (by rw [List.length_replicate]; omega) h2))))
    · refine ⟨-1, Ev.bnd b2 (Ev.pos rfl (Ev.bnd (spec_l1In_ev _ _ _) (Ev.one (fun k => by rw [spec_CountFactorizations.j0]) ?_))), Ev.bnd b3 (Ev.pos rfl (Ev.bnd (impl_within_ev _ _ _) (Ev.one (fun k => by rw [impl_CountFactorizations.j0]) ?_)))⟩
      · exact Ev.pos (by rw [decide_eq_false h]; decide) (Ev.now _)
      · exact Ev.pos (by rw [decide_eq_false h]; decide) (Ev.now _)
theorem FnExactCountFactorizations (g : List Int) (n : Int) (hm : g.length ≤ maxLen) (hw : ∀ x ∈ g, (Lit.int .i64 x).wf = true) (hn : (Lit.int .i64 n).wf = true) : ∃ k, laws_FnExactCountFactorizations.f k g n = some true := by
  apply Ev.rounds
  unfold laws_FnExactCountFactorizations.f
  by_cases hl : (g.length : Int) ≤ 1048576
  · obtain ⟨r, h1, h2⟩ := count_f g n (by omega)
    have ht := toSemigroup_ev g (by omega)
    have he := eqSemigroup_ev g (by omega)
    exact Ev.bnd (szSemigroup_in g hm hl) (Ev.neg (by omega) (Ev.bnd ht (Ev.bnd h1 (Ev.bnd ht (Ev.bnd h2 (Ev.pos rfl (Ev.bnd ht (Ev.bnd he (Ev.pos rfl (Ev.now _))))))))))
  · exact Ev.bnd (szSemigroup_out g hm hl) (Ev.pos (by omega) (Ev.now _))
end Go.Proofs.Ytolbllafeblmdaa.Pure
