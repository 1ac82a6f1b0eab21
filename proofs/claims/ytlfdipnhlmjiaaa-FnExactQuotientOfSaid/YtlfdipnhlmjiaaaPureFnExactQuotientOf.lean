/- For every semigroup value and number the program's QuotientOf returns what the reference's returns; no condition besides the row's own. -/
import Derived.Test.YtlfdipnhlmjiaaaC0
import Derived.Test.YtlfdipnhlmjiaaaC5
import Derived.Test.YtlfdipnhlmjiaaaC8
import Derived.Test.YtlfdipnhlmjiaaaC9
import Derived.Test.YtlfdipnhlmjiaaaBbase
import Derived.Test.YtlfdipnhlmjiaaaBlaws0
import Derived.Test.YtlfdipnhlmjiaaaBlaws1
import Derived.Test.YtlfdipnhlmjiaaaBsz
import Derived.Test.YtlfdipnhlmjiaaaBwithin
import Derived.Test.YtlfdipnhlmjiaaaBallwithin
import Derived.Test.YtlfdipnhlmjiaaaBsums
import Derived.Test.YtlfdipnhlmjiaaaBtable
import Derived.Test.YtlfdipnhlmjiaaaBgcd
import Derived.Test.YtlfdipnhlmjiaaaBasc
import Derived.Test.YtlfdipnhlmjiaaaBleasts
import Derived.Test.YtlfdipnhlmjiaaaBsortspec
import Derived.Test.YtlfdipnhlmjiaaaBminimal
import Derived.Test.YtlfdipnhlmjiaaaBissg
import Derived.Test.YtlfdipnhlmjiaaaBshell
import Derived.Test.YtlfdipnhlmjiaaaBleastle
import Derived.Test.YtlfdipnhlmjiaaaBspechas
import Derived.Test.YtlfdipnhlmjiaaaBsemig
import Derived.Test.YtlfdipnhlmjiaaaBmarksg
import Derived.Test.YtlfdipnhlmjiaaaBelems
import Derived.Test.YtlfdipnhlmjiaaaBgaps
import Derived.Test.YtlfdipnhlmjiaaaBfromgaps
import Derived.Test.YtlfdipnhlmjiaaaBhasnum
import Derived.Test.YtlfdipnhlmjiaaaBgapgens
import Derived.Test.YtlfdipnhlmjiaaaBfromboth
import Derived.Test.YtlfdipnhlmjiaaaBheldsg
import Derived.Test.YtlfdipnhlmjiaaaBreach
namespace Go.Proofs.Ytlfdipnhlmjiaaa.Pure
open Go.RowKit Go.Proofs.Ytlfdipnhlmjiaaa.C Go.Proofs.YtlfdipnhlmjiaaaW.PrintWords Go.Proofs.YtlfdipnhlmjiaaaW.PrintLast Go.Proofs.YtlfdipnhlmjiaaaW.PrintMore
set_option linter.unusedVariables false
set_option linter.unusedSimpArgs false
noncomputable def quoL (g : List Int) (d : Int) (i : Nat) : List Int := pick (fun n => !elB g (d * ((n + 1 : Nat) : Int))) (fun n => ((n + 1 : Nat) : Int)) i
theorem quo_mul (d : Int) (m : Nat) (hd : 1 ≤ d ∧ d ≤ 20) (hm : m ≤ 200) : 0 ≤ d * (m : Int) ∧ d * (m : Int) ≤ 4000 := by
  have h1 : 0 ≤ d * (m : Int) := Int.mul_nonneg (by omega) (by omega)
  have h2 : d * (m : Int) ≤ 20 * (m : Int) := Int.mul_le_mul_of_nonneg_right hd.2 (by omega)
  omega
theorem spec_quo_l0 (g : List Int) (hS : SG g) (d : Int) (hd : 1 ≤ d ∧ d ≤ 20) {r : List Int × Bool} (hr : Ev (fun k => spec_FromGaps.f k (quoL g d 199)) r) : ∀ e i, i + e = 199 → Ev (fun k => spec_QuotientOf.l0 k d (quoL g d i) ((i + 1 : Nat) : Int) g) r := by
  intro e
  induction e with
  | zero =>
    intro i hi
    obtain rfl : i = 199 := by omega
    refine Ev.one (fun k => by rw [spec_QuotientOf.l0]) ?_
    exact Ev.neg (by omega) (Ev.bnd hr (Ev.now _))
  | succ e ih =>
    intro i hi
    have ih := ih (i + 1) (by omega)
    have hl : (quoL g d i).length ≤ i := pick_len _ _ _
    have hm := quo_mul d (i + 1) hd (by omega)
    refine Ev.one (fun k => by rw [spec_QuotientOf.l0]) ?_
    rw [w64_succ (i + 1) (by omega), Int.mul_comm ((i + 1 : Nat) : Int) d, w64_of (x := d * ((i + 1 : Nat) : Int)) (by omega) (by omega)]
    refine Ev.pos (by omega) (Ev.bnd (spec_l3Has_el g hS _) ?_)
    cases hb : elB g (d * ((i + 1 : Nat) : Int)) with
    | true =>
      unfold quoL at ih ⊢
      rw [pick_neg _ _ i (by rw [hb]; rfl)] at ih
      exact Ev.pos rfl ih
    | false =>
      unfold quoL at ih hl ⊢
      rw [pick_pos _ _ i (by rw [hb]; rfl)] at ih
      exact Ev.neg (by decide) (Ev.pos (by omega) ih)
theorem impl_quo_l0 (g : List Int) (hS : SG g) (d : Int) (hd : 1 ≤ d ∧ d ≤ 20) {r : List Int × Bool} (hr : Ev (fun k => impl_FromGaps.f k (quoL g d 199)) r) : ∀ e i, i + e = 199 → Ev (fun k => impl_QuotientOf.l0 k d (impl_reach.p (tblL g 201)) (quoL g d i) ((i + 1 : Nat) : Int)) r := by
  intro e
  induction e with
  | zero =>
    intro i hi
    obtain rfl : i = 199 := by omega
    refine Ev.one (fun k => by rw [impl_QuotientOf.l0]) ?_
    exact Ev.neg (by omega) (Ev.bnd hr (Ev.now _))
  | succ e ih =>
    intro i hi
    have ih := ih (i + 1) (by omega)
    have hl : (quoL g d i).length ≤ i := pick_len _ _ _
    have hm := quo_mul d (i + 1) hd (by omega)
    refine Ev.one (fun k => by rw [impl_QuotientOf.l0]) ?_
    rw [w64_succ (i + 1) (by omega), w64_of (x := d * ((i + 1 : Nat) : Int)) (by omega) (by omega)]
    refine Ev.pos (by omega) (Ev.bnd (reach_ap g hS _) ?_)
    cases hb : elB g (d * ((i + 1 : Nat) : Int)) with
    | true =>
      unfold quoL at ih ⊢
      rw [pick_neg _ _ i (by rw [hb]; rfl)] at ih
      exact Ev.pos rfl ih
    | false =>
      unfold quoL at ih hl ⊢
      rw [pick_pos _ _ i (by rw [hb]; rfl)] at ih
      exact Ev.neg (by decide) (Ev.pos (by omega) ih)
theorem quotient_both (g : List Int) (d : Int) (hlen : g.length ≤ 1048576) : ∃ r : List Int × Bool, r.1.length ≤ 401 ∧ Ev (fun k => spec_QuotientOf.f k g d) r ∧ Ev (fun k => impl_QuotientOf.f k g d) r := by
  obtain ⟨b, b1, b2, b3⟩ := sg_both g hlen
  have hw1 := spec_l1In_ev d 1 20
  have hw2 := impl_within_ev d 1 20
  have out_ : ∀ t : Bool, t = true → Ev (fun k => spec_QuotientOf.j0 k d t g) ([], false) ∧ Ev (fun k => impl_QuotientOf.j0 k d t g) ([], false) := fun t ht => by
    subst ht
    exact ⟨Ev.one (fun k => by rw [spec_QuotientOf.j0]) (Ev.pos rfl (Ev.now _)), Ev.one (fun k => by rw [impl_QuotientOf.j0]) (Ev.pos rfl (Ev.now _))⟩
  unfold spec_QuotientOf.f impl_QuotientOf.f
  cases b with
  | false => exact ⟨([], false), by simp, Ev.bnd b2 (Ev.neg (by decide) (out_ _ rfl).1), Ev.bnd b3 (Ev.neg (by decide) (out_ _ rfl).2)⟩
  | true =>
    by_cases hd : 1 ≤ d ∧ d ≤ 20
    rotate_left
    · rw [decide_eq_false hd] at hw1 hw2
      exact ⟨([], false), by simp, Ev.bnd b2 (Ev.pos rfl (Ev.bnd hw1 (out_ _ rfl).1)), Ev.bnd b3 (Ev.pos rfl (Ev.bnd hw2 (out_ _ rfl).2))⟩
    rw [decide_eq_true hd] at hw1 hw2
    have hS := b1.1 rfl
    have hl : (quoL g d 199).length ≤ 199 := pick_len _ _ _
    obtain ⟨q, _, q1, q2⟩ := from_both (quoL g d 199) (by omega)
    refine ⟨fromS (quoL g d 199) q, fromS_len _ _, Ev.bnd b2 (Ev.pos rfl (Ev.bnd hw1 ?_)), Ev.bnd b3 (Ev.pos rfl (Ev.bnd hw2 ?_))⟩
    · refine Ev.one (fun k => by rw [spec_QuotientOf.j0]) ?_
      exact Ev.neg (by decide) (spec_quo_l0 g hS d hd q1 199 0 (by omega))
    · refine Ev.one (fun k => by rw [impl_QuotientOf.j0]) ?_
      exact Ev.neg (by decide) (Ev.bnd (reach_ev g hlen hS) (impl_quo_l0 g hS d hd q2 199 0 (by omega)))
theorem FnExactQuotientOf (g : List Int) (d : Int) (hm_g : g.length ≤ maxLen) (hw_g : ∀ x ∈ g, (Lit.int .i64 x).wf = true) (h_d : (Lit.int .i64 d).wf = true) : ∃ k, laws_FnExactQuotientOf.f k g d = some true := by
  apply Ev.rounds
  unfold laws_FnExactQuotientOf.f
  by_cases hl_g : (g.length : Int) ≤ 1048576
  rotate_left
  · exact Ev.bnd (szSemigroup_out g hm_g hl_g) (Ev.pos (by omega) (Ev.now _))
  refine Ev.bnd (szSemigroup_in g hm_g hl_g) (Ev.neg (by omega) ?_)
  have ht_g := toSemigroup_ev g (by omega)
  have he_g := eqSemigroup_ev g (by omega)
  obtain ⟨⟨r, t⟩, hr, h1, h2⟩ := quotient_both g d (by omega)
  have hr : r.length ≤ 1048576 := Nat.le_trans hr (by decide)
  have her := eqSemigroup_ev r (by omega)
  have hmr := markSemigroup_ev r 1 (by omega) (by omega) (by omega)
  have hhr := heldSemigroup_ev r (by omega)
  have ett : (t != t) = false := by cases t <;> rfl
  have hmk_g := markSemigroup_ev g (1) (by omega) (by omega) (by omega)
  repeat (first | exact Ev.now _ | (refine Ev.bnd (by assumption) ?_; try dsimp only) | refine Ev.pos (by first | with_reducible rfl | omega) ?_ | refine Ev.neg (by first | omega | decide | (simp; done)) ?_ | rw [ett] | (refine Ev.one (fun k => by rw [laws_FnExactQuotientOf.j0]) ?_) | (refine Ev.one (fun k => by rw [laws_FnExactQuotientOf.j1]) ?_) | (refine Ev.one (fun k => by rw [laws_FnExactQuotientOf.j2]) ?_))
end Go.Proofs.Ytlfdipnhlmjiaaa.Pure
