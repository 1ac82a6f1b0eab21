/- Plain lemmas (gcd): no program, no memory. -/
import Derived.Test.YtiejmnnnjmmifaaC0
import Derived.Test.YtiejmnnnjmmifaaC2
import Derived.Test.YtiejmnnnjmmifaaC6
import Derived.Test.YtiejmnnnjmmifaaBwithin
import Derived.Test.YtiejmnnnjmmifaaBallwithin
import Derived.Test.YtiejmnnnjmmifaaBbase
namespace Go.Proofs.Ytiejmnnnjmmifaa.Pure
open Go.RowKit Go.Proofs.Ytiejmnnnjmmifaa.C Go.Proofs.YtiejmnnnjmmifaaW.PrintWords Go.Proofs.YtiejmnnnjmmifaaW.PrintLast Go.Proofs.YtiejmnnnjmmifaaW.PrintMore
set_option linter.unusedVariables false
set_option linter.unusedSimpArgs false
/-! gcd: spec.GcdOf, impl.GcdOf, and of lists -/
theorem tmod_nat (a b : Nat) : Int.tmod (a : Int) (b : Int) = ((a % b : Nat) : Int) := by
  rw [Int.tmod_eq_emod_of_nonneg (by omega)]
  simp
theorem spec_GcdOf_l0 : ∀ (b a : Nat), Ev (fun k => spec_GcdOf.l0 k (a : Int) (b : Int)) ((Nat.gcd a b : Nat) : Int) := by
  intro b
  induction b using Nat.strongRecOn with
  | ind b ih =>
    intro a
    refine Ev.one (fun k => by rw [spec_GcdOf.l0]) ?_
    by_cases h : b = 0
    · subst h
      rw [Nat.gcd_zero_right]
      exact Ev.neg (by omega) (Ev.now _)
    · rw [tmod_nat, Nat.gcd_comm, Nat.gcd_rec, Nat.gcd_comm]
      exact Ev.pos (by omega) (Ev.neg (by omega) (ih (a % b) (Nat.mod_lt _ (by omega)) b))
theorem impl_GcdOf_l0 : ∀ (a b : Nat), Ev (fun k => impl_GcdOf.l0 k (a : Int) (b : Int)) ((Nat.gcd a b : Nat) : Int) := by
  intro a
  induction a using Nat.strongRecOn with
  | ind a ih =>
    intro b
    refine Ev.one (fun k => by rw [impl_GcdOf.l0]) ?_
    by_cases h : a = 0
    · subst h
      rw [Nat.gcd_zero_left]
      exact Ev.pos (by omega) (Ev.now _)
    · rw [tmod_nat, Nat.gcd_rec]
      exact Ev.neg (by omega) (ih (b % a) (Nat.mod_lt _ (by omega)) a)
/-- What GcdOf answers: 0 beyond the bounds. -/
def gcdS (a b : Int) : Int := if (-1000000 ≤ a ∧ a ≤ 1000000) ∧ (-1000000 ≤ b ∧ b ≤ 1000000) then ((Int.gcd a b : Nat) : Int) else 0
theorem spec_l2Small_ev (a : Int) : Ev (fun _ => spec_l2Small.f a) (decide (-1000000 ≤ a ∧ a ≤ 1000000)) := by
  unfold spec_l2Small.f
  exact Ev.bnd (spec_l1In_ev _ _ _) (Ev.now _)
theorem l1Max_abs (a : Int) (h : -1000000 ≤ a ∧ a ≤ 1000000) : Ev (fun _ => spec_l1Max.f a (wrap64 (-a))) ((a.natAbs : Nat) : Int) := by
  refine Ev.const ?_
  rw [w64_of (by omega) (by omega)]
  unfold spec_l1Max.f
  by_cases g : a > -a
  · rw [if_pos g]; congr 1; omega
  · rw [if_neg g]; congr 1; omega
theorem spec_GcdOf_ev (a b : Int) : Ev (fun k => spec_GcdOf.f k a b) (gcdS a b) := by
  unfold spec_GcdOf.f gcdS
  by_cases h1 : -1000000 ≤ a ∧ a ≤ 1000000
  · refine Ev.bnd (spec_l2Small_ev a) (Ev.pos (decide_eq_true h1) (Ev.bnd (spec_l2Small_ev b) (Ev.one (fun k => by rw [spec_GcdOf.j0]) ?_)))
    by_cases h2 : -1000000 ≤ b ∧ b ≤ 1000000
    · rw [if_pos ⟨h1, h2⟩]
      exact Ev.neg (by rw [decide_eq_true h2]; simp) (Ev.bnd (l1Max_abs a h1) (Ev.bnd (l1Max_abs b h2) (spec_GcdOf_l0 b.natAbs a.natAbs)))
    · rw [if_neg (fun g => h2 g.2)]
      exact Ev.pos (by rw [decide_eq_false h2]; simp) (Ev.now _)
  · rw [if_neg (fun g => h1 g.1)]
    exact Ev.bnd (spec_l2Small_ev a) (Ev.neg (by rw [decide_eq_false h1]; simp) (Ev.one (fun k => by rw [spec_GcdOf.j0]) (Ev.pos rfl (Ev.now _))))
theorem mx_abs (a : Int) (h : -1000000 ≤ a ∧ a ≤ 1000000) : mx a (wrap64 (-a)) = ((a.natAbs : Nat) : Int) := by
  rw [w64_of (by omega) (by omega)]
  unfold mx
  by_cases g : a < -a
  · rw [if_pos g]; omega
  · rw [if_neg g]; omega
theorem impl_GcdOf_ev (a b : Int) : Ev (fun k => impl_GcdOf.f k a b) (gcdS a b) := by
  unfold impl_GcdOf.f gcdS
  refine Ev.bnd (impl_allWithin_ev _ _ _ (by simp)) ?_
  by_cases h : (-1000000 ≤ a ∧ a ≤ 1000000) ∧ (-1000000 ≤ b ∧ b ≤ 1000000)
  · rw [if_pos h, mx_abs a h.1, mx_abs b h.2]
    exact Ev.pos (by rw [allIn_iff]; simp only [List.mem_cons, List.not_mem_nil, or_false]; rintro x (rfl | rfl); exact h.1; exact h.2) (impl_GcdOf_l0 a.natAbs b.natAbs)
  · rw [if_neg h]
    refine Ev.neg (fun g => h ?_) (Ev.now _)
    rw [allIn_iff] at g
    exact ⟨g a (by simp), g b (by simp)⟩
def gcdL (l : List Int) : Int := l.foldl gcdS 0
theorem spec_GcdOfList_l0 (l : List Int) (hl : l.length ≤ 1048576) : ∀ (d i : Nat) (x : Int), i + d = l.length → Ev (fun k => spec_GcdOfList.l0 k l x (i : Int)) ((l.drop i).foldl gcdS x) := by
  intro d
  induction d with
  | zero =>
    intro i x hi
    rw [List.drop_eq_nil_of_le (by omega)]
    refine Ev.one (fun k => by rw [spec_GcdOfList.l0]) ?_
    exact Ev.neg (by omega) (Ev.now _)
  | succ d ih =>
    intro i x hi
    rw [List.drop_eq_getElem_cons (show i < l.length by omega), List.foldl_cons]
    refine Ev.one (fun k => by rw [spec_GcdOfList.l0]) ?_
    refine Ev.pos (by omega) (Ev.pos (by omega) (Ev.bnd (spec_GcdOf_ev _ _) ?_))
    rw [rd_at l i (by omega), w64_succ i (by omega)]
    exact ih (i + 1) _ (by omega)
theorem spec_GcdOfList_ev (l : List Int) (hl : l.length ≤ 1048576) : Ev (fun k => spec_GcdOfList.f k l) (gcdL l) := by
  unfold spec_GcdOfList.f
  exact spec_GcdOfList_l0 l hl l.length 0 0 (by omega)
theorem impl_GcdOfList_l0 (l : List Int) (hl : l.length ≤ 1048576) : ∀ (d i : Nat) (x : Int), i + d = l.length → Ev (fun k => impl_GcdOfList.l0 k x l (l.length : Int) (i : Int)) ((l.drop i).foldl gcdS x) := by
  intro d
  induction d with
  | zero =>
    intro i x hi
    rw [List.drop_eq_nil_of_le (by omega)]
    refine Ev.one (fun k => by rw [impl_GcdOfList.l0]) ?_
    exact Ev.neg (by omega) (Ev.now _)
  | succ d ih =>
    intro i x hi
    rw [List.drop_eq_getElem_cons (show i < l.length by omega), List.foldl_cons]
    refine Ev.one (fun k => by rw [impl_GcdOfList.l0]) ?_
    refine Ev.pos (by omega) (Ev.pos (by omega) (Ev.pos (by omega) (Ev.bnd (impl_GcdOf_ev _ _) ?_)))
    rw [rd_at l i (by omega), w64_succ i (by omega)]
    exact ih (i + 1) _ (by omega)
theorem impl_GcdOfList_ev (l : List Int) (hl : l.length ≤ 1048576) : Ev (fun k => impl_GcdOfList.f k l) (gcdL l) := by
  unfold impl_GcdOfList.f
  exact impl_GcdOfList_l0 l hl l.length 0 0 (by omega)
end Go.Proofs.Ytiejmnnnjmmifaa.Pure
