/- Plain lemmas (specdist): no program, no memory. -/
import Derived.Test.YtlfdipnhlmjiaaaC0
import Derived.Test.YtlfdipnhlmjiaaaC1
import Derived.Test.YtlfdipnhlmjiaaaC9
import Derived.Test.YtlfdipnhlmjiaaaBwithin
import Derived.Test.YtlfdipnhlmjiaaaBallwithin
import Derived.Test.YtlfdipnhlmjiaaaBapart
import Derived.Test.YtlfdipnhlmjiaaaBbase
namespace Go.Proofs.Ytlfdipnhlmjiaaa.Pure
open Go.RowKit Go.Proofs.Ytlfdipnhlmjiaaa.C Go.Proofs.YtlfdipnhlmjiaaaW.PrintWords Go.Proofs.YtlfdipnhlmjiaaaW.PrintLast Go.Proofs.YtlfdipnhlmjiaaaW.PrintMore
set_option linter.unusedVariables false
set_option linter.unusedSimpArgs false
/-! spec.DistanceOf -/
theorem spec_l1Min_eq (a b : Int) : spec_l1Min.f a b = some (min a b) := by
  unfold spec_l1Min.f
  by_cases h : a < b
  · rw [if_pos h]; congr 1; omega
  · rw [if_neg h]; congr 1; omega
theorem spec_l1Max_eq (a b : Int) : spec_l1Max.f a b = some (max a b) := by
  unfold spec_l1Max.f
  by_cases h : a > b
  · rw [if_pos h]; congr 1; omega
  · rw [if_neg h]; congr 1; omega
theorem spec_dist_l0 (a b : List Int) (h : a.length = b.length) (hl : a.length ≤ 1048576) :
    ∀ (d i : Nat) (x y : Int), i + d = a.length → 0 ≤ x → x ≤ 1000000 * (i : Int) → 0 ≤ y → y ≤ 1000000 * (i : Int) →
      Ev (fun k => spec_DistanceOf.l0 k a b x y (i : Int)) (if allIn (a.drop i) 0 1000000 = true ∧ allIn (b.drop i) 0 1000000 = true then max (x + exc (a.drop i) (b.drop i)) (y + exc (b.drop i) (a.drop i)) else -1) := by
  intro d
  induction d with
  | zero =>
    intro i x y hi h0 h1 h2 h3
    rw [List.drop_eq_nil_of_le (show a.length ≤ i by omega), List.drop_eq_nil_of_le (show b.length ≤ i by omega), exc_nil, if_pos ⟨rfl, rfl⟩, Int.add_zero, Int.add_zero]
    refine Ev.one (fun k => by rw [spec_DistanceOf.l0]) (Ev.neg (by omega) ?_)
    simp only [spec_l1Max_eq, Option.bind_some]
    exact Ev.now _
  | succ d ih =>
    intro i x y hi h0 h1 h2 h3
    rw [List.drop_eq_getElem_cons (show i < a.length by omega), List.drop_eq_getElem_cons (show i < b.length by omega), exc_cons, exc_cons]
    refine Ev.one (fun k => by rw [spec_DistanceOf.l0]) (Ev.pos (by omega) (Ev.pos (by omega) ?_))
    simp only [rd_at a i (by omega), rd_at b i (by omega), spec_l1In_eq, spec_l1Min_eq, Option.bind_some]
    by_cases ga : 0 ≤ a[i] ∧ a[i] ≤ 1000000
    · by_cases gb : 0 ≤ b[i] ∧ b[i] ≤ 1000000
      · refine Ev.pos (decide_eq_true ga) (Ev.pos (by omega) (Ev.pos (decide_eq_true gb) ?_))
        rw [w64_of (x := x + a[i]) (by omega) (by omega), w64_of (x := y + b[i]) (by omega) (by omega), w64_of (x := x + a[i] - min a[i] b[i]) (by omega) (by omega), w64_of (x := y + b[i] - min a[i] b[i]) (by omega) (by omega), w64_succ i (by omega)]
        have g := ih (i + 1) (x + a[i] - min a[i] b[i]) (y + b[i] - min a[i] b[i]) (by omega) (by omega) (by omega) (by omega) (by omega)
        have e3 : max (x + a[i] - min a[i] b[i] + exc (a.drop (i + 1)) (b.drop (i + 1))) (y + b[i] - min a[i] b[i] + exc (b.drop (i + 1)) (a.drop (i + 1))) = max (x + (a[i] - min a[i] b[i] + exc (a.drop (i + 1)) (b.drop (i + 1)))) (y + (b[i] - min b[i] a[i] + exc (b.drop (i + 1)) (a.drop (i + 1)))) := by
          rw [Int.min_comm b[i] a[i]]
          congr 1 <;> (generalize min a[i] b[i] = m; omega)
        rw [allIn_cons _ _ _ _ ga, allIn_cons _ _ _ _ gb, ← e3]
        exact g
      · rw [if_neg (by rw [allIn_cons_not _ _ _ _ gb]; simp)]
        exact Ev.pos (decide_eq_true ga) (Ev.pos (by omega) (Ev.neg (by rw [decide_eq_false gb]; decide) (Ev.now _)))
    · rw [if_neg (by rw [allIn_cons_not _ _ _ _ ga]; simp)]
      exact Ev.neg (by rw [decide_eq_false ga]; decide) (Ev.now _)
theorem spec_dist_ev (a b : List Int) (hl : a.length ≤ 1048576) :
    Ev (fun k => spec_DistanceOf.f k a b) (if a.length = b.length ∧ allIn a 0 1000000 = true ∧ allIn b 0 1000000 = true then dst a b else -1) := by
  unfold spec_DistanceOf.f
  by_cases h : a.length = b.length
  · have g := spec_dist_l0 a b h hl a.length 0 0 0 (by omega) (by omega) (by omega) (by omega) (by omega)
    rw [Int.zero_add, Int.zero_add] at g
    refine Ev.pos (by omega) ?_
    simp only [h, true_and]
    exact g
  · rw [if_neg (fun g => h g.1)]
    exact Ev.neg (by omega) (Ev.now _)
end Go.Proofs.Ytlfdipnhlmjiaaa.Pure
