/- Plain lemmas (dot): no program, no memory. -/
import Derived.Test.YtiejmnnnjmmifaaC0
import Derived.Test.YtiejmnnnjmmifaaBbase
namespace Go.Proofs.Ytiejmnnnjmmifaa.Pure
open Go.RowKit Go.Proofs.Ytiejmnnnjmmifaa.C Go.Proofs.YtiejmnnnjmmifaaW.PrintWords Go.Proofs.YtiejmnnnjmmifaaW.PrintLast Go.Proofs.YtiejmnnnjmmifaaW.PrintMore
set_option linter.unusedVariables false
set_option linter.unusedSimpArgs false
/-! dot: the sum of the products of two lists -/
/-- The sum of the products of two lists. -/
def dot : List Int → List Int → Int
  | x :: a, y :: b => x * y + dot a b
  | _, _ => 0
theorem dot_cons (x : Int) (a : List Int) (y : Int) (b : List Int) : dot (x :: a) (y :: b) = x * y + dot a b := rfl
theorem dot_nil (b : List Int) : dot [] b = 0 := by cases b <;> rfl
theorem mul_le60 {x y : Int} (hx : 0 ≤ x ∧ x ≤ 1000000) (hy : 1 ≤ y ∧ y ≤ 60) : 0 ≤ x * y ∧ x * y ≤ 60000000 := by
  have h1 : 0 ≤ x * y := Int.mul_nonneg hx.1 (by omega)
  have h2 : x * y ≤ 1000000 * 60 := Int.mul_le_mul hx.2 hy.2 (by omega) (by omega)
  omega
end Go.Proofs.Ytiejmnnnjmmifaa.Pure
