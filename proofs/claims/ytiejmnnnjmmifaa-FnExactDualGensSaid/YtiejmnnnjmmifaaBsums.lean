/- Plain lemmas (sums): no program, no memory. -/
import Derived.Test.YtiejmnnnjmmifaaC0
import Derived.Test.YtiejmnnnjmmifaaBbase
namespace Go.Proofs.Ytiejmnnnjmmifaa.Pure
open Go.RowKit Go.Proofs.Ytiejmnnnjmmifaa.C Go.Proofs.YtiejmnnnjmmifaaW.PrintWords Go.Proofs.YtiejmnnnjmmifaaW.PrintLast Go.Proofs.YtiejmnnnjmmifaaW.PrintMore
set_option linter.unusedVariables false
set_option linter.unusedSimpArgs false
/-! sums: the sums of numbers of a list, each any number of times -/
def Sums (g : List Int) (n : Int) : Prop := ∃ l : List Int, (∀ x ∈ l, x ∈ g) ∧ l.sum = n
theorem Sums.zero (g : List Int) : Sums g 0 := ⟨[], by simp, rfl⟩
theorem Sums.add {g : List Int} {x n : Int} (hx : x ∈ g) (h : Sums g n) : Sums g (n + x) := by
  obtain ⟨l, h1, h2⟩ := h
  refine ⟨x :: l, fun y hy => ?_, by rw [List.sum_cons, h2]; omega⟩
  rcases List.mem_cons.1 hy with rfl | hy
  · exact hx
  · exact h1 y hy
theorem Sums.both {g : List Int} {a b : Int} (h : Sums g a) (h' : Sums g b) : Sums g (a + b) := by
  obtain ⟨l, h1, h2⟩ := h
  obtain ⟨l', h1', h2'⟩ := h'
  refine ⟨l ++ l', fun y hy => ?_, by rw [List.sum_append, h2, h2']⟩
  rcases List.mem_append.1 hy with hy | hy
  · exact h1 y hy
  · exact h1' y hy
theorem Sums.one {g : List Int} {x : Int} (hx : x ∈ g) : Sums g x := by
  have h := Sums.add hx (Sums.zero g)
  rwa [Int.zero_add] at h
theorem Sums.times {g : List Int} {x : Int} (hx : x ∈ g) (k : Nat) : Sums g ((k : Int) * x) := by
  induction k with
  | zero => rw [show ((0 : Nat) : Int) * x = 0 from by simp]; exact Sums.zero g
  | succ k ih =>
    have h := Sums.add hx ih
    rw [show ((k + 1 : Nat) : Int) * x = (k : Int) * x + x from by rw [Int.natCast_add, Int.add_mul]; simp]
    exact h
theorem Sums.mono {g g' : List Int} {n : Int} (hg : ∀ x ∈ g, x ∈ g') (h : Sums g n) : Sums g' n := by
  obtain ⟨l, h1, h2⟩ := h
  exact ⟨l, fun x hx => hg x (h1 x hx), h2⟩
theorem Sums.ind {g : List Int} {P : Int → Prop} (h0 : P 0) (hs : ∀ x n, x ∈ g → Sums g n → P n → P (n + x)) {n : Int} (h : Sums g n) : P n := by
  obtain ⟨l, h1, h2⟩ := h
  subst h2
  induction l with
  | nil => exact h0
  | cons x l ih =>
    rw [List.sum_cons, Int.add_comm]
    exact hs x l.sum (h1 x (List.mem_cons_self ..)) ⟨l, fun y hy => h1 y (List.mem_cons_of_mem _ hy), rfl⟩ (ih (fun y hy => h1 y (List.mem_cons_of_mem _ hy)))
theorem Sums.nonneg {g : List Int} {n : Int} (hp : ∀ x ∈ g, 1 ≤ x) (h : Sums g n) : 0 ≤ n :=
  Sums.ind (P := fun n => 0 ≤ n) (by omega) (fun x n hx _ hn => by have := hp x hx; omega) h
/-- A sum other than 0 is a number of the list and a sum. -/
theorem Sums.cut {g : List Int} {n : Int} (hp : ∀ x ∈ g, 1 ≤ x) (h : Sums g n) (hn : n ≠ 0) : ∃ x, x ∈ g ∧ x ≤ n ∧ Sums g (n - x) := by
  obtain ⟨l, h1, h2⟩ := h
  cases l with
  | nil => exact absurd h2.symm (by simpa using hn)
  | cons x l =>
    have hs : Sums g l.sum := ⟨l, fun y hy => h1 y (List.mem_cons_of_mem _ hy), rfl⟩
    have := hs.nonneg hp
    rw [List.sum_cons] at h2
    refine ⟨x, h1 x (List.mem_cons_self ..), by omega, ?_⟩
    rw [show n - x = l.sum from by omega]
    exact hs
end Go.Proofs.Ytiejmnnnjmmifaa.Pure
