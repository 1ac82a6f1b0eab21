/- Plain lemmas (apart): no program, no memory. -/
import Derived.Test.YtlfdipnhlmjiaaaC0
import Derived.Test.YtlfdipnhlmjiaaaC11
import Derived.Test.YtlfdipnhlmjiaaaBbase
namespace Go.Proofs.Ytlfdipnhlmjiaaa.Pure
open Go.RowKit Go.Proofs.Ytlfdipnhlmjiaaa.C Go.Proofs.YtlfdipnhlmjiaaaW.PrintWords Go.Proofs.YtlfdipnhlmjiaaaW.PrintLast Go.Proofs.YtlfdipnhlmjiaaaW.PrintMore
set_option linter.unusedVariables false
set_option linter.unusedSimpArgs false
/-! apart: distances of lists -/
/-- What is left of the one list if the lesser one of each two numbers is taken away. -/
def exc : List Int → List Int → Int
  | x :: a, y :: b => (x - min x y) + exc a b
  | _, _ => 0
theorem exc_cons (x : Int) (a : List Int) (y : Int) (b : List Int) : exc (x :: a) (y :: b) = (x - min x y) + exc a b := rfl
theorem exc_nil (b : List Int) : exc [] b = 0 := by cases b <;> rfl
theorem exc_bounds : ∀ (a b : List Int), (∀ x ∈ a, 0 ≤ x ∧ x ≤ 1000000) → (∀ x ∈ b, 0 ≤ x ∧ x ≤ 1000000) → 0 ≤ exc a b ∧ exc a b ≤ 1000000 * (a.length : Int) := by
  intro a
  induction a with
  | nil => intro b _ _; rw [exc_nil]; simp
  | cons x a ih =>
    intro b ha hb
    cases b with
    | nil => exact ⟨by show (0 : Int) ≤ 0; omega, by show (0 : Int) ≤ _; omega⟩
    | cons y b =>
      have h1 := ih b (fun z hz => ha z (List.mem_cons_of_mem _ hz)) (fun z hz => hb z (List.mem_cons_of_mem _ hz))
      have h2 := ha x (List.mem_cons_self ..)
      have h3 := hb y (List.mem_cons_self ..)
      rw [exc_cons, List.length_cons]
      omega
/-- The distance of two lists of one length. -/
def dst (a b : List Int) : Int := max (exc a b) (exc b a)
theorem impl_apart_l0 (a b : List Int) (h : a.length = b.length) (hl : a.length ≤ 1048576) (ha : ∀ x ∈ a, 0 ≤ x ∧ x ≤ 1000000) (hb : ∀ x ∈ b, 0 ≤ x ∧ x ≤ 1000000) :
    ∀ (d i : Nat) (x y : Int), i + d = a.length → 0 ≤ x → x ≤ 1000000 * (i : Int) → 0 ≤ y → y ≤ 1000000 * (i : Int) →
      Ev (fun k => impl_apart.l0 k a b x y (a.length : Int) (i : Int)) (max (x + exc (a.drop i) (b.drop i)) (y + exc (b.drop i) (a.drop i))) := by
  intro d
  induction d with
  | zero =>
    intro i x y hi h0 h1 h2 h3
    rw [List.drop_eq_nil_of_le (show a.length ≤ i by omega), List.drop_eq_nil_of_le (show b.length ≤ i by omega), exc_nil]
    refine Ev.one (fun k => by rw [impl_apart.l0]) (Ev.neg (by omega) ?_)
    have e : mx x y = max (x + 0) (y + 0) := by unfold mx; omega
    rw [e]
    exact Ev.now _
  | succ d ih =>
    intro i x y hi h0 h1 h2 h3
    rw [List.drop_eq_getElem_cons (show i < a.length by omega), List.drop_eq_getElem_cons (show i < b.length by omega), exc_cons, exc_cons]
    have ga := ha a[i] (List.getElem_mem _)
    have gb := hb b[i] (List.getElem_mem _)
    refine Ev.one (fun k => by rw [impl_apart.l0]) (Ev.pos (by omega) (Ev.pos (by omega) (Ev.pos (by omega) (Ev.pos (by omega) ?_))))
    have em : mn a[i] b[i] = min a[i] b[i] := by unfold mn; omega
    rw [rd_at a i (by omega), rd_at b i (by omega), em, w64_of (x := a[i] - min a[i] b[i]) (by omega) (by omega), w64_of (x := b[i] - min a[i] b[i]) (by omega) (by omega),
      w64_of (x := x + (a[i] - min a[i] b[i])) (by omega) (by omega), w64_of (x := y + (b[i] - min a[i] b[i])) (by omega) (by omega), w64_succ i (by omega)]
    have g := ih (i + 1) (x + (a[i] - min a[i] b[i])) (y + (b[i] - min a[i] b[i])) (by omega) (by omega) (by omega) (by omega) (by omega)
    have e : max (x + (a[i] - min a[i] b[i]) + exc (a.drop (i + 1)) (b.drop (i + 1))) (y + (b[i] - min a[i] b[i]) + exc (b.drop (i + 1)) (a.drop (i + 1))) = max (x + (a[i] - min a[i] b[i] + exc (a.drop (i + 1)) (b.drop (i + 1)))) (y + (b[i] - min b[i] a[i] + exc (b.drop (i + 1)) (a.drop (i + 1)))) := by
      rw [Int.min_comm b[i] a[i]]
      congr 1 <;> (generalize min a[i] b[i] = m; omega)
    rw [← e]
    exact g
theorem impl_apart_ev (a b : List Int) (h : a.length = b.length) (hl : a.length ≤ 1048576) (ha : ∀ x ∈ a, 0 ≤ x ∧ x ≤ 1000000) (hb : ∀ x ∈ b, 0 ≤ x ∧ x ≤ 1000000) :
    Ev (fun k => impl_apart.f k a b) (dst a b) := by
  unfold impl_apart.f
  have g := impl_apart_l0 a b h hl ha hb a.length 0 0 0 (by omega) (by omega) (by omega) (by omega) (by omega)
  rw [Int.zero_add, Int.zero_add] at g
  exact g
end Go.Proofs.Ytlfdipnhlmjiaaa.Pure
