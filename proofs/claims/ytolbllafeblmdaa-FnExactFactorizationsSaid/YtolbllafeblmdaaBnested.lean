/- Plain lemmas (nested): no program, no memory. -/
import Derived.Test.YtolbllafeblmdaaC0
import Derived.Test.YtolbllafeblmdaaC6
import Derived.Test.YtolbllafeblmdaaBbase
namespace Go.Proofs.Ytolbllafeblmdaa.Pure
open Go.RowKit Go.Proofs.Ytolbllafeblmdaa.C Go.Proofs.YtolbllafeblmdaaW.PrintWords Go.Proofs.YtolbllafeblmdaaW.PrintLast Go.Proofs.YtolbllafeblmdaaW.PrintMore
set_option linter.unusedVariables false
set_option linter.unusedSimpArgs false
/-! nested: eqIntSS, markIntSS, heldIntSS -/
def marksSS : List (List Int) → Int → List (List Int)
 | [], _ => []
 | x :: r, a => marks x a :: marksSS r (a + (x.length : Int))
def totSS : List (List Int) → Int
 | [] => 0
 | x :: r => (x.length : Int) + totSS r
theorem totSS_rng (c : Nat) : ∀ l : List (List Int), (∀ x ∈ l, x.length ≤ c) → 0 ≤ totSS l ∧ totSS l ≤ (c : Int) * (l.length : Int) := by
 intro l
 induction l with
 | nil => intro _; simp [totSS]
 | cons x r ih =>
  intro h
  have h1 := h x List.mem_cons_self
  have := ih (fun y hy => h y (List.mem_cons_of_mem _ hy))
  rw [totSS, List.length_cons, Int.natCast_add, Int.mul_add]
  omega
theorem eqIntSS_l0 (l : List (List Int)) (hl : l.length ≤ 100000000000) (hx : ∀ x ∈ l, x.length ≤ 1000) : ∀ (d i : Nat), i + d = l.length → Ev (fun k => laws_eqIntSS.l0 k l l (i : Int)) true := by
 intro d
 induction d with
 | zero =>
  intro i hi
  refine Ev.one (fun k => by rw [laws_eqIntSS.l0]) ?_
  exact Ev.neg (by omega) (Ev.now _)
 | succ d ih =>
  intro i hi
  have hil : i < l.length := by omega
  have h1 := hx _ (List.getElem_mem hil)
  refine Ev.one (fun k => by rw [laws_eqIntSS.l0]) ?_
  rw [rd_L2_at l i hil, w64_succ i (by omega)]
  exact Ev.pos (by omega) (Ev.pos (by omega) (Ev.pos (by omega) (Ev.bnd (eqIntS_ev l[i] (by omega)) (Ev.pos rfl (ih (i + 1) (by omega))))))
theorem eqIntSS_ev (l : List (List Int)) (hl : l.length ≤ 100000000000) (hx : ∀ x ∈ l, x.length ≤ 1000) : Ev (fun k => laws_eqIntSS.f k l l) true := by
 unfold laws_eqIntSS.f
 exact Ev.pos rfl (eqIntSS_l0 l hl hx l.length 0 (by omega))
theorem set_at {α : Type} (a b : List α) (x v : α) : (a ++ x :: b).set a.length v = (a ++ [v]) ++ b := by simp
theorem markIntSS_l0 : ∀ (r done : List (List Int)) (a : Int), (∀ x ∈ r, x.length ≤ 1000) → done.length + r.length ≤ 100000000000 → 0 ≤ a → a + 1000 * (r.length : Int) ≤ 4611686018427387904 →
  Ev (fun k => laws_markIntSS.l0 k (done ++ r) a (done.length : Int)) (a + totSS r, done ++ marksSS r a) := by
 intro r
 induction r with
 | nil =>
  intro done a _ hl h0 h1
  refine Ev.one (fun k => by rw [laws_markIntSS.l0]) ?_
  rw [totSS, marksSS, Int.add_zero, List.append_nil]
  exact Ev.neg (by omega) (Ev.now _)
 | cons x r ih =>
  intro done a hx hl h0 h1
  rw [List.length_cons] at hl h1
  have hx1 := hx x List.mem_cons_self
  have ih := ih (done ++ [marks x a]) (a + (x.length : Int)) (fun y hy => hx y (List.mem_cons_of_mem _ hy)) (by rw [List.length_append, List.length_singleton]; omega) (by omega) (by omega)
  have e : laws_markIntSS.rd (done ++ x :: r) (done.length : Int) = x := by
   unfold laws_markIntSS.rd
   rw [Int.toNat_natCast, List.getD_eq_getElem?_getD, List.getElem?_append_right (Nat.le_refl _), Nat.sub_self]
   rfl
  refine Ev.one (fun k => by rw [laws_markIntSS.l0]) ?_
  rw [e]
  refine Ev.pos (by rw [List.length_append, List.length_cons]; omega) (Ev.pos (by omega) (Ev.bnd (markIntS_ev x a (by omega) (by omega) (by omega)) ?_))
  rw [Int.toNat_natCast, set_at, w64_succ done.length (by omega), totSS, marksSS, show a + ((x.length : Int) + totSS r) = a + (x.length : Int) + totSS r from by omega, show done ++ marks x a :: marksSS r (a + (x.length : Int)) = (done ++ [marks x a]) ++ marksSS r (a + (x.length : Int)) from by simp]
  rw [List.length_append, List.length_singleton] at ih
  exact ih
theorem markIntSS_ev (l : List (List Int)) (hl : l.length ≤ 100000000000) (hx : ∀ x ∈ l, x.length ≤ 1000) : Ev (fun k => laws_markIntSS.f k l 1) (1 + totSS l, marksSS l 1) := markIntSS_l0 l [] 1 hx (by simpa using hl) (by omega) (by omega)
theorem marksSS_len : ∀ (l : List (List Int)) (a : Int), (marksSS l a).length = l.length := by
 intro l
 induction l with
 | nil => intro a; rfl
 | cons x r ih => intro a; rw [marksSS, List.length_cons, ih, List.length_cons]
theorem heldIntSS_l0 : ∀ (r done : List (List Int)) (a : Int), (∀ x ∈ r, x.length ≤ 1000) → done.length + r.length ≤ 100000000000 → 0 ≤ a → a + 1000 * (r.length : Int) ≤ 4611686018427387904 →
  Ev (fun k => laws_heldIntSS.l0 k (done ++ marksSS r a) a (done.length : Int)) (a + totSS r) := by
 intro r
 induction r with
 | nil =>
  intro done a _ hl h0 h1
  refine Ev.one (fun k => by rw [laws_heldIntSS.l0]) ?_
  rw [totSS, marksSS, Int.add_zero, List.append_nil]
  exact Ev.neg (by omega) (Ev.now _)
 | cons x r ih =>
  intro done a hx hl h0 h1
  rw [List.length_cons] at hl h1
  have hx1 := hx x List.mem_cons_self
  have ih := ih (done ++ [marks x a]) (a + (x.length : Int)) (fun y hy => hx y (List.mem_cons_of_mem _ hy)) (by rw [List.length_append, List.length_singleton]; omega) (by omega) (by omega)
  have hml := marksSS_len r (a + (x.length : Int))
  have e : rd_L2 (done ++ marks x a :: marksSS r (a + (x.length : Int))) (done.length : Int) = marks x a := by
   rw [rd_L2_at _ done.length (by rw [List.length_append, List.length_cons]; omega)]
   simp
  refine Ev.one (fun k => by rw [laws_heldIntSS.l0]) ?_
  rw [marksSS, e]
  refine Ev.pos (by rw [List.length_append, List.length_cons]; omega) (Ev.pos (by omega) (Ev.bnd (heldIntS_ev x a (by omega) (by omega) (by omega)) (Ev.neg (by omega) ?_)))
  rw [w64_succ done.length (by omega), totSS, show a + ((x.length : Int) + totSS r) = a + (x.length : Int) + totSS r from by omega, show done ++ marks x a :: marksSS r (a + (x.length : Int)) = (done ++ [marks x a]) ++ marksSS r (a + (x.length : Int)) from by simp]
  rw [List.length_append, List.length_singleton] at ih
  exact ih
theorem heldIntSS_ev (l : List (List Int)) (hl : l.length ≤ 100000000000) (hx : ∀ x ∈ l, x.length ≤ 1000) : Ev (fun k => laws_heldIntSS.f k (marksSS l 1) 1) (1 + totSS l) := heldIntSS_l0 l [] 1 hx (by simpa using hl) (by omega) (by omega)
end Go.Proofs.Ytolbllafeblmdaa.Pure
