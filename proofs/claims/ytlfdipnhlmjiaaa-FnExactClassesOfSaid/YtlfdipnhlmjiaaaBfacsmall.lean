/- Plain lemmas (facsmall, nested, nested3): no program, no memory. -/
import Derived.Test.YtlfdipnhlmjiaaaC0
import Derived.Test.YtlfdipnhlmjiaaaC14
import Derived.Test.YtlfdipnhlmjiaaaBbase
import Derived.Test.YtlfdipnhlmjiaaaBdot
namespace Go.Proofs.Ytlfdipnhlmjiaaa.Pure
open Go.RowKit Go.Proofs.Ytlfdipnhlmjiaaa.C Go.Proofs.YtlfdipnhlmjiaaaW.PrintWords Go.Proofs.YtlfdipnhlmjiaaaW.PrintLast Go.Proofs.YtlfdipnhlmjiaaaW.PrintMore
set_option linter.unusedVariables false
set_option linter.unusedSimpArgs false
/-! facsmall: room for all factorizations -/
theorem facS_small (b : Bool) (g : List Int) (hS : b = true → SG g) (n : Int) : (facS b g n).length ≤ 100000000000 ∧ ∀ x ∈ facS b g n, x.length ≤ 1000 := by
 unfold facS
 split
 ·rename_i h
  obtain ⟨hb, hn⟩ := h
  have hS := hS hb
  obtain ⟨m, rfl⟩ : ∃ m : Nat, n = (m : Int) := ⟨n.toNat, by omega⟩
  have h2 := hS.len2
  refine ⟨facL_room g hS g (fun x hx => hx) (Nat.le_refl _) m (by omega), fun x hx => ?_⟩
  have := ((facL_mem g m x (fun y hy => (hS.rng y hy).1)).1 hx).1
  omega
 ·exact ⟨by simp, fun x hx => by cases hx⟩
/-! nested: eqIntSS, markIntSS, heldIntSS -/
def marksSS : List (List Int) → Int → List (List Int)
 | [], _ => []
 | x :: r, a => marks x a :: marksSS r (a + (x.length : Int))
def totSS : List (List Int) → Int
 | [] => 0
 | x :: r => (x.length : Int) + totSS r
theorem totSS_rng (c : Nat) : ∀ l : List (List Int), (∀ x ∈ l, x.length ≤ c) → 0 ≤ totSS l ∧ totSS l ≤ (c : Int) * (l.length : Int) := by
 intro l
 induction l with
 | nil => intro _; simp [totSS]
 | cons x r ih =>
  intro h
  have h1 := h x List.mem_cons_self
  have := ih (fun y hy => h y (List.mem_cons_of_mem _ hy))
  rw [totSS, List.length_cons, Int.natCast_add, Int.mul_add]
  omega
theorem eqIntSS_l0 (l : List (List Int)) (hl : l.length ≤ 100000000000) (hx : ∀ x ∈ l, x.length ≤ 1000) : ∀ (d i : Nat), i + d = l.length → Ev (fun k => laws_eqIntSS.l0 k l l (i : Int)) true := by
 intro d
 induction d with
 | zero =>
  intro i hi
  refine Ev.one (fun k => by rw [laws_eqIntSS.l0]) ?_
  exact Ev.neg (by omega) (Ev.now _)
 | succ d ih =>
  intro i hi
  have hil : i < l.length := by omega
  have h1 := hx _ (List.getElem_mem hil)
  refine Ev.one (fun k => by rw [laws_eqIntSS.l0]) ?_
  rw [rd_L2_at l i hil, w64_succ i (by omega)]
  exact Ev.pos (by omega) (Ev.pos (by omega) (Ev.pos (by omega) (Ev.bnd (eqIntS_ev l[i] (by omega)) (Ev.pos rfl (ih (i + 1) (by omega))))))
theorem eqIntSS_ev (l : List (List Int)) (hl : l.length ≤ 100000000000) (hx : ∀ x ∈ l, x.length ≤ 1000) : Ev (fun k => laws_eqIntSS.f k l l) true := by
 unfold laws_eqIntSS.f
 exact Ev.pos rfl (eqIntSS_l0 l hl hx l.length 0 (by omega))
theorem set_at {α : Type} (a b : List α) (x v : α) : (a ++ x :: b).set a.length v = (a ++ [v]) ++ b := by simp
theorem markIntSS_l0 : ∀ (r done : List (List Int)) (a : Int), (∀ x ∈ r, x.length ≤ 1000) → done.length + r.length ≤ 100000000000 → 0 ≤ a → a + 1000 * (r.length : Int) ≤ 4611686018427387904 →
  Ev (fun k => laws_markIntSS.l0 k (done ++ r) a (done.length : Int)) (a + totSS r, done ++ marksSS r a) := by
 intro r
 induction r with
 | nil =>
  intro done a _ hl h0 h1
  refine Ev.one (fun k => by rw [laws_markIntSS.l0]) ?_
  rw [totSS, marksSS, Int.add_zero, List.append_nil]
  exact Ev.neg (by omega) (Ev.now _)
 | cons x r ih =>
  intro done a hx hl h0 h1
  rw [List.length_cons] at hl h1
  have hx1 := hx x List.mem_cons_self
  have ih := ih (done ++ [marks x a]) (a + (x.length : Int)) (fun y hy => hx y (List.mem_cons_of_mem _ hy)) (by rw [List.length_append, List.length_singleton]; omega) (by omega) (by omega)
  have e : laws_markIntSS.rd (done ++ x :: r) (done.length : Int) = x := by
   unfold laws_markIntSS.rd
   rw [Int.toNat_natCast, List.getD_eq_getElem?_getD, List.getElem?_append_right (Nat.le_refl _), Nat.sub_self]
   rfl
  refine Ev.one (fun k => by rw [laws_markIntSS.l0]) ?_
  rw [e]
  refine Ev.pos (by rw [List.length_append, List.length_cons]; omega) (Ev.pos (by omega) (Ev.bnd (markIntS_ev x a (by omega) (by omega) (by omega)) ?_))
  rw [Int.toNat_natCast, set_at, w64_succ done.length (by omega), totSS, marksSS, show a + ((x.length : Int) + totSS r) = a + (x.length : Int) + totSS r from by omega, show done ++ marks x a :: marksSS r (a + (x.length : Int)) = (done ++ [marks x a]) ++ marksSS r (a + (x.length : Int)) from by simp]
  rw [List.length_append, List.length_singleton] at ih
  exact ih
theorem markIntSS_ev (l : List (List Int)) (hl : l.length ≤ 100000000000) (hx : ∀ x ∈ l, x.length ≤ 1000) : Ev (fun k => laws_markIntSS.f k l 1) (1 + totSS l, marksSS l 1) := markIntSS_l0 l [] 1 hx (by simpa using hl) (by omega) (by omega)
theorem marksSS_len : ∀ (l : List (List Int)) (a : Int), (marksSS l a).length = l.length := by
 intro l
 induction l with
 | nil => intro a; rfl
 | cons x r ih => intro a; rw [marksSS, List.length_cons, ih, List.length_cons]
theorem heldIntSS_l0 : ∀ (r done : List (List Int)) (a : Int), (∀ x ∈ r, x.length ≤ 1000) → done.length + r.length ≤ 100000000000 → 0 ≤ a → a + 1000 * (r.length : Int) ≤ 4611686018427387904 →
  Ev (fun k => laws_heldIntSS.l0 k (done ++ marksSS r a) a (done.length : Int)) (a + totSS r) := by
 intro r
 induction r with
 | nil =>
  intro done a _ hl h0 h1
  refine Ev.one (fun k => by rw [laws_heldIntSS.l0]) ?_
  rw [totSS, marksSS, Int.add_zero, List.append_nil]
  exact Ev.neg (by omega) (Ev.now _)
 | cons x r ih =>
  intro done a hx hl h0 h1
  rw [List.length_cons] at hl h1
  have hx1 := hx x List.mem_cons_self
  have ih := ih (done ++ [marks x a]) (a + (x.length : Int)) (fun y hy => hx y (List.mem_cons_of_mem _ hy)) (by rw [List.length_append, List.length_singleton]; omega) (by omega) (by omega)
  have hml := marksSS_len r (a + (x.length : Int))
  have e : rd_L2 (done ++ marks x a :: marksSS r (a + (x.length : Int))) (done.length : Int) = marks x a := by
   rw [rd_L2_at _ done.length (by rw [List.length_append, List.length_cons]; omega)]
   simp
  refine Ev.one (fun k => by rw [laws_heldIntSS.l0]) ?_
  rw [marksSS, e]
  refine Ev.pos (by rw [List.length_append, List.length_cons]; omega) (Ev.pos (by omega) (Ev.bnd (heldIntS_ev x a (by omega) (by omega) (by omega)) (Ev.neg (by omega) ?_)))
  rw [w64_succ done.length (by omega), totSS, show a + ((x.length : Int) + totSS r) = a + (x.length : Int) + totSS r from by omega, show done ++ marks x a :: marksSS r (a + (x.length : Int)) = (done ++ [marks x a]) ++ marksSS r (a + (x.length : Int)) from by simp]
  rw [List.length_append, List.length_singleton] at ih
  exact ih
theorem heldIntSS_ev (l : List (List Int)) (hl : l.length ≤ 100000000000) (hx : ∀ x ∈ l, x.length ≤ 1000) : Ev (fun k => laws_heldIntSS.f k (marksSS l 1) 1) (1 + totSS l) := heldIntSS_l0 l [] 1 hx (by simpa using hl) (by omega) (by omega)
/-! nested3: eqIntSSS, markIntSSS, heldIntSSS -/
theorem rd_L4_at (xs : List (List (List Int))) (i : Nat) (h : i < xs.length) : rd_L4 xs (i : Int) = xs[i] := by
 unfold rd_L4
 rw [Int.toNat_natCast, List.getD_eq_getElem?_getD, List.getElem?_eq_getElem h, Option.getD_some]
def marks3 : List (List (List Int)) → Int → List (List (List Int))
 | [], _ => []
 | x :: r, a => marksSS x a :: marks3 r (a + totSS x)
def tot3 : List (List (List Int)) → Int
 | [] => 0
 | x :: r => totSS x + tot3 r
theorem tot3_rng : ∀ l : List (List (List Int)), (∀ c ∈ l, ∀ x ∈ c, x.length ≤ 1000) → 0 ≤ tot3 l ∧ tot3 l ≤ 1000 * (((l.map List.length).sum : Nat) : Int) := by
 intro l
 induction l with
 | nil => intro _; simp [tot3]
 | cons x r ih =>
  intro h
  have h1 := totSS_rng 1000 x (h x List.mem_cons_self)
  have := ih (fun y hy => h y (List.mem_cons_of_mem _ hy))
  rw [tot3, List.map_cons, List.sum_cons, Int.natCast_add, Int.mul_add]
  omega
theorem eqIntSSS_l0 (l : List (List (List Int))) (hl : l.length ≤ 100000000000) (hc : ∀ c ∈ l, c.length ≤ 100000000000) (hx : ∀ c ∈ l, ∀ x ∈ c, x.length ≤ 1000) : ∀ (d i : Nat), i + d = l.length → Ev (fun k => laws_eqIntSSS.l0 k l l (i : Int)) true := by
 intro d
 induction d with
 | zero =>
  intro i hi
  refine Ev.one (fun k => by rw [laws_eqIntSSS.l0]) ?_
  exact Ev.neg (by omega) (Ev.now _)
 | succ d ih =>
  intro i hi
  have hil : i < l.length := by omega
  have hm := List.getElem_mem hil
  refine Ev.one (fun k => by rw [laws_eqIntSSS.l0]) ?_
  rw [rd_L4_at l i hil, w64_succ i (by omega)]
  exact Ev.pos (by omega) (Ev.pos (by omega) (Ev.pos (by omega) (Ev.bnd (eqIntSS_ev l[i] (hc _ hm) (hx _ hm)) (Ev.pos rfl (ih (i + 1) (by omega))))))
theorem eqIntSSS_ev (l : List (List (List Int))) (hl : l.length ≤ 100000000000) (hc : ∀ c ∈ l, c.length ≤ 100000000000) (hx : ∀ c ∈ l, ∀ x ∈ c, x.length ≤ 1000) : Ev (fun k => laws_eqIntSSS.f k l l) true := by
 unfold laws_eqIntSSS.f
 exact Ev.pos rfl (eqIntSSS_l0 l hl hc hx l.length 0 (by omega))
theorem sum3_cons (x : List (List Int)) (r : List (List (List Int))) : (((x :: r).map List.length).sum : Nat) = x.length + (r.map List.length).sum := by rw [List.map_cons, List.sum_cons]
theorem set_at3 {α : Type} (a b : List α) (x v : α) : (a ++ x :: b).set a.length v = (a ++ [v]) ++ b := by simp
theorem markIntSSS_l0 : ∀ (r done : List (List (List Int))) (a : Int), (∀ c ∈ r, ∀ x ∈ c, x.length ≤ 1000) → (r.map List.length).sum ≤ 100000000000 → done.length + r.length ≤ 100000000000 → 0 ≤ a → a + 1000 * (((r.map List.length).sum : Nat) : Int) ≤ 4611686018427387904 →
  Ev (fun k => laws_markIntSSS.l0 k (done ++ r) a (done.length : Int)) (a + tot3 r, done ++ marks3 r a) := by
 intro r
 induction r with
 | nil =>
  intro done a _ _ hl h0 h1
  refine Ev.one (fun k => by rw [laws_markIntSSS.l0]) ?_
  rw [tot3, marks3, Int.add_zero, List.append_nil]
  exact Ev.neg (by omega) (Ev.now _)
 | cons x r ih =>
  intro done a hx hs hl h0 h1
  rw [sum3_cons] at hs h1
  rw [List.length_cons] at hl
  have hx1 := hx x List.mem_cons_self
  have ht := totSS_rng 1000 x hx1
  have ih := ih (done ++ [marksSS x a]) (a + totSS x) (fun y hy => hx y (List.mem_cons_of_mem _ hy)) (by omega) (by rw [List.length_append, List.length_singleton]; omega) (by omega) (by omega)
  have e : laws_markIntSSS.rd (done ++ x :: r) (done.length : Int) = x := by
   unfold laws_markIntSSS.rd
   rw [Int.toNat_natCast, List.getD_eq_getElem?_getD, List.getElem?_append_right (Nat.le_refl _), Nat.sub_self]
   rfl
  have hm := markIntSS_l0 x [] a hx1 (by simp; omega) h0 (by omega)
  rw [List.nil_append, List.nil_append] at hm
  refine Ev.one (fun k => by rw [laws_markIntSSS.l0]) ?_
  rw [e]
  refine Ev.pos (by rw [List.length_append, List.length_cons]; omega) (Ev.pos (by omega) (Ev.bnd (a := (a + totSS x, marksSS x a)) hm ?_))
  rw [Int.toNat_natCast, set_at3, w64_succ done.length (by omega), tot3, marks3, show a + (totSS x + tot3 r) = a + totSS x + tot3 r from by omega, show done ++ marksSS x a :: marks3 r (a + totSS x) = (done ++ [marksSS x a]) ++ marks3 r (a + totSS x) from by simp]
  rw [List.length_append, List.length_singleton] at ih
  exact ih
theorem markIntSSS_ev (l : List (List (List Int))) (hl : l.length ≤ 100000000000) (hs : (l.map List.length).sum ≤ 100000000000) (hx : ∀ c ∈ l, ∀ x ∈ c, x.length ≤ 1000) : Ev (fun k => laws_markIntSSS.f k l 1) (1 + tot3 l, marks3 l 1) := markIntSSS_l0 l [] 1 hx hs (by simpa using hl) (by omega) (by omega)
theorem marks3_len : ∀ (l : List (List (List Int))) (a : Int), (marks3 l a).length = l.length := by
 intro l
 induction l with
 | nil => intro a; rfl
 | cons x r ih => intro a; rw [marks3, List.length_cons, ih, List.length_cons]
theorem heldIntSSS_l0 : ∀ (r done : List (List (List Int))) (a : Int), (∀ c ∈ r, ∀ x ∈ c, x.length ≤ 1000) → (r.map List.length).sum ≤ 100000000000 → done.length + r.length ≤ 100000000000 → 0 ≤ a → a + 1000 * (((r.map List.length).sum : Nat) : Int) ≤ 4611686018427387904 →
  Ev (fun k => laws_heldIntSSS.l0 k (done ++ marks3 r a) a (done.length : Int)) (a + tot3 r) := by
 intro r
 induction r with
 | nil =>
  intro done a _ _ hl h0 h1
  refine Ev.one (fun k => by rw [laws_heldIntSSS.l0]) ?_
  rw [tot3, marks3, Int.add_zero, List.append_nil]
  exact Ev.neg (by omega) (Ev.now _)
 | cons x r ih =>
  intro done a hx hs hl h0 h1
  rw [sum3_cons] at hs h1
  rw [List.length_cons] at hl
  have hx1 := hx x List.mem_cons_self
  have ht := totSS_rng 1000 x hx1
  have ih := ih (done ++ [marksSS x a]) (a + totSS x) (fun y hy => hx y (List.mem_cons_of_mem _ hy)) (by omega) (by rw [List.length_append, List.length_singleton]; omega) (by omega) (by omega)
  have hml := marks3_len r (a + totSS x)
  have e : rd_L4 (done ++ marksSS x a :: marks3 r (a + totSS x)) (done.length : Int) = marksSS x a := by
   rw [rd_L4_at _ done.length (by rw [List.length_append, List.length_cons]; omega)]
   simp
  have hh := heldIntSS_l0 x [] a hx1 (by simp; omega) h0 (by omega)
  rw [List.nil_append] at hh
  refine Ev.one (fun k => by rw [laws_heldIntSSS.l0]) ?_
  rw [marks3, e]
  refine Ev.pos (by rw [List.length_append, List.length_cons]; omega) (Ev.pos (by omega) (Ev.bnd hh (Ev.neg (by omega) ?_)))
  rw [w64_succ done.length (by omega), tot3, show a + (totSS x + tot3 r) = a + totSS x + tot3 r from by omega, show done ++ marksSS x a :: marks3 r (a + totSS x) = (done ++ [marksSS x a]) ++ marks3 r (a + totSS x) from by simp]
  rw [List.length_append, List.length_singleton] at ih
  exact ih
theorem heldIntSSS_ev (l : List (List (List Int))) (hl : l.length ≤ 100000000000) (hs : (l.map List.length).sum ≤ 100000000000) (hx : ∀ c ∈ l, ∀ x ∈ c, x.length ≤ 1000) : Ev (fun k => laws_heldIntSSS.f k (marks3 l 1) 1) (1 + tot3 l) := heldIntSSS_l0 l [] 1 hx hs (by simpa using hl) (by omega) (by omega)
end Go.Proofs.Ytlfdipnhlmjiaaa.Pure
