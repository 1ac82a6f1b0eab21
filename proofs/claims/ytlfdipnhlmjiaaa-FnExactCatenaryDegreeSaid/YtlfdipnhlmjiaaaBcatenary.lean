/- Plain lemmas (catenary): no program, no memory. -/
import Derived.Test.YtlfdipnhlmjiaaaC0
import Derived.Test.YtlfdipnhlmjiaaaC10
import Derived.Test.YtlfdipnhlmjiaaaC11
import Derived.Test.YtlfdipnhlmjiaaaC12
import Derived.Test.YtlfdipnhlmjiaaaC13
import Derived.Test.YtlfdipnhlmjiaaaC9
import Derived.Test.YtlfdipnhlmjiaaaBwithin
import Derived.Test.YtlfdipnhlmjiaaaBallwithin
import Derived.Test.YtlfdipnhlmjiaaaBissg
import Derived.Test.YtlfdipnhlmjiaaaBshell
import Derived.Test.YtlfdipnhlmjiaaaBdot
import Derived.Test.YtlfdipnhlmjiaaaBfactor
import Derived.Test.YtlfdipnhlmjiaaaBpigeon
import Derived.Test.YtlfdipnhlmjiaaaBfacboth
import Derived.Test.YtlfdipnhlmjiaaaBapart
import Derived.Test.YtlfdipnhlmjiaaaBspecdist
import Derived.Test.YtlfdipnhlmjiaaaBgraph
import Derived.Test.YtlfdipnhlmjiaaaBbfs
import Derived.Test.YtlfdipnhlmjiaaaBbase
namespace Go.Proofs.Ytlfdipnhlmjiaaa.Pure
open Go.RowKit Go.Proofs.Ytlfdipnhlmjiaaa.C Go.Proofs.YtlfdipnhlmjiaaaW.PrintWords Go.Proofs.YtlfdipnhlmjiaaaW.PrintLast Go.Proofs.YtlfdipnhlmjiaaaW.PrintMore
set_option linter.unusedVariables false
set_option linter.unusedSimpArgs false
/-! catenary: CatenaryOf of both sides -/
theorem exc_le (a b : List Int) (ha : ∀ x ∈ a, 0 ≤ x ∧ x ≤ 1000000) (hb : ∀ x ∈ b, 0 ≤ x ∧ x ≤ 1000000) (hl : a.length ≤ 12) : 0 ≤ exc a b ∧ exc a b ≤ 12000000 := by
  have := exc_bounds a b ha hb
  omega
/-- The lists of factorizations: of one length, with small numbers. -/
def Fine (c : Nat) (all : List (List Int)) : Prop := ∀ l ∈ all, l.length = c ∧ ∀ x ∈ l, 0 ≤ x ∧ x ≤ 1000000
theorem degree_both (all : List (List Int)) (c : Nat) (hc : c ≤ 12) (hF : Fine c all) (hNb : all.length ≤ 100000000000) :
    ∃ m : Int, 0 ≤ m ∧ m ≤ 1000000000000 ∧ Ev (fun k => spec_l13Degree.f k all) m ∧ Ev (fun k => impl_chained.f k all) m := by
  have hat : ∀ i, i < all.length → (rd_L2 all (i : Int)).length = c ∧ ∀ x ∈ rd_L2 all (i : Int), 0 ≤ x ∧ x ≤ 1000000 := fun i hi => by
    rw [rd_L2_at all i hi]; exact hF _ (List.getElem_mem hi)
  have hD0 : ∀ i j, i < all.length → j < all.length → 0 ≤ dst (rd_L2 all (i : Int)) (rd_L2 all (j : Int)) := fun i j hi hj => by
    have h1 := hat i hi
    have h2 := hat j hj
    have := exc_le _ _ h1.2 h2.2 (by omega)
    unfold dst
    omega
  have hD1 : ∀ i j, i < all.length → j < all.length → dst (rd_L2 all (i : Int)) (rd_L2 all (j : Int)) ≤ 1000000000000 := fun i j hi hj => by
    have h1 := hat i hi
    have h2 := hat j hj
    have a1 := exc_le _ _ h1.2 h2.2 (by omega)
    have a2 := exc_le _ _ h2.2 h1.2 (by omega)
    unfold dst
    omega
  have hA : ∀ i j, i < all.length → j < all.length → Ev (fun k => impl_apart.f k (rd_L2 all (i : Int)) (rd_L2 all (j : Int))) (dst (rd_L2 all (i : Int)) (rd_L2 all (j : Int))) := fun i j hi hj => by
    have h1 := hat i hi
    have h2 := hat j hj
    exact impl_apart_ev _ _ (by omega) (by omega) h1.2 h2.2
  have hA2 : ∀ i j, i < all.length → j < all.length → Ev (fun k => spec_DistanceOf.f k (rd_L2 all (i : Int)) (rd_L2 all (j : Int))) (dst (rd_L2 all (i : Int)) (rd_L2 all (j : Int))) := fun i j hi hj => by
    have h1 := hat i hi
    have h2 := hat j hj
    have h := spec_dist_ev (rd_L2 all (i : Int)) (rd_L2 all (j : Int)) (by omega)
    rw [if_pos ⟨by omega, (allIn_iff _ _ _).2 h1.2, (allIn_iff _ _ _).2 h2.2⟩] at h
    exact h
  obtain ⟨m, m1, m2, m3, m4, m5⟩ := chained_ev (fun i j => dst (rd_L2 all (i : Int)) (rd_L2 all (j : Int))) all.length all rfl hNb hD0 hD1 hA
  refine ⟨m, m3, m4, ?_, m5⟩
  unfold spec_l13Degree.f
  by_cases h0 : all.length = 0
  · rw [m2 (by omega)]
    refine Ev.one (fun k => by rw [spec_l13Degree.l0]) ?_
    exact Ev.pos (by omega) (Ev.now _)
  · have hL : LeastD (fun i j => dst (rd_L2 all (i : Int)) (rd_L2 all (j : Int))) all.length m := by
      by_cases h1 : 2 ≤ all.length
      · exact m1 h1
      · rw [m2 (by omega)]
        exact ⟨fun k hk => by
          obtain rfl : k = 0 := by omega
          exact Conn.refl _ _ _ _, fun d hd _ => hd⟩
    exact degree_l0 _ all.length all rfl hNb hA2 (by omega) m hL m4 m.toNat 0 (by omega)
theorem fac_fine (g : List Int) (hS : SG g) (n : Nat) (hn : n ≤ 100) : Fine g.length (facL g (n : Int)) := by
  intro l hl
  have h := (facL_mem g n l (fun x hx => (hS.rng x hx).1)).1 hl
  refine ⟨h.1, fun x hx => ⟨h.2.1 x hx, ?_⟩⟩
  have key : ∀ (l gs : List Int), l.length = gs.length → (∀ x ∈ l, 0 ≤ x) → (∀ y ∈ gs, 1 ≤ y) → ∀ x ∈ l, x ≤ dot l gs := by
    intro l
    induction l with
    | nil => intro gs _ _ _ x hx; simp at hx
    | cons y l ih =>
      intro gs hl h0 h1 x hx
      cases gs with
      | nil => simp at hl
      | cons z gs =>
        rw [dot_cons]
        have hy := h0 y (List.mem_cons_self ..)
        have hz := h1 z (List.mem_cons_self ..)
        have hmul : y ≤ y * z := by
          have := Int.mul_le_mul_of_nonneg_left hz hy
          omega
        have hd := dot_nonneg l gs (fun w hw => h0 w (List.mem_cons_of_mem _ hw)) (fun w hw => by have := h1 w (List.mem_cons_of_mem _ hw); omega)
        rcases List.mem_cons.1 hx with rfl | hx
        · omega
        · have := ih gs (by simpa using hl) (fun w hw => h0 w (List.mem_cons_of_mem _ hw)) (fun w hw => h1 w (List.mem_cons_of_mem _ hw)) x hx
          omega
  have := key l g h.1 h.2.1 (fun y hy => (hS.rng y hy).1) x hx
  omega
theorem catenary_both (g : List Int) (hlen : g.length ≤ 1048576) (n : Int) : ∃ r : Int, -1 ≤ r ∧ r ≤ 1000000000000 ∧ Ev (fun k => spec_CatenaryOf.f k g n) r ∧ Ev (fun k => impl_CatenaryOf.f k g n) r := by
  obtain ⟨b, b1, b2, b3⟩ := sg_both g hlen
  obtain ⟨c, c1, c2, c3⟩ := fac_both g hlen n
  obtain rfl := bool_same c1 b1
  unfold spec_CatenaryOf.f impl_CatenaryOf.f
  cases c with
  | false =>
    refine ⟨-1, by omega, by omega, Ev.bnd b2 (Ev.neg (by decide) (Ev.one (fun k => by rw [spec_CatenaryOf.j0]) ?_)), Ev.bnd b3 (Ev.neg (by decide) (Ev.one (fun k => by rw [impl_CatenaryOf.j0]) ?_))⟩
    · exact Ev.pos rfl (Ev.now _)
    · exact Ev.pos rfl (Ev.now _)
  | true =>
    have hS := b1.1 rfl
    by_cases h : 0 ≤ n ∧ n ≤ 100
    · obtain ⟨q, rfl⟩ : ∃ q : Nat, n = (q : Int) := ⟨n.toNat, by omega⟩
      unfold facS at c2 c3
      rw [if_pos ⟨rfl, h⟩] at c2 c3
      obtain ⟨m, m1, m2, m3, m4⟩ := degree_both (facL g (q : Int)) g.length hS.len2 (fac_fine g hS q (by omega)) (facL_room g hS g (fun x hx => hx) (Nat.le_refl _) q (by omega))
      refine ⟨m, by omega, m2, Ev.bnd b2 (Ev.pos rfl (Ev.bnd (spec_l1In_ev _ _ _) (Ev.one (fun k => by rw [spec_CatenaryOf.j0]) ?_))), Ev.bnd b3 (Ev.pos rfl (Ev.bnd (impl_within_ev _ _ _) (Ev.one (fun k => by rw [impl_CatenaryOf.j0]) ?_)))⟩
      · exact Ev.neg (by rw [decide_eq_true h]; decide) (Ev.bnd c2 (Ev.bnd m3 (Ev.now _)))
      · exact Ev.neg (by rw [decide_eq_true h]; decide) (Ev.bnd c3 (Ev.bnd m4 (Ev.now _)))
    · refine ⟨-1, by omega, by omega, Ev.bnd b2 (Ev.pos rfl (Ev.bnd (spec_l1In_ev _ _ _) (Ev.one (fun k => by rw [spec_CatenaryOf.j0]) ?_))), Ev.bnd b3 (Ev.pos rfl (Ev.bnd (impl_within_ev _ _ _) (Ev.one (fun k => by rw [impl_CatenaryOf.j0]) ?_)))⟩
      · exact Ev.pos (by rw [decide_eq_false h]; decide) (Ev.now _)
      · exact Ev.pos (by rw [decide_eq_false h]; decide) (Ev.now _)
end Go.Proofs.Ytlfdipnhlmjiaaa.Pure
