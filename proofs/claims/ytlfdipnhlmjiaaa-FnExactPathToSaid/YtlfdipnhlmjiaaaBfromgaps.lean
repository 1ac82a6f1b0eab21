/- Plain lemmas (fromgaps, ascpick, gapgens, fromboth, without, parent0, nestedsg, path): no program, no memory. -/
import Derived.Test.YtlfdipnhlmjiaaaC0
import Derived.Test.YtlfdipnhlmjiaaaC3
import Derived.Test.YtlfdipnhlmjiaaaC4
import Derived.Test.YtlfdipnhlmjiaaaC6
import Derived.Test.YtlfdipnhlmjiaaaC7
import Derived.Test.YtlfdipnhlmjiaaaC8
import Derived.Test.YtlfdipnhlmjiaaaBbase
namespace Go.Proofs.Ytlfdipnhlmjiaaa.Pure
open Go.RowKit Go.Proofs.Ytlfdipnhlmjiaaa.C Go.Proofs.YtlfdipnhlmjiaaaW.PrintWords Go.Proofs.YtlfdipnhlmjiaaaW.PrintLast Go.Proofs.YtlfdipnhlmjiaaaW.PrintMore
set_option linter.unusedVariables false
set_option linter.unusedSimpArgs false
/-! fromgaps: GapClash and FromGaps of both sides -/
def okL (l : List Int) : Prop := asc l ∧ ∀ x ∈ l, 1 ≤ x ∧ x ≤ 199
theorem spec_l8Gaps_l0 (l : List Int) (hl : l.length ≤ 1048576) : ∀ (d i : Nat), i + d = l.length → ∃ b, (b = true ↔ asc l ∧ ∀ x ∈ l.drop i, 1 ≤ x ∧ x ≤ 199) ∧ Ev (fun k => spec_l8Gaps.l0 k l (i : Int)) b := by
 intro d
 induction d with
 | zero =>
  intro i hi
  obtain ⟨b, b1, b2⟩ := spec_IsAscending_ev l hl
  rw [List.drop_eq_nil_of_le (by omega)]
  refine ⟨b, by rw [b1]; simp, Ev.one (fun k => by rw [spec_l8Gaps.l0]) ?_⟩
  exact Ev.neg (by omega) (Ev.bnd b2 (Ev.now _))
 | succ d ih =>
  intro i hi
  rw [List.drop_eq_getElem_cons (show i < l.length by omega)]
  by_cases h : 1 ≤ l[i] ∧ l[i] ≤ 199
  ·obtain ⟨b, b1, b2⟩ := ih (i + 1) (by omega)
   refine ⟨b, ?_, Ev.one (fun k => by rw [spec_l8Gaps.l0]) ?_⟩
   ·rw [b1]
    exact ⟨fun e => ⟨e.1, fun x hx => by
     rcases List.mem_cons.1 hx with e2 | hx
     ·rw [e2]; exact h
     ·exact e.2 x hx⟩, fun e => ⟨e.1, fun x hx => e.2 x (List.mem_cons_of_mem _ hx)⟩⟩
   ·rw [rd_at l i (by omega), w64_succ i (by omega)]
    exact Ev.pos (by omega) (Ev.pos (by omega) (Ev.bnd (spec_l1In_ev _ _ _) (Ev.pos (decide_eq_true h) b2)))
  ·refine ⟨false, ⟨(fun e => by cases e), fun e => absurd (e.2 _ (List.mem_cons_self ..)) h⟩, Ev.one (fun k => by rw [spec_l8Gaps.l0]) ?_⟩
   rw [rd_at l i (by omega)]
   exact Ev.pos (by omega) (Ev.pos (by omega) (Ev.bnd (spec_l1In_ev _ _ _) (Ev.neg (by rw [decide_eq_false h]; decide) (Ev.now _))))
theorem spec_l8Gaps_ev (l : List Int) (hl : l.length ≤ 1048576) : ∃ b, (b = true ↔ okL l) ∧ Ev (fun k => spec_l8Gaps.f k l) b := by
 unfold spec_l8Gaps.f
 exact spec_l8Gaps_l0 l hl l.length 0 (by omega)
theorem impl_gapList_ev (l : List Int) (hl : l.length ≤ 1048576) : ∃ b, (b = true ↔ okL l) ∧ Ev (fun k => impl_gapList.f k l) b := by
 obtain ⟨b, b1, b2⟩ := impl_IsAscending_ev l hl
 unfold impl_gapList.f
 cases b with
 | false => exact ⟨false, ⟨(fun e => by cases e), fun e => b1.2 e.1⟩, Ev.bnd b2 (Ev.neg (by decide) (Ev.now _))⟩
 | true =>
  refine ⟨allIn l 1 199, ?_, Ev.bnd b2 (Ev.pos rfl (Ev.bnd (impl_allWithin_ev l 1 199 (by omega)) (Ev.now _)))⟩
  rw [allIn_iff]
  exact ⟨fun e => ⟨b1.1 rfl, e⟩, fun e => e.2⟩
theorem equal_l0 (a b : List Int) (hab : a.length = b.length) (hl : a.length ≤ 1048576) : ∀ (d i : Nat), i + d = a.length → ∃ r, (r = true ↔ a.drop i = b.drop i) ∧ Ev (fun k => slices_Equal_int_int.l0 k a b (a.length : Int) (i : Int)) r := by
 intro d
 induction d with
 | zero =>
  intro i hi
  refine ⟨true, by rw [List.drop_eq_nil_of_le (show a.length ≤ i by omega), List.drop_eq_nil_of_le (show b.length ≤ i by omega)]; simp, Ev.one (fun k => by rw [slices_Equal_int_int.l0]) ?_⟩
  exact Ev.neg (by omega) (Ev.now _)
 | succ d ih =>
  intro i hi
  rw [List.drop_eq_getElem_cons (show i < a.length by omega), List.drop_eq_getElem_cons (show i < b.length by omega)]
  by_cases h : a[i] = b[i]
  ·obtain ⟨r, r1, r2⟩ := ih (i + 1) (by omega)
   refine ⟨r, by rw [r1, h, List.cons.injEq]; simp, Ev.one (fun k => by rw [slices_Equal_int_int.l0]) ?_⟩
   rw [rd_at a i (by omega), rd_at b i (by omega), w64_succ i (by omega)]
   exact Ev.pos (by omega) (Ev.pos (by omega) (Ev.pos (by omega) (Ev.pos (by omega) (Ev.pos h r2))))
  ·refine ⟨false, ⟨(fun e => by cases e), fun e => absurd (List.cons.inj e).1 h⟩, Ev.one (fun k => by rw [slices_Equal_int_int.l0]) ?_⟩
   rw [rd_at a i (by omega), rd_at b i (by omega)]
   exact Ev.pos (by omega) (Ev.pos (by omega) (Ev.pos (by omega) (Ev.pos (by omega) (Ev.neg h (Ev.now _)))))
theorem equal_ev (a b : List Int) (hl : a.length ≤ 1048576) : ∃ r, (r = true ↔ a = b) ∧ Ev (fun k => slices_Equal_int_int.f k a b) r := by
 unfold slices_Equal_int_int.f
 by_cases h : a.length = b.length
 ·obtain ⟨r, r1, r2⟩ := equal_l0 a b h hl a.length 0 (by omega)
  exact ⟨r, by rw [r1]; simp, Ev.pos (by omega) r2⟩
 ·exact ⟨false, ⟨(fun e => by cases e), fun e => absurd (congrArg List.length e) h⟩, Ev.neg (by omega) (Ev.now _)⟩
/-- The table of a list's numbers. -/
def mk (l : List Int) (n : Nat) : List Bool := (List.range n).map fun m : Nat => decide ((m : Int) ∈ l)
theorem mk_len (l : List Int) (n : Nat) : (mk l n).length = n := by simp [mk]
theorem mk_at (l : List Int) (n m : Nat) (h : m < n) : rdOf false (mk l n) (m : Int) = decide ((m : Int) ∈ l) := by
 rw [rdOf_at]
 unfold mk
 rw [List.getD_eq_getElem?_getD, List.getElem?_map, List.getElem?_range h]
 rfl
theorem mk_nil (n : Nat) : mk [] n = List.replicate n false := by
 apply List.ext_getElem (by simp [mk])
 intro i h1 h2
 simp [mk]
theorem mk_get (l : List Int) (n i : Nat) (h : i < (mk l n).length) : (mk l n)[i] = decide ((i : Int) ∈ l) := by
 simp [mk]
theorem mk_set (l : List Int) (n m : Nat) : (mk l n).set m true = mk (l ++ [(m : Int)]) n := by
 apply List.ext_getElem (by rw [List.length_set, mk_len, mk_len])
 intro i h1 h2
 rw [List.getElem_set, mk_get]
 by_cases h : m = i
 ·subst h
  rw [if_pos rfl, mk_get]
  exact (decide_eq_true (List.mem_append.2 (.inr (List.mem_singleton.2 rfl)))).symm
 ·rw [if_neg h, mk_get]
  have e : ((i : Int) ∈ l ↔ (i : Int) ∈ l ++ [(m : Int)]) := by
   rw [List.mem_append, List.mem_singleton]
   exact ⟨fun e => .inl e, fun e => e.resolve_right (fun e => h (by omega))⟩
  exact decide_eq_decide.2 e
theorem mk_next (l : List Int) (n i : Nat) (h : i < l.length) (h0 : 0 ≤ l[i]) : (mk (l.take i) n).set (l[i]).toNat true = mk (l.take (i + 1)) n := by
 rw [mk_set, List.take_succ_eq_append_getElem h, show (((l[i]).toNat : Nat) : Int) = l[i] from by omega]
/-- Two numbers beside the list whose sum is in it. -/
def clQ (l : List Int) (a b : Int) : Prop := ∃ b', b ≤ b' ∧ a ∉ l ∧ b' ∉ l ∧ a + b' ∈ l
def clP (l : List Int) (a : Int) : Prop := ∃ a', a ≤ a' ∧ clQ l a' a'
theorem clP_step (l : List Int) (a : Int) : clP l a ↔ clQ l a a ∨ clP l (a + 1) := by
 constructor
 ·rintro ⟨a', h1, h2⟩
  by_cases e : a = a'
  ·subst e; exact .inl h2
  ·exact .inr ⟨a', by omega, h2⟩
 ·rintro (h | ⟨a', h1, h2⟩)
  ·exact ⟨a, by omega, h⟩
  ·exact ⟨a', by omega, h2⟩
theorem clQ_step (l : List Int) (a b : Int) : clQ l a b ↔ (a ∉ l ∧ b ∉ l ∧ a + b ∈ l) ∨ clQ l a (b + 1) := by
 constructor
 ·rintro ⟨b', h1, h2⟩
  by_cases e : b = b'
  ·subst e; exact .inl h2
  ·exact .inr ⟨b', by omega, h2⟩
 ·rintro (h | ⟨b', h1, h2⟩)
  ·exact ⟨b, by omega, h⟩
  ·exact ⟨b', by omega, h2⟩
theorem clQ_end (l : List Int) (most : Int) (hm : ∀ x ∈ l, x ≤ most) (a b : Int) (h : most < a + b) : ¬ clQ l a b := by
 rintro ⟨b', h1, _, _, h4⟩
 have := hm _ h4
 omega
theorem clP_end (l : List Int) (most : Int) (hm : ∀ x ∈ l, x ≤ most) (a : Int) (h0 : 0 ≤ a) (h : most < a) : ¬ clP l a := by
 rintro ⟨a', h1, h2⟩
 exact clQ_end l most hm a' a' (by omega) h2
theorem spec_GapClash_l2 (l : List Int) (most N : Nat) (hm : ∀ x ∈ l, x ≤ (most : Int)) (hN : most < N) (hNb : N ≤ 1000) (a : Nat) (ha1 : 1 ≤ a) (ha : a ≤ most)
  (P : ∃ r : Int × Int × Bool, (r.2.2 = true ↔ clP l ((a + 1 : Nat) : Int)) ∧ Ev (fun k => spec_GapClash.l1 k (most : Int) (mk l N) ((a + 1 : Nat) : Int)) r) :
  ∀ (d b : Nat), most < a + b + d → 1 ≤ b → b ≤ most + 1 → ∃ r : Int × Int × Bool, (r.2.2 = true ↔ clQ l (a : Int) (b : Int) ∨ clP l ((a + 1 : Nat) : Int)) ∧ Ev (fun k => spec_GapClash.l2 k (most : Int) (mk l N) (a : Int) (b : Int)) r := by
 obtain ⟨r, r1, r2⟩ := P
 have hl := mk_len l N
 have out : ∀ b : Nat, ¬ clQ l (a : Int) (b : Int) → Ev (fun k => spec_GapClash.j4 k (most : Int) (mk l N) (a : Int) (b : Int) false) r ∧ (r.2.2 = true ↔ clQ l (a : Int) (b : Int) ∨ clP l ((a + 1 : Nat) : Int)) := by
  intro b hq
  refine ⟨Ev.one (fun k => by rw [spec_GapClash.j4]) ?_, ⟨fun e => .inr (r1.1 e), fun e => r1.2 (e.resolve_left hq)⟩⟩
  rw [w64_succ a (by omega)]
  exact Ev.neg (by decide) r2
 have far : ∀ b : Nat, b ≤ most + 1 → most < a + b → ∃ r : Int × Int × Bool, (r.2.2 = true ↔ clQ l (a : Int) (b : Int) ∨ clP l ((a + 1 : Nat) : Int)) ∧ Ev (fun k => spec_GapClash.l2 k (most : Int) (mk l N) (a : Int) (b : Int)) r := by
  intro b hb h
  have o := out b (clQ_end l most hm a b (by omega))
  refine ⟨r, o.2, Ev.one (fun k => by rw [spec_GapClash.l2]) ?_⟩
  rw [w64_of (x := (a : Int) + (b : Int)) (by omega) (by omega)]
  exact Ev.neg (by omega) o.1
 intro d
 induction d with
 | zero =>
  intro b h1 h2 h3
  exact far b h3 (by omega)
 | succ d ih =>
  intro b h1 h2 h3
  by_cases h : most < a + b
  ·exact far b h3 h
  by_cases hA : (a : Int) ∈ l
  ·have o := out b (by rintro ⟨b', _, h, _⟩; exact h hA)
   refine ⟨r, o.2, Ev.one (fun k => by rw [spec_GapClash.l2]) ?_⟩
   rw [w64_of (x := (a : Int) + (b : Int)) (by omega) (by omega), mk_at l N a (by omega), decide_eq_true hA]
   exact Ev.pos (by omega) (Ev.pos (by omega) (Ev.pos (by omega) o.1))
  ·obtain ⟨r', i1, i2⟩ := ih (b + 1) (by omega) (by omega) (by omega)
   have e1 : ((b + 1 : Nat) : Int) = (b : Int) + 1 := by omega
   have e2 : (a : Int) + (b : Int) = ((a + b : Nat) : Int) := by omega
   have st := clQ_step l (a : Int) (b : Int)
   rw [← e1] at st
   by_cases hB : (b : Int) ∈ l
   ·refine ⟨r', by rw [i1, st]; exact ⟨fun e => e.elim (fun e => .inl (.inr e)) .inr, fun e => e.elim (fun e => .inl (e.resolve_left (fun e => e.2.1 hB))) .inr⟩, Ev.one (fun k => by rw [spec_GapClash.l2]) ?_⟩
    rw [w64_of (x := (a : Int) + (b : Int)) (by omega) (by omega), mk_at l N a (by omega), decide_eq_false hA]
    refine Ev.pos (by omega) (Ev.pos (by omega) (Ev.pos (by omega) (Ev.one (fun k => by rw [spec_GapClash.j4]) ?_)))
    rw [mk_at l N b (by omega), decide_eq_true hB, w64_succ b (by omega)]
    exact Ev.pos rfl (Ev.pos (by omega) (Ev.pos (by omega) (Ev.pos rfl i2)))
   ·by_cases hC : (a : Int) + (b : Int) ∈ l
    ·refine ⟨((a : Int), (b : Int), true), ⟨fun _ => .inl (st.2 (.inl ⟨hA, hB, hC⟩)), fun _ => rfl⟩, Ev.one (fun k => by rw [spec_GapClash.l2]) ?_⟩
     rw [w64_of (x := (a : Int) + (b : Int)) (by omega) (by omega), mk_at l N a (by omega), decide_eq_false hA]
     refine Ev.pos (by omega) (Ev.pos (by omega) (Ev.pos (by omega) (Ev.one (fun k => by rw [spec_GapClash.j4]) ?_)))
     rw [mk_at l N b (by omega), decide_eq_false hB, w64_of (x := (a : Int) + (b : Int)) (by omega) (by omega), e2, mk_at l N (a + b) (by omega), ← e2, decide_eq_true hC]
     exact Ev.pos rfl (Ev.pos (by omega) (Ev.pos (by omega) (Ev.neg (by decide) (Ev.pos (by omega) (Ev.pos (by omega) (Ev.pos rfl (Ev.now _)))))))
    ·refine ⟨r', by rw [i1, st]; exact ⟨fun e => e.elim (fun e => .inl (.inr e)) .inr, fun e => e.elim (fun e => .inl (e.resolve_left (fun e => hC e.2.2))) .inr⟩, Ev.one (fun k => by rw [spec_GapClash.l2]) ?_⟩
     rw [w64_of (x := (a : Int) + (b : Int)) (by omega) (by omega), mk_at l N a (by omega), decide_eq_false hA]
     refine Ev.pos (by omega) (Ev.pos (by omega) (Ev.pos (by omega) (Ev.one (fun k => by rw [spec_GapClash.j4]) ?_)))
     rw [mk_at l N b (by omega), decide_eq_false hB, w64_of (x := (a : Int) + (b : Int)) (by omega) (by omega), e2, mk_at l N (a + b) (by omega), ← e2, decide_eq_false hC, w64_succ b (by omega)]
     exact Ev.pos rfl (Ev.pos (by omega) (Ev.pos (by omega) (Ev.neg (by decide) (Ev.pos (by omega) (Ev.pos (by omega) (Ev.neg (by decide) i2))))))
theorem spec_GapClash_l1 (l : List Int) (most N : Nat) (hm : ∀ x ∈ l, x ≤ (most : Int)) (hN : most < N) (hNb : N ≤ 1000) :
  ∀ (d a : Nat), a + d = most + 1 → 1 ≤ a → ∃ r : Int × Int × Bool, (r.2.2 = true ↔ clP l (a : Int)) ∧ Ev (fun k => spec_GapClash.l1 k (most : Int) (mk l N) (a : Int)) r := by
 intro d
 induction d with
 | zero =>
  intro a h h1
  refine ⟨(0, 0, false), ⟨(fun e => by cases e), fun e => absurd e (clP_end l most hm a (by omega) (by omega))⟩, Ev.one (fun k => by rw [spec_GapClash.l1]) ?_⟩
  exact Ev.neg (by omega) (Ev.now _)
 | succ d ih =>
  intro a h h1
  obtain ⟨r, r1, r2⟩ := spec_GapClash_l2 l most N hm hN hNb a h1 (by omega) (ih (a + 1) (by omega) (by omega)) (most + 1) a (by omega) h1 (by omega)
  refine ⟨r, ?_, Ev.one (fun k => by rw [spec_GapClash.l1]) ?_⟩
  ·rw [r1, clP_step l (a : Int)]
   exact Iff.rfl
  ·exact Ev.pos (by omega) r2
theorem spec_GapClash_l0 (l : List Int) (most N : Nat) (hl : l.length ≤ 1048576) (h1 : ∀ x ∈ l, 1 ≤ x) (hm : ∀ x ∈ l, x ≤ (most : Int)) (hN : most < N) (hNb : N ≤ 1000) :
  ∀ (d i : Nat), i + d = l.length → ∃ r : Int × Int × Bool, (r.2.2 = true ↔ clP l 1) ∧ Ev (fun k => spec_GapClash.l0 k l (most : Int) (mk (l.take i) N) (i : Int)) r := by
 intro d
 induction d with
 | zero =>
  intro i hi
  obtain ⟨r, r1, r2⟩ := spec_GapClash_l1 l most N hm hN hNb most 1 (by omega) (by omega)
  refine ⟨r, r1, Ev.one (fun k => by rw [spec_GapClash.l0]) ?_⟩
  rw [List.take_of_length_le (by omega)]
  exact Ev.neg (by omega) r2
 | succ d ih =>
  intro i hi
  obtain ⟨r, r1, r2⟩ := ih (i + 1) (by omega)
  have a1 := h1 _ (List.getElem_mem (show i < l.length by omega))
  have a2 := hm _ (List.getElem_mem (show i < l.length by omega))
  refine ⟨r, r1, Ev.one (fun k => by rw [spec_GapClash.l0]) ?_⟩
  rw [rd_at l i (by omega), mk_next l N i (by omega) (by omega), w64_succ i (by omega), mk_len]
  exact Ev.pos (by omega) (Ev.pos (by omega) (Ev.pos (by omega) (Ev.pos (by omega) r2)))
/-- The last number of a list that ascends is the greatest. -/
theorem asc_last (l : List Int) (h : asc l) (hl : 0 < l.length) : ∀ x ∈ l, x ≤ rd l ((l.length - 1 : Nat) : Int) := by
 intro x hx
 rw [rd_at l _ (by omega)]
 obtain ⟨i, hi, e⟩ := List.getElem_of_mem hx
 subst e
 by_cases he : i = l.length - 1
 ·subst he; exact Int.le_refl _
 ·have := List.pairwise_iff_getElem.1 h i (l.length - 1) hi (by omega) (by omega)
  omega
theorem okL_top (l : List Int) (h : okL l) (hl : 0 < l.length) : ∃ most : Nat, rd l ((l.length - 1 : Nat) : Int) = (most : Int) ∧ 1 ≤ most ∧ most ≤ 199 ∧ ∀ x ∈ l, x ≤ (most : Int) := by
 have a := asc_last l h.1 hl
 have b := h.2 (rd l ((l.length - 1 : Nat) : Int)) (by rw [rd_at l _ (by omega)]; exact List.getElem_mem _)
 refine ⟨(rd l ((l.length - 1 : Nat) : Int)).toNat, by omega, by omega, by omega, fun x hx => ?_⟩
 have := a x hx
 omega
theorem clP_nil : ¬ clP [] 1 := by
 rintro ⟨a, _, b, _, _, _, h⟩
 simp at h
theorem spec_GapClash_ev (l : List Int) (hl : l.length ≤ 1048576) : ∃ r : Int × Int × Bool, (r.2.2 = true ↔ okL l ∧ clP l 1) ∧ Ev (fun k => spec_GapClash.f k l) r := by
 obtain ⟨b, b1, b2⟩ := spec_l8Gaps_ev l hl
 unfold spec_GapClash.f
 cases b with
 | false =>
  refine ⟨(0, 0, false), ⟨(fun e => by cases e), fun e => b1.2 e.1⟩, Ev.bnd b2 (Ev.neg (by decide) (Ev.one (fun k => by rw [spec_GapClash.j0]) ?_))⟩
  exact Ev.pos rfl (Ev.now _)
 | true =>
  have ok := b1.1 rfl
  by_cases h : l.length = 0
  ·refine ⟨(0, 0, false), ⟨(fun e => by cases e), fun e => ?_⟩, Ev.bnd b2 (Ev.pos rfl (Ev.one (fun k => by rw [spec_GapClash.j0]) ?_))⟩
   ·rw [List.length_eq_zero_iff] at h
    subst h
    exact absurd e.2 clP_nil
   ·exact Ev.pos (by rw [h]; rfl) (Ev.now _)
  ·obtain ⟨most, m1, m2, m3, m4⟩ := okL_top l ok (by omega)
   have e1 : wrap64 ((l.length : Int) - 1) = ((l.length - 1 : Nat) : Int) := by rw [w64_of (by omega) (by omega)]; omega
   have e2 : wrap64 (wrap64 (2 * (most : Int)) + 1) = ((2 * most + 1 : Nat) : Int) := by
    rw [w64_of (x := 2 * (most : Int)) (by omega) (by omega), w64_of (by omega) (by omega)]; omega
   obtain ⟨r, r1, r2⟩ := spec_GapClash_l0 l most (2 * most + 1) hl (fun x hx => (ok.2 x hx).1) m4 (by omega) (by omega) l.length 0 (by omega)
   refine ⟨r, by rw [r1]; exact ⟨fun e => ⟨ok, e⟩, fun e => e.2⟩, Ev.bnd b2 (Ev.pos rfl (Ev.one (fun k => by rw [spec_GapClash.j0]) ?_))⟩
   rw [List.take_zero, mk_nil] at r2
   rw [e1, m1, e2, Int.toNat_natCast]
   exact Ev.neg (by rw [beq_iff_eq]; omega) (Ev.pos (by omega) (Ev.pos (by omega) (Ev.pos (by omega) (Ev.pos (by omega) r2))))
theorem impl_GapClash_l2 (l : List Int) (most N : Nat) (hm : ∀ x ∈ l, x ≤ (most : Int)) (hN : most < N) (hNb : N ≤ 1000) (a : Nat) (ha1 : 1 ≤ a) (ha : a ≤ most)
  (P : ∃ r : Int × Int × Bool, (r.2.2 = true ↔ clP l ((a + 1 : Nat) : Int)) ∧ Ev (fun k => impl_GapClash.l1 k (mk l N) (most : Int) ((a + 1 : Nat) : Int)) r) :
  ∀ (d b : Nat), most < a + b + d → 1 ≤ b → b ≤ most + 1 → ∃ r : Int × Int × Bool, (r.2.2 = true ↔ clQ l (a : Int) (b : Int) ∨ clP l ((a + 1 : Nat) : Int)) ∧ Ev (fun k => impl_GapClash.l2 k (mk l N) (most : Int) (a : Int) (b : Int)) r := by
 obtain ⟨r, r1, r2⟩ := P
 have hl := mk_len l N
 have far : ∀ b : Nat, b ≤ most + 1 → most < a + b → ∃ r : Int × Int × Bool, (r.2.2 = true ↔ clQ l (a : Int) (b : Int) ∨ clP l ((a + 1 : Nat) : Int)) ∧ Ev (fun k => impl_GapClash.l2 k (mk l N) (most : Int) (a : Int) (b : Int)) r := by
  intro b hb h
  refine ⟨r, ⟨fun e => .inr (r1.1 e), fun e => r1.2 (e.resolve_left (clQ_end l most hm a b (by omega)))⟩, Ev.one (fun k => by rw [impl_GapClash.l2]) ?_⟩
  rw [w64_of (x := (a : Int) + (b : Int)) (by omega) (by omega), w64_succ a (by omega)]
  exact Ev.neg (by omega) r2
 intro d
 induction d with
 | zero =>
  intro b h1 h2 h3
  exact far b h3 (by omega)
 | succ d ih =>
  intro b h1 h2 h3
  by_cases h : most < a + b
  ·exact far b h3 h
  obtain ⟨r', i1, i2⟩ := ih (b + 1) (by omega) (by omega) (by omega)
  have e1 : ((b + 1 : Nat) : Int) = (b : Int) + 1 := by omega
  have e2 : (a : Int) + (b : Int) = ((a + b : Nat) : Int) := by omega
  have st := clQ_step l (a : Int) (b : Int)
  rw [← e1] at st
  have go : ¬ ((a : Int) ∉ l ∧ (b : Int) ∉ l ∧ (a : Int) + (b : Int) ∈ l) → (r'.2.2 = true ↔ clQ l (a : Int) (b : Int) ∨ clP l ((a + 1 : Nat) : Int)) := by
   intro n
   rw [i1, st]
   exact ⟨fun e => e.elim (fun e => .inl (.inr e)) .inr, fun e => e.elim (fun e => .inl (e.resolve_left n)) .inr⟩
  by_cases hA : (a : Int) ∈ l
  ·refine ⟨r', go (fun e => e.1 hA), Ev.one (fun k => by rw [impl_GapClash.l2]) ?_⟩
   rw [w64_of (x := (a : Int) + (b : Int)) (by omega) (by omega), mk_at l N a (by omega), decide_eq_true hA, w64_succ b (by omega)]
   exact Ev.pos (by omega) (Ev.pos (by omega) (Ev.pos (by omega) (Ev.pos rfl i2)))
  ·by_cases hB : (b : Int) ∈ l
   ·refine ⟨r', go (fun e => e.2.1 hB), Ev.one (fun k => by rw [impl_GapClash.l2]) ?_⟩
    rw [w64_of (x := (a : Int) + (b : Int)) (by omega) (by omega), mk_at l N a (by omega), decide_eq_false hA, mk_at l N b (by omega), decide_eq_true hB, w64_succ b (by omega)]
    exact Ev.pos (by omega) (Ev.pos (by omega) (Ev.pos (by omega) (Ev.neg (by decide) (Ev.pos (by omega) (Ev.pos (by omega) (Ev.pos rfl i2))))))
   ·by_cases hC : (a : Int) + (b : Int) ∈ l
    ·refine ⟨((a : Int), (b : Int), true), ⟨fun _ => .inl (st.2 (.inl ⟨hA, hB, hC⟩)), fun _ => rfl⟩, Ev.one (fun k => by rw [impl_GapClash.l2]) ?_⟩
     rw [w64_of (x := (a : Int) + (b : Int)) (by omega) (by omega), mk_at l N a (by omega), decide_eq_false hA, mk_at l N b (by omega), decide_eq_false hB, e2, mk_at l N (a + b) (by omega), ← e2, decide_eq_true hC]
     exact Ev.pos (by omega) (Ev.pos (by omega) (Ev.pos (by omega) (Ev.neg (by decide) (Ev.pos (by omega) (Ev.pos (by omega) (Ev.neg (by decide) (Ev.pos (by omega) (Ev.pos (by omega) (Ev.pos rfl (Ev.now _))))))))))
    ·refine ⟨r', go (fun e => hC e.2.2), Ev.one (fun k => by rw [impl_GapClash.l2]) ?_⟩
     rw [w64_of (x := (a : Int) + (b : Int)) (by omega) (by omega), mk_at l N a (by omega), decide_eq_false hA, mk_at l N b (by omega), decide_eq_false hB, e2, mk_at l N (a + b) (by omega), ← e2, decide_eq_false hC, w64_succ b (by omega)]
     exact Ev.pos (by omega) (Ev.pos (by omega) (Ev.pos (by omega) (Ev.neg (by decide) (Ev.pos (by omega) (Ev.pos (by omega) (Ev.neg (by decide) (Ev.pos (by omega) (Ev.pos (by omega) (Ev.neg (by decide) i2)))))))))
theorem impl_GapClash_l1 (l : List Int) (most N : Nat) (hm : ∀ x ∈ l, x ≤ (most : Int)) (hN : most < N) (hNb : N ≤ 1000) :
  ∀ (d a : Nat), a + d = most + 1 → 1 ≤ a → ∃ r : Int × Int × Bool, (r.2.2 = true ↔ clP l (a : Int)) ∧ Ev (fun k => impl_GapClash.l1 k (mk l N) (most : Int) (a : Int)) r := by
 intro d
 induction d with
 | zero =>
  intro a h h1
  refine ⟨(0, 0, false), ⟨(fun e => by cases e), fun e => absurd e (clP_end l most hm a (by omega) (by omega))⟩, Ev.one (fun k => by rw [impl_GapClash.l1]) ?_⟩
  exact Ev.neg (by omega) (Ev.now _)
 | succ d ih =>
  intro a h h1
  obtain ⟨r, r1, r2⟩ := impl_GapClash_l2 l most N hm hN hNb a h1 (by omega) (ih (a + 1) (by omega) (by omega)) (most + 1) a (by omega) h1 (by omega)
  refine ⟨r, ?_, Ev.one (fun k => by rw [impl_GapClash.l1]) ?_⟩
  ·rw [r1, clP_step l (a : Int)]
   exact Iff.rfl
  ·exact Ev.pos (by omega) r2
theorem impl_GapClash_l0 (l : List Int) (most N : Nat) (hl : l.length ≤ 1048576) (h0 : 0 < l.length) (ht : rd l ((l.length - 1 : Nat) : Int) = (most : Int)) (h1 : ∀ x ∈ l, 1 ≤ x) (hm : ∀ x ∈ l, x ≤ (most : Int)) (hN : most < N) (hNb : N ≤ 1000) :
  ∀ (d i : Nat), i + d = l.length → ∃ r : Int × Int × Bool, (r.2.2 = true ↔ clP l 1) ∧ Ev (fun k => impl_GapClash.l0 k l (mk (l.take i) N) l (l.length : Int) (i : Int)) r := by
 have e1 : wrap64 ((l.length : Int) - 1) = ((l.length - 1 : Nat) : Int) := by rw [w64_of (by omega) (by omega)]; omega
 intro d
 induction d with
 | zero =>
  intro i hi
  obtain ⟨r, r1, r2⟩ := impl_GapClash_l1 l most N hm hN hNb most 1 (by omega) (by omega)
  refine ⟨r, r1, Ev.one (fun k => by rw [impl_GapClash.l0]) ?_⟩
  rw [List.take_of_length_le (by omega), e1, ht]
  exact Ev.neg (by omega) (Ev.pos (by omega) (Ev.pos (by omega) r2))
 | succ d ih =>
  intro i hi
  obtain ⟨r, r1, r2⟩ := ih (i + 1) (by omega)
  have a1 := h1 _ (List.getElem_mem (show i < l.length by omega))
  have a2 := hm _ (List.getElem_mem (show i < l.length by omega))
  refine ⟨r, r1, Ev.one (fun k => by rw [impl_GapClash.l0]) ?_⟩
  rw [rd_at l i (by omega), mk_next l N i (by omega) (by omega), w64_succ i (by omega), mk_len]
  exact Ev.pos (by omega) (Ev.pos (by omega) (Ev.pos (by omega) (Ev.pos (by omega) (Ev.pos (by omega) r2))))
theorem impl_GapClash_ev (l : List Int) (hl : l.length ≤ 1048576) : ∃ r : Int × Int × Bool, (r.2.2 = true ↔ okL l ∧ clP l 1) ∧ Ev (fun k => impl_GapClash.f k l) r := by
 obtain ⟨b, b1, b2⟩ := impl_gapList_ev l hl
 unfold impl_GapClash.f
 cases b with
 | false =>
  refine ⟨(0, 0, false), ⟨(fun e => by cases e), fun e => b1.2 e.1⟩, Ev.bnd b2 (Ev.neg (by decide) (Ev.one (fun k => by rw [impl_GapClash.j0]) ?_))⟩
  exact Ev.pos rfl (Ev.now _)
 | true =>
  have ok := b1.1 rfl
  by_cases h : l.length = 0
  ·refine ⟨(0, 0, false), ⟨(fun e => by cases e), fun e => ?_⟩, Ev.bnd b2 (Ev.pos rfl (Ev.one (fun k => by rw [impl_GapClash.j0]) ?_))⟩
   ·rw [List.length_eq_zero_iff] at h
    subst h
    exact absurd e.2 clP_nil
   ·exact Ev.pos (by rw [h]; rfl) (Ev.now _)
  ·obtain ⟨most, m1, m2, m3, m4⟩ := okL_top l ok (by omega)
   obtain ⟨r, r1, r2⟩ := impl_GapClash_l0 l most 201 hl (by omega) m1 (fun x hx => (ok.2 x hx).1) m4 (by omega) (by omega) l.length 0 (by omega)
   refine ⟨r, by rw [r1]; exact ⟨fun e => ⟨ok, e⟩, fun e => e.2⟩, Ev.bnd b2 (Ev.pos rfl (Ev.one (fun k => by rw [impl_GapClash.j0]) ?_))⟩
   rw [List.take_zero, mk_nil] at r2
   exact Ev.neg (by rw [beq_iff_eq]; omega) (Ev.pos (by omega) r2)
/-! ascpick: what is picked in order ascends -/
theorem asc_pick (p : Nat → Bool) (n : Nat) : asc (pick p (fun n => (n : Int)) n) := by
 unfold asc pick
 rw [List.pairwise_map]
 refine List.Pairwise.imp (R := fun a b : Nat => a < b) (fun h => by omega) (List.Pairwise.filter _ ?_)
 exact List.pairwise_lt_range
/-! gapgens: the generators that FromGaps finds -/
/-- A number beside the list that is no sum of two such numbers. -/
def irr (l : List Int) (n : Int) : Prop := 1 ≤ n ∧ n ∉ l ∧ ¬ ∃ a b : Int, 1 ≤ a ∧ 1 ≤ b ∧ a + b = n ∧ a ∉ l ∧ b ∉ l
noncomputable def irrB (l : List Int) (n : Nat) : Bool := @decide (irr l (n : Int)) (Classical.propDecidable _)
theorem irrB_iff (l : List Int) (n : Nat) : irrB l n = true ↔ irr l (n : Int) := by unfold irrB; exact @decide_eq_true_iff (irr l (n : Int)) (Classical.propDecidable _)
theorem irrB_not (l : List Int) (n : Nat) (h : ¬ irr l (n : Int)) : irrB l n = false := by
 cases hb : irrB l n with
 | false => rfl
 | true => exact absurd ((irrB_iff l n).1 hb) h
noncomputable def genL (l : List Int) (n : Nat) : List Int := pick (irrB l) (fun n => (n : Int)) n
theorem genL_len (l : List Int) (n : Nat) : (genL l n).length ≤ n := pick_len _ _ _
theorem genL_mem (l : List Int) (n : Nat) (x : Int) : x ∈ genL l n ↔ irr l x ∧ x < (n : Int) := by
 unfold genL pick
 rw [List.mem_map]
 constructor
 ·rintro ⟨m, hm, rfl⟩
  rw [List.mem_filter, List.mem_range, irrB_iff] at hm
  exact ⟨hm.2, by omega⟩
 ·rintro ⟨h1, h2⟩
  have h0 := h1.1
  refine ⟨x.toNat, ?_, by omega⟩
  rw [List.mem_filter, List.mem_range, irrB_iff, show ((x.toNat : Nat) : Int) = x from by omega]
  exact ⟨by omega, h1⟩
theorem genL_pos (l : List Int) (n : Nat) : ∀ x ∈ genL l n, 1 ≤ x := fun x hx => ((genL_mem l n x).1 hx).1.1
theorem genL_pos1 (l : List Int) (n : Nat) (h : irr l (n : Int)) : genL l (n + 1) = genL l n ++ [(n : Int)] := pick_pos _ _ n ((irrB_iff l n).2 h)
theorem genL_neg1 (l : List Int) (n : Nat) (h : ¬ irr l (n : Int)) : genL l (n + 1) = genL l n := pick_neg _ _ n (irrB_not l n h)
theorem genL_one (l : List Int) : genL l 1 = [] := by
 rw [genL_neg1 l 0 (fun h => by have := h.1; omega)]
 rfl
/-- No clash: the numbers beside the list are closed under addition. -/
theorem closed_of (l : List Int) (hc : ¬ clP l 1) (a b : Int) (ha : 1 ≤ a) (hb : 1 ≤ b) (h1 : a ∉ l) (h2 : b ∉ l) : a + b ∉ l := by
 intro h
 rcases Int.le_total a b with e | e
 ·exact hc ⟨a, by omega, b, by omega, h1, h2, h⟩
 ·exact hc ⟨b, by omega, a, by omega, h2, h1, by rwa [Int.add_comm]⟩
theorem sums_out (l : List Int) (hc : ¬ clP l 1) (n : Nat) (m : Int) (h : Sums (genL l n) m) : m = 0 ∨ (1 ≤ m ∧ m ∉ l) := by
 refine Sums.ind (P := fun m => m = 0 ∨ (1 ≤ m ∧ m ∉ l)) (.inl rfl) (fun x k hx _ hk => ?_) h
 have hi := ((genL_mem l n x).1 hx).1
 rcases hk with e | ⟨e1, e2⟩
 ·subst e
  rw [Int.zero_add]
  exact .inr ⟨hi.1, hi.2.1⟩
 ·have := hi.1
  exact .inr ⟨by omega, closed_of l hc k x e1 hi.1 e2 hi.2.1⟩
theorem sums_in (l : List Int) (n : Nat) : ∀ (q m : Nat), m ≤ q → m < n → 1 ≤ m → (m : Int) ∉ l → Sums (genL l n) (m : Int) := by
 intro q
 induction q with
 | zero => intro m h1 _ h2 _; omega
 | succ q ih =>
  intro m h1 h2 h3 h4
  by_cases hi : irr l (m : Int)
  ·exact Sums.one ((genL_mem l n _).2 ⟨hi, by omega⟩)
  ·have : ∃ a b : Int, 1 ≤ a ∧ 1 ≤ b ∧ a + b = (m : Int) ∧ a ∉ l ∧ b ∉ l := Classical.byContradiction fun e => hi ⟨by omega, h4, e⟩
   obtain ⟨a, b, a1, b1, e, ha, hb⟩ := this
   have sa := ih a.toNat (by omega) (by omega) (by omega) (by rwa [show ((a.toNat : Nat) : Int) = a from by omega])
   have sb := ih b.toNat (by omega) (by omega) (by omega) (by rwa [show ((b.toNat : Nat) : Int) = b from by omega])
   rw [show ((a.toNat : Nat) : Int) = a from by omega] at sa
   rw [show ((b.toNat : Nat) : Int) = b from by omega] at sb
   rw [← e]
   exact Sums.both sa sb
/-- A number beside the list is a sum of the smaller generators exactly if it is not itself one. -/
theorem sums_self (l : List Int) (hc : ¬ clP l 1) (n : Nat) (h1 : 1 ≤ n) (hn : (n : Int) ∉ l) : Sums (genL l n) (n : Int) ↔ ¬ irr l (n : Int) := by
 constructor
 ·intro h hi
  obtain ⟨x, hx, hx2, hs⟩ := Sums.cut (genL_pos l n) h (by omega)
  have hm := (genL_mem l n x).1 hx
  rcases sums_out l hc n _ hs with e | ⟨e1, e2⟩
  ·omega
  ·exact hi.2.2 ⟨x, (n : Int) - x, hm.1.1, e1, by omega, hm.1.2.1, e2⟩
 ·intro hi
  have : ∃ a b : Int, 1 ≤ a ∧ 1 ≤ b ∧ a + b = (n : Int) ∧ a ∉ l ∧ b ∉ l := Classical.byContradiction fun e => hi ⟨by omega, hn, e⟩
  obtain ⟨a, b, a1, b1, e, ha, hb⟩ := this
  have sa := sums_in l n n a.toNat (by omega) (by omega) (by omega) (by rwa [show ((a.toNat : Nat) : Int) = a from by omega])
  have sb := sums_in l n n b.toNat (by omega) (by omega) (by omega) (by rwa [show ((b.toNat : Nat) : Int) = b from by omega])
  rw [show ((a.toNat : Nat) : Int) = a from by omega] at sa
  rw [show ((b.toNat : Nat) : Int) = b from by omega] at sb
  rw [← e]
  exact Sums.both sa sb
/-- Past twice the greatest number no generator comes. -/
theorem genL_far (l : List Int) (most : Nat) (hm : ∀ x ∈ l, x ≤ (most : Int)) : ∀ d : Nat, genL l (2 * most + 3 + d) = genL l (2 * most + 3) := by
 intro d
 induction d with
 | zero => rfl
 | succ d ih =>
  rw [← ih]
  refine genL_neg1 l (2 * most + 3 + d) (fun h => h.2.2 ⟨(most : Int) + 1, ((2 * most + 3 + d : Nat) : Int) - ((most : Int) + 1), by omega, by omega, by omega, fun e => ?_, fun e => ?_⟩)
  ·have := hm _ e; omega
  ·have := hm _ e; omega
theorem gapL_gens (l : List Int) (ok : okL l) (hc : ¬ clP l 1) (n : Nat) (hn : 200 ≤ n) : gapL (genL l n) = l := by
 refine asc_uniq _ _ (asc_pick _ _) ok.1 (fun x => ?_)
 rw [gapL_mem]
 constructor
 ·rintro ⟨h0, h1, h2⟩
  by_cases hx : x ∈ l
  ·exact hx
  ·exfalso
   by_cases e : x = 0
   ·subst e; exact h2 (Sums.zero _)
   ·have := sums_in l n n x.toNat (by omega) (by omega) (by omega) (by rwa [show ((x.toNat : Nat) : Int) = x from by omega])
    rw [show ((x.toNat : Nat) : Int) = x from by omega] at this
    exact h2 this
 ·intro hx
  have := ok.2 x hx
  refine ⟨by omega, by omega, fun h => ?_⟩
  rcases sums_out l hc n x h with e | ⟨_, e⟩
  ·omega
  ·exact e hx
theorem spec_FromGaps_l0 (l : List Int) (hl : l.length ≤ 1048576) (hc : ¬ clP l 1) (most : Nat) (hm : most ≤ 199) (b : Bool) (hb : b = true ↔ SG (genL l (2 * most + 3))) :
  ∀ (d i : Nat), i + d = 2 * most + 3 → 1 ≤ i → Ev (fun k => spec_FromGaps.l0 k l (genL l i) (most : Int) (i : Int)) (if b = true then (genL l (2 * most + 3), true) else ([], false)) := by
 have e0 : wrap64 (wrap64 (2 * (most : Int)) + 2) = ((2 * most + 2 : Nat) : Int) := by
  rw [w64_of (x := 2 * (most : Int)) (by omega) (by omega), w64_of (by omega) (by omega)]; omega
 intro d
 induction d with
 | zero =>
  intro i hi h1
  obtain rfl : i = 2 * most + 3 := by omega
  have hgl := genL_len l (2 * most + 3)
  obtain ⟨c, c1, c2⟩ := spec_IsSemigroup_ev (genL l (2 * most + 3)) (by omega)
  have e : c = b := bool_same c1 hb
  subst e
  refine Ev.one (fun k => by rw [spec_FromGaps.l0]) ?_
  rw [e0]
  refine Ev.neg (by omega) (Ev.bnd c2 ?_)
  cases c with
  | false => exact Ev.neg (by decide) (Ev.now _)
  | true => exact Ev.pos rfl (Ev.now _)
 | succ d ih =>
  intro i hi h1
  have ih := ih (i + 1) (by omega) (by omega)
  have hgl := genL_len l i
  obtain ⟨c, c1, c2⟩ := spec_HasNumber_ev l (i : Int) (by omega)
  refine Ev.one (fun k => by rw [spec_FromGaps.l0]) ?_
  rw [e0, w64_succ i (by omega)]
  refine Ev.pos (by omega) (Ev.bnd c2 ?_)
  cases c with
  | true =>
   rw [genL_neg1 l i (fun h => h.2.1 (c1.1 rfl))] at ih
   exact Ev.pos rfl ih
  | false =>
   have hn : (i : Int) ∉ l := fun h => by have := c1.2 h; cases this
   have hs := sums_self l hc i h1 hn
   refine Ev.neg (by decide) ?_
   by_cases h0 : (genL l i).length = 0
   ·refine Ev.neg (by omega) (Ev.pos (by omega) ?_)
    rw [genL_pos1 l i ?_] at ih
    ·exact ih
    ·refine Classical.byContradiction fun h => ?_
     obtain ⟨x, hx, _⟩ := Sums.cut (genL_pos l i) (hs.2 h) (by omega)
     rw [List.length_eq_zero_iff] at h0
     rw [h0] at hx
     simp at hx
   ·refine Ev.pos (by omega) (Ev.bnd (spec_tbl_ev (genL l i) i (genL_pos l i) (by omega) (by omega)) ?_)
    rw [rdOf_tblL _ (i + 1) i (by omega), tblL_length]
    refine Ev.pos (by omega) (Ev.pos (by omega) ?_)
    by_cases h : irr l (i : Int)
    ·rw [genL_pos1 l i h] at ih
     refine Ev.neg (fun e => ?_) (Ev.pos (by omega) ih)
     exact hs.1 ((elB_iff _ _).1 e) h
    ·rw [genL_neg1 l i h] at ih
     exact Ev.pos ((elB_iff _ _).2 (hs.2 h)) ih
/-- What FromGaps answers. -/
noncomputable def fromS (l : List Int) (b : Bool) : List Int × Bool := if b = true then (genL l 401, true) else ([], false)
theorem fromS_len (l : List Int) (b : Bool) : (fromS l b).1.length ≤ 401 := by
 unfold fromS
 split
 ·exact genL_len l 401
 ·simp
/-- Whether the numbers beside a list are a semigroup. -/
def gapsOk (l : List Int) : Prop := okL l ∧ ¬ clP l 1 ∧ SG (genL l 401)
/-! fromboth: FromGaps of both sides -/
theorem impl_FromGaps_t (l gs : List Int) (n : Nat) (hn : n ≤ 400) (r : List Int × Bool) (h : Ev (fun k => impl_FromGaps.l1 k l (mk l 401) ((n + 1 : Nat) : Int) gs) r) (a : Nat) :
  Ev (fun k => impl_FromGaps.l2 k l (mk l 401) (n : Int) true (a : Int) gs) r := by
 refine Ev.one (fun k => by rw [impl_FromGaps.l2]) ?_
 rw [w64_succ n (by omega)]
 by_cases e : wrap64 (2 * (a : Int)) ≤ (n : Int)
 ·exact Ev.pos e (Ev.pos rfl h)
 ·exact Ev.neg e (Ev.pos rfl h)
theorem no_pair (l : List Int) (n a : Nat) (h1 : 1 ≤ n) (hn : (n : Int) ∉ l) (h2 : n < 2 * a) (hs : ∀ q : Nat, 1 ≤ q → q < a → (q : Int) ∈ l ∨ (n : Int) - (q : Int) ∈ l) : irr l (n : Int) := by
 refine ⟨by omega, hn, ?_⟩
 rintro ⟨x, y, hx, hy, e, hxl, hyl⟩
 rcases Int.le_total x y with o | o
 ·have := hs x.toNat (by omega) (by omega)
  rw [show ((x.toNat : Nat) : Int) = x from by omega, show (n : Int) - x = y from by omega] at this
  exact this.elim hxl hyl
 ·have := hs y.toNat (by omega) (by omega)
  rw [show ((y.toNat : Nat) : Int) = y from by omega, show (n : Int) - y = x from by omega] at this
  exact this.elim hyl hxl
theorem impl_FromGaps_l2 (l : List Int) (n : Nat) (h1 : 1 ≤ n) (hn : n ≤ 400) (hnl : (n : Int) ∉ l) (r : List Int × Bool) (h : Ev (fun k => impl_FromGaps.l1 k l (mk l 401) ((n + 1 : Nat) : Int) (genL l (n + 1))) r) :
  ∀ (d a : Nat), n < 2 * a + 2 * d → 1 ≤ a → a ≤ 401 → (∀ q : Nat, 1 ≤ q → q < a → (q : Int) ∈ l ∨ (n : Int) - (q : Int) ∈ l) →
  Ev (fun k => impl_FromGaps.l2 k l (mk l 401) (n : Int) false (a : Int) (genL l n)) r := by
 have hgl := genL_len l n
 have hml := mk_len l 401
 have last : ∀ a : Nat, n < 2 * a → a ≤ 401 → (∀ q : Nat, 1 ≤ q → q < a → (q : Int) ∈ l ∨ (n : Int) - (q : Int) ∈ l) → Ev (fun k => impl_FromGaps.l2 k l (mk l 401) (n : Int) false (a : Int) (genL l n)) r := by
  intro a h2 h3 hs
  have hi := no_pair l n a h1 hnl h2 hs
  rw [genL_pos1 l n hi] at h
  refine Ev.one (fun k => by rw [impl_FromGaps.l2]) ?_
  rw [w64_succ n (by omega), w64_of (x := 2 * (a : Int)) (by omega) (by omega)]
  exact Ev.neg (by omega) (Ev.neg (by decide) (Ev.pos (by omega) h))
 intro d
 induction d with
 | zero =>
  intro a h2 h3 h4 hs
  exact last a (by omega) h4 hs
 | succ d ih =>
  intro a h2 h3 h4 hs
  by_cases hq : n < 2 * a
  ·exact last a hq h4 hs
  have e1 : (n : Int) - (a : Int) = ((n - a : Nat) : Int) := by omega
  have step : ((a : Int) ∈ l ∨ (n : Int) - (a : Int) ∈ l) → Ev (fun k => impl_FromGaps.l2 k l (mk l 401) (n : Int) false ((a + 1 : Nat) : Int) (genL l n)) r := by
   intro hp
   refine ih (a + 1) (by omega) (by omega) (by omega) (fun q q1 q2 => ?_)
   by_cases e : q = a
   ·subst e; exact hp
   ·exact hs q q1 (by omega)
  refine Ev.one (fun k => by rw [impl_FromGaps.l2]) ?_
  rw [w64_succ a (by omega), w64_of (x := 2 * (a : Int)) (by omega) (by omega), mk_at l 401 a (by omega), w64_of (x := (n : Int) - (a : Int)) (by omega) (by omega), e1, mk_at l 401 (n - a) (by omega), ← e1]
  refine Ev.pos (by omega) (Ev.neg (by decide) (Ev.pos (by omega) (Ev.pos (by omega) ?_)))
  by_cases hA : (a : Int) ∈ l
  ·rw [decide_eq_true hA]
   exact Ev.pos rfl (step (.inl hA))
  ·rw [decide_eq_false hA]
   refine Ev.neg (by decide) (Ev.pos (by omega) (Ev.pos (by omega) ?_))
   by_cases hB : (n : Int) - (a : Int) ∈ l
   ·rw [decide_eq_true hB]
    exact step (.inr hB)
   ·rw [decide_eq_false hB]
    have hi : ¬ irr l (n : Int) := fun hi => hi.2.2 ⟨(a : Int), (n : Int) - (a : Int), by omega, by omega, by omega, hA, hB⟩
    rw [genL_neg1 l n hi] at h
    exact impl_FromGaps_t l _ n hn r h (a + 1)
theorem impl_FromGaps_l1 (l : List Int) (ok : okL l) (hc : ¬ clP l 1) (b : Bool) (hb : b = true ↔ SG (genL l 401)) :
  ∀ (d i : Nat), i + d = 401 → 1 ≤ i → Ev (fun k => impl_FromGaps.l1 k l (mk l 401) (i : Int) (genL l i)) (fromS l b) := by
 have hml := mk_len l 401
 intro d
 induction d with
 | zero =>
  intro i hi h1
  obtain rfl : i = 401 := by omega
  have hgl := genL_len l 401
  obtain ⟨c, c1, _, c2⟩ := sg_both (genL l 401) (by omega)
  have e : c = b := bool_same c1 hb
  subst e
  refine Ev.one (fun k => by rw [impl_FromGaps.l1]) ?_
  rw [hml]
  refine Ev.neg (by omega) (Ev.bnd c2 ?_)
  unfold fromS
  cases c with
  | false => exact Ev.neg (by decide) (Ev.now _)
  | true =>
   obtain ⟨c', d1, d2⟩ := impl_gaps_ev (genL l 401) (by omega)
   have e' : c' = true := d1.2 (hb.1 rfl)
   subst e'
   have eg : gapsS true (genL l 401) = l := by
    unfold gapsS
    rw [if_pos rfl]
    exact gapL_gens l ok hc 401 (by omega)
   rw [eg] at d2
   have hll : l.length ≤ 1048576 := by
    have := gapsS_len true (genL l 401)
    rw [eg] at this
    omega
   obtain ⟨q, q1, q2⟩ := equal_ev l l hll
   have eq : q = true := q1.2 rfl
   subst eq
   exact Ev.pos rfl (Ev.bnd d2 (Ev.bnd q2 (Ev.pos rfl (Ev.now _))))
 | succ d ih =>
  intro i hi h1
  have ih := ih (i + 1) (by omega) (by omega)
  refine Ev.one (fun k => by rw [impl_FromGaps.l1]) ?_
  rw [hml, mk_at l 401 i (by omega)]
  refine Ev.pos (by omega) (Ev.pos (by omega) ?_)
  by_cases hn : (i : Int) ∈ l
  ·rw [decide_eq_true hn]
   rw [genL_neg1 l i (fun e => e.2.1 hn)] at ih
   exact impl_FromGaps_t l _ i (by omega) _ ih 1
  ·rw [decide_eq_false hn]
   exact impl_FromGaps_l2 l i h1 (by omega) hn _ ih i 1 (by omega) (by omega) (by omega) (fun q q1 q2 => by omega)
theorem impl_FromGaps_l0 (l : List Int) (hl : l.length ≤ 1048576) (ok : okL l) (hc : ¬ clP l 1) (b : Bool) (hb : b = true ↔ SG (genL l 401)) :
  ∀ (d i : Nat), i + d = l.length → Ev (fun k => impl_FromGaps.l0 k l (mk (l.take i) 401) l (l.length : Int) (i : Int)) (fromS l b) := by
 intro d
 induction d with
 | zero =>
  intro i hi
  refine Ev.one (fun k => by rw [impl_FromGaps.l0]) ?_
  rw [List.take_of_length_le (by omega)]
  have h := impl_FromGaps_l1 l ok hc b hb 400 1 (by omega) (by omega)
  rw [genL_one] at h
  exact Ev.neg (by omega) h
 | succ d ih =>
  intro i hi
  have ih := ih (i + 1) (by omega)
  have a1 := ok.2 _ (List.getElem_mem (show i < l.length by omega))
  refine Ev.one (fun k => by rw [impl_FromGaps.l0]) ?_
  rw [rd_at l i (by omega), mk_next l 401 i (by omega) (by omega), w64_succ i (by omega), mk_len]
  exact Ev.pos (by omega) (Ev.pos (by omega) (Ev.pos (by omega) (Ev.pos (by omega) (Ev.pos (by omega) ih))))
theorem from_both (l : List Int) (hl : l.length ≤ 1048576) : ∃ b, (b = true ↔ okL l ∧ ¬ clP l 1 ∧ SG (genL l 401)) ∧ Ev (fun k => spec_FromGaps.f k l) (fromS l b) ∧ Ev (fun k => impl_FromGaps.f k l) (fromS l b) := by
 obtain ⟨r, r1, r2⟩ := spec_GapClash_ev l hl
 obtain ⟨s, s1, s2⟩ := impl_GapClash_ev l hl
 obtain ⟨c, c1, c2⟩ := spec_l8Gaps_ev l hl
 obtain ⟨e, e1, e2⟩ := impl_gapList_ev l hl
 obtain rfl : c = e := bool_same c1 e1
 have rs : r.2.2 = s.2.2 := bool_same r1 s1
 have outS : Ev (fun k => spec_FromGaps.j0 k l true) (fromS l false) := by
  refine Ev.one (fun k => by rw [spec_FromGaps.j0]) ?_
  exact Ev.pos rfl (Ev.now _)
 have outI : Ev (fun k => impl_FromGaps.j0 k l true) (fromS l false) := by
  refine Ev.one (fun k => by rw [impl_FromGaps.j0]) ?_
  exact Ev.pos rfl (Ev.now _)
 unfold spec_FromGaps.f impl_FromGaps.f
 cases hcl : r.2.2 with
 | true =>
  have ho := r1.1 hcl
  have hs : s.2.2 = true := by rw [← rs]; exact hcl
  refine ⟨false, ⟨(fun e => by cases e), fun e => absurd ho.2 e.2.1⟩, Ev.bnd r2 (Ev.bnd c2 (Ev.pos (c1.2 ho.1) ?_)), Ev.bnd s2 (Ev.pos hs outI)⟩
  rw [hcl]
  exact outS
 | false =>
  have hs : s.2.2 = false := by rw [← rs]; exact hcl
  cases hc : c with
  | false =>
   rw [hc] at c1 c2 e2
   refine ⟨false, ⟨(fun e => by cases e), fun e => c1.2 e.1⟩, Ev.bnd r2 (Ev.bnd c2 (Ev.neg (by decide) outS)), Ev.bnd s2 (Ev.neg (by rw [hs]; decide) (Ev.bnd e2 outI))⟩
  | true =>
   rw [hc] at c1 c2 e2
   have ok := c1.1 rfl
   have ncl : ¬ clP l 1 := fun h => by have := r1.2 ⟨ok, h⟩; rw [hcl] at this; cases this
   have hgl := genL_len l 401
   obtain ⟨b, b1, _, _⟩ := sg_both (genL l 401) (by omega)
   refine ⟨b, by rw [b1]; exact ⟨fun h => ⟨ok, ncl, h⟩, fun h => h.2.2⟩, Ev.bnd r2 (Ev.bnd c2 (Ev.pos rfl ?_)), Ev.bnd s2 (Ev.neg (by rw [hs]; decide) (Ev.bnd e2 ?_))⟩
   ·rw [hcl]
    refine Ev.one (fun k => by rw [spec_FromGaps.j0]) ?_
    have far : ∀ most : Nat, most ≤ 199 → (∀ x ∈ l, x ≤ (most : Int)) → Ev (fun k => spec_FromGaps.j1 k l [] (most : Int)) (fromS l b) := by
     intro most hm hx
     have eg : genL l 401 = genL l (2 * most + 3) := by
      have := genL_far l most hx (401 - (2 * most + 3))
      rw [show 2 * most + 3 + (401 - (2 * most + 3)) = 401 from by omega] at this
      exact this
     refine Ev.one (fun k => by rw [spec_FromGaps.j1]) ?_
     have h := spec_FromGaps_l0 l hl ncl most hm b (by rw [b1, eg]) (2 * most + 2) 1 (by omega) (by omega)
     rw [genL_one] at h
     unfold fromS
     rw [eg]
     exact h
    refine Ev.neg (by decide) (Ev.some ?_)
    by_cases h0 : l.length = 0
    ·refine Ev.neg (by omega) (far 0 (by omega) (fun x hx => ?_))
     rw [List.length_eq_zero_iff] at h0
     rw [h0] at hx
     simp at hx
    ·obtain ⟨most, m1, m2, m3, m4⟩ := okL_top l ok (by omega)
     have e1 : wrap64 ((l.length : Int) - 1) = ((l.length - 1 : Nat) : Int) := by rw [w64_of (by omega) (by omega)]; omega
     rw [e1, m1]
     exact Ev.pos (by omega) (Ev.pos (by omega) (Ev.pos (by omega) (far most m3 m4)))
   ·refine Ev.one (fun k => by rw [impl_FromGaps.j0]) ?_
    have h := impl_FromGaps_l0 l hl ok ncl b b1 l.length 0 (by omega)
    rw [List.take_zero, mk_nil] at h
    exact Ev.neg (by decide) (Ev.pos (by omega) h)
/-! without: spec.l19Without -/
theorem spec_l19Without_l0 (l : List Int) (x : Int) (hl : l.length ≤ 1048576) : ∀ (d i : Nat), i + d = l.length → Ev (fun k => spec_l19Without.l0 k l x ((l.take i).filter fun y => decide (y ≠ x)) (i : Int)) (l.filter fun y => decide (y ≠ x)) := by
 intro d
 induction d with
 | zero =>
  intro i hi
  rw [List.take_of_length_le (by omega)]
  refine Ev.one (fun k => by rw [spec_l19Without.l0]) ?_
  exact Ev.neg (by omega) (Ev.now _)
 | succ d ih =>
  intro i hi
  have hil : i < l.length := by omega
  have ih := ih (i + 1) (by omega)
  have hf := List.length_filter_le (fun y => decide (y ≠ x)) (l.take i)
  rw [List.length_take] at hf
  rw [List.take_succ_eq_append_getElem hil, List.filter_append] at ih
  refine Ev.one (fun k => by rw [spec_l19Without.l0]) ?_
  rw [rd_at l i hil, w64_succ i (by omega)]
  refine Ev.pos (by omega) (Ev.pos (by omega) ?_)
  by_cases h : l[i] = x
  ·rw [List.filter_cons_of_neg (by rw [decide_eq_false (by simpa using h)]; decide), List.filter_nil, List.append_nil] at ih
   exact Ev.pos h ih
  ·rw [List.filter_cons_of_pos (p := fun y => decide (y ≠ x)) (decide_eq_true h), List.filter_nil] at ih
   exact Ev.neg h (Ev.pos (by omega) ih)
theorem spec_l19Without_ev (l : List Int) (x : Int) (hl : l.length ≤ 1048576) : Ev (fun k => spec_l19Without.f k l x) (l.filter fun y => decide (y ≠ x)) := by
 unfold spec_l19Without.f
 exact spec_l19Without_l0 l x hl l.length 0 (by omega)
/-! parent0: all gaps but the last -/
theorem asc_front (l : List Int) (h : asc l) (h0 : 0 < l.length) : (l.filter fun y => decide (y ≠ rd l ((l.length - 1 : Nat) : Int))) = l.take (l.length - 1) := by
 rw [rd_at l _ (by omega)]
 have e : l = l.take (l.length - 1) ++ [l[l.length - 1]] := by
  have := List.take_succ_eq_append_getElem (show l.length - 1 < l.length by omega)
  rw [List.take_of_length_le (by omega)] at this
  exact this
 have f1 : (l.take (l.length - 1)).filter (fun y => decide (y ≠ l[l.length - 1])) = l.take (l.length - 1) := by
  refine List.filter_eq_self.2 (fun y hy => decide_eq_true ?_)
  obtain ⟨j, hj, ej⟩ := List.getElem_of_mem hy
  rw [List.length_take] at hj
  rw [List.getElem_take] at ej
  have := List.pairwise_iff_getElem.1 h j (l.length - 1) (by omega) (by omega) (by omega)
  omega
 have f2 : (l.take (l.length - 1) ++ [l[l.length - 1]]).filter (fun y => decide (y ≠ l[l.length - 1])) = l.take (l.length - 1) := by
  rw [List.filter_append, f1, List.filter_cons_of_neg (by simp), List.filter_nil, List.append_nil]
 exact (congrArg (List.filter fun y => decide (y ≠ l[l.length - 1])) e).trans f2
theorem spec_frob_ev (g : List Int) (hlen : g.length ≤ 1048576) : ∃ b, (b = true ↔ SG g) ∧ Ev (fun k => spec_FrobeniusOf.f k g) (lastS (gapsS b g)) := by
 obtain ⟨b, b1, b2, _⟩ := gaps_both g hlen
 have hl := gapsS_len b g
 refine ⟨b, b1, ?_⟩
 unfold spec_FrobeniusOf.f lastS
 by_cases h : (gapsS b g).length = 0
 ·rw [if_pos h]
  exact Ev.bnd b2 (Ev.pos (by omega) (Ev.now _))
 ·rw [if_neg h]
  have e1 : wrap64 (((gapsS b g).length : Int) - 1) = (((gapsS b g).length - 1 : Nat) : Int) := by rw [w64_of (by omega) (by omega)]; omega
  refine Ev.bnd b2 (Ev.neg (by omega) ?_)
  rw [e1]
  exact Ev.pos (by omega) (Ev.pos (by omega) (Ev.now _))
/-! nestedsg: eqSemigroupS, markSemigroupS, heldSemigroupS -/
theorem rd_T27_at (xs : List S27) (i : Nat) (h : i < xs.length) : rd_T27 xs (i : Int) = xs[i] := by
 unfold rd_T27
 rw [Int.toNat_natCast, List.getD_eq_getElem?_getD, List.getElem?_eq_getElem h, Option.getD_some]
def marksT : List S27 → Int → List S27
 | [], _ => []
 | x :: r, a => ⟨marks x.f0 a⟩ :: marksT r (a + (x.f0.length : Int))
def totT : List S27 → Int
 | [] => 0
 | x :: r => (x.f0.length : Int) + totT r
theorem totT_rng (c : Nat) : ∀ l : List S27, (∀ x ∈ l, x.f0.length ≤ c) → 0 ≤ totT l ∧ totT l ≤ (c : Int) * (l.length : Int) := by
 intro l
 induction l with
 | nil => intro _; simp [totT]
 | cons x r ih =>
  intro h
  have h1 := h x List.mem_cons_self
  have := ih (fun y hy => h y (List.mem_cons_of_mem _ hy))
  rw [totT, List.length_cons, Int.natCast_add, Int.mul_add]
  omega
theorem eqSemigroupS_l0 (l : List S27) (hl : l.length ≤ 100000000000) (hx : ∀ x ∈ l, x.f0.length ≤ 1000) : ∀ (d i : Nat), i + d = l.length → Ev (fun k => laws_eqSemigroupS.l0 k l l (i : Int)) true := by
 intro d
 induction d with
 | zero =>
  intro i hi
  refine Ev.one (fun k => by rw [laws_eqSemigroupS.l0]) ?_
  exact Ev.neg (by omega) (Ev.now _)
 | succ d ih =>
  intro i hi
  have hil : i < l.length := by omega
  have h1 := hx _ (List.getElem_mem hil)
  refine Ev.one (fun k => by rw [laws_eqSemigroupS.l0]) ?_
  rw [rd_T27_at l i hil, w64_succ i (by omega)]
  exact Ev.pos (by omega) (Ev.pos (by omega) (Ev.pos (by omega) (Ev.bnd (eqSemigroup_ev l[i].f0 (by omega)) (Ev.pos rfl (ih (i + 1) (by omega))))))
theorem eqSemigroupS_ev (l : List S27) (hl : l.length ≤ 100000000000) (hx : ∀ x ∈ l, x.f0.length ≤ 1000) : Ev (fun k => laws_eqSemigroupS.f k l l) true := by
 unfold laws_eqSemigroupS.f
 exact Ev.pos rfl (eqSemigroupS_l0 l hl hx l.length 0 (by omega))
theorem set_atT {α : Type} (a b : List α) (x v : α) : (a ++ x :: b).set a.length v = (a ++ [v]) ++ b := by simp
theorem markSemigroupS_l0 : ∀ (r done : List S27) (a : Int), (∀ x ∈ r, x.f0.length ≤ 1000) → done.length + r.length ≤ 100000000000 → 0 ≤ a → a + 1000 * (r.length : Int) ≤ 4611686018427387904 →
  Ev (fun k => laws_markSemigroupS.l0 k (done ++ r) a (done.length : Int)) (a + totT r, done ++ marksT r a) := by
 intro r
 induction r with
 | nil =>
  intro done a _ hl h0 h1
  refine Ev.one (fun k => by rw [laws_markSemigroupS.l0]) ?_
  rw [totT, marksT, Int.add_zero, List.append_nil]
  exact Ev.neg (by omega) (Ev.now _)
 | cons x r ih =>
  intro done a hx hl h0 h1
  rw [List.length_cons] at hl h1
  have hx1 := hx x List.mem_cons_self
  have ih := ih (done ++ [⟨marks x.f0 a⟩]) (a + (x.f0.length : Int)) (fun y hy => hx y (List.mem_cons_of_mem _ hy)) (by rw [List.length_append, List.length_singleton]; omega) (by omega) (by omega)
  have e : rd_T27 (done ++ x :: r) (done.length : Int) = x := by
   rw [rd_T27_at _ done.length (by rw [List.length_append, List.length_cons]; omega)]
   simp
  refine Ev.one (fun k => by rw [laws_markSemigroupS.l0]) ?_
  rw [e]
  refine Ev.pos (by rw [List.length_append, List.length_cons]; omega) (Ev.pos (by omega) (Ev.bnd (markIntS_ev x.f0 a (by omega) (by omega) (by omega)) ?_))
  rw [Int.toNat_natCast, set_atT, w64_succ done.length (by omega), totT, marksT, show a + ((x.f0.length : Int) + totT r) = a + (x.f0.length : Int) + totT r from by omega, show done ++ ⟨marks x.f0 a⟩ :: marksT r (a + (x.f0.length : Int)) = (done ++ [⟨marks x.f0 a⟩]) ++ marksT r (a + (x.f0.length : Int)) from by simp]
  rw [List.length_append, List.length_singleton] at ih
  exact ih
theorem markSemigroupS_ev (l : List S27) (hl : l.length ≤ 100000000000) (hx : ∀ x ∈ l, x.f0.length ≤ 1000) : Ev (fun k => laws_markSemigroupS.f k l 1) (1 + totT l, marksT l 1) := markSemigroupS_l0 l [] 1 hx (by simpa using hl) (by omega) (by omega)
theorem marksT_len : ∀ (l : List S27) (a : Int), (marksT l a).length = l.length := by
 intro l
 induction l with
 | nil => intro a; rfl
 | cons x r ih => intro a; rw [marksT, List.length_cons, ih, List.length_cons]
theorem heldSemigroupS_l0 : ∀ (r done : List S27) (a : Int), (∀ x ∈ r, x.f0.length ≤ 1000) → done.length + r.length ≤ 100000000000 → 0 ≤ a → a + 1000 * (r.length : Int) ≤ 4611686018427387904 →
  Ev (fun k => laws_heldSemigroupS.l0 k (done ++ marksT r a) a (done.length : Int)) (a + totT r) := by
 intro r
 induction r with
 | nil =>
  intro done a _ hl h0 h1
  refine Ev.one (fun k => by rw [laws_heldSemigroupS.l0]) ?_
  rw [totT, marksT, Int.add_zero, List.append_nil]
  exact Ev.neg (by omega) (Ev.now _)
 | cons x r ih =>
  intro done a hx hl h0 h1
  rw [List.length_cons] at hl h1
  have hx1 := hx x List.mem_cons_self
  have ih := ih (done ++ [⟨marks x.f0 a⟩]) (a + (x.f0.length : Int)) (fun y hy => hx y (List.mem_cons_of_mem _ hy)) (by rw [List.length_append, List.length_singleton]; omega) (by omega) (by omega)
  have hml := marksT_len r (a + (x.f0.length : Int))
  have e : rd_T27 (done ++ ⟨marks x.f0 a⟩ :: marksT r (a + (x.f0.length : Int))) (done.length : Int) = ⟨marks x.f0 a⟩ := by
   rw [rd_T27_at _ done.length (by rw [List.length_append, List.length_cons]; omega)]
   simp
  refine Ev.one (fun k => by rw [laws_heldSemigroupS.l0]) ?_
  rw [marksT, e]
  refine Ev.pos (by rw [List.length_append, List.length_cons]; omega) (Ev.pos (by omega) (Ev.bnd (heldIntS_ev x.f0 a (by omega) (by omega) (by omega)) (Ev.neg (by omega) ?_)))
  rw [w64_succ done.length (by omega), totT, show a + ((x.f0.length : Int) + totT r) = a + (x.f0.length : Int) + totT r from by omega, show done ++ ⟨marks x.f0 a⟩ :: marksT r (a + (x.f0.length : Int)) = (done ++ [⟨marks x.f0 a⟩]) ++ marksT r (a + (x.f0.length : Int)) from by simp]
  rw [List.length_append, List.length_singleton] at ih
  exact ih
theorem heldSemigroupS_ev (l : List S27) (hl : l.length ≤ 100000000000) (hx : ∀ x ∈ l, x.f0.length ≤ 1000) : Ev (fun k => laws_heldSemigroupS.f k (marksT l 1) 1) (1 + totT l) := heldSemigroupS_l0 l [] 1 hx (by simpa using hl) (by omega) (by omega)
/-! path: PathTo of both sides -/
/-- What ParentOf answers at a semigroup. -/
theorem parent_at (g : List Int) (hlen : g.length ≤ 1048576) (hS : SG g) :
  ((gapL g).length = 0 ∧ Ev (fun k => spec_ParentOf.f k g) ([], false) ∧ Ev (fun k => impl_ParentOf.f k g) ([], false) ∧ Ev (fun k => spec_FrobeniusOf.f k g) (-1)) ∨
  (1 ≤ (gapL g).length ∧ ∃ q F, 1 ≤ F ∧ Ev (fun k => spec_FrobeniusOf.f k g) F ∧ (q = true → SG (genL ((gapL g).take ((gapL g).length - 1)) 401) ∧ gapL (genL ((gapL g).take ((gapL g).length - 1)) 401) = (gapL g).take ((gapL g).length - 1)) ∧
   Ev (fun k => spec_ParentOf.f k g) (fromS ((gapL g).take ((gapL g).length - 1)) q) ∧ Ev (fun k => impl_ParentOf.f k g) (fromS ((gapL g).take ((gapL g).length - 1)) q)) := by
 obtain ⟨b, b1, b2, b3⟩ := gaps_both g hlen
 obtain ⟨c, c1, c2⟩ := spec_frob_ev g hlen
 obtain rfl : b = c := bool_same b1 c1
 obtain rfl : b = true := b1.2 hS
 have hl := gapsS_len true g
 have eg : gapsS true g = gapL g := by unfold gapsS; rw [if_pos rfl]
 have hlast : lastS (gapL g) = if (gapL g).length = 0 then -1 else rd (gapL g) (((gapL g).length - 1 : Nat) : Int) := rfl
 rw [eg] at hl b3 c2
 unfold spec_ParentOf.f impl_ParentOf.f
 by_cases h0 : (gapL g).length = 0
 ·rw [if_pos h0] at hlast
  rw [hlast] at c2
  exact .inl ⟨h0, Ev.bnd c2 (Ev.pos (by omega) (Ev.now _)), Ev.bnd b3 (Ev.pos (by omega) (Ev.now _)), c2⟩
 ·rw [if_neg h0] at hlast
  have hx := (gapL_mem g (rd (gapL g) (((gapL g).length - 1 : Nat) : Int))).1 (by rw [rd_at _ _ (by omega)]; exact List.getElem_mem _)
  have hx1 : 1 ≤ lastS (gapL g) := by
   rw [hlast]
   refine Classical.byContradiction fun h => hx.2.2 ?_
   rw [show rd (gapL g) (((gapL g).length - 1 : Nat) : Int) = 0 from by omega]
   exact Sums.zero g
  have hf := asc_front (gapL g) (asc_pick _ _) (by omega)
  rw [← hlast] at hf
  have hw := spec_l19Without_ev (gapL g) (lastS (gapL g)) (by omega)
  rw [hf] at hw
  have e1 : wrap64 (((gapL g).length : Int) - 1) = (((gapL g).length - 1 : Nat) : Int) := by rw [w64_of (by omega) (by omega)]; omega
  obtain ⟨q, qq, q1, q2⟩ := from_both ((gapL g).take ((gapL g).length - 1)) (by rw [List.length_take]; omega)
  refine .inr ⟨by omega, q, lastS (gapL g), hx1, c2, fun hq => ?_, Ev.bnd c2 (Ev.neg (by omega) (Ev.bnd (spec_l4Gaps_ev g (fun x hx => (hS.rng x hx).1) hlen) (Ev.bnd hw (Ev.bnd q1 (Ev.now _))))), Ev.bnd b3 ?_⟩
  ·obtain ⟨o1, o2, o3⟩ := qq.1 hq
   exact ⟨o3, gapL_gens _ o1 o2 401 (by omega)⟩
  ·rw [e1, Int.toNat_natCast]
   exact Ev.neg (by omega) (Ev.pos (by omega) (Ev.pos (by omega) (Ev.bnd q2 (Ev.now _))))
theorem genus_at (g : List Int) (hlen : g.length ≤ 1048576) (hS : SG g) : Ev (fun k => impl_GenusOf.f k g) ((gapL g).length : Int) := by
 obtain ⟨b, b1, b2, b3⟩ := gaps_both g hlen
 obtain ⟨c, c1, c2, c3⟩ := sg_both g hlen
 obtain rfl : b = true := b1.2 hS
 obtain rfl : c = true := c1.2 hS
 have eg : gapsS true g = gapL g := by unfold gapsS; rw [if_pos rfl]
 rw [eg] at b3
 unfold impl_GenusOf.f
 exact Ev.bnd c3 (Ev.pos rfl (Ev.bnd b3 (Ev.now _)))
theorem path_up : ∀ (n : Nat) (g : List Int), n ≤ 200 → SG g → (gapL g).length = n → ∃ (ok : Bool) (up : List S27), up.length ≤ n ∧ (∀ x ∈ up, x.f0.length ≤ 1000) ∧
  (∀ acc : List S27, acc.length + n ≤ 1000000 → Ev (fun k => impl_PathTo.l0 k acc g) (if ok = true then ((acc ++ up).reverse, true) else ([], false))) ∧
  (∀ tail : List S27, tail.length + n ≤ 1000000 → Ev (fun k => spec_PathTo.l0 k ((⟨g⟩ : S27) :: tail)) (if ok = true then (up.reverse ++ (⟨g⟩ : S27) :: tail, true) else ([], false))) := by
 intro n
 induction n with
 | zero =>
  intro g hn hS h0
  have hl := hS.len2
  have hg := genus_at g (by omega) hS
  rw [h0] at hg
  rcases parent_at g (by omega) hS with ⟨_, p1, p2, p3⟩ | ⟨h, _⟩
  ·refine ⟨true, [], by simp, (fun x hx => by cases hx), fun acc ha => ?_, fun tail ht => ?_⟩
   ·refine Ev.one (fun k => by rw [impl_PathTo.l0]) ?_
    rw [if_pos rfl, List.append_nil]
    refine Ev.bnd hg (Ev.neg (by omega) (Ev.bnd (Ev.const ?_) (Ev.now _)))
    unfold impl_Semigroup.f
    rw [if_pos (by omega)]
   ·refine Ev.one (fun k => by rw [spec_PathTo.l0]) ?_
    have e : (rd_T27 ((⟨g⟩ : S27) :: tail) 0).f0 = g := rfl
    rw [e, if_pos rfl]
    refine Ev.pos (by rw [List.length_cons]; omega) (Ev.bnd p1 (Ev.neg (by simp) (Ev.bnd p3 ?_)))
    refine Ev.one (fun k => by rw [spec_PathTo.j1]) ?_
    exact Ev.neg (by decide) (Ev.neg (by decide) (Ev.now _))
  ·omega
 | succ n ih =>
  intro g hn hS h0
  have hl := hS.len2
  have hg := genus_at g (by omega) hS
  rw [h0] at hg
  rcases parent_at g (by omega) hS with ⟨h, _⟩ | ⟨_, q, F, hF, pF, pq, p1, p2⟩
  ·omega
  ·cases q with
   | false =>
    refine ⟨false, [], by simp, (fun x hx => by cases hx), fun acc ha => ?_, fun tail ht => ?_⟩
    ·refine Ev.one (fun k => by rw [impl_PathTo.l0]) ?_
     rw [if_neg (by decide)]
     exact Ev.bnd hg (Ev.pos (by omega) (Ev.bnd p2 (Ev.neg (by unfold fromS; simp) (Ev.now _))))
    ·refine Ev.one (fun k => by rw [spec_PathTo.l0]) ?_
     have e : (rd_T27 ((⟨g⟩ : S27) :: tail) 0).f0 = g := rfl
     rw [e, if_neg (by decide)]
     refine Ev.pos (by rw [List.length_cons]; omega) (Ev.bnd p1 (Ev.neg (by unfold fromS; simp) (Ev.bnd pF ?_)))
     refine Ev.one (fun k => by rw [spec_PathTo.j1]) ?_
     exact Ev.pos (decide_eq_true (by omega)) (Ev.now _)
   | true =>
    obtain ⟨s1, s2⟩ := pq rfl
    have e0 : fromS ((gapL g).take ((gapL g).length - 1)) true = (genL ((gapL g).take ((gapL g).length - 1)) 401, true) := by unfold fromS; rw [if_pos rfl]
    rw [e0] at p1 p2
    generalize genL ((gapL g).take ((gapL g).length - 1)) 401 = g' at s1 s2 p1 p2
    obtain ⟨ok, up, u1, u2, u3, u4⟩ := ih g' (by omega) s1 (by rw [s2, List.length_take]; omega)
    have hl' := s1.len2
    refine ⟨ok, (⟨g'⟩ : S27) :: up, by rw [List.length_cons]; omega, fun x hx => ?_, fun acc ha => ?_, fun tail ht => ?_⟩
    ·rcases List.mem_cons.1 hx with h | h
     ·rw [h]; show g'.length ≤ 1000; omega
     ·exact u2 x h
    ·refine Ev.one (fun k => by rw [impl_PathTo.l0]) ?_
     have h := u3 (acc ++ [(⟨g'⟩ : S27)]) (by rw [List.length_append, List.length_singleton]; omega)
     rw [List.append_assoc] at h
     exact Ev.bnd hg (Ev.pos (by omega) (Ev.bnd p2 (Ev.pos rfl (Ev.pos (by omega) h))))
    ·refine Ev.one (fun k => by rw [spec_PathTo.l0]) ?_
     have e : (rd_T27 ((⟨g⟩ : S27) :: tail) 0).f0 = g := rfl
     have h := u4 ((⟨g⟩ : S27) :: tail) (by rw [List.length_cons]; omega)
     rw [e, List.reverse_cons, List.append_assoc]
     refine Ev.pos (by rw [List.length_cons]; omega) (Ev.bnd p1 (Ev.pos rfl ?_))
     refine Ev.one (fun k => by rw [spec_PathTo.j1]) ?_
     exact Ev.neg (by decide) (Ev.pos rfl (Ev.some (Ev.pos (by rw [List.length_singleton, List.length_cons]; omega) h)))
theorem path_both (g : List Int) (hlen : g.length ≤ 1048576) : ∃ p : List S27 × Bool, p.1.length ≤ 1048576 ∧ (∀ x ∈ p.1, x.f0.length ≤ 1000) ∧ Ev (fun k => spec_PathTo.f k g) p ∧ Ev (fun k => impl_PathTo.f k g) p := by
 obtain ⟨b, b1, b2, b3⟩ := sg_both g hlen
 unfold spec_PathTo.f impl_PathTo.f
 cases b with
 | false =>
  refine ⟨([], false), by simp, (fun x hx => by cases hx), ?_, ?_⟩
  ·exact Ev.bnd b2 (Ev.neg (by decide) (Ev.now _))
  ·exact Ev.bnd b3 (Ev.neg (by decide) (Ev.now _))
 | true =>
  have hS := b1.1 rfl
  have hl := hS.len2
  have hgl := gapL_len g
  obtain ⟨ok, up, u1, u2, u3, u4⟩ := path_up (gapL g).length g hgl hS rfl
  have h3 := u3 [(⟨g⟩ : S27)] (by rw [List.length_singleton]; omega)
  have h4 := u4 [] (by simp; omega)
  have e : ([(⟨g⟩ : S27)] ++ up).reverse = up.reverse ++ [(⟨g⟩ : S27)] := by simp
  rw [e] at h3
  refine ⟨if ok = true then (up.reverse ++ [(⟨g⟩ : S27)], true) else ([], false), ?_, ?_, ?_, ?_⟩
  ·cases ok with
   | true => show (up.reverse ++ [(⟨g⟩ : S27)]).length ≤ 1048576; rw [List.length_append, List.length_reverse, List.length_singleton]; omega
   | false => show ([] : List S27).length ≤ 1048576; simp
  ·cases ok with
   | true =>
    show ∀ x ∈ up.reverse ++ [(⟨g⟩ : S27)], x.f0.length ≤ 1000
    intro x hx
    rcases List.mem_append.1 hx with h | h
    ·exact u2 x (List.mem_reverse.1 h)
    ·rw [List.mem_singleton.1 h]; show g.length ≤ 1000; omega
   | false => show ∀ x ∈ ([] : List S27), _; intro x hx; cases hx
  ·refine Ev.bnd b2 (Ev.pos rfl (Ev.bnd (a := g) (Ev.const ?_) h4))
   unfold spec_l3Copy.f
   show (if ([] : List Int).length + g.length < 17592186044416 then some ([] ++ g) else none) = some g
   rw [if_pos (by simp; omega), List.nil_append]
  ·refine Ev.bnd b3 (Ev.pos rfl (Ev.bnd (a := g) (Ev.const ?_) h3))
   unfold slices_Clone_int_int.f
   rw [if_pos (by omega)]
end Go.Proofs.Ytlfdipnhlmjiaaa.Pure
