/- Plain lemmas (fromgaps, ascpick, gapgens, fromboth, without, nestedsg, pfro0, sponly, eqsg, sgirr, gsum, smallsg, sguniq0, overmath, ordmath, subsets, larger1, larger2): no program, no memory. -/
import Derived.Test.YtlhcpbpcdicleaaC0
import Derived.Test.YtlhcpbpcdicleaaC2
import Derived.Test.YtlhcpbpcdicleaaC3
import Derived.Test.YtlhcpbpcdicleaaC4
import Derived.Test.YtlhcpbpcdicleaaC5
import Derived.Test.YtlhcpbpcdicleaaC6
import Derived.Test.YtlhcpbpcdicleaaC7
import Derived.Test.YtlhcpbpcdicleaaC8
import Derived.Test.YtlhcpbpcdicleaaBbase
namespace Go.Proofs.Ytlhcpbpcdicleaa.Pure
open Go.RowKit Go.Proofs.Ytlhcpbpcdicleaa.C Go.Proofs.YtlhcpbpcdicleaaW.PrintWords Go.Proofs.YtlhcpbpcdicleaaW.PrintLast Go.Proofs.YtlhcpbpcdicleaaW.PrintMore
set_option linter.unusedVariables false
set_option linter.unusedSimpArgs false
/-! fromgaps: GapClash and FromGaps of both sides -/
def okL (l : List Int) : Prop := asc l ∧ ∀ x ∈ l, 1 ≤ x ∧ x ≤ 199
theorem spec_l8Gaps_l0 (l : List Int) (hl : l.length ≤ 1048576) : ∀ (d i : Nat), i + d = l.length → ∃ b, (b = true ↔ asc l ∧ ∀ x ∈ l.drop i, 1 ≤ x ∧ x ≤ 199) ∧ Ev (fun k => spec_l8Gaps.l0 k l (i : Int)) b := by
 intro d
 induction d with
 | zero =>
  intro i hi
  obtain ⟨b, b1, b2⟩ := spec_IsAscending_ev l hl
  rw [List.drop_eq_nil_of_le (by omega)]
  refine ⟨b, by rw [b1]; simp, Ev.one (fun k => by rw [spec_l8Gaps.l0]) ?_⟩
  exact Ev.neg (by omega) (Ev.bnd b2 (Ev.now _))
 | succ d ih =>
  intro i hi
  rw [List.drop_eq_getElem_cons (show i < l.length by omega)]
  by_cases h : 1 ≤ l[i] ∧ l[i] ≤ 199
  ·obtain ⟨b, b1, b2⟩ := ih (i + 1) (by omega)
   refine ⟨b, ?_, Ev.one (fun k => by rw [spec_l8Gaps.l0]) ?_⟩
   ·rw [b1]
    exact ⟨fun e => ⟨e.1, fun x hx => by
     rcases List.mem_cons.1 hx with e2 | hx
     ·rw [e2]; exact h
     ·exact e.2 x hx⟩, fun e => ⟨e.1, fun x hx => e.2 x (List.mem_cons_of_mem _ hx)⟩⟩
   ·rw [rd_at l i (by omega), w64_succ i (by omega)]
    exact Ev.pos (by omega) (Ev.pos (by omega) (Ev.bnd (spec_l1In_ev _ _ _) (Ev.pos (decide_eq_true h) b2)))
  ·refine ⟨false, ⟨(fun e => by cases e), fun e => absurd (e.2 _ (List.mem_cons_self ..)) h⟩, Ev.one (fun k => by rw [spec_l8Gaps.l0]) ?_⟩
   rw [rd_at l i (by omega)]
   exact Ev.pos (by omega) (Ev.pos (by omega) (Ev.bnd (spec_l1In_ev _ _ _) (Ev.neg (by rw [decide_eq_false h]; decide) (Ev.now _))))
theorem spec_l8Gaps_ev (l : List Int) (hl : l.length ≤ 1048576) : ∃ b, (b = true ↔ okL l) ∧ Ev (fun k => spec_l8Gaps.f k l) b := by
 unfold spec_l8Gaps.f
 exact spec_l8Gaps_l0 l hl l.length 0 (by omega)
theorem impl_gapList_ev (l : List Int) (hl : l.length ≤ 1048576) : ∃ b, (b = true ↔ okL l) ∧ Ev (fun k => impl_gapList.f k l) b := by
 obtain ⟨b, b1, b2⟩ := impl_IsAscending_ev l hl
 unfold impl_gapList.f
 cases b with
 | false => exact ⟨false, ⟨(fun e => by cases e), fun e => b1.2 e.1⟩, Ev.bnd b2 (Ev.neg (by decide) (Ev.now _))⟩
 | true =>
  refine ⟨allIn l 1 199, ?_, Ev.bnd b2 (Ev.pos rfl (Ev.bnd (impl_allWithin_ev l 1 199 (by omega)) (Ev.now _)))⟩
  rw [allIn_iff]
  exact ⟨fun e => ⟨b1.1 rfl, e⟩, fun e => e.2⟩
theorem equal_l0 (a b : List Int) (hab : a.length = b.length) (hl : a.length ≤ 1048576) : ∀ (d i : Nat), i + d = a.length → ∃ r, (r = true ↔ a.drop i = b.drop i) ∧ Ev (fun k => slices_Equal_int_int.l0 k a b (a.length : Int) (i : Int)) r := by
 intro d
 induction d with
 | zero =>
  intro i hi
  refine ⟨true, by rw [List.drop_eq_nil_of_le (show a.length ≤ i by omega), List.drop_eq_nil_of_le (show b.length ≤ i by omega)]; simp, Ev.one (fun k => by rw [slices_Equal_int_int.l0]) ?_⟩
  exact Ev.neg (by omega) (Ev.now _)
 | succ d ih =>
  intro i hi
  rw [List.drop_eq_getElem_cons (show i < a.length by omega), List.drop_eq_getElem_cons (show i < b.length by omega)]
  by_cases h : a[i] = b[i]
  ·obtain ⟨r, r1, r2⟩ := ih (i + 1) (by omega)
   refine ⟨r, by rw [r1, h, List.cons.injEq]; simp, Ev.one (fun k => by rw [slices_Equal_int_int.l0]) ?_⟩
   rw [rd_at a i (by omega), rd_at b i (by omega), w64_succ i (by omega)]
   exact Ev.pos (by omega) (Ev.pos (by omega) (Ev.pos (by omega) (Ev.pos (by omega) (Ev.pos h r2))))
  ·refine ⟨false, ⟨(fun e => by cases e), fun e => absurd (List.cons.inj e).1 h⟩, Ev.one (fun k => by rw [slices_Equal_int_int.l0]) ?_⟩
   rw [rd_at a i (by omega), rd_at b i (by omega)]
   exact Ev.pos (by omega) (Ev.pos (by omega) (Ev.pos (by omega) (Ev.pos (by omega) (Ev.neg h (Ev.now _)))))
theorem equal_ev (a b : List Int) (hl : a.length ≤ 1048576) : ∃ r, (r = true ↔ a = b) ∧ Ev (fun k => slices_Equal_int_int.f k a b) r := by
 unfold slices_Equal_int_int.f
 by_cases h : a.length = b.length
 ·obtain ⟨r, r1, r2⟩ := equal_l0 a b h hl a.length 0 (by omega)
  exact ⟨r, by rw [r1]; simp, Ev.pos (by omega) r2⟩
 ·exact ⟨false, ⟨(fun e => by cases e), fun e => absurd (congrArg List.length e) h⟩, Ev.neg (by omega) (Ev.now _)⟩
/-- The table of a list's numbers. -/
def mk (l : List Int) (n : Nat) : List Bool := (List.range n).map fun m : Nat => decide ((m : Int) ∈ l)
theorem mk_len (l : List Int) (n : Nat) : (mk l n).length = n := by simp [mk]
theorem mk_at (l : List Int) (n m : Nat) (h : m < n) : rdOf false (mk l n) (m : Int) = decide ((m : Int) ∈ l) := by
 rw [rdOf_at]
 unfold mk
 rw [List.getD_eq_getElem?_getD, List.getElem?_map, List.getElem?_range h]
 rfl
theorem mk_nil (n : Nat) : mk [] n = List.replicate n false := by
 apply List.ext_getElem (by simp [mk])
 intro i h1 h2
 simp [mk]
theorem mk_get (l : List Int) (n i : Nat) (h : i < (mk l n).length) : (mk l n)[i] = decide ((i : Int) ∈ l) := by
 simp [mk]
theorem mk_set (l : List Int) (n m : Nat) : (mk l n).set m true = mk (l ++ [(m : Int)]) n := by
 apply List.ext_getElem (by rw [List.length_set, mk_len, mk_len])
 intro i h1 h2
 rw [List.getElem_set, mk_get]
 by_cases h : m = i
 ·subst h
  rw [if_pos rfl, mk_get]
  exact (decide_eq_true (List.mem_append.2 (.inr (List.mem_singleton.2 rfl)))).symm
 ·rw [if_neg h, mk_get]
  have e : ((i : Int) ∈ l ↔ (i : Int) ∈ l ++ [(m : Int)]) := by
   rw [List.mem_append, List.mem_singleton]
   exact ⟨fun e => .inl e, fun e => e.resolve_right (fun e => h (by omega))⟩
  exact decide_eq_decide.2 e
theorem mk_next (l : List Int) (n i : Nat) (h : i < l.length) (h0 : 0 ≤ l[i]) : (mk (l.take i) n).set (l[i]).toNat true = mk (l.take (i + 1)) n := by
 rw [mk_set, List.take_succ_eq_append_getElem h, show (((l[i]).toNat : Nat) : Int) = l[i] from by omega]
/-- Two numbers beside the list whose sum is in it. -/
def clQ (l : List Int) (a b : Int) : Prop := ∃ b', b ≤ b' ∧ a ∉ l ∧ b' ∉ l ∧ a + b' ∈ l
def clP (l : List Int) (a : Int) : Prop := ∃ a', a ≤ a' ∧ clQ l a' a'
theorem clP_step (l : List Int) (a : Int) : clP l a ↔ clQ l a a ∨ clP l (a + 1) := by
 constructor
 ·rintro ⟨a', h1, h2⟩
  by_cases e : a = a'
  ·subst e; exact .inl h2
  ·exact .inr ⟨a', by omega, h2⟩
 ·rintro (h | ⟨a', h1, h2⟩)
  ·exact ⟨a, by omega, h⟩
  ·exact ⟨a', by omega, h2⟩
theorem clQ_step (l : List Int) (a b : Int) : clQ l a b ↔ (a ∉ l ∧ b ∉ l ∧ a + b ∈ l) ∨ clQ l a (b + 1) := by
 constructor
 ·rintro ⟨b', h1, h2⟩
  by_cases e : b = b'
  ·subst e; exact .inl h2
  ·exact .inr ⟨b', by omega, h2⟩
 ·rintro (h | ⟨b', h1, h2⟩)
  ·exact ⟨b, by omega, h⟩
  ·exact ⟨b', by omega, h2⟩
theorem clQ_end (l : List Int) (most : Int) (hm : ∀ x ∈ l, x ≤ most) (a b : Int) (h : most < a + b) : ¬ clQ l a b := by
 rintro ⟨b', h1, _, _, h4⟩
 have := hm _ h4
 omega
theorem clP_end (l : List Int) (most : Int) (hm : ∀ x ∈ l, x ≤ most) (a : Int) (h0 : 0 ≤ a) (h : most < a) : ¬ clP l a := by
 rintro ⟨a', h1, h2⟩
 exact clQ_end l most hm a' a' (by omega) h2
theorem spec_GapClash_l2 (l : List Int) (most N : Nat) (hm : ∀ x ∈ l, x ≤ (most : Int)) (hN : most < N) (hNb : N ≤ 1000) (a : Nat) (ha1 : 1 ≤ a) (ha : a ≤ most)
  (P : ∃ r : Int × Int × Bool, (r.2.2 = true ↔ clP l ((a + 1 : Nat) : Int)) ∧ Ev (fun k => spec_GapClash.l1 k (most : Int) (mk l N) ((a + 1 : Nat) : Int)) r) :
  ∀ (d b : Nat), most < a + b + d → 1 ≤ b → b ≤ most + 1 → ∃ r : Int × Int × Bool, (r.2.2 = true ↔ clQ l (a : Int) (b : Int) ∨ clP l ((a + 1 : Nat) : Int)) ∧ Ev (fun k => spec_GapClash.l2 k (most : Int) (mk l N) (a : Int) (b : Int)) r := by
 obtain ⟨r, r1, r2⟩ := P
 have hl := mk_len l N
 have out : ∀ b : Nat, ¬ clQ l (a : Int) (b : Int) → Ev (fun k => spec_GapClash.j4 k (most : Int) (mk l N) (a : Int) (b : Int) false) r ∧ (r.2.2 = true ↔ clQ l (a : Int) (b : Int) ∨ clP l ((a + 1 : Nat) : Int)) := by
  intro b hq
  refine ⟨Ev.one (fun k => by rw [spec_GapClash.j4]) ?_, ⟨fun e => .inr (r1.1 e), fun e => r1.2 (e.resolve_left hq)⟩⟩
  rw [w64_succ a (by omega)]
  exact Ev.neg (by decide) r2
 have far : ∀ b : Nat, b ≤ most + 1 → most < a + b → ∃ r : Int × Int × Bool, (r.2.2 = true ↔ clQ l (a : Int) (b : Int) ∨ clP l ((a + 1 : Nat) : Int)) ∧ Ev (fun k => spec_GapClash.l2 k (most : Int) (mk l N) (a : Int) (b : Int)) r := by
  intro b hb h
  have o := out b (clQ_end l most hm a b (by omega))
  refine ⟨r, o.2, Ev.one (fun k => by rw [spec_GapClash.l2]) ?_⟩
  rw [w64_of (x := (a : Int) + (b : Int)) (by omega) (by omega)]
  exact Ev.neg (by omega) o.1
 intro d
 induction d with
 | zero =>
  intro b h1 h2 h3
  exact far b h3 (by omega)
 | succ d ih =>
  intro b h1 h2 h3
  by_cases h : most < a + b
  ·exact far b h3 h
  by_cases hA : (a : Int) ∈ l
  ·have o := out b (by rintro ⟨b', _, h, _⟩; exact h hA)
   refine ⟨r, o.2, Ev.one (fun k => by rw [spec_GapClash.l2]) ?_⟩
   rw [w64_of (x := (a : Int) + (b : Int)) (by omega) (by omega), mk_at l N a (by omega), decide_eq_true hA]
   exact Ev.pos (by omega) (Ev.pos (by omega) (Ev.pos (by omega) o.1))
  ·obtain ⟨r', i1, i2⟩ := ih (b + 1) (by omega) (by omega) (by omega)
   have e1 : ((b + 1 : Nat) : Int) = (b : Int) + 1 := by omega
   have e2 : (a : Int) + (b : Int) = ((a + b : Nat) : Int) := by omega
   have st := clQ_step l (a : Int) (b : Int)
   rw [← e1] at st
   by_cases hB : (b : Int) ∈ l
   ·refine ⟨r', by rw [i1, st]; exact ⟨fun e => e.elim (fun e => .inl (.inr e)) .inr, fun e => e.elim (fun e => .inl (e.resolve_left (fun e => e.2.1 hB))) .inr⟩, Ev.one (fun k => by rw [spec_GapClash.l2]) ?_⟩
    rw [w64_of (x := (a : Int) + (b : Int)) (by omega) (by omega), mk_at l N a (by omega), decide_eq_false hA]
    refine Ev.pos (by omega) (Ev.pos (by omega) (Ev.pos (by omega) (Ev.one (fun k => by rw [spec_GapClash.j4]) ?_)))
    rw [mk_at l N b (by omega), decide_eq_true hB, w64_succ b (by omega)]
    exact Ev.pos rfl (Ev.pos (by omega) (Ev.pos (by omega) (Ev.pos rfl i2)))
   ·by_cases hC : (a : Int) + (b : Int) ∈ l
    ·refine ⟨((a : Int), (b : Int), true), ⟨fun _ => .inl (st.2 (.inl ⟨hA, hB, hC⟩)), fun _ => rfl⟩, Ev.one (fun k => by rw [spec_GapClash.l2]) ?_⟩
     rw [w64_of (x := (a : Int) + (b : Int)) (by omega) (by omega), mk_at l N a (by omega), decide_eq_false hA]
     refine Ev.pos (by omega) (Ev.pos (by omega) (Ev.pos (by omega) (Ev.one (fun k => by rw [spec_GapClash.j4]) ?_)))
     rw [mk_at l N b (by omega), decide_eq_false hB, w64_of (x := (a : Int) + (b : Int)) (by omega) (by omega), e2, mk_at l N (a + b) (by omega), ← e2, decide_eq_true hC]
     exact Ev.pos rfl (Ev.pos (by omega) (Ev.pos (by omega) (Ev.neg (by decide) (Ev.pos (by omega) (Ev.pos (by omega) (Ev.pos rfl (Ev.now _)))))))
    ·refine ⟨r', by rw [i1, st]; exact ⟨fun e => e.elim (fun e => .inl (.inr e)) .inr, fun e => e.elim (fun e => .inl (e.resolve_left (fun e => hC e.2.2))) .inr⟩, Ev.one (fun k => by rw [spec_GapClash.l2]) ?_⟩
     rw [w64_of (x := (a : Int) + (b : Int)) (by omega) (by omega), mk_at l N a (by omega), decide_eq_false hA]
     refine Ev.pos (by omega) (Ev.pos (by omega) (Ev.pos (by omega) (Ev.one (fun k => by rw [spec_GapClash.j4]) ?_)))
     rw [mk_at l N b (by omega), decide_eq_false hB, w64_of (x := (a : Int) + (b : Int)) (by omega) (by omega), e2, mk_at l N (a + b) (by omega), ← e2, decide_eq_false hC, w64_succ b (by omega)]
     exact Ev.pos rfl (Ev.pos (by omega) (Ev.pos (by omega) (Ev.neg (by decide) (Ev.pos (by omega) (Ev.pos (by omega) (Ev.neg (by decide) i2))))))
theorem spec_GapClash_l1 (l : List Int) (most N : Nat) (hm : ∀ x ∈ l, x ≤ (most : Int)) (hN : most < N) (hNb : N ≤ 1000) :
  ∀ (d a : Nat), a + d = most + 1 → 1 ≤ a → ∃ r : Int × Int × Bool, (r.2.2 = true ↔ clP l (a : Int)) ∧ Ev (fun k => spec_GapClash.l1 k (most : Int) (mk l N) (a : Int)) r := by
 intro d
 induction d with
 | zero =>
  intro a h h1
  refine ⟨(0, 0, false), ⟨(fun e => by cases e), fun e => absurd e (clP_end l most hm a (by omega) (by omega))⟩, Ev.one (fun k => by rw [spec_GapClash.l1]) ?_⟩
  exact Ev.neg (by omega) (Ev.now _)
 | succ d ih =>
  intro a h h1
  obtain ⟨r, r1, r2⟩ := spec_GapClash_l2 l most N hm hN hNb a h1 (by omega) (ih (a + 1) (by omega) (by omega)) (most + 1) a (by omega) h1 (by omega)
  refine ⟨r, ?_, Ev.one (fun k => by rw [spec_GapClash.l1]) ?_⟩
  ·rw [r1, clP_step l (a : Int)]
   exact Iff.rfl
  ·exact Ev.pos (by omega) r2
theorem spec_GapClash_l0 (l : List Int) (most N : Nat) (hl : l.length ≤ 1048576) (h1 : ∀ x ∈ l, 1 ≤ x) (hm : ∀ x ∈ l, x ≤ (most : Int)) (hN : most < N) (hNb : N ≤ 1000) :
  ∀ (d i : Nat), i + d = l.length → ∃ r : Int × Int × Bool, (r.2.2 = true ↔ clP l 1) ∧ Ev (fun k => spec_GapClash.l0 k l (most : Int) (mk (l.take i) N) (i : Int)) r := by
 intro d
 induction d with
 | zero =>
  intro i hi
  obtain ⟨r, r1, r2⟩ := spec_GapClash_l1 l most N hm hN hNb most 1 (by omega) (by omega)
  refine ⟨r, r1, Ev.one (fun k => by rw [spec_GapClash.l0]) ?_⟩
  rw [List.take_of_length_le (by omega)]
  exact Ev.neg (by omega) r2
 | succ d ih =>
  intro i hi
  obtain ⟨r, r1, r2⟩ := ih (i + 1) (by omega)
  have a1 := h1 _ (List.getElem_mem (show i < l.length by omega))
  have a2 := hm _ (List.getElem_mem (show i < l.length by omega))
  refine ⟨r, r1, Ev.one (fun k => by rw [spec_GapClash.l0]) ?_⟩
  rw [rd_at l i (by omega), mk_next l N i (by omega) (by omega), w64_succ i (by omega), mk_len]
  exact Ev.pos (by omega) (Ev.pos (by omega) (Ev.pos (by omega) (Ev.pos (by omega) r2)))
/-- The last number of a list that ascends is the greatest. -/
theorem asc_last (l : List Int) (h : asc l) (hl : 0 < l.length) : ∀ x ∈ l, x ≤ rd l ((l.length - 1 : Nat) : Int) := by
 intro x hx
 rw [rd_at l _ (by omega)]
 obtain ⟨i, hi, e⟩ := List.getElem_of_mem hx
 subst e
 by_cases he : i = l.length - 1
 ·subst he; exact Int.le_refl _
 ·have := List.pairwise_iff_getElem.1 h i (l.length - 1) hi (by omega) (by omega)
  omega
theorem okL_top (l : List Int) (h : okL l) (hl : 0 < l.length) : ∃ most : Nat, rd l ((l.length - 1 : Nat) : Int) = (most : Int) ∧ 1 ≤ most ∧ most ≤ 199 ∧ ∀ x ∈ l, x ≤ (most : Int) := by
 have a := asc_last l h.1 hl
 have b := h.2 (rd l ((l.length - 1 : Nat) : Int)) (by rw [rd_at l _ (by omega)]; exact List.getElem_mem _)
 refine ⟨(rd l ((l.length - 1 : Nat) : Int)).toNat, by omega, by omega, by omega, fun x hx => ?_⟩
 have := a x hx
 omega
theorem clP_nil : ¬ clP [] 1 := by
 rintro ⟨a, _, b, _, _, _, h⟩
 simp at h
theorem spec_GapClash_ev (l : List Int) (hl : l.length ≤ 1048576) : ∃ r : Int × Int × Bool, (r.2.2 = true ↔ okL l ∧ clP l 1) ∧ Ev (fun k => spec_GapClash.f k l) r := by
 obtain ⟨b, b1, b2⟩ := spec_l8Gaps_ev l hl
 unfold spec_GapClash.f
 cases b with
 | false =>
  refine ⟨(0, 0, false), ⟨(fun e => by cases e), fun e => b1.2 e.1⟩, Ev.bnd b2 (Ev.neg (by decide) (Ev.one (fun k => by rw [spec_GapClash.j0]) ?_))⟩
  exact Ev.pos rfl (Ev.now _)
 | true =>
  have ok := b1.1 rfl
  by_cases h : l.length = 0
  ·refine ⟨(0, 0, false), ⟨(fun e => by cases e), fun e => ?_⟩, Ev.bnd b2 (Ev.pos rfl (Ev.one (fun k => by rw [spec_GapClash.j0]) ?_))⟩
   ·rw [List.length_eq_zero_iff] at h
    subst h
    exact absurd e.2 clP_nil
   ·exact Ev.pos (by rw [h]; rfl) (Ev.now _)
  ·obtain ⟨most, m1, m2, m3, m4⟩ := okL_top l ok (by omega)
   have e1 : wrap64 ((l.length : Int) - 1) = ((l.length - 1 : Nat) : Int) := by rw [w64_of (by omega) (by omega)]; omega
   have e2 : wrap64 (wrap64 (2 * (most : Int)) + 1) = ((2 * most + 1 : Nat) : Int) := by
    rw [w64_of (x := 2 * (most : Int)) (by omega) (by omega), w64_of (by omega) (by omega)]; omega
   obtain ⟨r, r1, r2⟩ := spec_GapClash_l0 l most (2 * most + 1) hl (fun x hx => (ok.2 x hx).1) m4 (by omega) (by omega) l.length 0 (by omega)
   refine ⟨r, by rw [r1]; exact ⟨fun e => ⟨ok, e⟩, fun e => e.2⟩, Ev.bnd b2 (Ev.pos rfl (Ev.one (fun k => by rw [spec_GapClash.j0]) ?_))⟩
   rw [List.take_zero, mk_nil] at r2
   rw [e1, m1, e2, Int.toNat_natCast]
   exact Ev.neg (by rw [beq_iff_eq]; omega) (Ev.pos (by omega) (Ev.pos (by omega) (Ev.pos (by omega) (Ev.pos (by omega) r2))))
theorem impl_GapClash_l2 (l : List Int) (most N : Nat) (hm : ∀ x ∈ l, x ≤ (most : Int)) (hN : most < N) (hNb : N ≤ 1000) (a : Nat) (ha1 : 1 ≤ a) (ha : a ≤ most)
  (P : ∃ r : Int × Int × Bool, (r.2.2 = true ↔ clP l ((a + 1 : Nat) : Int)) ∧ Ev (fun k => impl_GapClash.l1 k (mk l N) (most : Int) ((a + 1 : Nat) : Int)) r) :
  ∀ (d b : Nat), most < a + b + d → 1 ≤ b → b ≤ most + 1 → ∃ r : Int × Int × Bool, (r.2.2 = true ↔ clQ l (a : Int) (b : Int) ∨ clP l ((a + 1 : Nat) : Int)) ∧ Ev (fun k => impl_GapClash.l2 k (mk l N) (most : Int) (a : Int) (b : Int)) r := by
 obtain ⟨r, r1, r2⟩ := P
 have hl := mk_len l N
 have far : ∀ b : Nat, b ≤ most + 1 → most < a + b → ∃ r : Int × Int × Bool, (r.2.2 = true ↔ clQ l (a : Int) (b : Int) ∨ clP l ((a + 1 : Nat) : Int)) ∧ Ev (fun k => impl_GapClash.l2 k (mk l N) (most : Int) (a : Int) (b : Int)) r := by
  intro b hb h
  refine ⟨r, ⟨fun e => .inr (r1.1 e), fun e => r1.2 (e.resolve_left (clQ_end l most hm a b (by omega)))⟩, Ev.one (fun k => by rw [impl_GapClash.l2]) ?_⟩
  rw [w64_of (x := (a : Int) + (b : Int)) (by omega) (by omega), w64_succ a (by omega)]
  exact Ev.neg (by omega) r2
 intro d
 induction d with
 | zero =>
  intro b h1 h2 h3
  exact far b h3 (by omega)
 | succ d ih =>
  intro b h1 h2 h3
  by_cases h : most < a + b
  ·exact far b h3 h
  obtain ⟨r', i1, i2⟩ := ih (b + 1) (by omega) (by omega) (by omega)
  have e1 : ((b + 1 : Nat) : Int) = (b : Int) + 1 := by omega
  have e2 : (a : Int) + (b : Int) = ((a + b : Nat) : Int) := by omega
  have st := clQ_step l (a : Int) (b : Int)
  rw [← e1] at st
  have go : ¬ ((a : Int) ∉ l ∧ (b : Int) ∉ l ∧ (a : Int) + (b : Int) ∈ l) → (r'.2.2 = true ↔ clQ l (a : Int) (b : Int) ∨ clP l ((a + 1 : Nat) : Int)) := by
   intro n
   rw [i1, st]
   exact ⟨fun e => e.elim (fun e => .inl (.inr e)) .inr, fun e => e.elim (fun e => .inl (e.resolve_left n)) .inr⟩
  by_cases hA : (a : Int) ∈ l
  ·refine ⟨r', go (fun e => e.1 hA), Ev.one (fun k => by rw [impl_GapClash.l2]) ?_⟩
   rw [w64_of (x := (a : Int) + (b : Int)) (by omega) (by omega), mk_at l N a (by omega), decide_eq_true hA, w64_succ b (by omega)]
   exact Ev.pos (by omega) (Ev.pos (by omega) (Ev.pos (by omega) (Ev.pos rfl i2)))
  ·by_cases hB : (b : Int) ∈ l
   ·refine ⟨r', go (fun e => e.2.1 hB), Ev.one (fun k => by rw [impl_GapClash.l2]) ?_⟩
    rw [w64_of (x := (a : Int) + (b : Int)) (by omega) (by omega), mk_at l N a (by omega), decide_eq_false hA, mk_at l N b (by omega), decide_eq_true hB, w64_succ b (by omega)]
    exact Ev.pos (by omega) (Ev.pos (by omega) (Ev.pos (by omega) (Ev.neg (by decide) (Ev.pos (by omega) (Ev.pos (by omega) (Ev.pos rfl i2))))))
   ·by_cases hC : (a : Int) + (b : Int) ∈ l
    ·refine ⟨((a : Int), (b : Int), true), ⟨fun _ => .inl (st.2 (.inl ⟨hA, hB, hC⟩)), fun _ => rfl⟩, Ev.one (fun k => by rw [impl_GapClash.l2]) ?_⟩
     rw [w64_of (x := (a : Int) + (b : Int)) (by omega) (by omega), mk_at l N a (by omega), decide_eq_false hA, mk_at l N b (by omega), decide_eq_false hB, e2, mk_at l N (a + b) (by omega), ← e2, decide_eq_true hC]
     exact Ev.pos (by omega) (Ev.pos (by omega) (Ev.pos (by omega) (Ev.neg (by decide) (Ev.pos (by omega) (Ev.pos (by omega) (Ev.neg (by decide) (Ev.pos (by omega) (Ev.pos (by omega) (Ev.pos rfl (Ev.now _))))))))))
    ·refine ⟨r', go (fun e => hC e.2.2), Ev.one (fun k => by rw [impl_GapClash.l2]) ?_⟩
     rw [w64_of (x := (a : Int) + (b : Int)) (by omega) (by omega), mk_at l N a (by omega), decide_eq_false hA, mk_at l N b (by omega), decide_eq_false hB, e2, mk_at l N (a + b) (by omega), ← e2, decide_eq_false hC, w64_succ b (by omega)]
     exact Ev.pos (by omega) (Ev.pos (by omega) (Ev.pos (by omega) (Ev.neg (by decide) (Ev.pos (by omega) (Ev.pos (by omega) (Ev.neg (by decide) (Ev.pos (by omega) (Ev.pos (by omega) (Ev.neg (by decide) i2)))))))))
theorem impl_GapClash_l1 (l : List Int) (most N : Nat) (hm : ∀ x ∈ l, x ≤ (most : Int)) (hN : most < N) (hNb : N ≤ 1000) :
  ∀ (d a : Nat), a + d = most + 1 → 1 ≤ a → ∃ r : Int × Int × Bool, (r.2.2 = true ↔ clP l (a : Int)) ∧ Ev (fun k => impl_GapClash.l1 k (mk l N) (most : Int) (a : Int)) r := by
 intro d
 induction d with
 | zero =>
  intro a h h1
  refine ⟨(0, 0, false), ⟨(fun e => by cases e), fun e => absurd e (clP_end l most hm a (by omega) (by omega))⟩, Ev.one (fun k => by rw [impl_GapClash.l1]) ?_⟩
  exact Ev.neg (by omega) (Ev.now _)
 | succ d ih =>
  intro a h h1
  obtain ⟨r, r1, r2⟩ := impl_GapClash_l2 l most N hm hN hNb a h1 (by omega) (ih (a + 1) (by omega) (by omega)) (most + 1) a (by omega) h1 (by omega)
  refine ⟨r, ?_, Ev.one (fun k => by rw [impl_GapClash.l1]) ?_⟩
  ·rw [r1, clP_step l (a : Int)]
   exact Iff.rfl
  ·exact Ev.pos (by omega) r2
theorem impl_GapClash_l0 (l : List Int) (most N : Nat) (hl : l.length ≤ 1048576) (h0 : 0 < l.length) (ht : rd l ((l.length - 1 : Nat) : Int) = (most : Int)) (h1 : ∀ x ∈ l, 1 ≤ x) (hm : ∀ x ∈ l, x ≤ (most : Int)) (hN : most < N) (hNb : N ≤ 1000) :
  ∀ (d i : Nat), i + d = l.length → ∃ r : Int × Int × Bool, (r.2.2 = true ↔ clP l 1) ∧ Ev (fun k => impl_GapClash.l0 k l (mk (l.take i) N) l (l.length : Int) (i : Int)) r := by
 have e1 : wrap64 ((l.length : Int) - 1) = ((l.length - 1 : Nat) : Int) := by rw [w64_of (by omega) (by omega)]; omega
 intro d
 induction d with
 | zero =>
  intro i hi
  obtain ⟨r, r1, r2⟩ := impl_GapClash_l1 l most N hm hN hNb most 1 (by omega) (by omega)
  refine ⟨r, r1, Ev.one (fun k => by rw [impl_GapClash.l0]) ?_⟩
  rw [List.take_of_length_le (by omega), e1, ht]
  exact Ev.neg (by omega) (Ev.pos (by omega) (Ev.pos (by omega) r2))
 | succ d ih =>
  intro i hi
  obtain ⟨r, r1, r2⟩ := ih (i + 1) (by omega)
  have a1 := h1 _ (List.getElem_mem (show i < l.length by omega))
  have a2 := hm _ (List.getElem_mem (show i < l.length by omega))
  refine ⟨r, r1, Ev.one (fun k => by rw [impl_GapClash.l0]) ?_⟩
  rw [rd_at l i (by omega), mk_next l N i (by omega) (by omega), w64_succ i (by omega), mk_len]
  exact Ev.pos (by omega) (Ev.pos (by omega) (Ev.pos (by omega) (Ev.pos (by omega) (Ev.pos (by omega) r2))))
theorem impl_GapClash_ev (l : List Int) (hl : l.length ≤ 1048576) : ∃ r : Int × Int × Bool, (r.2.2 = true ↔ okL l ∧ clP l 1) ∧ Ev (fun k => impl_GapClash.f k l) r := by
 obtain ⟨b, b1, b2⟩ := impl_gapList_ev l hl
 unfold impl_GapClash.f
 cases b with
 | false =>
  refine ⟨(0, 0, false), ⟨(fun e => by cases e), fun e => b1.2 e.1⟩, Ev.bnd b2 (Ev.neg (by decide) (Ev.one (fun k => by rw [impl_GapClash.j0]) ?_))⟩
  exact Ev.pos rfl (Ev.now _)
 | true =>
  have ok := b1.1 rfl
  by_cases h : l.length = 0
  ·refine ⟨(0, 0, false), ⟨(fun e => by cases e), fun e => ?_⟩, Ev.bnd b2 (Ev.pos rfl (Ev.one (fun k => by rw [impl_GapClash.j0]) ?_))⟩
   ·rw [List.length_eq_zero_iff] at h
    subst h
    exact absurd e.2 clP_nil
   ·exact Ev.pos (by rw [h]; rfl) (Ev.now _)
  ·obtain ⟨most, m1, m2, m3, m4⟩ := okL_top l ok (by omega)
   obtain ⟨r, r1, r2⟩ := impl_GapClash_l0 l most 201 hl (by omega) m1 (fun x hx => (ok.2 x hx).1) m4 (by omega) (by omega) l.length 0 (by omega)
   refine ⟨r, by rw [r1]; exact ⟨fun e => ⟨ok, e⟩, fun e => e.2⟩, Ev.bnd b2 (Ev.pos rfl (Ev.one (fun k => by rw [impl_GapClash.j0]) ?_))⟩
   rw [List.take_zero, mk_nil] at r2
   exact Ev.neg (by rw [beq_iff_eq]; omega) (Ev.pos (by omega) r2)
/-! ascpick: what is picked in order ascends -/
theorem asc_pick (p : Nat → Bool) (n : Nat) : asc (pick p (fun n => (n : Int)) n) := by
 unfold asc pick
 rw [List.pairwise_map]
 refine List.Pairwise.imp (R := fun a b : Nat => a < b) (fun h => by omega) (List.Pairwise.filter _ ?_)
 exact List.pairwise_lt_range
/-! gapgens: the generators that FromGaps finds -/
/-- A number beside the list that is no sum of two such numbers. -/
def irr (l : List Int) (n : Int) : Prop := 1 ≤ n ∧ n ∉ l ∧ ¬ ∃ a b : Int, 1 ≤ a ∧ 1 ≤ b ∧ a + b = n ∧ a ∉ l ∧ b ∉ l
noncomputable def irrB (l : List Int) (n : Nat) : Bool := @decide (irr l (n : Int)) (Classical.propDecidable _)
theorem irrB_iff (l : List Int) (n : Nat) : irrB l n = true ↔ irr l (n : Int) := by unfold irrB; exact @decide_eq_true_iff (irr l (n : Int)) (Classical.propDecidable _)
theorem irrB_not (l : List Int) (n : Nat) (h : ¬ irr l (n : Int)) : irrB l n = false := by
 cases hb : irrB l n with
 | false => rfl
 | true => exact absurd ((irrB_iff l n).1 hb) h
noncomputable def genL (l : List Int) (n : Nat) : List Int := pick (irrB l) (fun n => (n : Int)) n
theorem genL_len (l : List Int) (n : Nat) : (genL l n).length ≤ n := pick_len _ _ _
theorem genL_mem (l : List Int) (n : Nat) (x : Int) : x ∈ genL l n ↔ irr l x ∧ x < (n : Int) := by
 unfold genL pick
 rw [List.mem_map]
 constructor
 ·rintro ⟨m, hm, rfl⟩
  rw [List.mem_filter, List.mem_range, irrB_iff] at hm
  exact ⟨hm.2, by omega⟩
 ·rintro ⟨h1, h2⟩
  have h0 := h1.1
  refine ⟨x.toNat, ?_, by omega⟩
  rw [List.mem_filter, List.mem_range, irrB_iff, show ((x.toNat : Nat) : Int) = x from by omega]
  exact ⟨by omega, h1⟩
theorem genL_pos (l : List Int) (n : Nat) : ∀ x ∈ genL l n, 1 ≤ x := fun x hx => ((genL_mem l n x).1 hx).1.1
theorem genL_pos1 (l : List Int) (n : Nat) (h : irr l (n : Int)) : genL l (n + 1) = genL l n ++ [(n : Int)] := pick_pos _ _ n ((irrB_iff l n).2 h)
theorem genL_neg1 (l : List Int) (n : Nat) (h : ¬ irr l (n : Int)) : genL l (n + 1) = genL l n := pick_neg _ _ n (irrB_not l n h)
theorem genL_one (l : List Int) : genL l 1 = [] := by
 rw [genL_neg1 l 0 (fun h => by have := h.1; omega)]
 rfl
/-- No clash: the numbers beside the list are closed under addition. -/
theorem closed_of (l : List Int) (hc : ¬ clP l 1) (a b : Int) (ha : 1 ≤ a) (hb : 1 ≤ b) (h1 : a ∉ l) (h2 : b ∉ l) : a + b ∉ l := by
 intro h
 rcases Int.le_total a b with e | e
 ·exact hc ⟨a, by omega, b, by omega, h1, h2, h⟩
 ·exact hc ⟨b, by omega, a, by omega, h2, h1, by rwa [Int.add_comm]⟩
theorem sums_out (l : List Int) (hc : ¬ clP l 1) (n : Nat) (m : Int) (h : Sums (genL l n) m) : m = 0 ∨ (1 ≤ m ∧ m ∉ l) := by
 refine Sums.ind (P := fun m => m = 0 ∨ (1 ≤ m ∧ m ∉ l)) (.inl rfl) (fun x k hx _ hk => ?_) h
 have hi := ((genL_mem l n x).1 hx).1
 rcases hk with e | ⟨e1, e2⟩
 ·subst e
  rw [Int.zero_add]
  exact .inr ⟨hi.1, hi.2.1⟩
 ·have := hi.1
  exact .inr ⟨by omega, closed_of l hc k x e1 hi.1 e2 hi.2.1⟩
theorem sums_in (l : List Int) (n : Nat) : ∀ (q m : Nat), m ≤ q → m < n → 1 ≤ m → (m : Int) ∉ l → Sums (genL l n) (m : Int) := by
 intro q
 induction q with
 | zero => intro m h1 _ h2 _; omega
 | succ q ih =>
  intro m h1 h2 h3 h4
  by_cases hi : irr l (m : Int)
  ·exact Sums.one ((genL_mem l n _).2 ⟨hi, by omega⟩)
  ·have : ∃ a b : Int, 1 ≤ a ∧ 1 ≤ b ∧ a + b = (m : Int) ∧ a ∉ l ∧ b ∉ l := Classical.byContradiction fun e => hi ⟨by omega, h4, e⟩
   obtain ⟨a, b, a1, b1, e, ha, hb⟩ := this
   have sa := ih a.toNat (by omega) (by omega) (by omega) (by rwa [show ((a.toNat : Nat) : Int) = a from by omega])
   have sb := ih b.toNat (by omega) (by omega) (by omega) (by rwa [show ((b.toNat : Nat) : Int) = b from by omega])
   rw [show ((a.toNat : Nat) : Int) = a from by omega] at sa
   rw [show ((b.toNat : Nat) : Int) = b from by omega] at sb
   rw [← e]
   exact Sums.both sa sb
/-- A number beside the list is a sum of the smaller generators exactly if it is not itself one. -/
theorem sums_self (l : List Int) (hc : ¬ clP l 1) (n : Nat) (h1 : 1 ≤ n) (hn : (n : Int) ∉ l) : Sums (genL l n) (n : Int) ↔ ¬ irr l (n : Int) := by
 constructor
 ·intro h hi
  obtain ⟨x, hx, hx2, hs⟩ := Sums.cut (genL_pos l n) h (by omega)
  have hm := (genL_mem l n x).1 hx
  rcases sums_out l hc n _ hs with e | ⟨e1, e2⟩
  ·omega
  ·exact hi.2.2 ⟨x, (n : Int) - x, hm.1.1, e1, by omega, hm.1.2.1, e2⟩
 ·intro hi
  have : ∃ a b : Int, 1 ≤ a ∧ 1 ≤ b ∧ a + b = (n : Int) ∧ a ∉ l ∧ b ∉ l := Classical.byContradiction fun e => hi ⟨by omega, hn, e⟩
  obtain ⟨a, b, a1, b1, e, ha, hb⟩ := this
  have sa := sums_in l n n a.toNat (by omega) (by omega) (by omega) (by rwa [show ((a.toNat : Nat) : Int) = a from by omega])
  have sb := sums_in l n n b.toNat (by omega) (by omega) (by omega) (by rwa [show ((b.toNat : Nat) : Int) = b from by omega])
  rw [show ((a.toNat : Nat) : Int) = a from by omega] at sa
  rw [show ((b.toNat : Nat) : Int) = b from by omega] at sb
  rw [← e]
  exact Sums.both sa sb
/-- Past twice the greatest number no generator comes. -/
theorem genL_far (l : List Int) (most : Nat) (hm : ∀ x ∈ l, x ≤ (most : Int)) : ∀ d : Nat, genL l (2 * most + 3 + d) = genL l (2 * most + 3) := by
 intro d
 induction d with
 | zero => rfl
 | succ d ih =>
  rw [← ih]
  refine genL_neg1 l (2 * most + 3 + d) (fun h => h.2.2 ⟨(most : Int) + 1, ((2 * most + 3 + d : Nat) : Int) - ((most : Int) + 1), by omega, by omega, by omega, fun e => ?_, fun e => ?_⟩)
  ·have := hm _ e; omega
  ·have := hm _ e; omega
theorem gapL_gens (l : List Int) (ok : okL l) (hc : ¬ clP l 1) (n : Nat) (hn : 200 ≤ n) : gapL (genL l n) = l := by
 refine asc_uniq _ _ (asc_pick _ _) ok.1 (fun x => ?_)
 rw [gapL_mem]
 constructor
 ·rintro ⟨h0, h1, h2⟩
  by_cases hx : x ∈ l
  ·exact hx
  ·exfalso
   by_cases e : x = 0
   ·subst e; exact h2 (Sums.zero _)
   ·have := sums_in l n n x.toNat (by omega) (by omega) (by omega) (by rwa [show ((x.toNat : Nat) : Int) = x from by omega])
    rw [show ((x.toNat : Nat) : Int) = x from by omega] at this
    exact h2 this
 ·intro hx
  have := ok.2 x hx
  refine ⟨by omega, by omega, fun h => ?_⟩
  rcases sums_out l hc n x h with e | ⟨_, e⟩
  ·omega
  ·exact e hx
theorem spec_FromGaps_l0 (l : List Int) (hl : l.length ≤ 1048576) (hc : ¬ clP l 1) (most : Nat) (hm : most ≤ 199) (b : Bool) (hb : b = true ↔ SG (genL l (2 * most + 3))) :
  ∀ (d i : Nat), i + d = 2 * most + 3 → 1 ≤ i → Ev (fun k => spec_FromGaps.l0 k l (genL l i) (most : Int) (i : Int)) (if b = true then (genL l (2 * most + 3), true) else ([], false)) := by
 have e0 : wrap64 (wrap64 (2 * (most : Int)) + 2) = ((2 * most + 2 : Nat) : Int) := by
  rw [w64_of (x := 2 * (most : Int)) (by omega) (by omega), w64_of (by omega) (by omega)]; omega
 intro d
 induction d with
 | zero =>
  intro i hi h1
  obtain rfl : i = 2 * most + 3 := by omega
  have hgl := genL_len l (2 * most + 3)
  obtain ⟨c, c1, c2⟩ := spec_IsSemigroup_ev (genL l (2 * most + 3)) (by omega)
  have e : c = b := bool_same c1 hb
  subst e
  refine Ev.one (fun k => by rw [spec_FromGaps.l0]) ?_
  rw [e0]
  refine Ev.neg (by omega) (Ev.bnd c2 ?_)
  cases c with
  | false => exact Ev.neg (by decide) (Ev.now _)
  | true => exact Ev.pos rfl (Ev.now _)
 | succ d ih =>
  intro i hi h1
  have ih := ih (i + 1) (by omega) (by omega)
  have hgl := genL_len l i
  obtain ⟨c, c1, c2⟩ := spec_HasNumber_ev l (i : Int) (by omega)
  refine Ev.one (fun k => by rw [spec_FromGaps.l0]) ?_
  rw [e0, w64_succ i (by omega)]
  refine Ev.pos (by omega) (Ev.bnd c2 ?_)
  cases c with
  | true =>
   rw [genL_neg1 l i (fun h => h.2.1 (c1.1 rfl))] at ih
   exact Ev.pos rfl ih
  | false =>
   have hn : (i : Int) ∉ l := fun h => by have := c1.2 h; cases this
   have hs := sums_self l hc i h1 hn
   refine Ev.neg (by decide) ?_
   by_cases h0 : (genL l i).length = 0
   ·refine Ev.neg (by omega) (Ev.pos (by omega) ?_)
    rw [genL_pos1 l i ?_] at ih
    ·exact ih
    ·refine Classical.byContradiction fun h => ?_
     obtain ⟨x, hx, _⟩ := Sums.cut (genL_pos l i) (hs.2 h) (by omega)
     rw [List.length_eq_zero_iff] at h0
     rw [h0] at hx
     simp at hx
   ·refine Ev.pos (by omega) (Ev.bnd (spec_tbl_ev (genL l i) i (genL_pos l i) (by omega) (by omega)) ?_)
    rw [rdOf_tblL _ (i + 1) i (by omega), tblL_length]
    refine Ev.pos (by omega) (Ev.pos (by omega) ?_)
    by_cases h : irr l (i : Int)
    ·rw [genL_pos1 l i h] at ih
     refine Ev.neg (fun e => ?_) (Ev.pos (by omega) ih)
     exact hs.1 ((elB_iff _ _).1 e) h
    ·rw [genL_neg1 l i h] at ih
     exact Ev.pos ((elB_iff _ _).2 (hs.2 h)) ih
/-- What FromGaps answers. -/
noncomputable def fromS (l : List Int) (b : Bool) : List Int × Bool := if b = true then (genL l 401, true) else ([], false)
theorem fromS_len (l : List Int) (b : Bool) : (fromS l b).1.length ≤ 401 := by
 unfold fromS
 split
 ·exact genL_len l 401
 ·simp
/-- Whether the numbers beside a list are a semigroup. -/
def gapsOk (l : List Int) : Prop := okL l ∧ ¬ clP l 1 ∧ SG (genL l 401)
/-! fromboth: FromGaps of both sides -/
theorem impl_FromGaps_t (l gs : List Int) (n : Nat) (hn : n ≤ 400) (r : List Int × Bool) (h : Ev (fun k => impl_FromGaps.l1 k l (mk l 401) ((n + 1 : Nat) : Int) gs) r) (a : Nat) :
  Ev (fun k => impl_FromGaps.l2 k l (mk l 401) (n : Int) true (a : Int) gs) r := by
 refine Ev.one (fun k => by rw [impl_FromGaps.l2]) ?_
 rw [w64_succ n (by omega)]
 by_cases e : wrap64 (2 * (a : Int)) ≤ (n : Int)
 ·exact Ev.pos e (Ev.pos rfl h)
 ·exact Ev.neg e (Ev.pos rfl h)
theorem no_pair (l : List Int) (n a : Nat) (h1 : 1 ≤ n) (hn : (n : Int) ∉ l) (h2 : n < 2 * a) (hs : ∀ q : Nat, 1 ≤ q → q < a → (q : Int) ∈ l ∨ (n : Int) - (q : Int) ∈ l) : irr l (n : Int) := by
 refine ⟨by omega, hn, ?_⟩
 rintro ⟨x, y, hx, hy, e, hxl, hyl⟩
 rcases Int.le_total x y with o | o
 ·have := hs x.toNat (by omega) (by omega)
  rw [show ((x.toNat : Nat) : Int) = x from by omega, show (n : Int) - x = y from by omega] at this
  exact this.elim hxl hyl
 ·have := hs y.toNat (by omega) (by omega)
  rw [show ((y.toNat : Nat) : Int) = y from by omega, show (n : Int) - y = x from by omega] at this
  exact this.elim hyl hxl
theorem impl_FromGaps_l2 (l : List Int) (n : Nat) (h1 : 1 ≤ n) (hn : n ≤ 400) (hnl : (n : Int) ∉ l) (r : List Int × Bool) (h : Ev (fun k => impl_FromGaps.l1 k l (mk l 401) ((n + 1 : Nat) : Int) (genL l (n + 1))) r) :
  ∀ (d a : Nat), n < 2 * a + 2 * d → 1 ≤ a → a ≤ 401 → (∀ q : Nat, 1 ≤ q → q < a → (q : Int) ∈ l ∨ (n : Int) - (q : Int) ∈ l) →
  Ev (fun k => impl_FromGaps.l2 k l (mk l 401) (n : Int) false (a : Int) (genL l n)) r := by
 have hgl := genL_len l n
 have hml := mk_len l 401
 have last : ∀ a : Nat, n < 2 * a → a ≤ 401 → (∀ q : Nat, 1 ≤ q → q < a → (q : Int) ∈ l ∨ (n : Int) - (q : Int) ∈ l) → Ev (fun k => impl_FromGaps.l2 k l (mk l 401) (n : Int) false (a : Int) (genL l n)) r := by
  intro a h2 h3 hs
  have hi := no_pair l n a h1 hnl h2 hs
  rw [genL_pos1 l n hi] at h
  refine Ev.one (fun k => by rw [impl_FromGaps.l2]) ?_
  rw [w64_succ n (by omega), w64_of (x := 2 * (a : Int)) (by omega) (by omega)]
  exact Ev.neg (by omega) (Ev.neg (by decide) (Ev.pos (by omega) h))
 intro d
 induction d with
 | zero =>
  intro a h2 h3 h4 hs
  exact last a (by omega) h4 hs
 | succ d ih =>
  intro a h2 h3 h4 hs
  by_cases hq : n < 2 * a
  ·exact last a hq h4 hs
  have e1 : (n : Int) - (a : Int) = ((n - a : Nat) : Int) := by omega
  have step : ((a : Int) ∈ l ∨ (n : Int) - (a : Int) ∈ l) → Ev (fun k => impl_FromGaps.l2 k l (mk l 401) (n : Int) false ((a + 1 : Nat) : Int) (genL l n)) r := by
   intro hp
   refine ih (a + 1) (by omega) (by omega) (by omega) (fun q q1 q2 => ?_)
   by_cases e : q = a
   ·subst e; exact hp
   ·exact hs q q1 (by omega)
  refine Ev.one (fun k => by rw [impl_FromGaps.l2]) ?_
  rw [w64_succ a (by omega), w64_of (x := 2 * (a : Int)) (by omega) (by omega), mk_at l 401 a (by omega), w64_of (x := (n : Int) - (a : Int)) (by omega) (by omega), e1, mk_at l 401 (n - a) (by omega), ← e1]
  refine Ev.pos (by omega) (Ev.neg (by decide) (Ev.pos (by omega) (Ev.pos (by omega) ?_)))
  by_cases hA : (a : Int) ∈ l
  ·rw [decide_eq_true hA]
   exact Ev.pos rfl (step (.inl hA))
  ·rw [decide_eq_false hA]
   refine Ev.neg (by decide) (Ev.pos (by omega) (Ev.pos (by omega) ?_))
   by_cases hB : (n : Int) - (a : Int) ∈ l
   ·rw [decide_eq_true hB]
    exact step (.inr hB)
   ·rw [decide_eq_false hB]
    have hi : ¬ irr l (n : Int) := fun hi => hi.2.2 ⟨(a : Int), (n : Int) - (a : Int), by omega, by omega, by omega, hA, hB⟩
    rw [genL_neg1 l n hi] at h
    exact impl_FromGaps_t l _ n hn r h (a + 1)
theorem impl_FromGaps_l1 (l : List Int) (ok : okL l) (hc : ¬ clP l 1) (b : Bool) (hb : b = true ↔ SG (genL l 401)) :
  ∀ (d i : Nat), i + d = 401 → 1 ≤ i → Ev (fun k => impl_FromGaps.l1 k l (mk l 401) (i : Int) (genL l i)) (fromS l b) := by
 have hml := mk_len l 401
 intro d
 induction d with
 | zero =>
  intro i hi h1
  obtain rfl : i = 401 := by omega
  have hgl := genL_len l 401
  obtain ⟨c, c1, _, c2⟩ := sg_both (genL l 401) (by omega)
  have e : c = b := bool_same c1 hb
  subst e
  refine Ev.one (fun k => by rw [impl_FromGaps.l1]) ?_
  rw [hml]
  refine Ev.neg (by omega) (Ev.bnd c2 ?_)
  unfold fromS
  cases c with
  | false => exact Ev.neg (by decide) (Ev.now _)
  | true =>
   obtain ⟨c', d1, d2⟩ := impl_gaps_ev (genL l 401) (by omega)
   have e' : c' = true := d1.2 (hb.1 rfl)
   subst e'
   have eg : gapsS true (genL l 401) = l := by
    unfold gapsS
    rw [if_pos rfl]
    exact gapL_gens l ok hc 401 (by omega)
   rw [eg] at d2
   have hll : l.length ≤ 1048576 := by
    have := gapsS_len true (genL l 401)
    rw [eg] at this
    omega
   obtain ⟨q, q1, q2⟩ := equal_ev l l hll
   have eq : q = true := q1.2 rfl
   subst eq
   exact Ev.pos rfl (Ev.bnd d2 (Ev.bnd q2 (Ev.pos rfl (Ev.now _))))
 | succ d ih =>
  intro i hi h1
  have ih := ih (i + 1) (by omega) (by omega)
  refine Ev.one (fun k => by rw [impl_FromGaps.l1]) ?_
  rw [hml, mk_at l 401 i (by omega)]
  refine Ev.pos (by omega) (Ev.pos (by omega) ?_)
  by_cases hn : (i : Int) ∈ l
  ·rw [decide_eq_true hn]
   rw [genL_neg1 l i (fun e => e.2.1 hn)] at ih
   exact impl_FromGaps_t l _ i (by omega) _ ih 1
  ·rw [decide_eq_false hn]
   exact impl_FromGaps_l2 l i h1 (by omega) hn _ ih i 1 (by omega) (by omega) (by omega) (fun q q1 q2 => by omega)
theorem impl_FromGaps_l0 (l : List Int) (hl : l.length ≤ 1048576) (ok : okL l) (hc : ¬ clP l 1) (b : Bool) (hb : b = true ↔ SG (genL l 401)) :
  ∀ (d i : Nat), i + d = l.length → Ev (fun k => impl_FromGaps.l0 k l (mk (l.take i) 401) l (l.length : Int) (i : Int)) (fromS l b) := by
 intro d
 induction d with
 | zero =>
  intro i hi
  refine Ev.one (fun k => by rw [impl_FromGaps.l0]) ?_
  rw [List.take_of_length_le (by omega)]
  have h := impl_FromGaps_l1 l ok hc b hb 400 1 (by omega) (by omega)
  rw [genL_one] at h
  exact Ev.neg (by omega) h
 | succ d ih =>
  intro i hi
  have ih := ih (i + 1) (by omega)
  have a1 := ok.2 _ (List.getElem_mem (show i < l.length by omega))
  refine Ev.one (fun k => by rw [impl_FromGaps.l0]) ?_
  rw [rd_at l i (by omega), mk_next l 401 i (by omega) (by omega), w64_succ i (by omega), mk_len]
  exact Ev.pos (by omega) (Ev.pos (by omega) (Ev.pos (by omega) (Ev.pos (by omega) (Ev.pos (by omega) ih))))
theorem from_both (l : List Int) (hl : l.length ≤ 1048576) : ∃ b, (b = true ↔ okL l ∧ ¬ clP l 1 ∧ SG (genL l 401)) ∧ Ev (fun k => spec_FromGaps.f k l) (fromS l b) ∧ Ev (fun k => impl_FromGaps.f k l) (fromS l b) := by
 obtain ⟨r, r1, r2⟩ := spec_GapClash_ev l hl
 obtain ⟨s, s1, s2⟩ := impl_GapClash_ev l hl
 obtain ⟨c, c1, c2⟩ := spec_l8Gaps_ev l hl
 obtain ⟨e, e1, e2⟩ := impl_gapList_ev l hl
 obtain rfl : c = e := bool_same c1 e1
 have rs : r.2.2 = s.2.2 := bool_same r1 s1
 have outS : Ev (fun k => spec_FromGaps.j0 k l true) (fromS l false) := by
  refine Ev.one (fun k => by rw [spec_FromGaps.j0]) ?_
  exact Ev.pos rfl (Ev.now _)
 have outI : Ev (fun k => impl_FromGaps.j0 k l true) (fromS l false) := by
  refine Ev.one (fun k => by rw [impl_FromGaps.j0]) ?_
  exact Ev.pos rfl (Ev.now _)
 unfold spec_FromGaps.f impl_FromGaps.f
 cases hcl : r.2.2 with
 | true =>
  have ho := r1.1 hcl
  have hs : s.2.2 = true := by rw [← rs]; exact hcl
  refine ⟨false, ⟨(fun e => by cases e), fun e => absurd ho.2 e.2.1⟩, Ev.bnd r2 (Ev.bnd c2 (Ev.pos (c1.2 ho.1) ?_)), Ev.bnd s2 (Ev.pos hs outI)⟩
  rw [hcl]
  exact outS
 | false =>
  have hs : s.2.2 = false := by rw [← rs]; exact hcl
  cases hc : c with
  | false =>
   rw [hc] at c1 c2 e2
   refine ⟨false, ⟨(fun e => by cases e), fun e => c1.2 e.1⟩, Ev.bnd r2 (Ev.bnd c2 (Ev.neg (by decide) outS)), Ev.bnd s2 (Ev.neg (by rw [hs]; decide) (Ev.bnd e2 outI))⟩
  | true =>
   rw [hc] at c1 c2 e2
   have ok := c1.1 rfl
   have ncl : ¬ clP l 1 := fun h => by have := r1.2 ⟨ok, h⟩; rw [hcl] at this; cases this
   have hgl := genL_len l 401
   obtain ⟨b, b1, _, _⟩ := sg_both (genL l 401) (by omega)
   refine ⟨b, by rw [b1]; exact ⟨fun h => ⟨ok, ncl, h⟩, fun h => h.2.2⟩, Ev.bnd r2 (Ev.bnd c2 (Ev.pos rfl ?_)), Ev.bnd s2 (Ev.neg (by rw [hs]; decide) (Ev.bnd e2 ?_))⟩
   ·rw [hcl]
    refine Ev.one (fun k => by rw [spec_FromGaps.j0]) ?_
    have far : ∀ most : Nat, most ≤ 199 → (∀ x ∈ l, x ≤ (most : Int)) → Ev (fun k => spec_FromGaps.j1 k l [] (most : Int)) (fromS l b) := by
     intro most hm hx
     have eg : genL l 401 = genL l (2 * most + 3) := by
      have := genL_far l most hx (401 - (2 * most + 3))
      rw [show 2 * most + 3 + (401 - (2 * most + 3)) = 401 from by omega] at this
      exact this
     refine Ev.one (fun k => by rw [spec_FromGaps.j1]) ?_
     have h := spec_FromGaps_l0 l hl ncl most hm b (by rw [b1, eg]) (2 * most + 2) 1 (by omega) (by omega)
     rw [genL_one] at h
     unfold fromS
     rw [eg]
     exact h
    refine Ev.neg (by decide) (Ev.some ?_)
    by_cases h0 : l.length = 0
    ·refine Ev.neg (by omega) (far 0 (by omega) (fun x hx => ?_))
     rw [List.length_eq_zero_iff] at h0
     rw [h0] at hx
     simp at hx
    ·obtain ⟨most, m1, m2, m3, m4⟩ := okL_top l ok (by omega)
     have e1 : wrap64 ((l.length : Int) - 1) = ((l.length - 1 : Nat) : Int) := by rw [w64_of (by omega) (by omega)]; omega
     rw [e1, m1]
     exact Ev.pos (by omega) (Ev.pos (by omega) (Ev.pos (by omega) (far most m3 m4)))
   ·refine Ev.one (fun k => by rw [impl_FromGaps.j0]) ?_
    have h := impl_FromGaps_l0 l hl ok ncl b b1 l.length 0 (by omega)
    rw [List.take_zero, mk_nil] at h
    exact Ev.neg (by decide) (Ev.pos (by omega) h)
/-! without: spec.l19Without -/
theorem spec_l19Without_l0 (l : List Int) (x : Int) (hl : l.length ≤ 1048576) : ∀ (d i : Nat), i + d = l.length → Ev (fun k => spec_l19Without.l0 k l x ((l.take i).filter fun y => decide (y ≠ x)) (i : Int)) (l.filter fun y => decide (y ≠ x)) := by
 intro d
 induction d with
 | zero =>
  intro i hi
  rw [List.take_of_length_le (by omega)]
  refine Ev.one (fun k => by rw [spec_l19Without.l0]) ?_
  exact Ev.neg (by omega) (Ev.now _)
 | succ d ih =>
  intro i hi
  have hil : i < l.length := by omega
  have ih := ih (i + 1) (by omega)
  have hf := List.length_filter_le (fun y => decide (y ≠ x)) (l.take i)
  rw [List.length_take] at hf
  rw [List.take_succ_eq_append_getElem hil, List.filter_append] at ih
  refine Ev.one (fun k => by rw [spec_l19Without.l0]) ?_
  rw [rd_at l i hil, w64_succ i (by omega)]
  refine Ev.pos (by omega) (Ev.pos (by omega) ?_)
  by_cases h : l[i] = x
  ·rw [List.filter_cons_of_neg (by rw [decide_eq_false (by simpa using h)]; decide), List.filter_nil, List.append_nil] at ih
   exact Ev.pos h ih
  ·rw [List.filter_cons_of_pos (p := fun y => decide (y ≠ x)) (decide_eq_true h), List.filter_nil] at ih
   exact Ev.neg h (Ev.pos (by omega) ih)
theorem spec_l19Without_ev (l : List Int) (x : Int) (hl : l.length ≤ 1048576) : Ev (fun k => spec_l19Without.f k l x) (l.filter fun y => decide (y ≠ x)) := by
 unfold spec_l19Without.f
 exact spec_l19Without_l0 l x hl l.length 0 (by omega)
/-! nestedsg: eqSemigroupS, markSemigroupS, heldSemigroupS -/
theorem rd_T26_at (xs : List S26) (i : Nat) (h : i < xs.length) : rd_T26 xs (i : Int) = xs[i] := by
 unfold rd_T26
 rw [Int.toNat_natCast, List.getD_eq_getElem?_getD, List.getElem?_eq_getElem h, Option.getD_some]
def marksT : List S26 → Int → List S26
 | [], _ => []
 | x :: r, a => ⟨marks x.f0 a⟩ :: marksT r (a + (x.f0.length : Int))
def totT : List S26 → Int
 | [] => 0
 | x :: r => (x.f0.length : Int) + totT r
theorem totT_rng (c : Nat) : ∀ l : List S26, (∀ x ∈ l, x.f0.length ≤ c) → 0 ≤ totT l ∧ totT l ≤ (c : Int) * (l.length : Int) := by
 intro l
 induction l with
 | nil => intro _; simp [totT]
 | cons x r ih =>
  intro h
  have h1 := h x List.mem_cons_self
  have := ih (fun y hy => h y (List.mem_cons_of_mem _ hy))
  rw [totT, List.length_cons, Int.natCast_add, Int.mul_add]
  omega
theorem eqSemigroupS_l0 (l : List S26) (hl : l.length ≤ 100000000000) (hx : ∀ x ∈ l, x.f0.length ≤ 1000) : ∀ (d i : Nat), i + d = l.length → Ev (fun k => laws_eqSemigroupS.l0 k l l (i : Int)) true := by
 intro d
 induction d with
 | zero =>
  intro i hi
  refine Ev.one (fun k => by rw [laws_eqSemigroupS.l0]) ?_
  exact Ev.neg (by omega) (Ev.now _)
 | succ d ih =>
  intro i hi
  have hil : i < l.length := by omega
  have h1 := hx _ (List.getElem_mem hil)
  refine Ev.one (fun k => by rw [laws_eqSemigroupS.l0]) ?_
  rw [rd_T26_at l i hil, w64_succ i (by omega)]
  exact Ev.pos (by omega) (Ev.pos (by omega) (Ev.pos (by omega) (Ev.bnd (eqSemigroup_ev l[i].f0 (by omega)) (Ev.pos rfl (ih (i + 1) (by omega))))))
theorem eqSemigroupS_ev (l : List S26) (hl : l.length ≤ 100000000000) (hx : ∀ x ∈ l, x.f0.length ≤ 1000) : Ev (fun k => laws_eqSemigroupS.f k l l) true := by
 unfold laws_eqSemigroupS.f
 exact Ev.pos rfl (eqSemigroupS_l0 l hl hx l.length 0 (by omega))
theorem set_atT {α : Type} (a b : List α) (x v : α) : (a ++ x :: b).set a.length v = (a ++ [v]) ++ b := by simp
theorem markSemigroupS_l0 : ∀ (r done : List S26) (a : Int), (∀ x ∈ r, x.f0.length ≤ 1000) → done.length + r.length ≤ 100000000000 → 0 ≤ a → a + 1000 * (r.length : Int) ≤ 4611686018427387904 →
  Ev (fun k => laws_markSemigroupS.l0 k (done ++ r) a (done.length : Int)) (a + totT r, done ++ marksT r a) := by
 intro r
 induction r with
 | nil =>
  intro done a _ hl h0 h1
  refine Ev.one (fun k => by rw [laws_markSemigroupS.l0]) ?_
  rw [totT, marksT, Int.add_zero, List.append_nil]
  exact Ev.neg (by omega) (Ev.now _)
 | cons x r ih =>
  intro done a hx hl h0 h1
  rw [List.length_cons] at hl h1
  have hx1 := hx x List.mem_cons_self
  have ih := ih (done ++ [⟨marks x.f0 a⟩]) (a + (x.f0.length : Int)) (fun y hy => hx y (List.mem_cons_of_mem _ hy)) (by rw [List.length_append, List.length_singleton]; omega) (by omega) (by omega)
  have e : rd_T26 (done ++ x :: r) (done.length : Int) = x := by
   rw [rd_T26_at _ done.length (by rw [List.length_append, List.length_cons]; omega)]
   simp
  refine Ev.one (fun k => by rw [laws_markSemigroupS.l0]) ?_
  rw [e]
  refine Ev.pos (by rw [List.length_append, List.length_cons]; omega) (Ev.pos (by omega) (Ev.bnd (markIntS_ev x.f0 a (by omega) (by omega) (by omega)) ?_))
  rw [Int.toNat_natCast, set_atT, w64_succ done.length (by omega), totT, marksT, show a + ((x.f0.length : Int) + totT r) = a + (x.f0.length : Int) + totT r from by omega, show done ++ ⟨marks x.f0 a⟩ :: marksT r (a + (x.f0.length : Int)) = (done ++ [⟨marks x.f0 a⟩]) ++ marksT r (a + (x.f0.length : Int)) from by simp]
  rw [List.length_append, List.length_singleton] at ih
  exact ih
theorem markSemigroupS_ev (l : List S26) (hl : l.length ≤ 100000000000) (hx : ∀ x ∈ l, x.f0.length ≤ 1000) : Ev (fun k => laws_markSemigroupS.f k l 1) (1 + totT l, marksT l 1) := markSemigroupS_l0 l [] 1 hx (by simpa using hl) (by omega) (by omega)
theorem marksT_len : ∀ (l : List S26) (a : Int), (marksT l a).length = l.length := by
 intro l
 induction l with
 | nil => intro a; rfl
 | cons x r ih => intro a; rw [marksT, List.length_cons, ih, List.length_cons]
theorem heldSemigroupS_l0 : ∀ (r done : List S26) (a : Int), (∀ x ∈ r, x.f0.length ≤ 1000) → done.length + r.length ≤ 100000000000 → 0 ≤ a → a + 1000 * (r.length : Int) ≤ 4611686018427387904 →
  Ev (fun k => laws_heldSemigroupS.l0 k (done ++ marksT r a) a (done.length : Int)) (a + totT r) := by
 intro r
 induction r with
 | nil =>
  intro done a _ hl h0 h1
  refine Ev.one (fun k => by rw [laws_heldSemigroupS.l0]) ?_
  rw [totT, marksT, Int.add_zero, List.append_nil]
  exact Ev.neg (by omega) (Ev.now _)
 | cons x r ih =>
  intro done a hx hl h0 h1
  rw [List.length_cons] at hl h1
  have hx1 := hx x List.mem_cons_self
  have ih := ih (done ++ [⟨marks x.f0 a⟩]) (a + (x.f0.length : Int)) (fun y hy => hx y (List.mem_cons_of_mem _ hy)) (by rw [List.length_append, List.length_singleton]; omega) (by omega) (by omega)
  have hml := marksT_len r (a + (x.f0.length : Int))
  have e : rd_T26 (done ++ ⟨marks x.f0 a⟩ :: marksT r (a + (x.f0.length : Int))) (done.length : Int) = ⟨marks x.f0 a⟩ := by
   rw [rd_T26_at _ done.length (by rw [List.length_append, List.length_cons]; omega)]
   simp
  refine Ev.one (fun k => by rw [laws_heldSemigroupS.l0]) ?_
  rw [marksT, e]
  refine Ev.pos (by rw [List.length_append, List.length_cons]; omega) (Ev.pos (by omega) (Ev.bnd (heldIntS_ev x.f0 a (by omega) (by omega) (by omega)) (Ev.neg (by omega) ?_)))
  rw [w64_succ done.length (by omega), totT, show a + ((x.f0.length : Int) + totT r) = a + (x.f0.length : Int) + totT r from by omega, show done ++ ⟨marks x.f0 a⟩ :: marksT r (a + (x.f0.length : Int)) = (done ++ [⟨marks x.f0 a⟩]) ++ marksT r (a + (x.f0.length : Int)) from by simp]
  rw [List.length_append, List.length_singleton] at ih
  exact ih
theorem heldSemigroupS_ev (l : List S26) (hl : l.length ≤ 100000000000) (hx : ∀ x ∈ l, x.f0.length ≤ 1000) : Ev (fun k => laws_heldSemigroupS.f k (marksT l 1) 1) (1 + totT l) := heldSemigroupS_l0 l [] 1 hx (by simpa using hl) (by omega) (by omega)
/-! pfro0: PseudoFrobenius of both sides -/
noncomputable def pfB (g : List Int) (x : Int) : Bool := g.all fun y => elB g (x + y)
noncomputable def pfL (g : List Int) : List Int := (gapL g).filter (pfB g)
theorem gap_at (g : List Int) (j : Nat) (hj : j < (gapL g).length) : 0 ≤ (gapL g)[j] ∧ (gapL g)[j] < 200 := by
 have := (gapL_mem g _).1 (List.getElem_mem hj)
 omega
theorem gap_sum (g : List Int) (hS : SG g) (j : Nat) (hj : j < (gapL g).length) (y : Int) (hy : y ∈ g) (b : Bool) (hb : b = true ↔ (gapL g)[j] + y ∈ gapL g) : (!b) = elB g ((gapL g)[j] + y) := by
 have h1 := gap_at g j hj
 have h2 := hS.rng y hy
 refine elB_of ?_
 rw [Bool.not_eq_true', ← Bool.not_eq_true, hb, gapL_mem]
 constructor
 ·intro h
  refine Classical.byContradiction fun hn => h ⟨by omega, ?_, hn⟩
  refine Classical.byContradiction fun h3 => hn (hS.ends _ (by omega))
 ·intro h h3
  exact h3.2.2 h
theorem all_succ (g : List Int) (p : Int → Bool) (i : Nat) (hi : i < g.length) : (g.take (i + 1)).all p = ((g.take i).all p && p g[i]) := by
 rw [List.take_succ_eq_append_getElem hi, List.all_append]
 simp
theorem spec_pf_l1 (g : List Int) (hS : SG g) (acc : List Int) (j : Nat) (hj : j < (gapL g).length) (hacc : acc.length ≤ 200) {r : List Int}
  (hn : Ev (fun k => spec_PseudoFrobenius.l0 k (if pfB g (gapL g)[j] = true then acc ++ [(gapL g)[j]] else acc) (gapL g) ((j + 1 : Nat) : Int) g) r) :
  ∀ d i, i + d = g.length → Ev (fun k => spec_PseudoFrobenius.l1 k acc (gapL g) (j : Int) ((g.take i).all fun y => elB g ((gapL g)[j] + y)) (i : Int) g) r := by
 have hgl := gapL_len g
 have h200 := gap_at g j hj
 have hl2 := hS.len2
 intro d
 induction d with
 | zero =>
  intro i hi
  obtain rfl : i = g.length := by omega
  rw [List.take_length]
  refine Ev.one (fun k => by rw [spec_PseudoFrobenius.l1]) ?_
  rw [rd_at _ j hj, w64_succ j (by omega)]
  refine Ev.neg (by omega) ?_
  change Ev (fun k => if pfB g (gapL g)[j] = true then _ else _) r
  cases hb : pfB g (gapL g)[j] with
  | true =>
   rw [hb, if_pos rfl] at hn
   exact Ev.pos rfl (Ev.pos (by omega) (Ev.pos (by omega) (Ev.pos (by omega) hn)))
  | false =>
   rw [hb, if_neg (by decide)] at hn
   exact Ev.neg (by decide) hn
 | succ d ih =>
  intro i hi
  have hig : i < g.length := by omega
  have hy := hS.rng g[i] (List.getElem_mem hig)
  have ih := ih (i + 1) (by omega)
  rw [all_succ g _ i hig] at ih
  refine Ev.one (fun k => by rw [spec_PseudoFrobenius.l1]) ?_
  rw [rd_at _ j hj, rd_at g i hig, w64_succ i (by omega), w64_of (by omega) (by omega)]
  refine Ev.pos (by omega) ?_
  cases hb : (g.take i).all fun y => elB g ((gapL g)[j] + y) with
  | false =>
   rw [hb, Bool.false_and] at ih
   exact Ev.neg (by decide) ih
  | true =>
   rw [hb, Bool.true_and] at ih
   obtain ⟨b, b1, b2⟩ := spec_HasNumber_ev (gapL g) ((gapL g)[j] + g[i]) (by omega)
   rw [← gap_sum g hS j hj g[i] (List.getElem_mem hig) b b1] at ih
   exact Ev.pos rfl (Ev.pos (by omega) (Ev.pos (by omega) (Ev.pos (by omega) (Ev.bnd b2 ih))))
theorem spec_pf_l0 (g : List Int) (hS : SG g) : ∀ d j, j + d = (gapL g).length → Ev (fun k => spec_PseudoFrobenius.l0 k (((gapL g).take j).filter (pfB g)) (gapL g) (j : Int) g) (pfL g) := by
 have hgl := gapL_len g
 intro d
 induction d with
 | zero =>
  intro j hj
  rw [List.take_of_length_le (by omega)]
  refine Ev.one (fun k => by rw [spec_PseudoFrobenius.l0]) ?_
  exact Ev.neg (by omega) (Ev.now _)
 | succ d ih =>
  intro j hj
  have hjl : j < (gapL g).length := by omega
  have ih := ih (j + 1) (by omega)
  have hf := List.length_filter_le (pfB g) ((gapL g).take j)
  rw [List.length_take] at hf
  rw [List.take_succ_eq_append_getElem hjl, List.filter_append] at ih
  refine Ev.one (fun k => by rw [spec_PseudoFrobenius.l0]) ?_
  refine Ev.pos (by omega) ?_
  refine spec_pf_l1 g hS _ j hjl (by omega) ?_ g.length 0 (by omega)
  cases hb : pfB g (gapL g)[j] with
  | true => rw [List.filter_cons_of_pos hb, List.filter_nil] at ih; rw [if_pos rfl]; exact ih
  | false => rw [List.filter_cons_of_neg (by rw [hb]; decide), List.filter_nil, List.append_nil] at ih; rw [if_neg (by decide)]; exact ih
noncomputable def pfS (b : Bool) (g : List Int) : List Int := if b = true then pfL g else []
theorem pfS_len (b : Bool) (g : List Int) : (pfS b g).length ≤ 200 := by
 unfold pfS
 split
 ·exact Nat.le_trans (List.length_filter_le ..) (gapL_len g)
 ·simp
theorem pfS_mem (b : Bool) (g : List Int) (x : Int) (h : x ∈ pfS b g) : b = true ∧ x ∈ gapL g := by
 unfold pfS at h
 cases b with
 | true => rw [if_pos rfl] at h; exact ⟨rfl, (List.mem_filter.1 h).1⟩
 | false => rw [if_neg (by decide)] at h; cases h
theorem spec_pf_ev (g : List Int) (b : Bool) (b1 : b = true ↔ SG g) (b2 : Ev (fun k => spec_Gaps.f k g) (gapsS b g)) : Ev (fun k => spec_PseudoFrobenius.f k g) (pfS b g) := by
 unfold spec_PseudoFrobenius.f
 cases b with
 | false =>
  refine Ev.bnd b2 ?_
  refine Ev.one (fun k => by rw [spec_PseudoFrobenius.l0]) ?_
  exact Ev.neg (by simp [gapsS]) (Ev.now _)
 | true =>
  have hS := b1.1 rfl
  have e : gapsS true g = gapL g := if_pos rfl
  rw [e] at b2
  exact Ev.bnd b2 (spec_pf_l0 g hS (gapL g).length 0 (by omega))
/-! sponly: SpecialGaps and AddGap of the reference alone -/
noncomputable def sgB (g : List Int) (x : Int) : Bool := elB g (2 * x)
noncomputable def spS (b : Bool) (g : List Int) : List Int := (pfS b g).filter (sgB g)
theorem spS_len (b : Bool) (g : List Int) : (spS b g).length ≤ 200 := Nat.le_trans (List.length_filter_le ..) (pfS_len b g)
theorem spec_sp_l0 (b : Bool) (g : List Int) (hS : b = true → SG g) : ∀ d j, j + d = (pfS b g).length → Ev (fun k => spec_SpecialGaps.l0 k (((pfS b g).take j).filter (sgB g)) (pfS b g) (j : Int) g) (spS b g) := by
 have hgl := pfS_len b g
 intro d
 induction d with
 | zero =>
  intro j hj
  rw [List.take_of_length_le (by omega)]
  refine Ev.one (fun k => by rw [spec_SpecialGaps.l0]) ?_
  exact Ev.neg (by omega) (Ev.now _)
 | succ d ih =>
  intro j hj
  have hjl : j < (pfS b g).length := by omega
  obtain ⟨e, hm⟩ := pfS_mem b g _ (List.getElem_mem hjl)
  have hx := (gapL_mem g _).1 hm
  have ih := ih (j + 1) (by omega)
  have hf := List.length_filter_le (sgB g) ((pfS b g).take j)
  rw [List.length_take] at hf
  rw [List.take_succ_eq_append_getElem hjl, List.filter_append] at ih
  refine Ev.one (fun k => by rw [spec_SpecialGaps.l0]) ?_
  rw [rd_at _ j hjl, w64_succ j (by omega), w64_of (x := 2 * (pfS b g)[j]) (by omega) (by omega)]
  obtain ⟨c, c1, c2⟩ := spec_l3Has_ev g (hS e) (2 * (pfS b g)[j])
  have e2 : c = sgB g (pfS b g)[j] := elB_of (c1.trans ⟨fun h => h.1, fun h => ⟨h, by omega⟩⟩)
  refine Ev.pos (by omega) (Ev.pos (by omega) (Ev.bnd c2 ?_))
  rw [e2]
  cases hb : sgB g (pfS b g)[j] with
  | true => rw [List.filter_cons_of_pos hb, List.filter_nil] at ih; exact Ev.pos rfl (Ev.pos (by omega) ih)
  | false => rw [List.filter_cons_of_neg (by rw [hb]; decide), List.filter_nil, List.append_nil] at ih; exact Ev.neg (by decide) ih
theorem spec_sp_ev (g : List Int) (hlen : g.length ≤ 1048576) (hS : SG g) : Ev (fun k => spec_SpecialGaps.f k g) (spS true g) := by
 obtain ⟨b, b1, b2, _⟩ := gaps_both g hlen
 obtain rfl : b = true := b1.2 hS
 unfold spec_SpecialGaps.f
 exact Ev.bnd (spec_pf_ev g true b1 b2) (spec_sp_l0 true g (fun _ => hS) (pfS true g).length 0 (by omega))
/-! eqsg: spec.EqualSemigroup -/
theorem equalSg_ev (a b : List Int) (hl : a.length ≤ 1048576) : ∃ r, (r = true ↔ a = b) ∧ Ev (fun k => spec_EqualSemigroup.f k a b) r := by
 obtain ⟨r, r1, r2⟩ := spec_l2Same_ev a b hl
 exact ⟨r, r1, Ev.bnd r2 (Ev.now _)⟩
theorem equalSg_same (a : List Int) (hl : a.length ≤ 1048576) : Ev (fun k => spec_EqualSemigroup.f k a a) true := by
 obtain ⟨r, r1, r2⟩ := equalSg_ev a a hl
 rwa [r1.2 rfl] at r2
/-! sgirr: the generators of a semigroup are told by what it holds -/
/-- An element that is no sum of two others. -/
def irrS (g : List Int) (x : Int) : Prop := 1 ≤ x ∧ Sums g x ∧ ∀ a b, 1 ≤ a → 1 ≤ b → Sums g a → Sums g b → a + b ≠ x
theorem irr_mem (g : List Int) (hp : ∀ x ∈ g, 1 ≤ x) (x : Int) (h : irrS g x) : x ∈ g := by
 obtain ⟨y, hy, hle, hs⟩ := h.2.1.cut hp (by have := h.1; omega)
 by_cases e : x = y
 ·rw [e]; exact hy
 ·exact absurd (show y + (x - y) = x by omega) (h.2.2 y (x - y) (hp y hy) (by omega) (Sums.one hy) hs)
theorem mem_take (g : List Int) (hu : asc g) (k : Nat) (hk : k < g.length) (y : Int) (hy : y ∈ g) (hl : y < g[k]) : y ∈ g.take k := by
 obtain ⟨j, hj, rfl⟩ := List.getElem_of_mem hy
 have hjk : j < k := Classical.byContradiction fun hn => by
  by_cases e : j = k
  ·subst e; omega
  ·have := List.pairwise_iff_getElem.1 hu k j hk hj (by omega)
   omega
 exact List.mem_iff_getElem.2 ⟨j, by rw [List.length_take]; omega, List.getElem_take ..⟩
theorem sums_take (g : List Int) (hp : ∀ x ∈ g, 1 ≤ x) (hu : asc g) (k : Nat) (hk : k < g.length) : ∀ (q : Nat) (a : Int), a ≤ (q : Int) → Sums g a → a < g[k] → Sums (g.take k) a := by
 intro q
 induction q with
 | zero =>
  intro a ha hs _
  have := hs.nonneg hp
  rw [show a = 0 from by omega]
  exact Sums.zero _
 | succ q ih =>
  intro a ha hs hl
  by_cases h0 : a = 0
  ·rw [h0]; exact Sums.zero _
  obtain ⟨y, hy, hle, hc⟩ := hs.cut hp h0
  have hy1 := hp y hy
  have h1 := ih (a - y) (by omega) hc (by omega)
  have := h1.add (mem_take g hu k hk y hy (by omega))
  rwa [show a - y + y = a from by omega] at this
theorem min_irr (l : List Int) (hp : ∀ x ∈ l, 1 ≤ x) (hu : asc l) (y : Int) : y ∈ minL l ↔ irrS l y := by
 unfold minL
 rw [List.mem_map]
 constructor
 ·rintro ⟨k, hk, rfl⟩
  rw [List.mem_filter, List.mem_range, keptB_iff] at hk
  obtain ⟨hkl, hk⟩ := hk
  rw [getD_at l k hkl]
  have hm := List.getElem_mem hkl
  refine ⟨hp _ hm, Sums.one hm, fun a b ha hb hsa hsb e => ?_⟩
  have h1 := sums_take l hp hu k hkl a.toNat a (by omega) hsa (by omega)
  have h2 := sums_take l hp hu k hkl b.toNat b (by omega) hsb (by omega)
  rcases hk with h | h
  ·subst h
   rw [List.take_zero] at h1
   obtain ⟨z, hz, _⟩ := h1.cut (fun x hx => by cases hx) (by omega)
   cases hz
  ·rw [getD_at l k hkl, ← e] at h
   exact h (h1.both h2)
 ·intro h
  have hm := irr_mem l hp y h
  obtain ⟨k, hk, rfl⟩ := List.getElem_of_mem hm
  refine ⟨k, List.mem_filter.2 ⟨List.mem_range.2 hk, (keptB_iff l k).2 ?_⟩, getD_at l k hk⟩
  by_cases h0 : k = 0
  ·exact .inl h0
  refine .inr fun hs => ?_
  rw [getD_at l k hk] at hs
  obtain ⟨z, hz, hle, hc⟩ := hs.cut (fun x hx => hp x (List.mem_of_mem_take hx)) (by have := hp _ hm; omega)
  obtain ⟨j, hj, rfl⟩ := List.getElem_of_mem hz
  rw [List.length_take] at hj
  rw [List.getElem_take] at hle hc
  have hlt := List.pairwise_iff_getElem.1 hu j k (by omega) hk (by omega)
  have hjm := List.getElem_mem (show j < l.length by omega)
  exact h.2.2 l[j] (l[k] - l[j]) (hp _ hjm) (by omega) (Sums.one hjm) (Sums.mono (fun x hx => List.mem_of_mem_take hx) hc) (by omega)
theorem asc_min (l : List Int) (hu : asc l) : asc (minL l) := by
 unfold minL asc
 rw [List.pairwise_map]
 refine List.Pairwise.imp_of_mem (R := fun a b => a < b) (fun {a b} ha hb hab => ?_) (List.Pairwise.filter _ (List.pairwise_lt_range ..))
 have h1 := List.mem_range.1 (List.mem_filter.1 ha).1
 have h2 := List.mem_range.1 (List.mem_filter.1 hb).1
 rw [getD_at l a h1, getD_at l b h2]
 exact List.pairwise_iff_getElem.1 hu a b h1 h2 hab
theorem sg_irr (g : List Int) (hS : SG g) (y : Int) : y ∈ g ↔ irrS g y := by
 have := min_irr g (fun x hx => (hS.rng x hx).1) hS.up y
 rwa [(minL_iff g).2 hS.free] at this
/-! gsum: what the gaps tell of the sums -/
theorem sums_gaps {g l : List Int} (hS : SG g) (h : gapL g = l) (n : Int) (h0 : 0 ≤ n) : Sums g n ↔ n ∉ l := by
 subst h
 rw [gapL_mem]
 constructor
 ·exact fun h e => e.2.2 h
 ·intro h
  refine Classical.byContradiction fun hn => ?_
  by_cases h2 : n < 200
  ·exact h ⟨h0, h2, hn⟩
  ·exact hn (hS.ends n (by omega))
theorem nodup_len : ∀ (m : Nat) (l : List Nat), l.Nodup → (∀ x ∈ l, x < m) → l.length ≤ m
 | 0, l, _, h => by
  cases l with
  | nil => simp
  | cons x l => have := h x (List.mem_cons_self ..); omega
 | m + 1, l, hn, h => by
  have h1 := nodup_len m (l.erase m) (hn.erase m) (fun x hx => by
   have := (hn.mem_erase_iff).1 hx
   have := h x this.2
   omega)
  by_cases hm : m ∈ l
  ·rw [List.length_erase_of_mem hm] at h1
   omega
  ·rw [List.erase_of_not_mem hm] at h1
   omega
/-! smallsg: a semigroup of small genus has few small generators -/
theorem sub_len {α : Type} [DecidableEq α] : ∀ (m l : List α), m.Nodup → (∀ x ∈ m, x ∈ l) → m.length ≤ l.length
 | [], l, _, _ => Nat.zero_le _
 | y :: m, l, hn, h => by
  have hy := h y (List.mem_cons_self ..)
  obtain ⟨h1, h2⟩ := List.nodup_cons.1 hn
  have := sub_len m (l.erase y) h2 (fun x hx => (List.mem_erase_of_ne (show x ≠ y from fun e => h1 (e ▸ hx))).2 (h x (List.mem_cons_of_mem _ hx)))
  rw [List.length_erase_of_mem hy] at this
  have := List.length_pos_of_mem hy
  rw [List.length_cons]
  omega
theorem gcdL_dvd : ∀ (l : List Int) (x : Nat), x ≤ 1000000 → (∀ y ∈ l, 1 ≤ y ∧ y ≤ 1000000) → 0 ≤ l.foldl gcdS (x : Int) ∧ l.foldl gcdS (x : Int) ∣ (x : Int) ∧ ∀ y ∈ l, l.foldl gcdS (x : Int) ∣ y
 | [], x, _, _ => ⟨by show (0 : Int) ≤ (x : Int); omega, Int.dvd_refl _, fun y hy => by cases hy⟩
 | y :: l, x, hx, hl => by
  have hy := hl y (List.mem_cons_self ..)
  obtain ⟨z, rfl⟩ : ∃ z : Nat, y = (z : Int) := ⟨y.toNat, by omega⟩
  rw [List.foldl_cons, gcdS_nat x z hx (by omega)]
  obtain ⟨h1, h2, h3⟩ := gcdL_dvd l (Nat.gcd x z) (Nat.le_trans (Nat.gcd_le_right x (by omega)) (by omega)) (fun w hw => hl w (List.mem_cons_of_mem _ hw))
  refine ⟨h1, Int.dvd_trans h2 (Int.natCast_dvd_natCast.2 (Nat.gcd_dvd_left x z)), fun w hw => ?_⟩
  rcases List.mem_cons.1 hw with rfl | hw
  ·exact Int.dvd_trans h2 (Int.natCast_dvd_natCast.2 (Nat.gcd_dvd_right x z))
  ·exact h3 w hw
theorem sums_dvd {g : List Int} {D n : Int} (hD : ∀ y ∈ g, D ∣ y) (h : Sums g n) : D ∣ n :=
 Sums.ind (P := fun n => D ∣ n) (Int.dvd_zero D) (fun x n hx _ hn => Int.dvd_add hn (hD x hx)) h
theorem irr_small (l : List Int) (hl : l.length ≤ 9) (x : Int) (h : irr l x) : x ≤ 20 := by
 refine Classical.byContradiction fun hx => ?_
 have hf : ∀ i : Nat, i < 10 → ((i : Int) + 1 ∈ l ∨ x - ((i : Int) + 1) ∈ l) := fun i hi => by
  refine Classical.byContradiction fun e => h.2.2 ⟨(i : Int) + 1, x - ((i : Int) + 1), by omega, by omega, by omega, fun e1 => e (.inl e1), fun e2 => e (.inr e2)⟩
 have := sub_len ((List.range 10).map fun i : Nat => if (i : Int) + 1 ∈ l then (i : Int) + 1 else x - ((i : Int) + 1)) l ?_ ?_
 ·rw [List.length_map, List.length_range] at this
  omega
 ·unfold List.Nodup
  rw [List.pairwise_map]
  refine List.Pairwise.imp_of_mem (R := fun a b => a < b) (fun {a b} ha hb hab e => ?_) (List.pairwise_lt_range ..)
  have h1 := List.mem_range.1 ha
  have h2 := List.mem_range.1 hb
  by_cases c1 : (a : Int) + 1 ∈ l <;> by_cases c2 : (b : Int) + 1 ∈ l <;> simp only [c1, c2, if_true, if_false] at e <;> omega
 ·intro y hy
  obtain ⟨i, hi, rfl⟩ := List.mem_map.1 hy
  have hi := List.mem_range.1 hi
  by_cases c : (i : Int) + 1 ∈ l
  ·rw [if_pos c]; exact c
  ·rw [if_neg c]; exact (hf i hi).resolve_left c
theorem closed_times (l : List Int) (hc : ¬ clP l 1) (m : Int) (h1 : 1 ≤ m) (hm : m ∉ l) : ∀ k : Nat, ((k + 1 : Nat) : Int) * m ∉ l
 | 0 => by rw [show ((0 + 1 : Nat) : Int) * m = m from by simp]; exact hm
 | k + 1 => by
  have ih := closed_times l hc m h1 hm k
  have hp : 1 ≤ ((k + 1 : Nat) : Int) * m := by
   have := Int.mul_le_mul (show (1 : Int) ≤ ((k + 1 : Nat) : Int) by omega) h1 (by omega) (by omega)
   omega
  rw [show ((k + 1 + 1 : Nat) : Int) * m = ((k + 1 : Nat) : Int) * m + m from by rw [Int.natCast_add (k + 1) 1, Int.add_mul]; simp]
  exact closed_of l hc _ m hp h1 ih hm
theorem sg_small (l : List Int) (ok : okL l) (hc : ¬ clP l 1) (hl : l.length ≤ 9) : SG (genL l 401) := by
 have hrng : ∀ x ∈ genL l 401, 1 ≤ x ∧ x ≤ 20 := fun x hx => by
  have := ((genL_mem l 401 x).1 hx).1
  exact ⟨this.1, irr_small l hl x this⟩
 have hends : ∀ n : Int, 200 ≤ n → Sums (genL l 401) n := fun n hn => by
  have e := genL_far l 199 (fun x hx => by have := ok.2 x hx; omega) n.toNat
  rw [show 2 * 199 + 3 = 401 from rfl] at e
  have h := sums_in l (401 + n.toNat) n.toNat n.toNat (by omega) (by omega) (by omega) (fun h => by have := ok.2 _ h; omega)
  rw [e, show ((n.toNat : Nat) : Int) = n from by omega] at h
  exact h
 obtain ⟨m, m1, m2, m3⟩ : ∃ m : Nat, 1 ≤ m ∧ m ≤ 10 ∧ (m : Int) ∉ l := by
  refine Classical.byContradiction fun e => ?_
  have := sub_len ((List.range 10).map fun i : Nat => (i : Int) + 1) l ?_ ?_
  ·rw [List.length_map, List.length_range] at this
   omega
  ·unfold List.Nodup
   rw [List.pairwise_map]
   exact List.Pairwise.imp (fun {a b} (hab : a < b) e => by omega) (List.pairwise_lt_range ..)
  ·intro y hy
   obtain ⟨i, hi, rfl⟩ := List.mem_map.1 hy
   have hi := List.mem_range.1 hi
   exact Classical.byContradiction fun h => e ⟨i + 1, by omega, by omega, by rwa [show ((i + 1 : Nat) : Int) = (i : Int) + 1 from by omega]⟩
 have hasc : asc (genL l 401) := asc_pick _ _
 have hlen : (genL l 401).length ≤ m := by
  have := nodup_len m ((genL l 401).map fun x => x.toNat % m) ?_ (fun x hx => by
   obtain ⟨y, _, rfl⟩ := List.mem_map.1 hx
   exact Nat.mod_lt _ (by omega))
  ·rwa [List.length_map] at this
  ·unfold List.Nodup
   rw [List.pairwise_map]
   refine List.Pairwise.imp_of_mem (R := fun a b => a < b) (fun {a b} ha hb hab e => ?_) hasc
   have h1 := ((genL_mem l 401 a).1 ha).1
   have h2 := ((genL_mem l 401 b).1 hb).1
   have ha1 := h1.1
   have ea := Nat.mod_add_div a.toNat m
   have eb := Nat.mod_add_div b.toNat m
   have hq : a.toNat / m < b.toNat / m := Classical.byContradiction fun hn => by
    have := Nat.mul_le_mul_left m (show b.toNat / m ≤ a.toNat / m by omega)
    omega
   obtain ⟨k, hk⟩ : ∃ k, b.toNat / m = a.toNat / m + (k + 1) := ⟨b.toNat / m - a.toNat / m - 1, by omega⟩
   rw [hk, Nat.mul_add] at eb
   have hkm := closed_times l hc (m : Int) (by omega) m3 k
   have ek : ((k + 1 : Nat) : Int) * (m : Int) = b - a := by
    rw [← Int.natCast_mul, Nat.mul_comm]
    omega
   rw [ek] at hkm
   exact h2.2.2 ⟨a, b - a, h1.1, by omega, by omega, h1.2.1, hkm⟩
 refine ⟨?_, by omega, fun x hx => by have := hrng x hx; omega, hasc, ?_, ?_, hends⟩
 ·obtain ⟨x, hx, _⟩ := (hends 200 (by omega)).cut (fun x hx => (hrng x hx).1) (by omega)
  exact List.length_pos_of_mem hx
 ·obtain ⟨d1, _, d3⟩ := gcdL_dvd (genL l 401) 0 (by omega) (fun y hy => by have := hrng y hy; omega)
  have e1 := sums_dvd d3 (hends 200 (by omega))
  have e2 := sums_dvd d3 (hends 201 (by omega))
  have e3 := Int.dvd_sub e2 e1
  show (genL l 401).foldl gcdS ((0 : Nat) : Int) = 1
  have := Int.le_of_dvd (by omega) e3
  have hne : (genL l 401).foldl gcdS ((0 : Nat) : Int) ≠ 0 := fun e => by rw [e, Int.zero_dvd] at e1; omega
  omega
 ·intro k hk
  refine .inr fun hs => ?_
  have hx := List.getElem_mem hk
  rw [List.getD_eq_getElem?_getD, List.getElem?_eq_getElem hk, Option.getD_some] at hs
  have hir := ((genL_mem l 401 _).1 hx).1
  have hpos : ∀ y ∈ (genL l 401).take k, 1 ≤ y := fun y hy => (hrng y (List.mem_of_mem_take hy)).1
  obtain ⟨y, hy, hyx, hs'⟩ := hs.cut hpos (by have := hir.1; omega)
  have hyl : y < (genL l 401)[k] := by
   obtain ⟨j, hj, rfl⟩ := List.getElem_of_mem hy
   rw [List.length_take] at hj
   rw [List.getElem_take]
   exact List.pairwise_iff_getElem.1 hasc j k (by omega) hk (by omega)
  have hyi := ((genL_mem l 401 y).1 (List.mem_of_mem_take hy)).1
  rcases sums_out l hc 401 _ (Sums.mono (fun x hx => List.mem_of_mem_take hx) hs') with e | ⟨e1, e2⟩
  ·omega
  ·exact hir.2.2 ⟨y, _, hyi.1, e1, by omega, hyi.2.1, e2⟩
/-! sguniq0: the generators of a semigroup are told by what it holds -/
theorem irr_same (a b : List Int) (h : ∀ n, Sums a n ↔ Sums b n) (y : Int) : irrS a y ↔ irrS b y := by
 unfold irrS
 simp only [h]
theorem sg_uniq (a b : List Int) (ha : SG a) (hb : SG b) (h : ∀ n, Sums a n ↔ Sums b n) : a = b :=
 asc_uniq a b ha.up hb.up (fun y => (sg_irr a ha y).trans ((irr_same a b h y).trans (sg_irr b hb y).symm))
theorem min_uniq (a l : List Int) (ha : SG a) (hp : ∀ x ∈ l, 1 ≤ x) (hu : asc l) (h : ∀ n, Sums a n ↔ Sums l n) : minL l = a :=
 asc_uniq _ a (asc_min l hu) ha.up (fun y => (min_irr l hp hu y).trans ((irr_same a l h y).symm.trans (sg_irr a ha y).symm))
/-- From a semigroup to its gaps, and back. -/
theorem gaps_back (g : List Int) (hS : SG g) : okL (gapL g) ∧ ¬ clP (gapL g) 1 ∧ genL (gapL g) 401 = g := by
 have hp : ∀ x ∈ g, 1 ≤ x := fun x hx => (hS.rng x hx).1
 have hin : ∀ n : Int, 0 ≤ n → (Sums g n ↔ n ∉ gapL g) := fun n hn => sums_gaps hS rfl n hn
 refine ⟨⟨asc_pick _ _, fun x hx => ?_⟩, fun ⟨a, ha, b, hb, h1, h2, h3⟩ => ?_, ?_⟩
 ·have := (gapL_mem g x).1 hx
  have : x ≠ 0 := fun e => this.2.2 (e ▸ Sums.zero g)
  omega
 ·have s1 := (hin a (by omega)).2 h1
  have s2 := (hin b (by omega)).2 h2
  exact (hin (a + b) (by omega)).1 (s1.both s2) h3
 ·refine asc_uniq _ g (asc_pick _ _) hS.up (fun y => ?_)
  rw [genL_mem, sg_irr g hS]
  unfold irr irrS
  constructor
  ·rintro ⟨⟨h1, h2, h3⟩, _⟩
   exact ⟨h1, (hin y (by omega)).2 h2, fun a b ha hb sa sb e => h3 ⟨a, b, ha, hb, e, (hin a (by omega)).1 sa, (hin b (by omega)).1 sb⟩⟩
  ·rintro ⟨h1, h2, h3⟩
   refine ⟨⟨h1, (hin y (by omega)).1 h2, fun ⟨a, b, ha, hb, e, sa, sb⟩ => h3 a b ha hb ((hin a (by omega)).2 sa) ((hin b (by omega)).2 sb) e⟩, ?_⟩
   have := (hS.rng y ((sg_irr g hS y).2 ⟨h1, h2, h3⟩)).2
   omega
/-! overmath: the semigroups above one of small genus, by special gaps -/
/-- A list of gaps of some semigroup. -/
def gset (l : List Int) : Prop := okL l ∧ ¬ clP l 1
theorem gset_gaps (g : List Int) (hS : SG g) : gset (gapL g) := ⟨(gaps_back g hS).1, (gaps_back g hS).2.1⟩
theorem gapL_inj (a b : List Int) (ha : SG a) (hb : SG b) (h : gapL a = gapL b) : a = b := by
 rw [← (gaps_back a ha).2.2, ← (gaps_back b hb).2.2, h]
/-- A semigroup above g. -/
def Over (g t : List Int) : Prop := SG t ∧ ∀ x ∈ gapL t, x ∈ gapL g
theorem asc_nodup (l : List Int) (h : asc l) : l.Nodup := List.Pairwise.imp (fun {a b} (hab : a < b) e => by omega) h
theorem asc_sub (l m : List Int) (hl : asc l) (hm : asc m) (h : ∀ x ∈ l, x ∈ m) (hn : m.length ≤ l.length) : l = m := by
 refine asc_uniq l m hl hm (fun x => ⟨h x, fun hx => ?_⟩)
 refine Classical.byContradiction fun hxl => ?_
 have := sub_len (x :: l) m (List.nodup_cons.2 ⟨hxl, asc_nodup l hl⟩) (fun y hy => by
  rcases List.mem_cons.1 hy with rfl | hy
  ·exact hx
  ·exact h y hy)
 rw [List.length_cons] at this
 omega
theorem over_len (g t : List Int) (h : Over g t) : (gapL t).length ≤ (gapL g).length := sub_len _ _ (asc_nodup _ (asc_pick _ _)) h.2
theorem sum_pos {g : List Int} (hS : SG g) {n : Int} (h : Sums g n) (hn : n ≠ 0) : ∃ y ∈ g, Sums g (n - y) := by
 obtain ⟨y, hy, _, h2⟩ := h.cut (fun x hx => (hS.rng x hx).1) hn
 exact ⟨y, hy, h2⟩
theorem sp_iff (g : List Int) (x : Int) : x ∈ spS true g ↔ x ∈ gapL g ∧ (∀ y ∈ g, Sums g (x + y)) ∧ Sums g (2 * x) := by
 unfold spS pfS pfL sgB pfB
 rw [if_pos rfl, List.mem_filter, List.mem_filter, elB_iff, List.all_eq_true]
 simp only [elB_iff]
 exact ⟨fun h => ⟨h.1.1, h.1.2, h.2⟩, fun h => ⟨⟨h.1, h.2.1⟩, h.2.2⟩⟩
/-- The greatest number of one that is no element of the other is a special gap. -/
theorem special_some (g l : List Int) (hS : SG g) (hl : gset l) (hs : ∀ x ∈ l, x ∈ gapL g) (hn : ∃ y ∈ gapL g, y ∉ l) : ∃ x ∈ spS true g, x ∉ l := by
 have key : ∀ n : Nat, ∀ y, y ∈ gapL g → y ∉ l → 200 - y ≤ (n : Int) → ∃ x, x ∈ gapL g ∧ x ∉ l ∧ ∀ z, z ∈ gapL g → z ∉ l → z ≤ x := by
  intro n
  induction n with
  | zero => intro y hy hyl h; have := (gapL_mem g y).1 hy; omega
  | succ n ih =>
   intro y hy hyl h
   by_cases c : ∃ z, z ∈ gapL g ∧ z ∉ l ∧ y < z
   ·obtain ⟨z, h1, h2, h3⟩ := c
    exact ih z h1 h2 (by omega)
   ·exact ⟨y, hy, hyl, fun z h1 h2 => Classical.byContradiction fun h3 => c ⟨z, h1, h2, by omega⟩⟩
 obtain ⟨y, hy, hyl⟩ := hn
 have hy0 := (gapL_mem g y).1 hy
 obtain ⟨x, hx, hxl, hmax⟩ := key 200 y hy hyl (by omega)
 have hx0 := (gapL_mem g x).1 hx
 have hx1 : 1 ≤ x := by
  have := (gset_gaps g hS).1.2 x hx
  omega
 have big : ∀ z, x < z → z ∉ l → Sums g z := fun z hz hzl => by
  by_cases c : z < 200
  ·refine Classical.byContradiction fun h => ?_
   have := hmax z ((gapL_mem g z).2 ⟨by omega, c, h⟩) hzl
   omega
  ·exact hS.ends z (by omega)
 refine ⟨x, (sp_iff g x).2 ⟨hx, fun y hy => ?_, ?_⟩, hxl⟩
 ·have hy1 := (hS.rng y hy).1
  refine big (x + y) (by omega) (closed_of l hl.2 x y hx1 hy1 hxl (fun h => ?_))
  exact ((gapL_mem g y).1 (hs y h)).2.2 (Sums.one hy)
 ·rw [show 2 * x = x + x from by omega]
  exact big (x + x) (by omega) (closed_of l hl.2 x x hx1 hx1 hxl hxl)
/-- Without a special gap: the gaps of a semigroup. -/
theorem special_gset (g : List Int) (hS : SG g) (x : Int) (hx : x ∈ spS true g) : gset ((gapL g).filter fun y => decide (y ≠ x)) := by
 obtain ⟨h1, h2, h3⟩ := (sp_iff g x).1 hx
 obtain ⟨ok, _⟩ := gset_gaps g hS
 have hin : ∀ n : Int, 0 ≤ n → (Sums g n ↔ n ∉ gapL g) := fun n hn => sums_gaps hS rfl n hn
 have hx1 := ok.2 x h1
 have hmem : ∀ z, z ∈ ((gapL g).filter fun y => decide (y ≠ x)) ↔ z ∈ gapL g ∧ z ≠ x := fun z => by rw [List.mem_filter, decide_eq_true_eq]
 refine ⟨⟨List.Pairwise.filter _ ok.1, fun z hz => ok.2 z ((hmem z).1 hz).1⟩, ?_⟩
 rintro ⟨a, ha, b, hb, n1, n2, n3⟩
 obtain ⟨n3, n4⟩ := (hmem _).1 n3
 have up : ∀ z, 1 ≤ z → z ∉ ((gapL g).filter fun y => decide (y ≠ x)) → Sums g z ∨ z = x := fun z hz h => by
  by_cases e : z = x
  ·exact .inr e
  ·exact .inl ((hin z (by omega)).2 fun hm => h ((hmem z).2 ⟨hm, e⟩))
 have xs : ∀ z, 1 ≤ z → Sums g z → Sums g (x + z) := fun z hz hs => by
  obtain ⟨y, hy, h⟩ := sum_pos hS hs (by omega)
  have := (h2 y hy).both h
  rwa [show x + y + (z - y) = x + z from by omega] at this
 refine (hin (a + b) (by omega)).1 ?_ n3
 rcases up a ha n1 with e1 | e1 <;> rcases up b (by omega) n2 with e2 | e2
 ·exact e1.both e2
 ·rw [e2, Int.add_comm]; exact xs a ha e1
 ·rw [e1]; exact xs b (by omega) e2
 ·rw [e1, e2, show x + x = 2 * x from by omega]; exact h3
/-- The semigroup with one gap less. -/
noncomputable def lessG (g : List Int) (x : Int) : List Int := genL ((gapL g).filter fun y => decide (y ≠ x)) 401
theorem filter_ne_len (l : List Int) (x : Int) (hn : l.Nodup) (hx : x ∈ l) : (l.filter fun y => decide (y ≠ x)).length + 1 = l.length := by
 induction l with
 | nil => cases hx
 | cons y l ih =>
  obtain ⟨h1, h2⟩ := List.nodup_cons.1 hn
  by_cases e : y = x
  ·subst e
   rw [List.filter_cons_of_neg (by simp)]
   have : (l.filter fun z => decide (z ≠ y)) = l := List.filter_eq_self.2 (fun z hz => by rw [decide_eq_true_eq]; exact fun e => h1 (e ▸ hz))
   rw [this, List.length_cons]
  ·rw [List.filter_cons_of_pos (by simpa using e), List.length_cons, List.length_cons, ih h2 ((List.mem_cons.1 hx).resolve_left (fun q => e q.symm))]
theorem less_ok (g t : List Int) (x : Int) (ht : Over g t) (hg : (gapL g).length ≤ 9) (hx : x ∈ spS true t) : Over g (lessG t x) ∧ gapL (lessG t x) = ((gapL t).filter fun y => decide (y ≠ x)) ∧ (gapL (lessG t x)).length + 1 = (gapL t).length := by
 have hs := special_gset t ht.1 x hx
 have hm := ((sp_iff t x).1 hx).1
 have hl := filter_ne_len (gapL t) x (asc_nodup _ (asc_pick _ _)) hm
 have ho := over_len g t ht
 have e := gapL_gens _ hs.1 hs.2 401 (by omega)
 refine ⟨⟨sg_small _ hs.1 hs.2 (by omega), fun z hz => ?_⟩, e, ?_⟩
 ·have hz : z ∈ gapL (genL ((gapL t).filter fun y => decide (y ≠ x)) 401) := hz
  rw [e] at hz
  exact ht.2 z (List.mem_filter.1 hz).1
 ·show (gapL (genL ((gapL t).filter fun y => decide (y ≠ x)) 401)).length + 1 = _
  rw [e]; exact hl
theorem less_up (g t T : List Int) (ht : Over g t) (hT : Over g T) (hg : (gapL g).length ≤ 9) (hs : ∀ x ∈ gapL T, x ∈ gapL t) (hlt : (gapL T).length < (gapL t).length) : ∃ x ∈ spS true t, ∀ z ∈ gapL T, z ∈ gapL (lessG t x) := by
 obtain ⟨x, hx, hxT⟩ := special_some t (gapL T) ht.1 (gset_gaps T hT.1) hs (Classical.byContradiction fun h => by
  have := sub_len (gapL t) (gapL T) (asc_nodup _ (asc_pick _ _)) (fun y hy => Classical.byContradiction fun hn => h ⟨y, hy, hn⟩)
  omega)
 refine ⟨x, hx, fun z hz => ?_⟩
 rw [(less_ok g t x ht hg hx).2.1, List.mem_filter, decide_eq_true_eq]
 exact ⟨hs z hz, fun e => hxT (e ▸ hz)⟩
theorem over_self (g : List Int) (hS : SG g) : Over g g := ⟨hS, fun _ h => h⟩
theorem over_same (g t T : List Int) (ht : Over g t) (hT : Over g T) (hs : ∀ x ∈ gapL T, x ∈ gapL t) (hn : (gapL t).length ≤ (gapL T).length) : T = t :=
 gapL_inj T t hT.1 ht.1 (asc_sub _ _ (asc_pick _ _) (asc_pick _ _) hs hn)
/-! ordmath: lists ordered by length, then by their numbers; ordered rows -/
def lexB : List Int → List Int → Bool
 | x :: a, y :: b => if x = y then lexB a b else decide (x < y)
 | _, _ => false
theorem lexB_cons (x y : Int) (a b : List Int) : lexB (x :: a) (y :: b) = if x = y then lexB a b else decide (x < y) := rfl
theorem lexB_irr : ∀ a : List Int, lexB a a = false
 | [] => rfl
 | x :: a => by rw [lexB_cons, if_pos rfl]; exact lexB_irr a
theorem lexB_trans : ∀ a b c : List Int, lexB a b = true → lexB b c = true → lexB a c = true
 | [], _, _, h, _ => by cases h
 | _ :: _, [], _, h, _ => by cases h
 | _ :: _, _ :: _, [], _, h => by cases h
 | x :: a, y :: b, z :: c, h1, h2 => by
  rw [lexB_cons] at h1 h2 ⊢
  by_cases e1 : x = y
  ·subst e1
   by_cases e2 : x = z
   ·subst e2
    rw [if_pos rfl] at h1 h2 ⊢
    exact lexB_trans a b c h1 h2
   ·rw [if_neg e2] at h2 ⊢
    exact h2
  ·rw [if_neg e1, decide_eq_true_eq] at h1
   by_cases e2 : y = z
   ·subst e2
    rw [if_neg e1, decide_eq_true_eq]; exact h1
   ·rw [if_neg e2, decide_eq_true_eq] at h2
    rw [if_neg (by omega), decide_eq_true_eq]; omega
theorem lexB_tot : ∀ a b : List Int, a.length = b.length → a ≠ b → lexB a b = true ∨ lexB b a = true
 | [], [], _, h => absurd rfl h
 | [], _ :: _, h, _ => by simp at h
 | _ :: _, [], h, _ => by simp at h
 | x :: a, y :: b, hl, hn => by
  rw [lexB_cons, lexB_cons]
  by_cases e : x = y
  ·subst e
   rw [if_pos rfl, if_pos rfl]
   exact lexB_tot a b (by simpa using hl) (fun e => hn (by rw [e]))
  ·rw [if_neg e, if_neg (fun q => e q.symm), decide_eq_true_eq, decide_eq_true_eq]
   omega
def befB (a b : List Int) : Bool := if a.length = b.length then lexB a b else decide (a.length < b.length)
theorem befB_irr (a : List Int) : befB a a = false := by unfold befB; rw [if_pos rfl]; exact lexB_irr a
theorem befB_trans (a b c : List Int) (h1 : befB a b = true) (h2 : befB b c = true) : befB a c = true := by
 unfold befB at h1 h2 ⊢
 by_cases e1 : a.length = b.length
 ·by_cases e2 : b.length = c.length
  ·rw [if_pos e1] at h1
   rw [if_pos e2] at h2
   rw [if_pos (by omega)]
   exact lexB_trans a b c h1 h2
  ·rw [if_neg e2, decide_eq_true_eq] at h2
   rw [if_neg (by omega), decide_eq_true_eq]; omega
 ·rw [if_neg e1, decide_eq_true_eq] at h1
  by_cases e2 : b.length = c.length
  ·rw [if_neg (by omega), decide_eq_true_eq]; omega
  ·rw [if_neg e2, decide_eq_true_eq] at h2
   rw [if_neg (by omega), decide_eq_true_eq]; omega
theorem befB_tot (a b : List Int) (h : a ≠ b) : befB a b = true ∨ befB b a = true := by
 unfold befB
 by_cases e : a.length = b.length
 ·rw [if_pos e, if_pos e.symm]
  exact lexB_tot a b e h
 ·rw [if_neg e, if_neg (fun q => e q.symm), decide_eq_true_eq, decide_eq_true_eq]
  omega
theorem befB_asym (a b : List Int) (h : befB a b = true) : befB b a = false := by
 cases hb : befB b a with
 | false => rfl
 | true =>
  have := befB_trans a b a h hb
  rw [befB_irr] at this
  cases this
theorem row_uniq {α : Type} (R : α → α → Prop) (irr : ∀ a, ¬ R a a) (tr : ∀ a b c, R a b → R b c → R a c) : ∀ (l l' : List α), l.Pairwise R → l'.Pairwise R → (∀ x, x ∈ l ↔ x ∈ l') → l = l'
 | [], [], _, _, _ => rfl
 | [], y :: l', _, _, h => absurd ((h y).2 (List.mem_cons_self ..)) (by simp)
 | x :: l, [], _, _, h => absurd ((h x).1 (List.mem_cons_self ..)) (by simp)
 | x :: l, y :: l', h1, h2, h => by
  have h1' := List.pairwise_cons.1 h1
  have h2' := List.pairwise_cons.1 h2
  have e : x = y := by
   rcases List.mem_cons.1 ((h x).1 (List.mem_cons_self ..)) with e | hx
   ·exact e
   ·rcases List.mem_cons.1 ((h y).2 (List.mem_cons_self ..)) with e | hy
    ·exact e.symm
    ·exact absurd (tr _ _ _ (h2'.1 x hx) (h1'.1 y hy)) (irr y)
  subst e
  rw [row_uniq R irr tr l l' h1'.2 h2'.2 (fun z => ⟨fun hz => by
   rcases List.mem_cons.1 ((h z).1 (List.mem_cons_of_mem _ hz)) with e | hz'
   ·subst e; exact absurd (h1'.1 z hz) (irr z)
   ·exact hz', fun hz => by
   rcases List.mem_cons.1 ((h z).2 (List.mem_cons_of_mem _ hz)) with e | hz'
   ·subst e; exact absurd (h2'.1 z hz) (irr z)
   ·exact hz'⟩)]
theorem row_put {α : Type} (R : α → α → Prop) (tr : ∀ a b c, R a b → R b c → R a c) (s : List α) (hs : s.Pairwise R) (x : α) (p : Nat) (hp : p ≤ s.length) (hlo : ∀ q (h : q < s.length), q < p → R s[q] x) (hhi : ∀ h : p < s.length, R x s[p]) :
  ((s.take p ++ [x]) ++ s.drop p).Pairwise R ∧ ∀ y, y ∈ (s.take p ++ [x]) ++ s.drop p ↔ (y ∈ s ∨ y = x) := by
 have hm : ∀ y, y ∈ (s.take p ++ [x]) ++ s.drop p ↔ (y ∈ s ∨ y = x) := by
  intro y
  rw [List.mem_append, List.mem_append, List.mem_singleton]
  constructor
  ·rintro ((h | h) | h)
   ·exact .inl (List.mem_of_mem_take h)
   ·exact .inr h
   ·exact .inl (List.mem_of_mem_drop h)
  ·rintro (h | h)
   ·rw [← List.take_append_drop p s, List.mem_append] at h
    rcases h with h | h
    ·exact .inl (.inl h)
    ·exact .inr h
   ·exact .inl (.inr h)
 have hgt : ∀ y ∈ s.drop p, R x y := by
  intro y hy
  obtain ⟨j, hj, rfl⟩ := List.getElem_of_mem hy
  rw [List.length_drop] at hj
  rw [List.getElem_drop]
  by_cases e : j = 0
  ·subst e; exact hhi (by omega)
  ·exact tr _ _ _ (hhi (by omega)) (List.pairwise_iff_getElem.1 hs p (p + j) (by omega) (by omega) (by omega))
 have hlt : ∀ y ∈ s.take p, R y x := by
  intro y hy
  obtain ⟨j, hj, rfl⟩ := List.getElem_of_mem hy
  rw [List.length_take] at hj
  rw [List.getElem_take]
  exact hlo j (by omega) (by omega)
 refine ⟨?_, hm⟩
 rw [List.pairwise_append, List.pairwise_append]
 refine ⟨⟨hs.sublist (List.take_sublist ..), List.pairwise_singleton _ _, fun a ha b hb => ?_⟩, hs.sublist (List.drop_sublist ..), fun a ha b hb => ?_⟩
 ·rw [List.mem_singleton.1 hb]; exact hlt a ha
 ·rcases List.mem_append.1 ha with ha | ha
  ·exact tr _ _ _ (hlt a ha) (hgt b hb)
  ·rw [List.mem_singleton.1 ha]; exact hgt b hb
/-! subsets: the lists of numbers that a number's bits choose -/
theorem bits_make : ∀ (n : Nat) (p : Nat → Bool), ∃ s, s < 2 ^ n ∧ ∀ i, i < n → s.testBit i = p i
 | 0, _ => ⟨0, by simp, fun i hi => by omega⟩
 | n + 1, p => by
  obtain ⟨s, h1, h2⟩ := bits_make n (fun i => p (i + 1))
  refine ⟨2 * s + (p 0).toNat, ?_, fun i hi => ?_⟩
  ·have : (p 0).toNat ≤ 1 := Bool.toNat_le _
   rw [Nat.pow_succ]; omega
  ·cases i with
   | zero =>
    rw [Nat.testBit_zero]
    cases p 0 <;> simp <;> omega
   | succ i =>
    rw [Nat.testBit_succ, show (2 * s + (p 0).toNat) / 2 = s from by have : (p 0).toNat ≤ 1 := Bool.toNat_le _; omega]
    exact h2 i (by omega)
def subS (G : List Int) (s : Nat) : List Int := pick (fun i => s.testBit i) (fun i => G.getD i 0) G.length
theorem subS_mem (G : List Int) (s : Nat) (x : Int) : x ∈ subS G s ↔ ∃ i, ∃ h : i < G.length, s.testBit i = true ∧ G[i] = x := by
 unfold subS pick
 rw [List.mem_map]
 constructor
 ·rintro ⟨i, hi, rfl⟩
  rw [List.mem_filter, List.mem_range] at hi
  refine ⟨i, hi.1, hi.2, ?_⟩
  rw [List.getD_eq_getElem?_getD, List.getElem?_eq_getElem hi.1, Option.getD_some]
 ·rintro ⟨i, h, hb, rfl⟩
  refine ⟨i, List.mem_filter.2 ⟨List.mem_range.2 h, hb⟩, ?_⟩
  rw [List.getD_eq_getElem?_getD, List.getElem?_eq_getElem h, Option.getD_some]
theorem subS_sub (G : List Int) (s : Nat) (x : Int) (h : x ∈ subS G s) : x ∈ G := by
 obtain ⟨i, hi, _, rfl⟩ := (subS_mem G s x).1 h
 exact List.getElem_mem hi
theorem subS_asc (G : List Int) (hG : asc G) (s : Nat) : asc (subS G s) := by
 unfold subS pick asc
 rw [List.pairwise_map]
 refine List.Pairwise.imp_of_mem (R := fun a b => a < b) (fun {a b} ha hb hab => ?_) (List.Pairwise.filter _ (List.pairwise_lt_range ..))
 have h1 := List.mem_range.1 (List.mem_filter.1 ha).1
 have h2 := List.mem_range.1 (List.mem_filter.1 hb).1
 rw [List.getD_eq_getElem?_getD, List.getElem?_eq_getElem h1, Option.getD_some, List.getD_eq_getElem?_getD, List.getElem?_eq_getElem h2, Option.getD_some]
 exact List.pairwise_iff_getElem.1 hG a b h1 h2 hab
theorem subS_all (G : List Int) (hG : asc G) (l : List Int) (hl : asc l) (h : ∀ x ∈ l, x ∈ G) : ∃ s, s < 2 ^ G.length ∧ subS G s = l := by
 obtain ⟨s, h1, h2⟩ := bits_make G.length (fun i => decide (G.getD i 0 ∈ l))
 refine ⟨s, h1, asc_uniq _ _ (subS_asc G hG s) hl (fun x => ?_)⟩
 rw [subS_mem]
 constructor
 ·rintro ⟨i, hi, hb, rfl⟩
  rw [h2 i hi, decide_eq_true_eq, List.getD_eq_getElem?_getD, List.getElem?_eq_getElem hi, Option.getD_some] at hb
  exact hb
 ·intro hx
  obtain ⟨i, hi, rfl⟩ := List.getElem_of_mem (h x hx)
  refine ⟨i, hi, ?_, rfl⟩
  rw [h2 i hi, decide_eq_true_eq, List.getD_eq_getElem?_getD, List.getElem?_eq_getElem hi, Option.getD_some]
  exact hx
theorem subS_inj (G : List Int) (hG : asc G) (s t : Nat) (hs : s < 2 ^ G.length) (ht : t < 2 ^ G.length) (h : subS G s = subS G t) : s = t := by
 have one : ∀ s t, subS G s = subS G t → ∀ i, i < G.length → s.testBit i = true → t.testBit i = true := fun s t h i hi hb => by
  have := (subS_mem G s G[i]).2 ⟨i, hi, hb, rfl⟩
  rw [h, subS_mem] at this
  obtain ⟨j, hj, hb, e⟩ := this
  have : i = j := by
   rcases Nat.lt_trichotomy i j with h | h | h
   ·have := List.pairwise_iff_getElem.1 hG i j hi hj h; omega
   ·exact h
   ·have := List.pairwise_iff_getElem.1 hG j i hj hi h; omega
  subst this
  exact hb
 apply Nat.eq_of_testBit_eq
 intro i
 by_cases hi : i < G.length
 ·cases c : s.testBit i with
  | true => exact (one s t h i hi c).symm
  | false =>
   cases d : t.testBit i with
   | true => have := one t s h.symm i hi d; rw [c] at this; cases this
   | false => rfl
 ·rw [Nat.testBit_lt_two_pow (Nat.lt_of_lt_of_le hs (Nat.pow_le_pow_right (by omega) (by omega))), Nat.testBit_lt_two_pow (Nat.lt_of_lt_of_le ht (Nat.pow_le_pow_right (by omega) (by omega)))]
noncomputable def gsetB (l : List Int) : Bool := @decide (gset l) (Classical.propDecidable _)
theorem gsetB_iff (l : List Int) : gsetB l = true ↔ gset l := by unfold gsetB; exact @decide_eq_true_iff (gset l) (Classical.propDecidable _)
/-- The semigroups above one, in the order of the sets of gaps. -/
noncomputable def overL (G : List Int) (n : Nat) : List S26 := pick (fun s => gsetB (subS G s)) (fun s => (⟨genL (subS G s) 401⟩ : S26)) n
theorem overL_len (G : List Int) (n : Nat) : (overL G n).length ≤ n := pick_len _ _ _
theorem overL_mem (g : List Int) (hS : SG g) (hg : (gapL g).length ≤ 9) (x : S26) : x ∈ overL (gapL g) (2 ^ (gapL g).length) ↔ Over g x.f0 := by
 have hG : asc (gapL g) := asc_pick _ _
 unfold overL pick
 rw [List.mem_map]
 constructor
 ·rintro ⟨s, hs, rfl⟩
  rw [List.mem_filter, gsetB_iff] at hs
  have hl := sub_len _ _ (asc_nodup _ (subS_asc _ hG s)) (subS_sub (gapL g) s)
  refine ⟨sg_small _ hs.2.1 hs.2.2 (by omega), fun z hz => ?_⟩
  rw [gapL_gens _ hs.2.1 hs.2.2 401 (by omega)] at hz
  exact subS_sub _ _ _ hz
 ·intro h
  obtain ⟨s, h1, h2⟩ := subS_all (gapL g) hG (gapL x.f0) (asc_pick _ _) h.2
  refine ⟨s, List.mem_filter.2 ⟨List.mem_range.2 h1, by rw [h2, gsetB_iff]; exact gset_gaps _ h.1⟩, ?_⟩
  rw [h2, (gaps_back _ h.1).2.2]
theorem overL_nodup (g : List Int) : (overL (gapL g) (2 ^ (gapL g).length)).Pairwise (· ≠ ·) := by
 have hG : asc (gapL g) := asc_pick _ _
 unfold overL pick
 rw [List.pairwise_map]
 refine List.Pairwise.imp_of_mem (R := fun a b => a < b) (fun {a b} ha hb hab e => ?_) (List.Pairwise.filter _ (List.pairwise_lt_range ..))
 rw [List.mem_filter, List.mem_range, gsetB_iff] at ha hb
 injection e with e
 have h1 := gapL_gens _ ha.2.1 ha.2.2 401 (by omega)
 have h2 := gapL_gens _ hb.2.1 hb.2.2 401 (by omega)
 have := subS_inj _ hG a b ha.1 hb.1 (by rw [← h1, ← h2, e])
 omega
/-- Ordered semigroups. -/
def ltT (a b : S26) : Prop := befB (gapL a.f0) (gapL b.f0) = true
theorem ltT_irr (a : S26) : ¬ ltT a a := by unfold ltT; rw [befB_irr]; simp
theorem ltT_trans (a b c : S26) (h1 : ltT a b) (h2 : ltT b c) : ltT a c := befB_trans _ _ _ h1 h2
theorem over_room (g : List Int) (hS : SG g) (hg : (gapL g).length ≤ 9) (l : List S26) (hl : l.Pairwise ltT) (h : ∀ x ∈ l, Over g x.f0) : l.length ≤ 512 := by
 have hx : ∀ (a b : S26), a.f0 = b.f0 → a = b := fun ⟨a⟩ ⟨b⟩ e => by cases e; rfl
 have h1 := sub_len (l.map fun x => x.f0) ((overL (gapL g) (2 ^ (gapL g).length)).map fun x => x.f0) ?_ ?_
 ·rw [List.length_map, List.length_map] at h1
  have h2 := overL_len (gapL g) (2 ^ (gapL g).length)
  have : 2 ^ (gapL g).length ≤ 2 ^ 9 := Nat.pow_le_pow_right (by omega) hg
  omega
 ·unfold List.Nodup
  rw [List.pairwise_map]
  exact hl.imp (fun {a b} hab e => by rw [hx a b e] at hab; exact ltT_irr _ hab)
 ·intro y hy
  obtain ⟨x, hxl, rfl⟩ := List.mem_map.1 hy
  exact List.mem_map.2 ⟨x, (overL_mem g hS hg x).2 (h x hxl), rfl⟩
/-! sgadd: AddGap of the reference at a special gap -/
theorem spec_add_ev (g t : List Int) (ht : Over g t) (hg : (gapL g).length ≤ 9) (x : Int) (hx : x ∈ spS true t) : Ev (fun k => spec_AddGap.f k t x) (lessG t x, true) := by
 have hS := ht.1
 have hlen := hS.len2
 have hl := spS_len true t
 have hgl := gapL_len t
 have ho := less_ok g t x ht hg hx
 obtain ⟨g1, g2⟩ := special_gset t hS x hx
 have hf := List.length_filter_le (fun y => decide (y ≠ x)) (gapL t)
 obtain ⟨d, d1, d2⟩ := spec_HasNumber_ev (spS true t) x (by omega)
 obtain rfl : d = true := d1.2 hx
 obtain ⟨q, q0, q1, _⟩ := from_both ((gapL t).filter fun y => decide (y ≠ x)) (by omega)
 obtain rfl : q = true := q0.2 ⟨g1, g2, ho.1.1⟩
 unfold spec_AddGap.f
 exact Ev.bnd (spec_sp_ev t (by omega) hS) (Ev.bnd d2 (Ev.pos rfl (Ev.bnd (spec_l4Gaps_ev t (fun x hx => (hS.rng x hx).1) (by omega)) (Ev.bnd (spec_l19Without_ev (gapL t) x (by omega)) (Ev.bnd q1 (Ev.now _))))))
/-! l19Put of the reference -/
theorem before_l0 (a b : List Int) (hab : a.length = b.length) (hl : a.length ≤ 1000) : ∀ d i, i + d = a.length → Ev (fun k => spec_l19Before.l0 k a b (i : Int)) (lexB (a.drop i) (b.drop i)) := by
 intro d
 induction d with
 | zero =>
  intro i hi
  refine Ev.one (fun k => by rw [spec_l19Before.l0]) ?_
  rw [List.drop_of_length_le (by omega), List.drop_of_length_le (by omega)]
  exact Ev.neg (by omega) (Ev.now _)
 | succ d ih =>
  intro i hi
  have h1 : i < a.length := by omega
  have h2 : i < b.length := by omega
  refine Ev.one (fun k => by rw [spec_l19Before.l0]) ?_
  rw [List.drop_eq_getElem_cons h1, List.drop_eq_getElem_cons h2, lexB_cons, rd_at a i h1, rd_at b i h2, w64_succ i (by omega)]
  refine Ev.pos (by omega) (Ev.pos (by omega) (Ev.pos (by omega) ?_))
  by_cases c : a[i] = b[i]
  ·rw [if_pos c]
   exact Ev.pos c (ih (i + 1) (by omega))
  ·rw [if_neg c]
   exact Ev.neg c (Ev.now _)
theorem before_ev (a b : List Int) (ha : a.length ≤ 1000) : Ev (fun k => spec_l19Before.f k a b) (befB a b) := by
 unfold spec_l19Before.f befB
 by_cases h : a.length = b.length
 ·rw [if_pos h]
  exact Ev.pos (by omega) (before_l0 a b h ha a.length 0 (by omega))
 ·rw [if_neg h]
  refine Ev.neg (by omega) ?_
  have e : decide ((a.length : Int) < (b.length : Int)) = decide (a.length < b.length) := by simp
  rw [e]
  exact Ev.now _
theorem l3Copy_ev (t : List Int) (h : t.length ≤ 1048576) : spec_l3Copy.f t = some t := by
 unfold spec_l3Copy.f
 simp only [Option.bind_some, List.length_nil, List.nil_append]
 rw [if_pos (by omega)]
theorem put_l0 (L : List S26) (t : List Int) (ht : SG t) (hL : ∀ x ∈ L, SG x.f0) (hs : L.Pairwise ltT) (hlen : L.length ≤ 600) : ∀ d p, p + d = L.length → (∀ q (h : q < L.length), q < p → ltT L[q] ⟨t⟩) →
  ∃ r, Ev (fun k => spec_l19Put.l0 k L (gapL t) (p : Int) t) r ∧ r.Pairwise ltT ∧ ∀ x, x ∈ r ↔ (x ∈ L ∨ x = ⟨t⟩) := by
 have hlt := ht.len2
 intro d
 induction d with
 | zero =>
  intro p hp hq
  obtain ⟨r1, r2⟩ := row_put ltT ltT_trans L hs ⟨t⟩ p (by omega) hq (fun h => by omega)
  refine ⟨_, ?_, r1, r2⟩
  refine Ev.one (fun k => by rw [spec_l19Put.l0]) ?_
  refine Ev.neg (by omega) ?_
  refine Ev.one (fun k => by rw [spec_l19Put.j1]) ?_
  exact Ev.pos (by omega) (Ev.pos (by omega) (Ev.neg (by omega) (Ev.bnd (Ev.const (l3Copy_ev t (by omega))) (Ev.pos (by omega) (Ev.now _)))))
 | succ d ih =>
  intro p hp hq
  have hpl : p < L.length := by omega
  have hSp := hL _ (List.getElem_mem hpl)
  have hlp := hSp.len2
  have hgl := gapL_len L[p].f0
  have e4 := spec_l4Gaps_ev L[p].f0 (fun x hx => (hSp.rng x hx).1) (by omega)
  have eb := before_ev (gapL L[p].f0) (gapL t) (by omega)
  cases hb : befB (gapL L[p].f0) (gapL t) with
  | true =>
   rw [hb] at eb
   obtain ⟨r, r1, r2, r3⟩ := ih (p + 1) (by omega) (fun q h hq' => by
    by_cases e : q = p
    ·subst e
     exact hb
    ·exact hq q h (by omega))
   refine ⟨r, ?_, r2, r3⟩
   refine Ev.one (fun k => by rw [spec_l19Put.l0]) ?_
   rw [rd_T26_at L p hpl, w64_succ p (by omega)]
   exact Ev.pos (by omega) (Ev.pos (by omega) (Ev.bnd e4 (Ev.bnd eb (Ev.pos rfl r1))))
  | false =>
   rw [hb] at eb
   obtain ⟨v, v1, v2⟩ := equalSg_ev L[p].f0 t (by omega)
   cases v with
   | true =>
    have e : L[p].f0 = t := v1.1 rfl
    refine ⟨L, ?_, hs, fun x => ⟨.inl, ?_⟩⟩
    ·refine Ev.one (fun k => by rw [spec_l19Put.l0]) ?_
     rw [rd_T26_at L p hpl]
     refine Ev.pos (by omega) (Ev.pos (by omega) (Ev.bnd e4 (Ev.bnd eb (Ev.neg (by decide) ?_))))
     refine Ev.one (fun k => by rw [spec_l19Put.j1]) ?_
     rw [rd_T26_at L p hpl]
     exact Ev.pos (by omega) (Ev.pos (by omega) (Ev.pos (by omega) (Ev.bnd v2 (Ev.pos rfl (Ev.now _)))))
    ·rintro (h | rfl)
     ·exact h
     ·rw [show (⟨t⟩ : S26) = L[p] from by rw [← e]]
      exact List.getElem_mem hpl
   | false =>
    have hne : ¬ L[p].f0 = t := fun e => by have := v1.2 e; cases this
    have hgt : ltT ⟨t⟩ L[p] := by
     rcases befB_tot (gapL L[p].f0) (gapL t) (fun e => hne (gapL_inj _ _ hSp ht e)) with h | h
     ·rw [hb] at h; cases h
     ·exact h
    obtain ⟨r1, r2⟩ := row_put ltT ltT_trans L hs ⟨t⟩ p (by omega) hq (fun _ => hgt)
    refine ⟨_, ?_, r1, r2⟩
    refine Ev.one (fun k => by rw [spec_l19Put.l0]) ?_
    rw [rd_T26_at L p hpl]
    refine Ev.pos (by omega) (Ev.pos (by omega) (Ev.bnd e4 (Ev.bnd eb (Ev.neg (by decide) ?_))))
    refine Ev.one (fun k => by rw [spec_l19Put.j1]) ?_
    rw [rd_T26_at L p hpl]
    exact Ev.pos (by omega) (Ev.pos (by omega) (Ev.pos (by omega) (Ev.bnd v2 (Ev.neg (by decide) (Ev.bnd (Ev.const (l3Copy_ev t (by omega))) (Ev.pos (by omega) (Ev.now _)))))))
theorem put_ev (L : List S26) (t : List Int) (ht : SG t) (hL : ∀ x ∈ L, SG x.f0) (hs : L.Pairwise ltT) (hlen : L.length ≤ 600) :
  ∃ r, Ev (fun k => spec_l19Put.f k L t) r ∧ r.Pairwise ltT ∧ ∀ x, x ∈ r ↔ (x ∈ L ∨ x = ⟨t⟩) := by
 have hlt := ht.len2
 obtain ⟨r, r1, r2⟩ := put_l0 L t ht hL hs hlen L.length 0 (by omega) (fun q _ h => by omega)
 exact ⟨r, Ev.bnd (spec_l4Gaps_ev t (fun x hx => (ht.rng x hx).1) (by omega)) r1, r2⟩
/-! larger2: LargerSemigroups of the reference -/
def Lay (g : List Int) (m : Nat) (L : List S26) : Prop := L.Pairwise ltT ∧ ∀ x, x ∈ L ↔ (Over g x.f0 ∧ (gapL x.f0).length = m)
def Outs (g : List Int) (m : Nat) (L : List S26) : Prop := L.Pairwise ltT ∧ ∀ x, x ∈ L ↔ (Over g x.f0 ∧ m ≤ (gapL x.f0).length)
def Fins (g : List Int) (f : Nat → Option (List S26 × Bool)) : Prop := ∃ o, Ev f (o, true) ∧ Outs g 0 o
theorem Fins.one {g : List Int} {f h : Nat → Option (List S26 × Bool)} (e : ∀ k, f (k + 1) = h k) (k : Fins g h) : Fins g f := by
 obtain ⟨o, k1, k2⟩ := k
 exact ⟨o, Ev.one e k1, k2⟩
theorem Fins.pos {g : List Int} {c : Prop} [Decidable c] {a b : Nat → Option (List S26 × Bool)} (h : c) (k : Fins g a) : Fins g (fun k => if c then a k else b k) := by
 obtain ⟨o, k1, k2⟩ := k
 exact ⟨o, Ev.pos h k1, k2⟩
theorem Fins.neg {g : List Int} {c : Prop} [Decidable c] {a b : Nat → Option (List S26 × Bool)} (h : ¬ c) (k : Fins g b) : Fins g (fun k => if c then a k else b k) := by
 obtain ⟨o, k1, k2⟩ := k
 exact ⟨o, Ev.neg h k1, k2⟩
theorem Fins.bnd {g : List Int} {α : Type} {u : Nat → Option α} {f : Nat → α → Option (List S26 × Bool)} {a : α} (h : Ev u a) (k : Fins g (fun n => f n a)) : Fins g (fun n => (u n).bind fun t => f n t) := by
 obtain ⟨o, k1, k2⟩ := k
 exact ⟨o, Ev.bnd h k1, k2⟩
theorem large_l2 (g : List Int) (hS : SG g) (hg : (gapL g).length ≤ 9) (out L : List S26) (hL : ∀ x ∈ L, Over g x.f0) (j : Nat) (hj : j < L.length) (hLl : L.length ≤ 600) : ∀ d i N, i + d = (spS true L[j].f0).length → N.Pairwise ltT → (∀ y ∈ N, Over g y.f0) →
  (∀ N', N'.Pairwise ltT → (∀ y, y ∈ N' ↔ (y ∈ N ∨ ∃ x ∈ (spS true L[j].f0).drop i, y = ⟨lessG L[j].f0 x⟩)) → Fins g (fun k => spec_LargerSemigroups.l1 k out L N' ((j + 1 : Nat) : Int))) →
  Fins g (fun k => spec_LargerSemigroups.l2 k out L N (j : Int) (spS true L[j].f0) (i : Int)) := by
 have hsl := spS_len true L[j].f0
 have ho := hL _ (List.getElem_mem hj)
 intro d
 induction d with
 | zero =>
  intro i N hi hN hO hc
  refine Fins.one (fun k => by rw [spec_LargerSemigroups.l2]) ?_
  rw [w64_succ j (by omega)]
  refine Fins.neg (by omega) (hc N hN fun y => ⟨.inl, ?_⟩)
  rw [List.drop_of_length_le (by omega)]
  rintro (h | ⟨x, h, _⟩)
  ·exact h
  ·cases h
 | succ d ih =>
  intro i N hi hN hO hc
  have hil : i < (spS true L[j].f0).length := by omega
  have hx := List.getElem_mem hil
  obtain ⟨n1, n2, n3⟩ := less_ok g L[j].f0 _ ho hg hx
  have hNl := over_room g hS hg N hN hO
  obtain ⟨N2, p1, p2, p3⟩ := put_ev N (lessG L[j].f0 (spS true L[j].f0)[i]) n1.1 (fun x hx => (hO x hx).1) hN (by omega)
  refine Fins.one (fun k => by rw [spec_LargerSemigroups.l2]) ?_
  rw [rd_T26_at L j hj, rd_at _ i hil, w64_succ i (by omega)]
  refine Fins.pos (by omega) (Fins.pos (by omega) (Fins.pos (by omega) (Fins.pos (by omega) (Fins.bnd (spec_add_ev g L[j].f0 ho hg _ hx) (Fins.bnd p1 ?_)))))
  refine ih (i + 1) N2 (by omega) p2 (fun y hy => ?_) (fun N' q1 q2 => hc N' q1 fun y => ?_)
  ·rcases (p3 y).1 hy with h | rfl
   ·exact hO y h
   ·exact n1
  ·rw [q2, p3, List.drop_eq_getElem_cons hil]
   constructor
   ·rintro ((h | rfl) | ⟨x, hx, rfl⟩)
    ·exact .inl h
    ·exact .inr ⟨_, List.mem_cons_self, rfl⟩
    ·exact .inr ⟨x, List.mem_cons_of_mem _ hx, rfl⟩
   ·rintro (h | ⟨x, hx, rfl⟩)
    ·exact .inl (.inl h)
    ·rcases List.mem_cons.1 hx with rfl | hx
     ·exact .inl (.inr rfl)
     ·exact .inr ⟨x, hx, rfl⟩
theorem large_l1 (g : List Int) (hS : SG g) (hg : (gapL g).length ≤ 9) (out L : List S26) (hL : ∀ x ∈ L, Over g x.f0) (hLl : L.length ≤ 600) : ∀ d j N, j + d = L.length → N.Pairwise ltT → (∀ y ∈ N, Over g y.f0) →
  (∀ N', N'.Pairwise ltT → (∀ y, y ∈ N' ↔ (y ∈ N ∨ ∃ t ∈ L.drop j, ∃ x ∈ spS true t.f0, y = ⟨lessG t.f0 x⟩)) → Fins g (fun k => spec_LargerSemigroups.l3 k out N' 0)) →
  Fins g (fun k => spec_LargerSemigroups.l1 k out L N (j : Int)) := by
 intro d
 induction d with
 | zero =>
  intro j N hj hN hO hc
  refine Fins.one (fun k => by rw [spec_LargerSemigroups.l1]) ?_
  refine Fins.neg (by omega) (hc N hN fun y => ⟨.inl, ?_⟩)
  rw [List.drop_of_length_le (by omega)]
  rintro (h | ⟨x, h, _⟩)
  ·exact h
  ·cases h
 | succ d ih =>
  intro j N hj hN hO hc
  have hjl : j < L.length := by omega
  have ho := hL _ (List.getElem_mem hjl)
  have hlen := ho.1.len2
  refine Fins.one (fun k => by rw [spec_LargerSemigroups.l1]) ?_
  rw [rd_T26_at L j hjl]
  refine Fins.pos (by omega) (Fins.pos (by omega) (Fins.bnd (spec_sp_ev L[j].f0 (by omega) ho.1) ?_))
  refine large_l2 g hS hg out L hL j hjl hLl (spS true L[j].f0).length 0 N (by omega) hN hO fun N' q1 q2 => ih (j + 1) N' (by omega) q1 (fun y hy => ?_) fun N2 r1 r2 => hc N2 r1 fun y => ?_
  ·rcases (q2 y).1 hy with h | ⟨x, hx, rfl⟩
   ·exact hO y h
   ·exact (less_ok g L[j].f0 x ho hg hx).1
  ·rw [r2, q2, List.drop_eq_getElem_cons hjl, List.drop_zero]
   constructor
   ·rintro ((h | ⟨x, hx, rfl⟩) | ⟨t, ht, x, hx, rfl⟩)
    ·exact .inl h
    ·exact .inr ⟨_, List.mem_cons_self, x, hx, rfl⟩
    ·exact .inr ⟨t, List.mem_cons_of_mem _ ht, x, hx, rfl⟩
   ·rintro (h | ⟨t, ht, x, hx, rfl⟩)
    ·exact .inl (.inl h)
    ·rcases List.mem_cons.1 ht with rfl | ht
     ·exact .inl (.inr ⟨x, hx, rfl⟩)
     ·exact .inr ⟨t, ht, x, hx, rfl⟩
theorem large_l3 (g : List Int) (hS : SG g) (hg : (gapL g).length ≤ 9) (N : List S26) (hN : ∀ x ∈ N, Over g x.f0) (hNl : N.length ≤ 600) : ∀ d i out, i + d = N.length → out.Pairwise ltT → (∀ y ∈ out, Over g y.f0) →
  (∀ out', out'.Pairwise ltT → (∀ y, y ∈ out' ↔ (y ∈ out ∨ y ∈ N.drop i)) → Fins g (fun k => spec_LargerSemigroups.l0 k out' N)) →
  Fins g (fun k => spec_LargerSemigroups.l3 k out N (i : Int)) := by
 intro d
 induction d with
 | zero =>
  intro i out hi ho hO hc
  refine Fins.one (fun k => by rw [spec_LargerSemigroups.l3]) ?_
  refine Fins.neg (by omega) (hc out ho fun y => ⟨.inl, ?_⟩)
  rw [List.drop_of_length_le (by omega)]
  rintro (h | h)
  ·exact h
  ·cases h
 | succ d ih =>
  intro i out hi ho hO hc
  have hil : i < N.length := by omega
  have hx := hN _ (List.getElem_mem hil)
  have hol := over_room g hS hg out ho hO
  obtain ⟨o2, p1, p2, p3⟩ := put_ev out N[i].f0 hx.1 (fun x hx => (hO x hx).1) ho (by omega)
  refine Fins.one (fun k => by rw [spec_LargerSemigroups.l3]) ?_
  rw [rd_T26_at N i hil, w64_succ i (by omega)]
  refine Fins.pos (by omega) (Fins.pos (by omega) (Fins.bnd p1 ?_))
  refine ih (i + 1) o2 (by omega) p2 (fun y hy => ?_) fun out' q1 q2 => hc out' q1 fun y => ?_
  ·rcases (p3 y).1 hy with h | rfl
   ·exact hO y h
   ·exact hx
  ·rw [q2, p3, List.drop_eq_getElem_cons hil, List.mem_cons]
   constructor
   ·rintro ((h | rfl) | h)
    ·exact .inl h
    ·exact .inr (.inl rfl)
    ·exact .inr (.inr h)
   ·rintro (h | h | h)
    ·exact .inl (.inl h)
    ·exact .inl (.inr h)
    ·exact .inr h
/-- Between a semigroup and a larger one there is one of each genus between. -/
theorem over_mid (g : List Int) (hS : SG g) (hg : (gapL g).length ≤ 9) (T : List Int) (hT : Over g T) : ∀ d k, k + d = (gapL g).length → (gapL T).length ≤ k → ∃ t, Over g t ∧ (gapL t).length = k ∧ ∀ x ∈ gapL T, x ∈ gapL t := by
 intro d
 induction d with
 | zero => intro k hk _; exact ⟨g, over_self g hS, by omega, hT.2⟩
 | succ d ih =>
  intro k hk hl
  obtain ⟨t, t1, t2, t3⟩ := ih (k + 1) (by omega) (by omega)
  obtain ⟨x, x1, x2⟩ := less_up g t T t1 hT hg t3 (by omega)
  obtain ⟨o1, o2, o3⟩ := less_ok g t x t1 hg x1
  exact ⟨lessG t x, o1, by omega, x2⟩
theorem gset_nil : gset [] := by
 refine ⟨⟨List.Pairwise.nil, fun x hx => by cases hx⟩, ?_⟩
 rintro ⟨a, _, h⟩
 unfold clQ at h
 simp at h
/-- Of each genus up to its own there is a larger semigroup. -/
theorem over_any (g : List Int) (hS : SG g) (hg : (gapL g).length ≤ 9) : ∀ d k, k + d = (gapL g).length → ∃ t, Over g t ∧ (gapL t).length = k := by
 intro d
 induction d with
 | zero => intro k hk; exact ⟨g, over_self g hS, by omega⟩
 | succ d ih =>
  intro k hk
  obtain ⟨t, t1, t2⟩ := ih (k + 1) (by omega)
  obtain ⟨x, x1, _⟩ := special_some t [] t1.1 gset_nil (fun x hx => by cases hx) ⟨(gapL t)[0]'(by omega), List.getElem_mem _, by simp⟩
  obtain ⟨o1, o2, o3⟩ := less_ok g t x t1 hg x1
  exact ⟨lessG t x, o1, by omega⟩
theorem large_l0 (g : List Int) (hS : SG g) (hg : (gapL g).length ≤ 9) : ∀ m L out, m ≤ (gapL g).length → Lay g m L → Outs g m out → Fins g (fun k => spec_LargerSemigroups.l0 k out L) := by
 intro m
 induction m with
 | zero =>
  intro L out hm hL ho
  have hO : ∀ x ∈ L, Over g x.f0 := fun x hx => ((hL.2 x).1 hx).1
  have hLl := over_room g hS hg L hL.1 hO
  have done : Fins g (fun k => spec_LargerSemigroups.l0 k out []) := by
   refine Fins.one (fun k => by rw [spec_LargerSemigroups.l0]) ?_
   exact Fins.neg (by simp) ⟨out, Ev.now _, ho⟩
  by_cases h0 : L = []
  ·rw [h0]; exact done
  ·have := List.length_pos_iff.2 h0
   refine Fins.one (fun k => by rw [spec_LargerSemigroups.l0]) ?_
   refine Fins.pos (by omega) (large_l1 g hS hg out L hO (by omega) L.length 0 [] (by omega) List.Pairwise.nil (fun y hy => by cases hy) fun N' q1 q2 => ?_)
   have e : N' = [] := by
    apply List.eq_nil_iff_forall_not_mem.2
    intro y hy
    rcases (q2 y).1 hy with h | ⟨t, ht, x, hx, _⟩
    ·cases h
    ·rw [List.drop_zero] at ht
     have := ((hL.2 t).1 ht).2
     have h2 := (sp_iff t.f0 x).1 hx
     rw [List.eq_nil_of_length_eq_zero this] at h2
     cases h2.1
   subst e
   refine large_l3 g hS hg [] (fun x hx => by cases hx) (by simp) 0 0 out rfl ho.1 (fun y hy => ((ho.2 y).1 hy).1) fun out' r1 r2 => ?_
   have e2 : out' = out := row_uniq ltT ltT_irr ltT_trans _ _ r1 ho.1 fun y => by rw [r2]; simp
   rw [e2]
   exact done
 | succ m ih =>
  intro L out hm hL ho
  have hO : ∀ x ∈ L, Over g x.f0 := fun x hx => ((hL.2 x).1 hx).1
  have hLl := over_room g hS hg L hL.1 hO
  have h0 : 0 < L.length := by
   obtain ⟨t, t1, t2⟩ := over_any g hS hg ((gapL g).length - (m + 1)) (m + 1) (by omega)
   exact List.length_pos_of_mem ((hL.2 ⟨t⟩).2 ⟨t1, t2⟩)
  refine Fins.one (fun k => by rw [spec_LargerSemigroups.l0]) ?_
  refine Fins.pos (by omega) (large_l1 g hS hg out L hO (by omega) L.length 0 [] (by omega) List.Pairwise.nil (fun y hy => by cases hy) fun N' q1 q2 => ?_)
  have hN : Lay g m N' := by
   refine ⟨q1, fun y => ?_⟩
   rw [q2, List.drop_zero]
   constructor
   ·rintro (h | ⟨t, ht, x, hx, rfl⟩)
    ·cases h
    ·obtain ⟨t1, t2⟩ := (hL.2 t).1 ht
     obtain ⟨o1, o2, o3⟩ := less_ok g t.f0 x t1 hg hx
     exact ⟨o1, by show (gapL (lessG t.f0 x)).length = m; omega⟩
   ·rintro ⟨y1, y2⟩
    obtain ⟨t, t1, t2, t3⟩ := over_mid g hS hg y.f0 y1 ((gapL g).length - (m + 1)) (m + 1) (by omega) (by omega)
    obtain ⟨x, x1, x2⟩ := less_up g t y.f0 t1 y1 hg t3 (by omega)
    obtain ⟨o1, o2, o3⟩ := less_ok g t x t1 hg x1
    refine .inr ⟨⟨t⟩, (hL.2 ⟨t⟩).2 ⟨t1, t2⟩, x, x1, ?_⟩
    have := over_same g (lessG t x) y.f0 o1 y1 x2 (by omega)
    show y = ⟨lessG t x⟩
    rw [← this]
  have hNO : ∀ x ∈ N', Over g x.f0 := fun x hx => ((hN.2 x).1 hx).1
  have hNl := over_room g hS hg N' hN.1 hNO
  refine large_l3 g hS hg N' hNO (by omega) N'.length 0 out (by omega) ho.1 (fun y hy => ((ho.2 y).1 hy).1) fun out' r1 r2 => ih N' out' (by omega) hN ⟨r1, fun y => ?_⟩
  rw [r2, ho.2, List.drop_zero, hN.2]
  constructor
  ·rintro (⟨h1, h2⟩ | ⟨h1, h2⟩)
   ·exact ⟨h1, by omega⟩
   ·exact ⟨h1, by omega⟩
  ·rintro ⟨h1, h2⟩
   by_cases e : (gapL y.f0).length = m
   ·exact .inr ⟨h1, e⟩
   ·exact .inl ⟨h1, by omega⟩
theorem genus_spec (g : List Int) (hlen : g.length ≤ 1048576) : ∃ b, (b = true ↔ SG g) ∧ Ev (fun k => spec_GenusOf.f k g) (if b = true then ((gapL g).length : Int) else -1) := by
 obtain ⟨c, c1, c2, _⟩ := sg_both g hlen
 refine ⟨c, c1, ?_⟩
 unfold spec_GenusOf.f
 cases c with
 | false => exact Ev.bnd c2 (Ev.neg (by decide) (Ev.now _))
 | true =>
  have hS := c1.1 rfl
  exact Ev.bnd c2 (Ev.pos rfl (Ev.bnd (spec_l4Gaps_ev g (fun x hx => (hS.rng x hx).1) hlen) (Ev.now _)))
theorem large_spec_in (g : List Int) (hS : SG g) (hg : (gapL g).length ≤ 9) : ∃ o, Ev (fun k => spec_LargerSemigroups.f k g) (o, true) ∧ Outs g 0 o := by
 have hlen := hS.len2
 obtain ⟨b, b1, b2⟩ := genus_spec g (by omega)
 obtain rfl : b = true := b1.2 hS
 rw [if_pos rfl] at b2
 have hp : [(⟨g⟩ : S26)].Pairwise ltT := List.pairwise_singleton _ _
 have h1 : ∀ x : S26, x ∈ [(⟨g⟩ : S26)] ↔ (Over g x.f0 ∧ (gapL x.f0).length = (gapL g).length) := fun x => by
  rw [List.mem_singleton]
  constructor
  ·rintro rfl; exact ⟨over_self g hS, rfl⟩
  ·rintro ⟨x1, x2⟩
   have := over_same g g x.f0 (over_self g hS) x1 x1.2 (by omega)
   show x = ⟨g⟩
   rw [← this]
 have h2 : ∀ x : S26, x ∈ [(⟨g⟩ : S26)] ↔ (Over g x.f0 ∧ (gapL g).length ≤ (gapL x.f0).length) := fun x => by
  rw [h1]
  constructor
  ·rintro ⟨x1, x2⟩; exact ⟨x1, by omega⟩
  ·rintro ⟨x1, x2⟩; exact ⟨x1, by have := over_len g x.f0 x1; omega⟩
 obtain ⟨o, o1, o2⟩ := large_l0 g hS hg (gapL g).length [⟨g⟩] [⟨g⟩] (Nat.le_refl _) ⟨hp, h1⟩ ⟨hp, h2⟩
 refine ⟨o, ?_, o2⟩
 have hi : spec_l1In.f ((gapL g).length : Int) 0 9 = some true := by
  unfold spec_l1In.f
  rw [if_pos (by omega)]
  simp only [Option.some.injEq, decide_eq_true_eq]
  omega
 unfold spec_LargerSemigroups.f
 exact Ev.bnd b2 (Ev.bnd (Ev.const hi) (Ev.pos rfl (Ev.bnd (Ev.const (l3Copy_ev g (by omega))) o1)))
theorem large_spec_out (g : List Int) (hlen : g.length ≤ 1048576) (h : ¬ (SG g ∧ (gapL g).length ≤ 9)) : Ev (fun k => spec_LargerSemigroups.f k g) ([], false) := by
 obtain ⟨b, b1, b2⟩ := genus_spec g hlen
 unfold spec_LargerSemigroups.f
 cases b with
 | false =>
  rw [if_neg (by decide)] at b2
  have hi : spec_l1In.f (-1) 0 9 = some false := by unfold spec_l1In.f; rw [if_neg (by omega)]
  exact Ev.bnd b2 (Ev.bnd (Ev.const hi) (Ev.neg (by decide) (Ev.now _)))
 | true =>
  have hS := b1.1 rfl
  rw [if_pos rfl] at b2
  have h9 : 9 < (gapL g).length := Nat.lt_of_not_le fun e => h ⟨hS, e⟩
  have hi : spec_l1In.f ((gapL g).length : Int) 0 9 = some false := by
   unfold spec_l1In.f
   rw [if_pos (by omega)]
   simp only [Option.some.injEq, decide_eq_false_iff_not]
   omega
  exact Ev.bnd b2 (Ev.bnd (Ev.const hi) (Ev.neg (by decide) (Ev.now _)))
end Go.Proofs.Ytlhcpbpcdicleaa.Pure
