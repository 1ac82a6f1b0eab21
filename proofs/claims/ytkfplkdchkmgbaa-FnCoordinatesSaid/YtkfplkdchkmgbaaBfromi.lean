/- Plain lemmas (fromi, froms, apery, eqsg, sguniq, coords, clash, fromap, fromap2, fromco, fromco2, plaw, draw): no program, no memory. -/
import Derived.Test.YtkfplkdchkmgbaaC0
import Derived.Test.YtkfplkdchkmgbaaC1
import Derived.Test.YtkfplkdchkmgbaaC10
import Derived.Test.YtkfplkdchkmgbaaC11
import Derived.Test.YtkfplkdchkmgbaaC12
import Derived.Test.YtkfplkdchkmgbaaC3
import Derived.Test.YtkfplkdchkmgbaaC6
import Derived.Test.YtkfplkdchkmgbaaC7
import Derived.Test.YtkfplkdchkmgbaaC8
import Derived.Test.YtkfplkdchkmgbaaC9
import Derived.Test.YtkfplkdchkmgbaaBbase
namespace Go.Proofs.Ytkfplkdchkmgbaa.Pure
open Go.RowKit Go.Proofs.Ytkfplkdchkmgbaa.C Go.Proofs.YtkfplkdchkmgbaaW.PrintWords Go.Proofs.YtkfplkdchkmgbaaW.PrintLast Go.Proofs.YtkfplkdchkmgbaaW.PrintMore
set_option linter.unusedVariables false
set_option linter.unusedSimpArgs false
/-! fromi: impl.FromGaps alone -/
def okL (l : List Int) : Prop := asc l ∧ ∀ x ∈ l, 1 ≤ x ∧ x ≤ 199
theorem impl_gapList_ev (l : List Int) (hl : l.length ≤ 1048576) : ∃ b, (b = true ↔ okL l) ∧ Ev (fun k => impl_gapList.f k l) b := by
 obtain ⟨b, b1, b2⟩ := impl_IsAscending_ev l hl
 unfold impl_gapList.f
 cases b with
 | false => exact ⟨false, ⟨(fun e => by cases e), fun e => b1.2 e.1⟩, Ev.bnd b2 (Ev.neg (by decide) (Ev.now _))⟩
 | true =>
  refine ⟨allIn l 1 199, ?_, Ev.bnd b2 (Ev.pos rfl (Ev.bnd (impl_allWithin_ev l 1 199 (by omega)) (Ev.now _)))⟩
  rw [allIn_iff]
  exact ⟨fun e => ⟨b1.1 rfl, e⟩, fun e => e.2⟩
theorem equal_l0 (a b : List Int) (hab : a.length = b.length) (hl : a.length ≤ 1048576) : ∀ (d i : Nat), i + d = a.length → ∃ r, (r = true ↔ a.drop i = b.drop i) ∧ Ev (fun k => slices_Equal_int_int.l0 k a b (a.length : Int) (i : Int)) r := by
 intro d
 induction d with
 | zero =>
  intro i hi
  refine ⟨true, by rw [List.drop_eq_nil_of_le (show a.length ≤ i by omega), List.drop_eq_nil_of_le (show b.length ≤ i by omega)]; simp, Ev.one (fun k => by rw [slices_Equal_int_int.l0]) ?_⟩
  exact Ev.neg (by omega) (Ev.now _)
 | succ d ih =>
  intro i hi
  rw [List.drop_eq_getElem_cons (show i < a.length by omega), List.drop_eq_getElem_cons (show i < b.length by omega)]
  by_cases h : a[i] = b[i]
  ·obtain ⟨r, r1, r2⟩ := ih (i + 1) (by omega)
   refine ⟨r, by rw [r1, h, List.cons.injEq]; simp, Ev.one (fun k => by rw [slices_Equal_int_int.l0]) ?_⟩
   rw [rd_at a i (by omega), rd_at b i (by omega), w64_succ i (by omega)]
   exact Ev.pos (by omega) (Ev.pos (by omega) (Ev.pos (by omega) (Ev.pos (by omega) (Ev.pos h r2))))
  ·refine ⟨false, ⟨(fun e => by cases e), fun e => absurd (List.cons.inj e).1 h⟩, Ev.one (fun k => by rw [slices_Equal_int_int.l0]) ?_⟩
   rw [rd_at a i (by omega), rd_at b i (by omega)]
   exact Ev.pos (by omega) (Ev.pos (by omega) (Ev.pos (by omega) (Ev.pos (by omega) (Ev.neg h (Ev.now _)))))
theorem equal_ev (a b : List Int) (hl : a.length ≤ 1048576) : ∃ r, (r = true ↔ a = b) ∧ Ev (fun k => slices_Equal_int_int.f k a b) r := by
 unfold slices_Equal_int_int.f
 by_cases h : a.length = b.length
 ·obtain ⟨r, r1, r2⟩ := equal_l0 a b h hl a.length 0 (by omega)
  exact ⟨r, by rw [r1]; simp, Ev.pos (by omega) r2⟩
 ·exact ⟨false, ⟨(fun e => by cases e), fun e => absurd (congrArg List.length e) h⟩, Ev.neg (by omega) (Ev.now _)⟩
/-- The table of a list's numbers. -/
def mk (l : List Int) (n : Nat) : List Bool := (List.range n).map fun m : Nat => decide ((m : Int) ∈ l)
theorem mk_len (l : List Int) (n : Nat) : (mk l n).length = n := by simp [mk]
theorem mk_at (l : List Int) (n m : Nat) (h : m < n) : rdOf false (mk l n) (m : Int) = decide ((m : Int) ∈ l) := by
 rw [rdOf_at]
 unfold mk
 rw [List.getD_eq_getElem?_getD, List.getElem?_map, List.getElem?_range h]
 rfl
theorem mk_nil (n : Nat) : mk [] n = List.replicate n false := by
 apply List.ext_getElem (by simp [mk])
 intro i h1 h2
 simp [mk]
theorem mk_get (l : List Int) (n i : Nat) (h : i < (mk l n).length) : (mk l n)[i] = decide ((i : Int) ∈ l) := by
 simp [mk]
theorem mk_set (l : List Int) (n m : Nat) : (mk l n).set m true = mk (l ++ [(m : Int)]) n := by
 apply List.ext_getElem (by rw [List.length_set, mk_len, mk_len])
 intro i h1 h2
 rw [List.getElem_set, mk_get]
 by_cases h : m = i
 ·subst h
  rw [if_pos rfl, mk_get]
  exact (decide_eq_true (List.mem_append.2 (.inr (List.mem_singleton.2 rfl)))).symm
 ·rw [if_neg h, mk_get]
  have e : ((i : Int) ∈ l ↔ (i : Int) ∈ l ++ [(m : Int)]) := by
   rw [List.mem_append, List.mem_singleton]
   exact ⟨fun e => .inl e, fun e => e.resolve_right (fun e => h (by omega))⟩
  exact decide_eq_decide.2 e
theorem mk_next (l : List Int) (n i : Nat) (h : i < l.length) (h0 : 0 ≤ l[i]) : (mk (l.take i) n).set (l[i]).toNat true = mk (l.take (i + 1)) n := by
 rw [mk_set, List.take_succ_eq_append_getElem h, show (((l[i]).toNat : Nat) : Int) = l[i] from by omega]
/-- Two numbers beside the list whose sum is in it. -/
def clQ (l : List Int) (a b : Int) : Prop := ∃ b', b ≤ b' ∧ a ∉ l ∧ b' ∉ l ∧ a + b' ∈ l
def clP (l : List Int) (a : Int) : Prop := ∃ a', a ≤ a' ∧ clQ l a' a'
theorem clP_step (l : List Int) (a : Int) : clP l a ↔ clQ l a a ∨ clP l (a + 1) := by
 constructor
 ·rintro ⟨a', h1, h2⟩
  by_cases e : a = a'
  ·subst e; exact .inl h2
  ·exact .inr ⟨a', by omega, h2⟩
 ·rintro (h | ⟨a', h1, h2⟩)
  ·exact ⟨a, by omega, h⟩
  ·exact ⟨a', by omega, h2⟩
theorem clQ_step (l : List Int) (a b : Int) : clQ l a b ↔ (a ∉ l ∧ b ∉ l ∧ a + b ∈ l) ∨ clQ l a (b + 1) := by
 constructor
 ·rintro ⟨b', h1, h2⟩
  by_cases e : b = b'
  ·subst e; exact .inl h2
  ·exact .inr ⟨b', by omega, h2⟩
 ·rintro (h | ⟨b', h1, h2⟩)
  ·exact ⟨b, by omega, h⟩
  ·exact ⟨b', by omega, h2⟩
theorem clQ_end (l : List Int) (most : Int) (hm : ∀ x ∈ l, x ≤ most) (a b : Int) (h : most < a + b) : ¬ clQ l a b := by
 rintro ⟨b', h1, _, _, h4⟩
 have := hm _ h4
 omega
theorem clP_end (l : List Int) (most : Int) (hm : ∀ x ∈ l, x ≤ most) (a : Int) (h0 : 0 ≤ a) (h : most < a) : ¬ clP l a := by
 rintro ⟨a', h1, h2⟩
 exact clQ_end l most hm a' a' (by omega) h2
/-- The last number of a list that ascends is the greatest. -/
theorem asc_last (l : List Int) (h : asc l) (hl : 0 < l.length) : ∀ x ∈ l, x ≤ rd l ((l.length - 1 : Nat) : Int) := by
 intro x hx
 rw [rd_at l _ (by omega)]
 obtain ⟨i, hi, e⟩ := List.getElem_of_mem hx
 subst e
 by_cases he : i = l.length - 1
 ·subst he; exact Int.le_refl _
 ·have := List.pairwise_iff_getElem.1 h i (l.length - 1) hi (by omega) (by omega)
  omega
theorem okL_top (l : List Int) (h : okL l) (hl : 0 < l.length) : ∃ most : Nat, rd l ((l.length - 1 : Nat) : Int) = (most : Int) ∧ 1 ≤ most ∧ most ≤ 199 ∧ ∀ x ∈ l, x ≤ (most : Int) := by
 have a := asc_last l h.1 hl
 have b := h.2 (rd l ((l.length - 1 : Nat) : Int)) (by rw [rd_at l _ (by omega)]; exact List.getElem_mem _)
 refine ⟨(rd l ((l.length - 1 : Nat) : Int)).toNat, by omega, by omega, by omega, fun x hx => ?_⟩
 have := a x hx
 omega
theorem clP_nil : ¬ clP [] 1 := by
 rintro ⟨a, _, b, _, _, _, h⟩
 simp at h
theorem impl_GapClash_l2 (l : List Int) (most N : Nat) (hm : ∀ x ∈ l, x ≤ (most : Int)) (hN : most < N) (hNb : N ≤ 1000) (a : Nat) (ha1 : 1 ≤ a) (ha : a ≤ most)
  (P : ∃ r : Int × Int × Bool, (r.2.2 = true ↔ clP l ((a + 1 : Nat) : Int)) ∧ Ev (fun k => impl_GapClash.l1 k (mk l N) (most : Int) ((a + 1 : Nat) : Int)) r) :
  ∀ (d b : Nat), most < a + b + d → 1 ≤ b → b ≤ most + 1 → ∃ r : Int × Int × Bool, (r.2.2 = true ↔ clQ l (a : Int) (b : Int) ∨ clP l ((a + 1 : Nat) : Int)) ∧ Ev (fun k => impl_GapClash.l2 k (mk l N) (most : Int) (a : Int) (b : Int)) r := by
 obtain ⟨r, r1, r2⟩ := P
 have hl := mk_len l N
 have far : ∀ b : Nat, b ≤ most + 1 → most < a + b → ∃ r : Int × Int × Bool, (r.2.2 = true ↔ clQ l (a : Int) (b : Int) ∨ clP l ((a + 1 : Nat) : Int)) ∧ Ev (fun k => impl_GapClash.l2 k (mk l N) (most : Int) (a : Int) (b : Int)) r := by
  intro b hb h
  refine ⟨r, ⟨fun e => .inr (r1.1 e), fun e => r1.2 (e.resolve_left (clQ_end l most hm a b (by omega)))⟩, Ev.one (fun k => by rw [impl_GapClash.l2]) ?_⟩
  rw [w64_of (x := (a : Int) + (b : Int)) (by omega) (by omega), w64_succ a (by omega)]
  exact Ev.neg (by omega) r2
 intro d
 induction d with
 | zero =>
  intro b h1 h2 h3
  exact far b h3 (by omega)
 | succ d ih =>
  intro b h1 h2 h3
  by_cases h : most < a + b
  ·exact far b h3 h
  obtain ⟨r', i1, i2⟩ := ih (b + 1) (by omega) (by omega) (by omega)
  have e1 : ((b + 1 : Nat) : Int) = (b : Int) + 1 := by omega
  have e2 : (a : Int) + (b : Int) = ((a + b : Nat) : Int) := by omega
  have st := clQ_step l (a : Int) (b : Int)
  rw [← e1] at st
  have go : ¬ ((a : Int) ∉ l ∧ (b : Int) ∉ l ∧ (a : Int) + (b : Int) ∈ l) → (r'.2.2 = true ↔ clQ l (a : Int) (b : Int) ∨ clP l ((a + 1 : Nat) : Int)) := by
   intro n
   rw [i1, st]
   exact ⟨fun e => e.elim (fun e => .inl (.inr e)) .inr, fun e => e.elim (fun e => .inl (e.resolve_left n)) .inr⟩
  by_cases hA : (a : Int) ∈ l
  ·refine ⟨r', go (fun e => e.1 hA), Ev.one (fun k => by rw [impl_GapClash.l2]) ?_⟩
   rw [w64_of (x := (a : Int) + (b : Int)) (by omega) (by omega), mk_at l N a (by omega), decide_eq_true hA, w64_succ b (by omega)]
   exact Ev.pos (by omega) (Ev.pos (by omega) (Ev.pos (by omega) (Ev.pos rfl i2)))
  ·by_cases hB : (b : Int) ∈ l
   ·refine ⟨r', go (fun e => e.2.1 hB), Ev.one (fun k => by rw [impl_GapClash.l2]) ?_⟩
    rw [w64_of (x := (a : Int) + (b : Int)) (by omega) (by omega), mk_at l N a (by omega), decide_eq_false hA, mk_at l N b (by omega), decide_eq_true hB, w64_succ b (by omega)]
    exact Ev.pos (by omega) (Ev.pos (by omega) (Ev.pos (by omega) (Ev.neg (by decide) (Ev.pos (by omega) (Ev.pos (by omega) (Ev.pos rfl i2))))))
   ·by_cases hC : (a : Int) + (b : Int) ∈ l
    ·refine ⟨((a : Int), (b : Int), true), ⟨fun _ => .inl (st.2 (.inl ⟨hA, hB, hC⟩)), fun _ => rfl⟩, Ev.one (fun k => by rw [impl_GapClash.l2]) ?_⟩
     rw [w64_of (x := (a : Int) + (b : Int)) (by omega) (by omega), mk_at l N a (by omega), decide_eq_false hA, mk_at l N b (by omega), decide_eq_false hB, e2, mk_at l N (a + b) (by omega), ← e2, decide_eq_true hC]
     exact Ev.pos (by omega) (Ev.pos (by omega) (Ev.pos (by omega) (Ev.neg (by decide) (Ev.pos (by omega) (Ev.pos (by omega) (Ev.neg (by decide) (Ev.pos (by omega) (Ev.pos (by omega) (Ev.pos rfl (Ev.now _))))))))))
    ·refine ⟨r', go (fun e => hC e.2.2), Ev.one (fun k => by rw [impl_GapClash.l2]) ?_⟩
     rw [w64_of (x := (a : Int) + (b : Int)) (by omega) (by omega), mk_at l N a (by omega), decide_eq_false hA, mk_at l N b (by omega), decide_eq_false hB, e2, mk_at l N (a + b) (by omega), ← e2, decide_eq_false hC, w64_succ b (by omega)]
     exact Ev.pos (by omega) (Ev.pos (by omega) (Ev.pos (by omega) (Ev.neg (by decide) (Ev.pos (by omega) (Ev.pos (by omega) (Ev.neg (by decide) (Ev.pos (by omega) (Ev.pos (by omega) (Ev.neg (by decide) i2)))))))))
theorem impl_GapClash_l1 (l : List Int) (most N : Nat) (hm : ∀ x ∈ l, x ≤ (most : Int)) (hN : most < N) (hNb : N ≤ 1000) :
  ∀ (d a : Nat), a + d = most + 1 → 1 ≤ a → ∃ r : Int × Int × Bool, (r.2.2 = true ↔ clP l (a : Int)) ∧ Ev (fun k => impl_GapClash.l1 k (mk l N) (most : Int) (a : Int)) r := by
 intro d
 induction d with
 | zero =>
  intro a h h1
  refine ⟨(0, 0, false), ⟨(fun e => by cases e), fun e => absurd e (clP_end l most hm a (by omega) (by omega))⟩, Ev.one (fun k => by rw [impl_GapClash.l1]) ?_⟩
  exact Ev.neg (by omega) (Ev.now _)
 | succ d ih =>
  intro a h h1
  obtain ⟨r, r1, r2⟩ := impl_GapClash_l2 l most N hm hN hNb a h1 (by omega) (ih (a + 1) (by omega) (by omega)) (most + 1) a (by omega) h1 (by omega)
  refine ⟨r, ?_, Ev.one (fun k => by rw [impl_GapClash.l1]) ?_⟩
  ·rw [r1, clP_step l (a : Int)]
   exact Iff.rfl
  ·exact Ev.pos (by omega) r2
theorem impl_GapClash_l0 (l : List Int) (most N : Nat) (hl : l.length ≤ 1048576) (h0 : 0 < l.length) (ht : rd l ((l.length - 1 : Nat) : Int) = (most : Int)) (h1 : ∀ x ∈ l, 1 ≤ x) (hm : ∀ x ∈ l, x ≤ (most : Int)) (hN : most < N) (hNb : N ≤ 1000) :
  ∀ (d i : Nat), i + d = l.length → ∃ r : Int × Int × Bool, (r.2.2 = true ↔ clP l 1) ∧ Ev (fun k => impl_GapClash.l0 k l (mk (l.take i) N) l (l.length : Int) (i : Int)) r := by
 have e1 : wrap64 ((l.length : Int) - 1) = ((l.length - 1 : Nat) : Int) := by rw [w64_of (by omega) (by omega)]; omega
 intro d
 induction d with
 | zero =>
  intro i hi
  obtain ⟨r, r1, r2⟩ := impl_GapClash_l1 l most N hm hN hNb most 1 (by omega) (by omega)
  refine ⟨r, r1, Ev.one (fun k => by rw [impl_GapClash.l0]) ?_⟩
  rw [List.take_of_length_le (by omega), e1, ht]
  exact Ev.neg (by omega) (Ev.pos (by omega) (Ev.pos (by omega) r2))
 | succ d ih =>
  intro i hi
  obtain ⟨r, r1, r2⟩ := ih (i + 1) (by omega)
  have a1 := h1 _ (List.getElem_mem (show i < l.length by omega))
  have a2 := hm _ (List.getElem_mem (show i < l.length by omega))
  refine ⟨r, r1, Ev.one (fun k => by rw [impl_GapClash.l0]) ?_⟩
  rw [rd_at l i (by omega), mk_next l N i (by omega) (by omega), w64_succ i (by omega), mk_len]
  exact Ev.pos (by omega) (Ev.pos (by omega) (Ev.pos (by omega) (Ev.pos (by omega) (Ev.pos (by omega) r2))))
theorem impl_GapClash_ev (l : List Int) (hl : l.length ≤ 1048576) : ∃ r : Int × Int × Bool, (r.2.2 = true ↔ okL l ∧ clP l 1) ∧ Ev (fun k => impl_GapClash.f k l) r := by
 obtain ⟨b, b1, b2⟩ := impl_gapList_ev l hl
 unfold impl_GapClash.f
 cases b with
 | false =>
  refine ⟨(0, 0, false), ⟨(fun e => by cases e), fun e => b1.2 e.1⟩, Ev.bnd b2 (Ev.neg (by decide) (Ev.one (fun k => by rw [impl_GapClash.j0]) ?_))⟩
  exact Ev.pos rfl (Ev.now _)
 | true =>
  have ok := b1.1 rfl
  by_cases h : l.length = 0
  ·refine ⟨(0, 0, false), ⟨(fun e => by cases e), fun e => ?_⟩, Ev.bnd b2 (Ev.pos rfl (Ev.one (fun k => by rw [impl_GapClash.j0]) ?_))⟩
   ·rw [List.length_eq_zero_iff] at h
    subst h
    exact absurd e.2 clP_nil
   ·exact Ev.pos (by rw [h]; rfl) (Ev.now _)
  ·obtain ⟨most, m1, m2, m3, m4⟩ := okL_top l ok (by omega)
   obtain ⟨r, r1, r2⟩ := impl_GapClash_l0 l most 201 hl (by omega) m1 (fun x hx => (ok.2 x hx).1) m4 (by omega) (by omega) l.length 0 (by omega)
   refine ⟨r, by rw [r1]; exact ⟨fun e => ⟨ok, e⟩, fun e => e.2⟩, Ev.bnd b2 (Ev.pos rfl (Ev.one (fun k => by rw [impl_GapClash.j0]) ?_))⟩
   rw [List.take_zero, mk_nil] at r2
   exact Ev.neg (by rw [beq_iff_eq]; omega) (Ev.pos (by omega) r2)
/-- A number beside the list that is no sum of two such numbers. -/
def irr (l : List Int) (n : Int) : Prop := 1 ≤ n ∧ n ∉ l ∧ ¬ ∃ a b : Int, 1 ≤ a ∧ 1 ≤ b ∧ a + b = n ∧ a ∉ l ∧ b ∉ l
noncomputable def irrB (l : List Int) (n : Nat) : Bool := @decide (irr l (n : Int)) (Classical.propDecidable _)
theorem irrB_iff (l : List Int) (n : Nat) : irrB l n = true ↔ irr l (n : Int) := by unfold irrB; exact @decide_eq_true_iff (irr l (n : Int)) (Classical.propDecidable _)
theorem irrB_not (l : List Int) (n : Nat) (h : ¬ irr l (n : Int)) : irrB l n = false := by
 cases hb : irrB l n with
 | false => rfl
 | true => exact absurd ((irrB_iff l n).1 hb) h
noncomputable def genL (l : List Int) (n : Nat) : List Int := pick (irrB l) (fun n => (n : Int)) n
theorem genL_len (l : List Int) (n : Nat) : (genL l n).length ≤ n := pick_len _ _ _
theorem genL_mem (l : List Int) (n : Nat) (x : Int) : x ∈ genL l n ↔ irr l x ∧ x < (n : Int) := by
 unfold genL pick
 rw [List.mem_map]
 constructor
 ·rintro ⟨m, hm, rfl⟩
  rw [List.mem_filter, List.mem_range, irrB_iff] at hm
  exact ⟨hm.2, by omega⟩
 ·rintro ⟨h1, h2⟩
  have h0 := h1.1
  refine ⟨x.toNat, ?_, by omega⟩
  rw [List.mem_filter, List.mem_range, irrB_iff, show ((x.toNat : Nat) : Int) = x from by omega]
  exact ⟨by omega, h1⟩
theorem genL_pos (l : List Int) (n : Nat) : ∀ x ∈ genL l n, 1 ≤ x := fun x hx => ((genL_mem l n x).1 hx).1.1
theorem genL_pos1 (l : List Int) (n : Nat) (h : irr l (n : Int)) : genL l (n + 1) = genL l n ++ [(n : Int)] := pick_pos _ _ n ((irrB_iff l n).2 h)
theorem genL_neg1 (l : List Int) (n : Nat) (h : ¬ irr l (n : Int)) : genL l (n + 1) = genL l n := pick_neg _ _ n (irrB_not l n h)
theorem genL_one (l : List Int) : genL l 1 = [] := by
 rw [genL_neg1 l 0 (fun h => by have := h.1; omega)]
 rfl
/-- No clash: the numbers beside the list are closed under addition. -/
theorem closed_of (l : List Int) (hc : ¬ clP l 1) (a b : Int) (ha : 1 ≤ a) (hb : 1 ≤ b) (h1 : a ∉ l) (h2 : b ∉ l) : a + b ∉ l := by
 intro h
 rcases Int.le_total a b with e | e
 ·exact hc ⟨a, by omega, b, by omega, h1, h2, h⟩
 ·exact hc ⟨b, by omega, a, by omega, h2, h1, by rwa [Int.add_comm]⟩
theorem sums_out (l : List Int) (hc : ¬ clP l 1) (n : Nat) (m : Int) (h : Sums (genL l n) m) : m = 0 ∨ (1 ≤ m ∧ m ∉ l) := by
 refine Sums.ind (P := fun m => m = 0 ∨ (1 ≤ m ∧ m ∉ l)) (.inl rfl) (fun x k hx _ hk => ?_) h
 have hi := ((genL_mem l n x).1 hx).1
 rcases hk with e | ⟨e1, e2⟩
 ·subst e
  rw [Int.zero_add]
  exact .inr ⟨hi.1, hi.2.1⟩
 ·have := hi.1
  exact .inr ⟨by omega, closed_of l hc k x e1 hi.1 e2 hi.2.1⟩
theorem sums_in (l : List Int) (n : Nat) : ∀ (q m : Nat), m ≤ q → m < n → 1 ≤ m → (m : Int) ∉ l → Sums (genL l n) (m : Int) := by
 intro q
 induction q with
 | zero => intro m h1 _ h2 _; omega
 | succ q ih =>
  intro m h1 h2 h3 h4
  by_cases hi : irr l (m : Int)
  ·exact Sums.one ((genL_mem l n _).2 ⟨hi, by omega⟩)
  ·have : ∃ a b : Int, 1 ≤ a ∧ 1 ≤ b ∧ a + b = (m : Int) ∧ a ∉ l ∧ b ∉ l := Classical.byContradiction fun e => hi ⟨by omega, h4, e⟩
   obtain ⟨a, b, a1, b1, e, ha, hb⟩ := this
   have sa := ih a.toNat (by omega) (by omega) (by omega) (by rwa [show ((a.toNat : Nat) : Int) = a from by omega])
   have sb := ih b.toNat (by omega) (by omega) (by omega) (by rwa [show ((b.toNat : Nat) : Int) = b from by omega])
   rw [show ((a.toNat : Nat) : Int) = a from by omega] at sa
   rw [show ((b.toNat : Nat) : Int) = b from by omega] at sb
   rw [← e]
   exact Sums.both sa sb
/-- A number beside the list is a sum of the smaller generators exactly if it is not itself one. -/
theorem sums_self (l : List Int) (hc : ¬ clP l 1) (n : Nat) (h1 : 1 ≤ n) (hn : (n : Int) ∉ l) : Sums (genL l n) (n : Int) ↔ ¬ irr l (n : Int) := by
 constructor
 ·intro h hi
  obtain ⟨x, hx, hx2, hs⟩ := Sums.cut (genL_pos l n) h (by omega)
  have hm := (genL_mem l n x).1 hx
  rcases sums_out l hc n _ hs with e | ⟨e1, e2⟩
  ·omega
  ·exact hi.2.2 ⟨x, (n : Int) - x, hm.1.1, e1, by omega, hm.1.2.1, e2⟩
 ·intro hi
  have : ∃ a b : Int, 1 ≤ a ∧ 1 ≤ b ∧ a + b = (n : Int) ∧ a ∉ l ∧ b ∉ l := Classical.byContradiction fun e => hi ⟨by omega, hn, e⟩
  obtain ⟨a, b, a1, b1, e, ha, hb⟩ := this
  have sa := sums_in l n n a.toNat (by omega) (by omega) (by omega) (by rwa [show ((a.toNat : Nat) : Int) = a from by omega])
  have sb := sums_in l n n b.toNat (by omega) (by omega) (by omega) (by rwa [show ((b.toNat : Nat) : Int) = b from by omega])
  rw [show ((a.toNat : Nat) : Int) = a from by omega] at sa
  rw [show ((b.toNat : Nat) : Int) = b from by omega] at sb
  rw [← e]
  exact Sums.both sa sb
/-- Past twice the greatest number no generator comes. -/
theorem genL_far (l : List Int) (most : Nat) (hm : ∀ x ∈ l, x ≤ (most : Int)) : ∀ d : Nat, genL l (2 * most + 3 + d) = genL l (2 * most + 3) := by
 intro d
 induction d with
 | zero => rfl
 | succ d ih =>
  rw [← ih]
  refine genL_neg1 l (2 * most + 3 + d) (fun h => h.2.2 ⟨(most : Int) + 1, ((2 * most + 3 + d : Nat) : Int) - ((most : Int) + 1), by omega, by omega, by omega, fun e => ?_, fun e => ?_⟩)
  ·have := hm _ e; omega
  ·have := hm _ e; omega
theorem gapL_gens (l : List Int) (ok : okL l) (hc : ¬ clP l 1) (n : Nat) (hn : 200 ≤ n) : gapL (genL l n) = l := by
 refine asc_uniq _ _ (asc_pick _ _) ok.1 (fun x => ?_)
 rw [gapL_mem]
 constructor
 ·rintro ⟨h0, h1, h2⟩
  by_cases hx : x ∈ l
  ·exact hx
  ·exfalso
   by_cases e : x = 0
   ·subst e; exact h2 (Sums.zero _)
   ·have := sums_in l n n x.toNat (by omega) (by omega) (by omega) (by rwa [show ((x.toNat : Nat) : Int) = x from by omega])
    rw [show ((x.toNat : Nat) : Int) = x from by omega] at this
    exact h2 this
 ·intro hx
  have := ok.2 x hx
  refine ⟨by omega, by omega, fun h => ?_⟩
  rcases sums_out l hc n x h with e | ⟨_, e⟩
  ·omega
  ·exact e hx
/-- What FromGaps answers. -/
noncomputable def fromS (l : List Int) (b : Bool) : List Int × Bool := if b = true then (genL l 401, true) else ([], false)
theorem fromS_len (l : List Int) (b : Bool) : (fromS l b).1.length ≤ 401 := by
 unfold fromS
 split
 ·exact genL_len l 401
 ·simp
/-- Whether the numbers beside a list are a semigroup. -/
def gapsOk (l : List Int) : Prop := okL l ∧ ¬ clP l 1 ∧ SG (genL l 401)
theorem impl_FromGaps_t (l gs : List Int) (n : Nat) (hn : n ≤ 400) (r : List Int × Bool) (h : Ev (fun k => impl_FromGaps.l1 k l (mk l 401) ((n + 1 : Nat) : Int) gs) r) (a : Nat) :
  Ev (fun k => impl_FromGaps.l2 k l (mk l 401) (n : Int) true (a : Int) gs) r := by
 refine Ev.one (fun k => by rw [impl_FromGaps.l2]) ?_
 rw [w64_succ n (by omega)]
 by_cases e : wrap64 (2 * (a : Int)) ≤ (n : Int)
 ·exact Ev.pos e (Ev.pos rfl h)
 ·exact Ev.neg e (Ev.pos rfl h)
theorem no_pair (l : List Int) (n a : Nat) (h1 : 1 ≤ n) (hn : (n : Int) ∉ l) (h2 : n < 2 * a) (hs : ∀ q : Nat, 1 ≤ q → q < a → (q : Int) ∈ l ∨ (n : Int) - (q : Int) ∈ l) : irr l (n : Int) := by
 refine ⟨by omega, hn, ?_⟩
 rintro ⟨x, y, hx, hy, e, hxl, hyl⟩
 rcases Int.le_total x y with o | o
 ·have := hs x.toNat (by omega) (by omega)
  rw [show ((x.toNat : Nat) : Int) = x from by omega, show (n : Int) - x = y from by omega] at this
  exact this.elim hxl hyl
 ·have := hs y.toNat (by omega) (by omega)
  rw [show ((y.toNat : Nat) : Int) = y from by omega, show (n : Int) - y = x from by omega] at this
  exact this.elim hyl hxl
theorem impl_FromGaps_l2 (l : List Int) (n : Nat) (h1 : 1 ≤ n) (hn : n ≤ 400) (hnl : (n : Int) ∉ l) (r : List Int × Bool) (h : Ev (fun k => impl_FromGaps.l1 k l (mk l 401) ((n + 1 : Nat) : Int) (genL l (n + 1))) r) :
  ∀ (d a : Nat), n < 2 * a + 2 * d → 1 ≤ a → a ≤ 401 → (∀ q : Nat, 1 ≤ q → q < a → (q : Int) ∈ l ∨ (n : Int) - (q : Int) ∈ l) →
  Ev (fun k => impl_FromGaps.l2 k l (mk l 401) (n : Int) false (a : Int) (genL l n)) r := by
 have hgl := genL_len l n
 have hml := mk_len l 401
 have last : ∀ a : Nat, n < 2 * a → a ≤ 401 → (∀ q : Nat, 1 ≤ q → q < a → (q : Int) ∈ l ∨ (n : Int) - (q : Int) ∈ l) → Ev (fun k => impl_FromGaps.l2 k l (mk l 401) (n : Int) false (a : Int) (genL l n)) r := by
  intro a h2 h3 hs
  have hi := no_pair l n a h1 hnl h2 hs
  rw [genL_pos1 l n hi] at h
  refine Ev.one (fun k => by rw [impl_FromGaps.l2]) ?_
  rw [w64_succ n (by omega), w64_of (x := 2 * (a : Int)) (by omega) (by omega)]
  exact Ev.neg (by omega) (Ev.neg (by decide) (Ev.pos (by omega) h))
 intro d
 induction d with
 | zero =>
  intro a h2 h3 h4 hs
  exact last a (by omega) h4 hs
 | succ d ih =>
  intro a h2 h3 h4 hs
  by_cases hq : n < 2 * a
  ·exact last a hq h4 hs
  have e1 : (n : Int) - (a : Int) = ((n - a : Nat) : Int) := by omega
  have step : ((a : Int) ∈ l ∨ (n : Int) - (a : Int) ∈ l) → Ev (fun k => impl_FromGaps.l2 k l (mk l 401) (n : Int) false ((a + 1 : Nat) : Int) (genL l n)) r := by
   intro hp
   refine ih (a + 1) (by omega) (by omega) (by omega) (fun q q1 q2 => ?_)
   by_cases e : q = a
   ·subst e; exact hp
   ·exact hs q q1 (by omega)
  refine Ev.one (fun k => by rw [impl_FromGaps.l2]) ?_
  rw [w64_succ a (by omega), w64_of (x := 2 * (a : Int)) (by omega) (by omega), mk_at l 401 a (by omega), w64_of (x := (n : Int) - (a : Int)) (by omega) (by omega), e1, mk_at l 401 (n - a) (by omega), ← e1]
  refine Ev.pos (by omega) (Ev.neg (by decide) (Ev.pos (by omega) (Ev.pos (by omega) ?_)))
  by_cases hA : (a : Int) ∈ l
  ·rw [decide_eq_true hA]
   exact Ev.pos rfl (step (.inl hA))
  ·rw [decide_eq_false hA]
   refine Ev.neg (by decide) (Ev.pos (by omega) (Ev.pos (by omega) ?_))
   by_cases hB : (n : Int) - (a : Int) ∈ l
   ·rw [decide_eq_true hB]
    exact step (.inr hB)
   ·rw [decide_eq_false hB]
    have hi : ¬ irr l (n : Int) := fun hi => hi.2.2 ⟨(a : Int), (n : Int) - (a : Int), by omega, by omega, by omega, hA, hB⟩
    rw [genL_neg1 l n hi] at h
    exact impl_FromGaps_t l _ n hn r h (a + 1)
theorem impl_FromGaps_l1 (l : List Int) (ok : okL l) (hc : ¬ clP l 1) (b : Bool) (hb : b = true ↔ SG (genL l 401)) :
  ∀ (d i : Nat), i + d = 401 → 1 ≤ i → Ev (fun k => impl_FromGaps.l1 k l (mk l 401) (i : Int) (genL l i)) (fromS l b) := by
 have hml := mk_len l 401
 intro d
 induction d with
 | zero =>
  intro i hi h1
  obtain rfl : i = 401 := by omega
  have hgl := genL_len l 401
  obtain ⟨c, c1, _, c2⟩ := sg_both (genL l 401) (by omega)
  have e : c = b := bool_same c1 hb
  subst e
  refine Ev.one (fun k => by rw [impl_FromGaps.l1]) ?_
  rw [hml]
  refine Ev.neg (by omega) (Ev.bnd c2 ?_)
  unfold fromS
  cases c with
  | false => exact Ev.neg (by decide) (Ev.now _)
  | true =>
   obtain ⟨c', d1, d2⟩ := impl_gaps_ev (genL l 401) (by omega)
   have e' : c' = true := d1.2 (hb.1 rfl)
   subst e'
   have eg : gapsS true (genL l 401) = l := by
    unfold gapsS
    rw [if_pos rfl]
    exact gapL_gens l ok hc 401 (by omega)
   rw [eg] at d2
   have hll : l.length ≤ 1048576 := by
    have := gapsS_len true (genL l 401)
    rw [eg] at this
    omega
   obtain ⟨q, q1, q2⟩ := equal_ev l l hll
   have eq : q = true := q1.2 rfl
   subst eq
   exact Ev.pos rfl (Ev.bnd d2 (Ev.bnd q2 (Ev.pos rfl (Ev.now _))))
 | succ d ih =>
  intro i hi h1
  have ih := ih (i + 1) (by omega) (by omega)
  refine Ev.one (fun k => by rw [impl_FromGaps.l1]) ?_
  rw [hml, mk_at l 401 i (by omega)]
  refine Ev.pos (by omega) (Ev.pos (by omega) ?_)
  by_cases hn : (i : Int) ∈ l
  ·rw [decide_eq_true hn]
   rw [genL_neg1 l i (fun e => e.2.1 hn)] at ih
   exact impl_FromGaps_t l _ i (by omega) _ ih 1
  ·rw [decide_eq_false hn]
   exact impl_FromGaps_l2 l i h1 (by omega) hn _ ih i 1 (by omega) (by omega) (by omega) (fun q q1 q2 => by omega)
theorem impl_FromGaps_l0 (l : List Int) (hl : l.length ≤ 1048576) (ok : okL l) (hc : ¬ clP l 1) (b : Bool) (hb : b = true ↔ SG (genL l 401)) :
  ∀ (d i : Nat), i + d = l.length → Ev (fun k => impl_FromGaps.l0 k l (mk (l.take i) 401) l (l.length : Int) (i : Int)) (fromS l b) := by
 intro d
 induction d with
 | zero =>
  intro i hi
  refine Ev.one (fun k => by rw [impl_FromGaps.l0]) ?_
  rw [List.take_of_length_le (by omega)]
  have h := impl_FromGaps_l1 l ok hc b hb 400 1 (by omega) (by omega)
  rw [genL_one] at h
  exact Ev.neg (by omega) h
 | succ d ih =>
  intro i hi
  have ih := ih (i + 1) (by omega)
  have a1 := ok.2 _ (List.getElem_mem (show i < l.length by omega))
  refine Ev.one (fun k => by rw [impl_FromGaps.l0]) ?_
  rw [rd_at l i (by omega), mk_next l 401 i (by omega) (by omega), w64_succ i (by omega), mk_len]
  exact Ev.pos (by omega) (Ev.pos (by omega) (Ev.pos (by omega) (Ev.pos (by omega) (Ev.pos (by omega) ih))))
theorem from_impl (l : List Int) (hl : l.length ≤ 1048576) : ∃ b, (b = true ↔ okL l ∧ ¬ clP l 1 ∧ SG (genL l 401)) ∧ Ev (fun k => impl_FromGaps.f k l) (fromS l b) := by
 obtain ⟨s, s1, s2⟩ := impl_GapClash_ev l hl
 obtain ⟨e, e1, e2⟩ := impl_gapList_ev l hl
 have outI : Ev (fun k => impl_FromGaps.j0 k l true) (fromS l false) := by
  refine Ev.one (fun k => by rw [impl_FromGaps.j0]) ?_
  exact Ev.pos rfl (Ev.now _)
 unfold impl_FromGaps.f
 cases hs : s.2.2 with
 | true => exact ⟨false, ⟨(fun e => by cases e), fun e => absurd (s1.1 hs).2 e.2.1⟩, Ev.bnd s2 (Ev.pos hs outI)⟩
 | false =>
  cases e with
  | false => exact ⟨false, ⟨(fun e => by cases e), fun h => by have := e1.2 h.1; cases this⟩, Ev.bnd s2 (Ev.neg (by rw [hs]; decide) (Ev.bnd e2 outI))⟩
  | true =>
   have ok := e1.1 rfl
   have ncl : ¬ clP l 1 := fun h => by have := s1.2 ⟨ok, h⟩; rw [hs] at this; cases this
   have hgl := genL_len l 401
   obtain ⟨b, b1, _, _⟩ := sg_both (genL l 401) (by omega)
   refine ⟨b, by rw [b1]; exact ⟨fun h => ⟨ok, ncl, h⟩, fun h => h.2.2⟩, Ev.bnd s2 (Ev.neg (by rw [hs]; decide) (Ev.bnd e2 ?_))⟩
   refine Ev.one (fun k => by rw [impl_FromGaps.j0]) ?_
   have h := impl_FromGaps_l0 l hl ok ncl b b1 l.length 0 (by omega)
   rw [List.take_zero, mk_nil] at h
   exact Ev.neg (by decide) (Ev.pos (by omega) h)
/-! froms: what is known of an answer of FromGaps -/
theorem fromS_facts (l : List Int) (q : Bool) (hq : q = true ↔ okL l ∧ ¬ clP l 1 ∧ SG (genL l 401)) : (fromS l q).2 = q ∧ (q = true → SG (fromS l q).1 ∧ gapL (fromS l q).1 = l) ∧ (q = false → (fromS l q).1 = []) := by
 unfold fromS
 cases q with
 | true =>
  have h := hq.1 rfl
  exact ⟨rfl, fun _ => ⟨h.2.2, gapL_gens l h.1 h.2.1 401 (by omega)⟩, fun h => by cases h⟩
 | false => exact ⟨rfl, (fun h => by cases h), fun _ => rfl⟩
/-- From the gaps to the sums. -/
theorem sums_gaps {g l : List Int} (hS : SG g) (h : gapL g = l) (n : Int) (h0 : 0 ≤ n) : Sums g n ↔ n ∉ l := by
 subst h
 rw [gapL_mem]
 constructor
 ·exact fun h e => e.2.2 h
 ·intro h
  refine Classical.byContradiction fun hn => ?_
  by_cases h2 : n < 200
  ·exact h ⟨h0, h2, hn⟩
  ·exact hn (hS.ends n (by omega))
/-! apery: AperySet of both sides -/
def isAp (g : List Int) (n r m : Nat) : Prop := (m % n = r ∧ Sums g (m : Int)) ∧ ∀ m', m' < m → ¬ (m' % n = r ∧ Sums g (m' : Int))
theorem least_nat (P : Nat → Prop) : ∀ b, P b → ∃ m, m ≤ b ∧ P m ∧ ∀ m', m' < m → ¬ P m' := by
 intro b
 induction b using Nat.strongRecOn with
 | ind b ih =>
  intro h
  by_cases hb : ∃ c, c < b ∧ P c
  ·obtain ⟨c, hc, hp⟩ := hb
   obtain ⟨m, m1, m2⟩ := ih c hc hp
   exact ⟨m, by omega, m2⟩
  ·exact ⟨b, Nat.le_refl _, h, fun m' hm hp => hb ⟨m', hm, hp⟩⟩
theorem ap_exists (g : List Int) (hS : SG g) (n r : Nat) (hn : 1 ≤ n ∧ n ≤ 60) (hr : r < n) : ∃ m, m ≤ 199 + n ∧ isAp g n r m := by
 have h1 := Nat.div_add_mod (200 - r + (n - 1)) n
 have h2 := Nat.mod_lt (200 - r + (n - 1)) (show 0 < n by omega)
 generalize hq : (200 - r + (n - 1)) / n = q at h1
 generalize hz : n * q = z at h1
 have hm : (r + z) % n = r := by rw [← hz, Nat.add_mul_mod_self_left, Nat.mod_eq_of_lt hr]
 obtain ⟨m, m1, m2⟩ := least_nat (fun m => m % n = r ∧ Sums g (m : Int)) (r + z) ⟨hm, hS.ends _ (by omega)⟩
 exact ⟨m, by omega, m2⟩
theorem spec_ap_l1 (g : List Int) (n r m : Nat) (hn : 1 ≤ n ∧ n ≤ 60) (hm : m ≤ 199 + n) (ha : isAp g n r m) (out : List Int) (ho : out.length ≤ 60) {R : List Int}
  (hk : Ev (fun k => spec_l6Apery.l0 k (n : Int) (tblL g 261) (out ++ [(m : Int)]) ((r + 1 : Nat) : Int)) R) (hr : r < n) :
  ∀ d t, t + d = m / n → Ev (fun k => spec_l6Apery.l1 k (n : Int) (tblL g 261) out (r : Int) ((n * t + r : Nat) : Int)) R := by
 have h1 := Nat.div_add_mod m n
 rw [ha.1.1] at h1
 have ht := tblL_length g 261
 intro d
 induction d with
 | zero =>
  intro t h
  obtain rfl : t = m / n := by omega
  rw [h1]
  refine Ev.one (fun k => by rw [spec_l6Apery.l1]) ?_
  rw [rdOf_tblL g 261 m (by omega), (elB_iff g _).2 ha.1.2, w64_succ r (by omega)]
  exact Ev.pos (by omega) (Ev.pos (by omega) (Ev.pos rfl (Ev.pos (by omega) hk)))
 | succ d ih =>
  intro t h
  have hlt : n * t + r < m := by
   have : n * (t + 1) ≤ n * (m / n) := Nat.mul_le_mul_left n (by omega)
   rw [Nat.mul_succ] at this
   omega
  have hnot : elB g ((n * t + r : Nat) : Int) = false := by
   cases hb : elB g ((n * t + r : Nat) : Int) with
   | false => rfl
   | true => exact absurd ⟨by rw [Nat.mul_add_mod, Nat.mod_eq_of_lt hr], (elB_iff g _).1 hb⟩ (ha.2 _ hlt)
  have ih := ih (t + 1) (by omega)
  rw [show n * (t + 1) + r = n * t + r + n from by rw [Nat.mul_succ]; omega] at ih
  refine Ev.one (fun k => by rw [spec_l6Apery.l1]) ?_
  rw [rdOf_tblL g 261 (n * t + r) (by omega), hnot, w64_of (x := ((n * t + r : Nat) : Int) + (n : Int)) (by omega) (by omega), show ((n * t + r : Nat) : Int) + (n : Int) = ((n * t + r + n : Nat) : Int) from by omega]
  exact Ev.pos (by omega) (Ev.pos (by omega) (Ev.neg (by decide) ih))
theorem set_mid (a b : List Int) (x v : Int) : (a ++ x :: b).set a.length v = a ++ v :: b := by simp
theorem rd_mid (a b : List Int) (x : Int) : rd (a ++ x :: b) (a.length : Int) = x := by
 rw [rd_at _ _ (by simp)]
 simp
theorem impl_ap_l1 (g : List Int) (n r m : Nat) (hn : 1 ≤ n ∧ n ≤ 60) (hm : m ≤ 199 + n) (ha : isAp g n r m) (out rest : List Int) (ho : out.length = r) {R : List Int}
  (hk : Ev (fun k => impl_AperySet.l0 k (n : Int) (out ++ (m : Int) :: rest) (tblL g (200 + n + 1)) (n : Int) ((r + 1 : Nat) : Int)) R) (hr : r < n) :
  ∀ d c, c + d = m → Ev (fun k => impl_AperySet.l1 k (n : Int) (out ++ (c : Int) :: rest) (tblL g (200 + n + 1)) (r : Int) (n : Int) (r : Int)) R := by
 have ht := tblL_length g (200 + n + 1)
 subst ho
 intro d
 induction d with
 | zero =>
  intro c h
  obtain rfl : c = m := by omega
  refine Ev.one (fun k => by rw [impl_AperySet.l1]) ?_
  rw [rd_mid, rdOf_tblL g (200 + n + 1) c (by omega), (elB_iff g _).2 ha.1.2, tmod_nat c n, ha.1.1, w64_succ out.length (by omega)]
  exact Ev.pos (by omega) (Ev.pos (by rw [List.length_append, List.length_cons]; omega) (Ev.pos (by omega) (Ev.pos (by omega) (Ev.pos rfl (Ev.neg (by omega) (Ev.pos rfl hk))))))
 | succ d ih =>
  intro c h
  have ih := ih (c + 1) (by omega)
  have hnot := ha.2 c (by omega)
  refine Ev.one (fun k => by rw [impl_AperySet.l1]) ?_
  rw [rd_mid, rdOf_tblL g (200 + n + 1) c (by omega), tmod_nat c n, w64_succ c (by omega), Int.toNat_natCast, set_mid]
  refine Ev.pos (by omega) (Ev.pos (by rw [List.length_append, List.length_cons]; omega) (Ev.pos (by omega) (Ev.pos (by omega) ?_)))
  cases hb : elB g (c : Int) with
  | false => exact Ev.neg (by decide) ih
  | true => exact Ev.pos rfl (Ev.neg (by omega) (Ev.neg (fun e => hnot ⟨by omega, (elB_iff g _).1 hb⟩) ih))
theorem apery_more (g : List Int) (hlen : g.length ≤ 1048576) (n : Int) (hn64 : n ≤ 9223372036854775807) : ∃ r, (r.length ≤ 60 ∧ (∀ x ∈ r, 0 ≤ x ∧ x ≤ 259) ∧ (r ≠ [] → (1 ≤ n ∧ n ≤ 60) ∧ SG g ∧ Sums g n ∧ ∃ A : Nat → Nat, r = ((List.range n.toNat).map fun i => (A i : Int)) ∧ ∀ i, i < n.toNat → A i ≤ 199 + n.toNat ∧ isAp g n.toNat i (A i)) ∧ (SG g → Sums g n → 1 ≤ n ∧ n ≤ 60 → r ≠ [])) ∧ Ev (fun k => spec_AperySet.f k g n) r ∧ Ev (fun k => impl_AperySet.f k g n) r := by
 obtain ⟨b, b1, b2⟩ := spec_Contains_ev g hlen n
 obtain ⟨c, c1, c2⟩ := impl_Contains_ev g hlen n hn64
 obtain rfl := bool_same b1 c1
 have w1 := spec_l1In_ev n 1 60
 have w2 := impl_within_ev n 1 60
 have out_ : Ev (fun k => impl_AperySet.j0 k n true g) [] := Ev.one (fun k => by rw [impl_AperySet.j0]) (Ev.pos rfl (Ev.now _))
 unfold spec_AperySet.f impl_AperySet.f
 by_cases hn : 1 ≤ n ∧ n ≤ 60
 rotate_left
 ·rw [decide_eq_false hn] at w1 w2
  refine ⟨[], ⟨by simp, by simp, by simp, fun _ _ h => absurd h hn⟩, Ev.bnd b2 ?_, Ev.bnd w2 (Ev.neg (by decide) out_)⟩
  cases b with
  | true => exact Ev.pos rfl (Ev.bnd w1 (Ev.neg (by decide) (Ev.now _)))
  | false => exact Ev.neg (by decide) (Ev.now _)
 rw [decide_eq_true hn] at w1 w2
 cases b with
 | false => exact ⟨[], ⟨by simp, by simp, by simp, fun h1 h2 _ => absurd (b1.2 ⟨h1, h2⟩) (by decide)⟩, Ev.bnd b2 (Ev.neg (by decide) (Ev.now _)), Ev.bnd w2 (Ev.pos rfl (Ev.bnd c2 out_))⟩
 | true =>
  have hS := (b1.1 rfl).1
  obtain ⟨q, rfl⟩ : ∃ q : Nat, n = (q : Int) := ⟨n.toNat, by omega⟩
  have hq : 1 ≤ q ∧ q ≤ 60 := by omega
  have hex : ∀ r : Nat, ∃ m, r < q → m ≤ 199 + q ∧ isAp g q r m := fun r => by
   by_cases hr : r < q
   ·obtain ⟨m, hm⟩ := ap_exists g hS q r hq hr
    exact ⟨m, fun _ => hm⟩
   ·exact ⟨0, fun h => absurd h hr⟩
  obtain ⟨A, hA⟩ := Classical.axiomOfChoice hex
  refine ⟨(List.range q).map fun r => (A r : Int), ⟨by simp; omega, fun x hx => ?_, fun _ => ⟨hn, hS, (b1.1 rfl).2, A, rfl, hA⟩, fun _ _ _ e => ?_⟩, ?_, ?_⟩
  ·obtain ⟨r, hr, rfl⟩ := List.mem_map.1 hx
   rw [List.mem_range] at hr
   have := (hA r hr).1
   omega
  ·have := congrArg List.length e
   rw [List.length_map, List.length_range, List.length_nil] at this
   omega
  ·refine Ev.bnd b2 (Ev.pos rfl (Ev.bnd w1 (Ev.pos rfl (Ev.bnd (a := (List.range q).map fun r => (A r : Int)) ?_ (Ev.now _)))))
   unfold spec_l6Apery.f
   refine Ev.bnd (spec_tbl_ev g 260 (fun x hx => (hS.rng x hx).1) hlen (by omega)) ?_
   have key : ∀ d r, r + d = q → Ev (fun k => spec_l6Apery.l0 k (q : Int) (tblL g 261) ((List.range r).map fun r => (A r : Int)) (r : Int)) ((List.range q).map fun r => (A r : Int)) := by
    intro d
    induction d with
    | zero =>
     intro r hr
     obtain rfl : r = q := by omega
     refine Ev.one (fun k => by rw [spec_l6Apery.l0]) ?_
     exact Ev.neg (by omega) (Ev.now _)
    | succ d ih =>
     intro r hr
     have ih := ih (r + 1) (by omega)
     rw [List.range_succ, List.map_append] at ih
     refine Ev.one (fun k => by rw [spec_l6Apery.l0]) ?_
     refine Ev.pos (by omega) ?_
     have := spec_ap_l1 g q r (A r) hq (hA r (by omega)).1 (hA r (by omega)).2 ((List.range r).map fun r => (A r : Int)) (by simp; omega) ih (by omega) (A r / q) 0 (by omega)
     rw [Nat.mul_zero, Nat.zero_add] at this
     exact this
   exact key q 0 (by omega)
  ·refine Ev.bnd w2 (Ev.pos rfl (Ev.bnd c2 (Ev.one (fun k => by rw [impl_AperySet.j0]) ?_)))
   rw [Int.toNat_natCast, w64_of (x := 200 + (q : Int)) (by omega) (by omega), show (200 : Int) + (q : Int) = ((200 + q : Nat) : Int) from by omega]
   refine Ev.neg (by decide) (Ev.pos (by omega) (Ev.pos (by omega) (Ev.some (Ev.bnd (impl_table_ev g hS (200 + q) (by omega)) ?_))))
   rw [List.length_replicate]
   have key : ∀ d r, r + d = q → Ev (fun k => impl_AperySet.l0 k (q : Int) (((List.range r).map fun r => (A r : Int)) ++ List.replicate d 0) (tblL g (200 + q + 1)) (q : Int) (r : Int)) ((List.range q).map fun r => (A r : Int)) := by
    intro d
    induction d with
    | zero =>
     intro r hr
     obtain rfl : r = q := by omega
     refine Ev.one (fun k => by rw [impl_AperySet.l0]) ?_
     rw [List.replicate_zero, List.append_nil]
     exact Ev.neg (by omega) (Ev.now _)
    | succ d ih =>
     intro r hr
     have ih := ih (r + 1) (by omega)
     rw [List.range_succ, List.map_append, List.append_assoc] at ih
     refine Ev.one (fun k => by rw [impl_AperySet.l0]) ?_
     refine Ev.pos (by omega) ?_
     rw [List.replicate_succ]
     exact impl_ap_l1 g q r (A r) hq (hA r (by omega)).1 (hA r (by omega)).2 ((List.range r).map fun r => (A r : Int)) (List.replicate d 0) (by simp) ih (by omega) (A r) 0 (by omega)
   exact key q 0 (by omega)
theorem apery_both (g : List Int) (hlen : g.length ≤ 1048576) (n : Int) (hn64 : n ≤ 9223372036854775807) : ∃ r, (r.length ≤ 60 ∧ (∀ x ∈ r, 0 ≤ x ∧ x ≤ 259) ∧ (r ≠ [] → 1 ≤ n ∧ n ≤ 60)) ∧ Ev (fun k => spec_AperySet.f k g n) r ∧ Ev (fun k => impl_AperySet.f k g n) r := by
 obtain ⟨r, r1, r2, r3⟩ := apery_more g hlen n hn64
 exact ⟨r, ⟨r1.1, r1.2.1, fun h => (r1.2.2.1 h).1⟩, r2, r3⟩
theorem Sums.nmul {g : List Int} {x : Int} (hx : Sums g x) (k : Nat) : Sums g ((k : Int) * x) := by
 induction k with
 | zero => rw [show ((0 : Nat) : Int) * x = 0 from by simp]; exact Sums.zero g
 | succ k ih =>
  have h := ih.both hx
  rwa [show (k : Int) * x + x = ((k + 1 : Nat) : Int) * x from by rw [Int.natCast_add, Int.add_mul]; simp] at h
/-- What the list of least elements holds. -/
theorem apery_mem (g : List Int) (hp : ∀ x ∈ g, 1 ≤ x) (q : Nat) (h1 : 1 ≤ q) (hq : Sums g (q : Int)) (A : Nat → Nat) (hA : ∀ i, i < q → A i ≤ 199 + q ∧ isAp g q i (A i)) (w : Int) :
  w ∈ ((List.range q).map fun i => (A i : Int)) ↔ Sums g w ∧ ¬ Sums g (w - (q : Int)) := by
 rw [List.mem_map]
 constructor
 ·rintro ⟨i, hi, rfl⟩
  rw [List.mem_range] at hi
  obtain ⟨_, ⟨a1, a2⟩, a3⟩ := hA i hi
  refine ⟨a2, fun h => ?_⟩
  have h0 := h.nonneg hp
  refine a3 (A i - q) (by omega) ⟨?_, by rwa [show ((A i - q : Nat) : Int) = (A i : Int) - (q : Int) from by omega]⟩
  exact (Nat.mod_eq_sub_mod (show q ≤ A i by omega)).symm.trans a1
 ·rintro ⟨h2, h3⟩
  obtain ⟨m, rfl⟩ : ∃ m : Nat, w = (m : Int) := ⟨w.toNat, by have := h2.nonneg hp; omega⟩
  have hlt := Nat.mod_lt m (show 0 < q by omega)
  obtain ⟨_, ⟨a1, a2⟩, a3⟩ := hA (m % q) hlt
  refine ⟨m % q, List.mem_range.2 hlt, ?_⟩
  have hle : A (m % q) ≤ m := Classical.byContradiction fun hn => a3 m (by omega) ⟨rfl, h2⟩
  refine Classical.byContradiction fun hne => h3 ?_
  have m1 := Nat.mod_add_div m q
  have m2 := Nat.mod_add_div (A (m % q)) q
  have m3 : A (m % q) / q ≤ m / q := Nat.div_le_div_right hle
  obtain ⟨c, hc⟩ : ∃ c, m / q = A (m % q) / q + c := ⟨m / q - A (m % q) / q, by omega⟩
  rw [hc, Nat.mul_add] at m1
  rw [a1] at m2
  cases c with
  | zero => rw [Nat.mul_zero] at m1; omega
  | succ c =>
   have := a2.both (Sums.nmul hq c)
   rw [Nat.mul_succ] at m1
   rwa [show (A (m % q) : Int) + (c : Int) * (q : Int) = (m : Int) - (q : Int) from by rw [← Int.natCast_mul, Nat.mul_comm c q]; omega] at this
/-! eqsg: spec.EqualSemigroup -/
theorem equalSg_ev (a b : List Int) (hl : a.length ≤ 1048576) : ∃ r, (r = true ↔ a = b) ∧ Ev (fun k => spec_EqualSemigroup.f k a b) r := by
 obtain ⟨r, r1, r2⟩ := spec_l2Same_ev a b hl
 exact ⟨r, r1, Ev.bnd r2 (Ev.now _)⟩
theorem equalSg_same (a : List Int) (hl : a.length ≤ 1048576) : Ev (fun k => spec_EqualSemigroup.f k a a) true := by
 obtain ⟨r, r1, r2⟩ := equalSg_ev a a hl
 rwa [r1.2 rfl] at r2
/-! sguniq: the generators of a semigroup are told by what it holds -/
/-- An element that is no sum of two others. -/
def irrS (g : List Int) (x : Int) : Prop := 1 ≤ x ∧ Sums g x ∧ ∀ a b, 1 ≤ a → 1 ≤ b → Sums g a → Sums g b → a + b ≠ x
theorem irr_mem (g : List Int) (hp : ∀ x ∈ g, 1 ≤ x) (x : Int) (h : irrS g x) : x ∈ g := by
 obtain ⟨y, hy, hle, hs⟩ := h.2.1.cut hp (by have := h.1; omega)
 by_cases e : x = y
 ·rw [e]; exact hy
 ·exact absurd (show y + (x - y) = x by omega) (h.2.2 y (x - y) (hp y hy) (by omega) (Sums.one hy) hs)
theorem mem_take (g : List Int) (hu : asc g) (k : Nat) (hk : k < g.length) (y : Int) (hy : y ∈ g) (hl : y < g[k]) : y ∈ g.take k := by
 obtain ⟨j, hj, rfl⟩ := List.getElem_of_mem hy
 have hjk : j < k := Classical.byContradiction fun hn => by
  by_cases e : j = k
  ·subst e; omega
  ·have := List.pairwise_iff_getElem.1 hu k j hk hj (by omega)
   omega
 exact List.mem_iff_getElem.2 ⟨j, by rw [List.length_take]; omega, List.getElem_take ..⟩
theorem sums_take (g : List Int) (hp : ∀ x ∈ g, 1 ≤ x) (hu : asc g) (k : Nat) (hk : k < g.length) : ∀ (q : Nat) (a : Int), a ≤ (q : Int) → Sums g a → a < g[k] → Sums (g.take k) a := by
 intro q
 induction q with
 | zero =>
  intro a ha hs _
  have := hs.nonneg hp
  rw [show a = 0 from by omega]
  exact Sums.zero _
 | succ q ih =>
  intro a ha hs hl
  by_cases h0 : a = 0
  ·rw [h0]; exact Sums.zero _
  obtain ⟨y, hy, hle, hc⟩ := hs.cut hp h0
  have hy1 := hp y hy
  have h1 := ih (a - y) (by omega) hc (by omega)
  have := h1.add (mem_take g hu k hk y hy (by omega))
  rwa [show a - y + y = a from by omega] at this
theorem min_irr (l : List Int) (hp : ∀ x ∈ l, 1 ≤ x) (hu : asc l) (y : Int) : y ∈ minL l ↔ irrS l y := by
 unfold minL
 rw [List.mem_map]
 constructor
 ·rintro ⟨k, hk, rfl⟩
  rw [List.mem_filter, List.mem_range, keptB_iff] at hk
  obtain ⟨hkl, hk⟩ := hk
  rw [getD_at l k hkl]
  have hm := List.getElem_mem hkl
  refine ⟨hp _ hm, Sums.one hm, fun a b ha hb hsa hsb e => ?_⟩
  have h1 := sums_take l hp hu k hkl a.toNat a (by omega) hsa (by omega)
  have h2 := sums_take l hp hu k hkl b.toNat b (by omega) hsb (by omega)
  rcases hk with h | h
  ·subst h
   rw [List.take_zero] at h1
   obtain ⟨z, hz, _⟩ := h1.cut (fun x hx => by cases hx) (by omega)
   cases hz
  ·rw [getD_at l k hkl, ← e] at h
   exact h (h1.both h2)
 ·intro h
  have hm := irr_mem l hp y h
  obtain ⟨k, hk, rfl⟩ := List.getElem_of_mem hm
  refine ⟨k, List.mem_filter.2 ⟨List.mem_range.2 hk, (keptB_iff l k).2 ?_⟩, getD_at l k hk⟩
  by_cases h0 : k = 0
  ·exact .inl h0
  refine .inr fun hs => ?_
  rw [getD_at l k hk] at hs
  obtain ⟨z, hz, hle, hc⟩ := hs.cut (fun x hx => hp x (List.mem_of_mem_take hx)) (by have := hp _ hm; omega)
  obtain ⟨j, hj, rfl⟩ := List.getElem_of_mem hz
  rw [List.length_take] at hj
  rw [List.getElem_take] at hle hc
  have hlt := List.pairwise_iff_getElem.1 hu j k (by omega) hk (by omega)
  have hjm := List.getElem_mem (show j < l.length by omega)
  exact h.2.2 l[j] (l[k] - l[j]) (hp _ hjm) (by omega) (Sums.one hjm) (Sums.mono (fun x hx => List.mem_of_mem_take hx) hc) (by omega)
theorem asc_min (l : List Int) (hu : asc l) : asc (minL l) := by
 unfold minL asc
 rw [List.pairwise_map]
 refine List.Pairwise.imp_of_mem (R := fun a b => a < b) (fun {a b} ha hb hab => ?_) (List.Pairwise.filter _ (List.pairwise_lt_range ..))
 have h1 := List.mem_range.1 (List.mem_filter.1 ha).1
 have h2 := List.mem_range.1 (List.mem_filter.1 hb).1
 rw [getD_at l a h1, getD_at l b h2]
 exact List.pairwise_iff_getElem.1 hu a b h1 h2 hab
theorem sg_irr (g : List Int) (hS : SG g) (y : Int) : y ∈ g ↔ irrS g y := by
 have := min_irr g (fun x hx => (hS.rng x hx).1) hS.up y
 rwa [(minL_iff g).2 hS.free] at this
theorem irr_same (a b : List Int) (h : ∀ n, Sums a n ↔ Sums b n) (y : Int) : irrS a y ↔ irrS b y := by
 unfold irrS
 simp only [h]
theorem sg_uniq (a b : List Int) (ha : SG a) (hb : SG b) (h : ∀ n, Sums a n ↔ Sums b n) : a = b :=
 asc_uniq a b ha.up hb.up (fun y => (sg_irr a ha y).trans ((irr_same a b h y).trans (sg_irr b hb y).symm))
theorem min_uniq (a l : List Int) (ha : SG a) (hp : ∀ x ∈ l, 1 ≤ x) (hu : asc l) (h : ∀ n, Sums a n ↔ Sums l n) : minL l = a :=
 asc_uniq _ a (asc_min l hu) ha.up (fun y => (min_irr l hp hu y).trans ((irr_same a l h y).symm.trans (sg_irr a ha y).symm))
/-- From a semigroup to its gaps, and back. -/
theorem gaps_back (g : List Int) (hS : SG g) : okL (gapL g) ∧ ¬ clP (gapL g) 1 ∧ genL (gapL g) 401 = g := by
 have hp : ∀ x ∈ g, 1 ≤ x := fun x hx => (hS.rng x hx).1
 have hin : ∀ n : Int, 0 ≤ n → (Sums g n ↔ n ∉ gapL g) := fun n hn => sums_gaps hS rfl n hn
 refine ⟨⟨asc_pick _ _, fun x hx => ?_⟩, fun ⟨a, ha, b, hb, h1, h2, h3⟩ => ?_, ?_⟩
 ·have := (gapL_mem g x).1 hx
  have : x ≠ 0 := fun e => this.2.2 (e ▸ Sums.zero g)
  omega
 ·have s1 := (hin a (by omega)).2 h1
  have s2 := (hin b (by omega)).2 h2
  exact (hin (a + b) (by omega)).1 (s1.both s2) h3
 ·refine asc_uniq _ g (asc_pick _ _) hS.up (fun y => ?_)
  rw [genL_mem, sg_irr g hS]
  unfold irr irrS
  constructor
  ·rintro ⟨⟨h1, h2, h3⟩, _⟩
   exact ⟨h1, (hin y (by omega)).2 h2, fun a b ha hb sa sb e => h3 ⟨a, b, ha, hb, e, (hin a (by omega)).1 sa, (hin b (by omega)).1 sb⟩⟩
  ·rintro ⟨h1, h2, h3⟩
   refine ⟨⟨h1, (hin y (by omega)).1 h2, fun ⟨a, b, ha, hb, e, sa, sb⟩ => h3 a b ha hb ((hin a (by omega)).2 sa) ((hin b (by omega)).2 sb) e⟩, ?_⟩
   have := (hS.rng y ((sg_irr g hS y).2 ⟨h1, h2, h3⟩)).2
   omega
theorem from_gapL (g : List Int) (hS : SG g) (hl : (gapL g).length ≤ 1048576) : Ev (fun k => impl_FromGaps.f k (gapL g)) (g, true) := by
 obtain ⟨b, b1, b3⟩ := from_impl (gapL g) hl
 obtain ⟨g1, g2, g3⟩ := gaps_back g hS
 have hb : b = true := b1.2 ⟨g1, g2, by rw [g3]; exact hS⟩
 have e : fromS (gapL g) b = (g, true) := by unfold fromS; rw [if_pos hb, g3]
 rw [e] at b3
 exact b3
/-! coords: CoordinatesOf of both sides -/
/-- The coordinates of a semigroup. -/
def Co (x l : List Int) : Prop := SG x ∧ ∃ (q : Nat) (A : Nat → Nat), rd x 0 = (q : Int) ∧ 1 ≤ q ∧ q ≤ 60 ∧ (q : Int) ∈ x ∧ (∀ i, i < q → A i ≤ 199 + q ∧ isAp x q i (A i)) ∧ l = (List.range (q - 1)).map fun i => ((A (i + 1) / q : Nat) : Int)
theorem isAp_uniq {g : List Int} {n r a b : Nat} (ha : isAp g n r a) (hb : isAp g n r b) : a = b := by
 refine Classical.byContradiction fun hn => ?_
 by_cases h : a < b
 ·exact hb.2 a h ha.1
 ·exact ha.2 b (by omega) hb.1
theorem Co.uniq {x l m : List Int} (h : Co x l) (k : Co x m) : l = m := by
 obtain ⟨_, q, A, h1, h2, h3, h4, h5, rfl⟩ := h
 obtain ⟨_, p, B, k1, k2, k3, k4, k5, rfl⟩ := k
 obtain rfl : q = p := by omega
 refine List.map_congr_left fun i hi => ?_
 rw [List.mem_range] at hi
 rw [isAp_uniq (h5 (i + 1) (by omega)).2 (k5 (i + 1) (by omega)).2]
theorem l6_of (g : List Int) (q : Int) (r : List Int) (hq : 1 ≤ q ∧ q ≤ 60) (h1 : Ev (fun k => spec_AperySet.f k g q) r) (h2 : Ev (fun k => spec_Contains.f k g q) true) : Ev (fun k => spec_l6Apery.f k g q) r := by
 have w1 := spec_l1In_ev q 1 60
 rw [decide_eq_true hq] at w1
 obtain ⟨K1, e1⟩ := h1
 obtain ⟨K2, e2⟩ := h2
 obtain ⟨K3, e3⟩ := w1
 refine ⟨max K1 (max K2 K3), fun k hk => ?_⟩
 have a1 : spec_AperySet.f k g q = some r := e1 k (by omega)
 have a2 : spec_Contains.f k g q = some true := e2 k (by omega)
 have a3 : spec_l1In.f q 1 60 = some true := e3 k (by omega)
 show spec_l6Apery.f k g q = some r
 simp only [spec_AperySet.f] at a1
 rw [a2, Option.bind_some, if_pos rfl, a3, Option.bind_some, if_pos rfl] at a1
 revert a1
 cases spec_l6Apery.f k g q with
 | none => intro h; cases h
 | some z => exact id
theorem tdiv_nat (a b : Nat) : Int.tdiv (a : Int) (b : Int) = ((a / b : Nat) : Int) := rfl
theorem coordsof_more (g : List Int) (hlen : g.length ≤ 1048576) : ∃ r, (r.length ≤ 59 ∧ (SG g → Co g r) ∧ (¬ SG g → r = []) ∧ ∀ v ∈ r, 0 ≤ v ∧ v ≤ 259) ∧ Ev (fun k => spec_CoordinatesOf.f k g) r ∧ Ev (fun k => impl_CoordinatesOf.f k g) r := by
 obtain ⟨b, b1, b2⟩ := spec_IsSemigroup_ev g hlen
 obtain ⟨c, c1, c2⟩ := impl_IsSemigroup_ev g hlen
 obtain rfl := bool_same b1 c1
 unfold spec_CoordinatesOf.f impl_CoordinatesOf.f
 cases b with
 | false =>
  have m1 : Ev (fun k => spec_MultiplicityOf.f k g) 0 := by
   unfold spec_MultiplicityOf.f
   exact Ev.bnd b2 (Ev.neg (by decide) (Ev.now _))
  have m2 : Ev (fun k => impl_MultiplicityOf.f k g) 0 := by
   unfold impl_MultiplicityOf.f
   exact Ev.bnd c2 (Ev.neg (by decide) (Ev.now _))
  exact ⟨[], ⟨by simp, fun h => (by have := b1.2 h; cases this), fun _ => rfl, fun v hv => (by cases hv)⟩, Ev.some (Ev.bnd m1 (Ev.pos rfl (Ev.now _))), Ev.bnd m2 (Ev.pos rfl (Ev.now _))⟩
 | true =>
  have hS := b1.1 rfl
  have hl1 := hS.len1
  obtain ⟨q, q1, q2, q3, q4⟩ := first_of g (by omega) hS.rng
  have m1 : Ev (fun k => spec_MultiplicityOf.f k g) (q : Int) := by
   unfold spec_MultiplicityOf.f
   rw [q1]
   exact Ev.bnd b2 (Ev.pos rfl (Ev.pos (by omega) (Ev.now _)))
  have m2 : Ev (fun k => impl_MultiplicityOf.f k g) (q : Int) := by
   unfold impl_MultiplicityOf.f
   rw [q1]
   exact Ev.bnd c2 (Ev.pos rfl (Ev.pos (by omega) (Ev.now _)))
  obtain ⟨r, r1, r2, r3⟩ := apery_more g hlen (q : Int) (by omega)
  obtain ⟨_, _, _, A, er, hA⟩ := r1.2.2.1 (r1.2.2.2 hS (Sums.one q4) (by omega))
  rw [Int.toNat_natCast] at er hA
  obtain ⟨d, d1, d2⟩ := spec_Contains_ev g hlen (q : Int)
  rw [d1.2 ⟨hS, Sums.one q4⟩] at d2
  have r4 := l6_of g (q : Int) r (by omega) r2 d2
  have hlr : r.length = q := by rw [er]; simp
  have hA0 : ∀ i, i < q → rd r (i : Int) = (A i : Int) := fun i hi => by
   rw [rd_at r i (by omega)]
   simp [er]
  have hdiv : ∀ i, i < q → 0 ≤ ((A i / q : Nat) : Int) ∧ ((A i / q : Nat) : Int) ≤ 259 := fun i hi => ⟨Int.natCast_nonneg _, Int.ofNat_le.2 (Nat.le_trans (Nat.div_le_self (A i) q) (show A i ≤ 259 by have := (hA i hi).1; omega))⟩
  refine ⟨(List.range (q - 1)).map fun i => ((A (i + 1) / q : Nat) : Int), ⟨by simp; omega, fun _ => ⟨hS, q, A, q1, q2, q3, q4, hA, rfl⟩, fun h => absurd hS h, fun v hv => ?_⟩, Ev.some (Ev.bnd m1 (Ev.neg (by omega) (Ev.bnd r4 ?_))), Ev.bnd m2 (Ev.neg (by omega) (Ev.bnd r3 (Ev.pos (by omega) (Ev.some ?_))))⟩
  ·obtain ⟨i, hi, rfl⟩ := List.mem_map.1 hv
   rw [List.mem_range] at hi
   exact hdiv (i + 1) (by omega)
  ·have key : ∀ d i, i + 1 + d = q → Ev (fun k => spec_CoordinatesOf.l0 k ((List.range i).map fun i => ((A (i + 1) / q : Nat) : Int)) (q : Int) r ((i + 1 : Nat) : Int)) ((List.range (q - 1)).map fun i => ((A (i + 1) / q : Nat) : Int)) := by
    intro d
    induction d with
    | zero =>
     intro i hi
     obtain rfl : i = q - 1 := by omega
     refine Ev.one (fun k => by rw [spec_CoordinatesOf.l0]) ?_
     exact Ev.neg (by omega) (Ev.now _)
    | succ d ih =>
     intro i hi
     have ih := ih (i + 1) (by omega)
     rw [List.range_succ, List.map_append, List.map_cons, List.map_nil] at ih
     refine Ev.one (fun k => by rw [spec_CoordinatesOf.l0]) ?_
     have := hdiv (i + 1) (by omega)
     rw [hA0 (i + 1) (by omega), tdiv_nat, w64_of (x := ((A (i + 1) / q : Nat) : Int)) (by omega) (by omega), w64_succ (i + 1) (by omega)]
     exact Ev.pos (by omega) (Ev.pos (by omega) (Ev.pos (by omega) (Ev.neg (by omega) (Ev.pos (by simp; omega) ih))))
   exact key (q - 1) 0 (by omega)
  ·have hdl : (r.drop 1).length = q - 1 := by rw [List.length_drop]; omega
   rw [hdl]
   have key : ∀ d i, i + d = q - 1 → Ev (fun k => impl_CoordinatesOf.l0 k (q : Int) ((List.range i).map fun i => ((A (i + 1) / q : Nat) : Int)) (r.drop 1) ((q - 1 : Nat) : Int) (i : Int)) ((List.range (q - 1)).map fun i => ((A (i + 1) / q : Nat) : Int)) := by
    intro d
    induction d with
    | zero =>
     intro i hi
     obtain rfl : i = q - 1 := by omega
     refine Ev.one (fun k => by rw [impl_CoordinatesOf.l0]) ?_
     exact Ev.neg (by omega) (Ev.now _)
    | succ d ih =>
     intro i hi
     have ih := ih (i + 1) (by omega)
     rw [List.range_succ, List.map_append, List.map_cons, List.map_nil] at ih
     refine Ev.one (fun k => by rw [impl_CoordinatesOf.l0]) ?_
     have := hdiv (i + 1) (by omega)
     have e : rd (r.drop 1) (i : Int) = (A (i + 1) : Int) := by
      rw [rd_at _ i (by omega), List.getElem_drop]
      have := hA0 (i + 1) (by omega)
      rw [rd_at r (i + 1) (by omega)] at this
      rw [← this]
      congr 1
      omega
     rw [e, tdiv_nat, w64_of (x := ((A (i + 1) / q : Nat) : Int)) (by omega) (by omega), w64_succ i (by omega)]
     exact Ev.pos (by omega) (Ev.pos (by omega) (Ev.pos (by omega) (Ev.neg (by omega) (Ev.pos (by simp; omega) ih))))
   exact key (q - 1) 0 (by omega)
/-! clash: CoordinateClash of both sides -/
def kz (l : List Int) (a b : Int) : Prop := (a + b < (l.length : Int) + 1 ∧ rd l (a - 1) + rd l (b - 1) < rd l (a + b - 1)) ∨ (a + b > (l.length : Int) + 1 ∧ rd l (a - 1) + rd l (b - 1) + 1 < rd l (a + b - ((l.length : Int) + 1) - 1))
/-- No two coordinates clash. -/
def kzFree (l : List Int) : Prop := ∀ a b : Int, 1 ≤ a → a ≤ b → b < (l.length : Int) + 1 → ¬ kz l a b
theorem rd_rng (l : List Int) (lo hi : Int) (h : ∀ v ∈ l, lo ≤ v ∧ v ≤ hi) (i : Int) (h0 : 0 ≤ i) (h1 : i < (l.length : Int)) : lo ≤ rd l i ∧ rd l i ≤ hi := by
 obtain ⟨j, rfl⟩ : ∃ j : Nat, i = (j : Int) := ⟨i.toNat, by omega⟩
 rw [rd_at l j (by omega)]
 exact h _ (List.getElem_mem _)
theorem clash_eq (l : List Int) : ∀ k, (∀ m a b, impl_CoordinateClash.l2 k l m a b = spec_CoordinateClash.l2 k l m a b) ∧ ∀ m a, impl_CoordinateClash.l1 k l m a = spec_CoordinateClash.l1 k l m a := by
 intro k
 induction k with
 | zero => exact ⟨fun m a b => by rw [impl_CoordinateClash.l2, spec_CoordinateClash.l2], fun m a => by rw [impl_CoordinateClash.l1, spec_CoordinateClash.l1]⟩
 | succ k ih => exact ⟨fun m a b => by rw [impl_CoordinateClash.l2, spec_CoordinateClash.l2]; simp only [ih.1, ih.2], fun m a => by rw [impl_CoordinateClash.l1, spec_CoordinateClash.l1]; simp only [ih.1]⟩
theorem spec_clash_l2 (l : List Int) (hl : l.length ≤ 1048576) (hv : ∀ v ∈ l, 1 ≤ v ∧ v ≤ 200) (a : Nat) (ha : 1 ≤ a)
  (next : ∃ r : Int × Int × Bool, (kzFree l → r.2.2 = false) ∧ Ev (fun k => spec_CoordinateClash.l1 k l ((l.length : Int) + 1) ((a + 1 : Nat) : Int)) r) :
  ∀ d b : Nat, b + d = l.length + 1 → a ≤ b → ∃ r : Int × Int × Bool, (kzFree l → r.2.2 = false) ∧ Ev (fun k => spec_CoordinateClash.l2 k l ((l.length : Int) + 1) (a : Int) (b : Int)) r := by
 intro d
 induction d with
 | zero =>
  intro b hb hab
  obtain ⟨r, r1, r2⟩ := next
  refine ⟨r, r1, Ev.one (fun k => by rw [spec_CoordinateClash.l2]) ?_⟩
  rw [w64_succ a (by omega)]
  exact Ev.neg (by omega) r2
 | succ d ih =>
  intro b hb hab
  obtain ⟨r, r1, r2⟩ := ih (b + 1) (by omega) (by omega)
  have hx := rd_rng l 1 200 hv ((a : Int) - 1) (by omega) (by omega)
  have hy := rd_rng l 1 200 hv ((b : Int) - 1) (by omega) (by omega)
  by_cases h1 : (a : Int) + (b : Int) < (l.length : Int) + 1
  ·have hz := rd_rng l 1 200 hv ((a : Int) + (b : Int) - 1) (by omega) (by omega)
   by_cases hc : rd l ((a : Int) - 1) + rd l ((b : Int) - 1) < rd l ((a : Int) + (b : Int) - 1)
   ·refine ⟨((a : Int), (b : Int), true), fun h => absurd (Or.inl ⟨h1, hc⟩) (h a b (by omega) (by omega) (by omega)), Ev.one (fun k => by rw [spec_CoordinateClash.l2]) ?_⟩
    rw [w64_of (x := (a : Int) - 1) (by omega) (by omega), w64_of (x := (b : Int) - 1) (by omega) (by omega), w64_of (x := (a : Int) + (b : Int)) (by omega) (by omega), w64_of (x := (a : Int) + (b : Int) - 1) (by omega) (by omega), w64_of (x := rd l ((a : Int) - 1) + rd l ((b : Int) - 1)) (by omega) (by omega)]
    exact Ev.pos (by omega) (Ev.pos (by omega) (Ev.pos (by omega) (Ev.pos (by omega) (Ev.pos (by omega) (Ev.pos h1 (Ev.pos (by omega) (Ev.pos (by omega) (Ev.pos hc (Ev.now _)))))))))
   ·refine ⟨r, r1, Ev.one (fun k => by rw [spec_CoordinateClash.l2]) ?_⟩
    rw [w64_of (x := (a : Int) - 1) (by omega) (by omega), w64_of (x := (b : Int) - 1) (by omega) (by omega), w64_of (x := (a : Int) + (b : Int)) (by omega) (by omega), w64_of (x := (a : Int) + (b : Int) - 1) (by omega) (by omega), w64_of (x := rd l ((a : Int) - 1) + rd l ((b : Int) - 1)) (by omega) (by omega), w64_succ b (by omega)]
    exact Ev.pos (by omega) (Ev.pos (by omega) (Ev.pos (by omega) (Ev.pos (by omega) (Ev.pos (by omega) (Ev.pos h1 (Ev.pos (by omega) (Ev.pos (by omega) (Ev.neg hc (Ev.neg (by omega) r2)))))))))
  ·by_cases h2 : (a : Int) + (b : Int) > (l.length : Int) + 1
   ·have hz := rd_rng l 1 200 hv ((a : Int) + (b : Int) - ((l.length : Int) + 1) - 1) (by omega) (by omega)
    by_cases hc : rd l ((a : Int) - 1) + rd l ((b : Int) - 1) + 1 < rd l ((a : Int) + (b : Int) - ((l.length : Int) + 1) - 1)
    ·refine ⟨((a : Int), (b : Int), true), fun h => absurd (Or.inr ⟨h2, hc⟩) (h a b (by omega) (by omega) (by omega)), Ev.one (fun k => by rw [spec_CoordinateClash.l2]) ?_⟩
     rw [w64_of (x := (a : Int) - 1) (by omega) (by omega), w64_of (x := (b : Int) - 1) (by omega) (by omega), w64_of (x := (a : Int) + (b : Int)) (by omega) (by omega), w64_of (x := (a : Int) + (b : Int) - ((l.length : Int) + 1)) (by omega) (by omega), w64_of (x := (a : Int) + (b : Int) - ((l.length : Int) + 1) - 1) (by omega) (by omega), w64_of (x := rd l ((a : Int) - 1) + rd l ((b : Int) - 1)) (by omega) (by omega), w64_of (x := rd l ((a : Int) - 1) + rd l ((b : Int) - 1) + 1) (by omega) (by omega)]
     exact Ev.pos (by omega) (Ev.pos (by omega) (Ev.pos (by omega) (Ev.pos (by omega) (Ev.pos (by omega) (Ev.neg h1 (Ev.pos h2 (Ev.pos (by omega) (Ev.pos (by omega) (Ev.pos hc (Ev.now _))))))))))
    ·refine ⟨r, r1, Ev.one (fun k => by rw [spec_CoordinateClash.l2]) ?_⟩
     rw [w64_of (x := (a : Int) - 1) (by omega) (by omega), w64_of (x := (b : Int) - 1) (by omega) (by omega), w64_of (x := (a : Int) + (b : Int)) (by omega) (by omega), w64_of (x := (a : Int) + (b : Int) - ((l.length : Int) + 1)) (by omega) (by omega), w64_of (x := (a : Int) + (b : Int) - ((l.length : Int) + 1) - 1) (by omega) (by omega), w64_of (x := rd l ((a : Int) - 1) + rd l ((b : Int) - 1)) (by omega) (by omega), w64_of (x := rd l ((a : Int) - 1) + rd l ((b : Int) - 1) + 1) (by omega) (by omega), w64_succ b (by omega)]
     exact Ev.pos (by omega) (Ev.pos (by omega) (Ev.pos (by omega) (Ev.pos (by omega) (Ev.pos (by omega) (Ev.neg h1 (Ev.pos h2 (Ev.pos (by omega) (Ev.pos (by omega) (Ev.neg hc r2)))))))))
   ·refine ⟨r, r1, Ev.one (fun k => by rw [spec_CoordinateClash.l2]) ?_⟩
    rw [w64_of (x := (a : Int) - 1) (by omega) (by omega), w64_of (x := (b : Int) - 1) (by omega) (by omega), w64_of (x := (a : Int) + (b : Int)) (by omega) (by omega), w64_succ b (by omega)]
    exact Ev.pos (by omega) (Ev.pos (by omega) (Ev.pos (by omega) (Ev.pos (by omega) (Ev.pos (by omega) (Ev.neg h1 (Ev.neg h2 r2))))))
theorem spec_clash_l1 (l : List Int) (hl : l.length ≤ 1048576) (hv : ∀ v ∈ l, 1 ≤ v ∧ v ≤ 200) : ∀ d a : Nat, a + d = l.length + 1 → 1 ≤ a → ∃ r : Int × Int × Bool, (kzFree l → r.2.2 = false) ∧ Ev (fun k => spec_CoordinateClash.l1 k l ((l.length : Int) + 1) (a : Int)) r := by
 intro d
 induction d with
 | zero =>
  intro a h h1
  exact ⟨(0, 0, false), fun _ => rfl, Ev.one (fun k => by rw [spec_CoordinateClash.l1]) (Ev.neg (by omega) (Ev.now _))⟩
 | succ d ih =>
  intro a h h1
  obtain ⟨r, r1, r2⟩ := spec_clash_l2 l hl hv a h1 (ih (a + 1) (by omega) (by omega)) (d + 1) a h (Nat.le_refl _)
  exact ⟨r, r1, Ev.one (fun k => by rw [spec_CoordinateClash.l1]) (Ev.pos (by omega) r2)⟩
theorem clash_both (l : List Int) (hl : l.length ≤ 1048576) : ∃ r : Int × Int × Bool, ((r.2.2 = false → ∀ v ∈ l, 1 ≤ v ∧ v ≤ 200) ∧ ((∀ v ∈ l, 1 ≤ v ∧ v ≤ 200) → kzFree l → r.2.2 = false)) ∧ Ev (fun k => spec_CoordinateClash.f k l) r ∧ Ev (fun k => impl_CoordinateClash.f k l) r := by
 have key : ∀ d i : Nat, i + d = l.length → (∀ v ∈ l.take i, 1 ≤ v ∧ v ≤ 200) → ∃ r : Int × Int × Bool, ((r.2.2 = false → ∀ v ∈ l, 1 ≤ v ∧ v ≤ 200) ∧ ((∀ v ∈ l, 1 ≤ v ∧ v ≤ 200) → kzFree l → r.2.2 = false)) ∧ Ev (fun k => spec_CoordinateClash.l0 k l ((l.length : Int) + 1) ((i + 1 : Nat) : Int)) r ∧ Ev (fun k => impl_CoordinateClash.l0 k l l (l.length : Int) (i : Int)) r := by
  intro d
  induction d with
  | zero =>
   intro i hi ht
   rw [List.take_of_length_le (by omega)] at ht
   obtain ⟨r, r1, r2⟩ := spec_clash_l1 l hl ht l.length 1 (by omega) (Nat.le_refl _)
   refine ⟨r, ⟨fun _ => ht, fun _ => r1⟩, ?_, ?_⟩
   ·refine Ev.one (fun k => by rw [spec_CoordinateClash.l0]) ?_
    exact Ev.neg (by omega) r2
   ·refine Ev.one (fun k => by rw [impl_CoordinateClash.l0]) ?_
    rw [w64_of (x := (l.length : Int) + 1) (by omega) (by omega)]
    exact Ev.neg (by omega) (Ev.congr (fun k => (clash_eq l k).2 _ _) r2)
  | succ d ih =>
   intro i hi ht
   have hil : i < l.length := by omega
   have w1 := spec_l1In_ev l[i] 1 200
   have w2 := impl_within_ev l[i] 1 200
   by_cases hc : 1 ≤ l[i] ∧ l[i] ≤ 200
   ·obtain ⟨r, r1, r2, r3⟩ := ih (i + 1) (by omega) (fun v hv => by
     rw [List.take_succ_eq_append_getElem hil] at hv
     rcases List.mem_append.1 hv with h | h
     ·exact ht v h
     ·rw [List.mem_singleton.1 h]; exact hc)
    rw [decide_eq_true hc] at w1 w2
    refine ⟨r, r1, ?_, ?_⟩
    ·refine Ev.one (fun k => by rw [spec_CoordinateClash.l0]) ?_
     rw [w64_succ (i + 1) (by omega), w64_of (x := ((i + 1 : Nat) : Int) - 1) (by omega) (by omega), show ((i + 1 : Nat) : Int) - 1 = (i : Int) from by omega, rd_at l i hil]
     exact Ev.pos (by omega) (Ev.pos (by omega) (Ev.pos (by omega) (Ev.bnd w1 (Ev.pos rfl r2))))
    ·refine Ev.one (fun k => by rw [impl_CoordinateClash.l0]) ?_
     rw [w64_succ i (by omega), rd_at l i hil]
     exact Ev.pos (by omega) (Ev.pos (by omega) (Ev.pos (by omega) (Ev.bnd w2 (Ev.pos rfl r3))))
   ·rw [decide_eq_false hc] at w1 w2
    refine ⟨(((i + 1 : Nat) : Int), 0, true), ⟨fun h => (by cases h), fun h _ => absurd (h _ (List.getElem_mem hil)) hc⟩, ?_, ?_⟩
    ·refine Ev.one (fun k => by rw [spec_CoordinateClash.l0]) ?_
     rw [w64_of (x := ((i + 1 : Nat) : Int) - 1) (by omega) (by omega), show ((i + 1 : Nat) : Int) - 1 = (i : Int) from by omega, rd_at l i hil]
     exact Ev.pos (by omega) (Ev.pos (by omega) (Ev.pos (by omega) (Ev.bnd w1 (Ev.neg (by decide) (Ev.now _)))))
    ·refine Ev.one (fun k => by rw [impl_CoordinateClash.l0]) ?_
     rw [w64_succ i (by omega), rd_at l i hil]
     exact Ev.pos (by omega) (Ev.pos (by omega) (Ev.pos (by omega) (Ev.bnd w2 (Ev.neg (by decide) (Ev.now _)))))
 obtain ⟨r, r1, r2, r3⟩ := key l.length 0 (by omega) (by simp)
 refine ⟨r, r1, ?_, ?_⟩
 ·unfold spec_CoordinateClash.f
  rw [w64_of (x := (l.length : Int) + 1) (by omega) (by omega)]
  exact r2
 ·exact r3
/-! fromap: FromApery of both sides -/
/-- w are the least elements of x, one for each rest by their number. -/
def Ap (x w : List Int) : Prop := SG x ∧ 1 ≤ w.length ∧ w.length ≤ 60 ∧ Sums x (w.length : Int) ∧ ∃ A : Nat → Nat, w = ((List.range w.length).map fun i => (A i : Int)) ∧ ∀ i, i < w.length → A i ≤ 199 + w.length ∧ isAp x w.length i (A i)
theorem Ap.uniq {x v w : List Int} (h : Ap x v) (k : Ap x w) (e : v.length = w.length) : v = w := by
 obtain ⟨_, _, _, _, A, hA, h1⟩ := h
 obtain ⟨_, _, _, _, B, hB, k1⟩ := k
 rw [hA, hB, e]
 refine List.map_congr_left fun i hi => ?_
 rw [List.mem_range] at hi
 have a := (h1 i (by omega)).2
 rw [e] at a
 rw [isAp_uniq a (k1 i hi).2]
theorem ap_iff (g : List Int) (q : Nat) (h1 : 1 ≤ q) (hq : Sums g (q : Int)) (A : Nat → Nat) (hA : ∀ i, i < q → A i ≤ 199 + q ∧ isAp g q i (A i)) (v : Nat) : Sums g (v : Int) ↔ A (v % q) ≤ v := by
 have hlt := Nat.mod_lt v (show 0 < q by omega)
 obtain ⟨_, ⟨a1, a2⟩, a3⟩ := hA (v % q) hlt
 constructor
 ·exact fun h => Classical.byContradiction fun hn => a3 v (by omega) ⟨rfl, h⟩
 ·intro hle
  have m1 := Nat.mod_add_div v q
  have m2 := Nat.mod_add_div (A (v % q)) q
  have m3 : A (v % q) / q ≤ v / q := Nat.div_le_div_right hle
  obtain ⟨c, hc⟩ : ∃ c, v / q = A (v % q) / q + c := ⟨v / q - A (v % q) / q, by omega⟩
  rw [hc, Nat.mul_add] at m1
  rw [a1] at m2
  have := a2.both (Sums.nmul hq c)
  rwa [show (A (v % q) : Int) + (c : Int) * (q : Int) = (v : Int) from by rw [← Int.natCast_mul, Nat.mul_comm c q]; omega] at this
/-- What FromApery demands of the i-th number. -/
def apOk (w : List Int) (i : Nat) : Prop := 0 ≤ rd w (i : Int) ∧ (rd w (i : Int)).toNat % w.length = i ∧ rd w (i : Int) - (w.length : Int) < 200
/-- The numbers below the i-th one, with its rest. -/
def rowL (w : List Int) (i t : Nat) : List Int := (List.range t).map fun t => ((i + w.length * t : Nat) : Int)
def gapsUp (w : List Int) (i : Nat) : List Int := (List.range i).flatMap fun r => rowL w r ((rd w (r : Int)).toNat / w.length)
theorem gapsUp_succ (w : List Int) (i : Nat) : gapsUp w (i + 1) = gapsUp w i ++ rowL w i ((rd w (i : Int)).toNat / w.length) := by
 unfold gapsUp
 rw [List.range_succ, List.flatMap_append]
 simp
theorem rowL_len (w : List Int) (i t : Nat) : (rowL w i t).length = t := by simp [rowL]
theorem gapsUp_len (w : List Int) (h : ∀ i, i < w.length → rd w (i : Int) < 20000) : ∀ i, i ≤ w.length → (gapsUp w i).length ≤ i * 20000 := by
 intro i
 induction i with
 | zero => intro _; simp [gapsUp]
 | succ i ih =>
  intro hi
  have := ih (by omega)
  have h1 := h i (by omega)
  have h2 := Nat.div_le_self (rd w (i : Int)).toNat w.length
  rw [gapsUp_succ, List.length_append, rowL_len]
  omega
theorem impl_fa_l1 (w : List Int) (hw1 : 1 ≤ w.length ∧ w.length ≤ 60) (acc : List Int) (ha : acc.length ≤ 60 * 20000) (i : Nat) (hi : i < w.length) (hok : apOk w i) {R : List Int × Bool}
  (hn : Ev (fun k => impl_FromApery.l0 k w (w.length : Int) (acc ++ rowL w i ((rd w (i : Int)).toNat / w.length)) w (w.length : Int) ((i + 1 : Nat) : Int)) R) :
  ∀ d t, t + d = (rd w (i : Int)).toNat / w.length → Ev (fun k => impl_FromApery.l1 k w (w.length : Int) (acc ++ rowL w i t) (rd w (i : Int)) ((i + w.length * t : Nat) : Int) w (w.length : Int) (i : Int)) R := by
 obtain ⟨h0, h1, h2⟩ := hok
 obtain ⟨W, hW⟩ : ∃ W : Nat, rd w (i : Int) = (W : Int) := ⟨(rd w (i : Int)).toNat, by omega⟩
 rw [hW] at h1 h2 hn ⊢
 rw [Int.toNat_natCast] at h1 hn ⊢
 have hd := Nat.mod_add_div W w.length
 rw [h1] at hd
 intro d
 induction d with
 | zero =>
  intro t ht
  obtain rfl : t = W / w.length := by omega
  rw [hd]
  refine Ev.one (fun k => by rw [impl_FromApery.l1]) ?_
  rw [w64_succ i (by omega)]
  exact Ev.neg (by omega) hn
 | succ d ih =>
  intro t ht
  have hlt : i + w.length * t < W := by
   have : w.length * (t + 1) ≤ w.length * (W / w.length) := Nat.mul_le_mul_left _ (by omega)
   rw [Nat.mul_succ] at this
   omega
  have htl : t ≤ W := Nat.le_trans (show t ≤ W / w.length by omega) (Nat.div_le_self _ _)
  have ih := ih (t + 1) (by omega)
  have e : rowL w i (t + 1) = rowL w i t ++ [((i + w.length * t : Nat) : Int)] := by unfold rowL; rw [List.range_succ, List.map_append]; rfl
  rw [e, ← List.append_assoc, show i + w.length * (t + 1) = i + w.length * t + w.length from by rw [Nat.mul_succ]; omega] at ih
  refine Ev.one (fun k => by rw [impl_FromApery.l1]) ?_
  rw [w64_of (x := ((i + w.length * t : Nat) : Int) + (w.length : Int)) (by omega) (by omega), show ((i + w.length * t : Nat) : Int) + (w.length : Int) = ((i + w.length * t + w.length : Nat) : Int) from by omega]
  exact Ev.pos (by omega) (Ev.pos (by rw [List.length_append, rowL_len]; omega) ih)
theorem impl_fa_l0 (w : List Int) (hw1 : 1 ≤ w.length ∧ w.length ≤ 60) (hb : ∀ v ∈ w, -20000 < v ∧ v < 20000) {R : List Int × Bool} (hend : (∀ i, i < w.length → apOk w i) → Ev (fun k => impl_FromApery.l0 k w (w.length : Int) (gapsUp w w.length) w (w.length : Int) (w.length : Int)) R)
  (hbad : (∃ i, i < w.length ∧ ¬ apOk w i) → R = ([], false)) :
  ∀ d i, i + d = w.length → (∀ j, j < i → apOk w j) → Ev (fun k => impl_FromApery.l0 k w (w.length : Int) (gapsUp w i) w (w.length : Int) (i : Int)) R := by
 have hrd : ∀ i : Nat, i < w.length → -20000 < rd w (i : Int) ∧ rd w (i : Int) < 20000 := fun i hi => by
  rw [rd_at w i hi]
  exact hb _ (List.getElem_mem hi)
 intro d
 induction d with
 | zero =>
  intro i hi hj
  obtain rfl : i = w.length := by omega
  exact hend hj
 | succ d ih =>
  intro i hi hj
  have hil : i < w.length := by omega
  have hx := hrd i hil
  have hgl := gapsUp_len w (fun i hi => (hrd i hi).2) i (by omega)
  have hgm : i * 20000 ≤ 60 * 20000 := Nat.mul_le_mul_right _ (by omega)
  have bad : ¬ apOk w i → ∀ (acc : List Int) (x : Int), Ev (fun k => impl_FromApery.j2 k w (w.length : Int) acc (i : Int) x w (w.length : Int) (i : Int) true) R := fun hn acc x => by
   rw [hbad ⟨i, hil, hn⟩]
   refine Ev.one (fun k => by rw [impl_FromApery.j2]) ?_
   exact Ev.pos rfl (Ev.now _)
  refine Ev.one (fun k => by rw [impl_FromApery.l0]) ?_
  refine Ev.pos (by omega) (Ev.pos (by omega) (Ev.pos (by omega) ?_))
  by_cases h0 : rd w (i : Int) < 0
  ·exact Ev.pos h0 (bad (fun h => by have := h.1; omega) _ _)
  refine Ev.neg h0 (Ev.neg (by omega) ?_)
  have htm : Int.tmod (rd w (i : Int)) (w.length : Int) = (((rd w (i : Int)).toNat % w.length : Nat) : Int) := by
   obtain ⟨W, hW⟩ : ∃ W : Nat, rd w (i : Int) = (W : Int) := ⟨(rd w (i : Int)).toNat, by omega⟩
   rw [hW, Int.toNat_natCast, tmod_nat]
  rw [htm]
  by_cases h1 : (rd w (i : Int)).toNat % w.length = i
  rotate_left
  ·exact Ev.neg (fun e => h1 (by omega)) (bad (fun h => h1 h.2.1) _ _)
  refine Ev.pos (by omega) ?_
  rw [w64_of (x := rd w (i : Int) - (w.length : Int)) (by omega) (by omega)]
  by_cases h2 : rd w (i : Int) - (w.length : Int) ≥ 200
  ·rw [decide_eq_true h2]
   exact bad (fun h => by have := h.2.2; omega) _ _
  rw [decide_eq_false h2]
  have hok : apOk w i := ⟨by omega, h1, by omega⟩
  refine Ev.one (fun k => by rw [impl_FromApery.j2]) ?_
  refine Ev.neg (by decide) ?_
  have ih := ih (i + 1) (by omega) (fun j hj1 => by
   by_cases e : j = i
   ·rw [e]; exact hok
   ·exact hj j (by omega))
  rw [gapsUp_succ] at ih
  have := impl_fa_l1 w hw1 (gapsUp w i) (Nat.le_trans hgl hgm) i hil hok ih ((rd w (i : Int)).toNat / w.length) 0 (by omega)
  rw [Nat.mul_zero, Nat.add_zero, show rowL w i 0 = [] from rfl, List.append_nil] at this
  exact this
theorem Ap.ok {x w : List Int} (h : Ap x w) (i : Nat) (hi : i < w.length) : apOk w i := by
 obtain ⟨_, _, _, _, A, hA, h1⟩ := h
 have e : rd w (i : Int) = (A i : Int) := by
  rw [rd_at w i hi]
  have : w[i] = ((List.range w.length).map fun i => (A i : Int))[i]'(by simpa using hi) := by congr 1
  rw [this]
  simp
 have := h1 i hi
 exact ⟨by omega, by rw [e, Int.toNat_natCast]; exact this.2.1.1, by omega⟩
theorem Ap.at {x w : List Int} (h : Ap x w) : ∃ A : Nat → Nat, (∀ i : Nat, i < w.length → rd w (i : Int) = (A i : Int)) ∧ ∀ i, i < w.length → A i ≤ 199 + w.length ∧ isAp x w.length i (A i) := by
 obtain ⟨_, _, _, _, A, hA, h1⟩ := h
 refine ⟨A, fun i hi => ?_, h1⟩
 rw [rd_at w i hi]
 have : w[i] = ((List.range w.length).map fun i => (A i : Int))[i]'(by simpa using hi) := by congr 1
 rw [this]
 simp
theorem gapsUp_mem (w : List Int) (n : Nat) (v : Int) : v ∈ gapsUp w n ↔ ∃ r t : Nat, r < n ∧ t < (rd w (r : Int)).toNat / w.length ∧ v = ((r + w.length * t : Nat) : Int) := by
 unfold gapsUp rowL
 rw [List.mem_flatMap]
 constructor
 ·rintro ⟨r, hr, hv⟩
  obtain ⟨t, ht, rfl⟩ := List.mem_map.1 hv
  exact ⟨r, t, List.mem_range.1 hr, List.mem_range.1 ht, rfl⟩
 ·rintro ⟨r, t, hr, ht, rfl⟩
  exact ⟨r, List.mem_range.2 hr, List.mem_map.2 ⟨t, List.mem_range.2 ht, rfl⟩⟩
theorem gapsUp_gaps {x w : List Int} (h : Ap x w) (v : Int) : v ∈ gapsUp w w.length ↔ v ∈ gapL x := by
 obtain ⟨A, hA, h1⟩ := h.at
 obtain ⟨hS, hw1, hw2, hs, _⟩ := h
 rw [gapsUp_mem, gapL_mem]
 constructor
 ·rintro ⟨r, t, hr, ht, rfl⟩
  rw [hA r hr, Int.toNat_natCast] at ht
  have hd := Nat.mod_add_div (A r) w.length
  rw [(h1 r hr).2.1.1] at hd
  have : w.length * (t + 1) ≤ w.length * (A r / w.length) := Nat.mul_le_mul_left _ (by omega)
  rw [Nat.mul_succ] at this
  have hb := (h1 r hr).1
  have hm : (r + w.length * t) % w.length = r := by rw [Nat.add_mul_mod_self_left, Nat.mod_eq_of_lt hr]
  refine ⟨by omega, by omega, fun hv => ?_⟩
  have := (ap_iff x w.length hw1 hs A h1 (r + w.length * t)).1 hv
  rw [hm] at this
  omega
 ·rintro ⟨h0, h2, h3⟩
  obtain ⟨n, rfl⟩ : ∃ n : Nat, v = (n : Int) := ⟨v.toNat, by omega⟩
  have hr := Nat.mod_lt n (show 0 < w.length by omega)
  have hlt : n < A (n % w.length) := Classical.byContradiction fun hn => h3 ((ap_iff x w.length hw1 hs A h1 n).2 (by omega))
  have m1 := Nat.mod_add_div n w.length
  refine ⟨n % w.length, n / w.length, hr, ?_, by rw [m1]⟩
  rw [hA _ hr, Int.toNat_natCast]
  have hd := Nat.mod_add_div (A (n % w.length)) w.length
  rw [(h1 _ hr).2.1.1] at hd
  refine Nat.lt_of_mul_lt_mul_left (a := w.length) ?_
  omega
theorem impl_fromap_ev (w : List Int) (hb : ∀ v ∈ w, -20000 < v ∧ v < 20000) (hw2 : w.length ≤ 1048576) : ∃ r : List Int × Bool, ((∀ x, Ap x w → r = (x, true)) ∧ ((¬ ∃ x, Ap x w) → r = ([], false))) ∧ Ev (fun k => impl_FromApery.f k w) r := by
 have out_ : Ev (fun k => impl_FromApery.j0 k w (w.length : Int) true) ([], false) := Ev.one (fun k => by rw [impl_FromApery.j0]) (Ev.pos rfl (Ev.now _))
 have w2 := impl_within_ev (w.length : Int) 1 60
 unfold impl_FromApery.f
 by_cases hw : (1 : Int) ≤ (w.length : Int) ∧ (w.length : Int) ≤ 60
 rotate_left
 ·rw [decide_eq_false hw] at w2
  exact ⟨([], false), ⟨fun x h => absurd (show _ ∧ _ from ⟨by have := h.2.1; omega, by have := h.2.2.1; omega⟩) hw, fun _ => rfl⟩, Ev.bnd w2 (Ev.neg (by decide) out_)⟩
 rw [decide_eq_true hw] at w2
 have hw1 : 1 ≤ w.length ∧ w.length ≤ 60 := by omega
 by_cases h0 : rd w 0 = 0
 rotate_left
 ·refine ⟨([], false), ⟨fun x h => ?_, fun _ => rfl⟩, Ev.bnd w2 (Ev.pos rfl (Ev.pos (by omega) ?_))⟩
  ·exfalso
   obtain ⟨A, hA, h1⟩ := h.at
   have e := hA 0 (by omega)
   have h3 := (h1 0 (by omega)).2.2 0
   by_cases hz : A 0 = 0
   ·exact h0 (by rw [show ((0 : Nat) : Int) = 0 from rfl] at e; omega)
   ·exact h3 (by omega) ⟨Nat.zero_mod _, Sums.zero x⟩
  ·rw [show (rd w 0 != 0) = true from bne_iff_ne.2 h0]
   exact out_
 have hrd : ∀ i : Nat, i < w.length → rd w (i : Int) < 20000 := fun i hi => by
  rw [rd_at w i hi]
  exact (hb _ (List.getElem_mem hi)).2
 have hgl := gapsUp_len w hrd w.length (Nat.le_refl _)
 have main : ∀ R : List Int × Bool, ((∀ i, i < w.length → apOk w i) → Ev (fun k => impl_FromApery.l0 k w (w.length : Int) (gapsUp w w.length) w (w.length : Int) (w.length : Int)) R) → ((∃ i, i < w.length ∧ ¬ apOk w i) → R = ([], false)) → Ev (fun k => (impl_within.f (w.length : Int) 1 60).bind fun t1190 => (if t1190 = true then (if 0 < (w.length : Int) then (impl_FromApery.j0 k w (w.length : Int) ((rd w 0) != 0)) else (none)) else (impl_FromApery.j0 k w (w.length : Int) true))) R := fun R h1 h2 => by
  refine Ev.bnd w2 (Ev.pos rfl (Ev.pos (by omega) ?_))
  rw [h0]
  refine Ev.one (fun k => by rw [impl_FromApery.j0]) ?_
  exact Ev.neg (by decide) (impl_fa_l0 w hw1 hb h1 h2 w.length 0 (by omega) (fun j hj => by omega))
 by_cases hx : ∃ x, Ap x w
 ·obtain ⟨x, hx⟩ := hx
  refine ⟨(x, true), ⟨fun y hy => ?_, fun h => absurd ⟨x, hx⟩ h⟩, main _ (fun _ => ?_) (fun ⟨i, hi, hn⟩ => absurd (hx.ok i hi) hn)⟩
  ·have : x = y := sg_uniq x y hx.1 hy.1 fun n => by
    obtain ⟨A, hA, h1⟩ := hx.at
    obtain ⟨B, hB, k1⟩ := hy.at
    by_cases hn : 0 ≤ n
    ·obtain ⟨m, rfl⟩ : ∃ m : Nat, n = (m : Int) := ⟨n.toNat, by omega⟩
     have hlt := Nat.mod_lt m (show 0 < w.length by omega)
     rw [ap_iff x w.length hw1.1 hx.2.2.2.1 A h1 m, ap_iff y w.length hw1.1 hy.2.2.2.1 B k1 m]
     have e1 := hA _ hlt
     have e2 := hB _ hlt
     omega
    ·exact ⟨fun h => absurd (h.nonneg fun z hz => (hx.1.rng z hz).1) hn, fun h => absurd (h.nonneg fun z hz => (hy.1.rng z hz).1) hn⟩
   rw [this]
  ·have hgg := gapsUp_gaps hx
   have hgn := gapL_len x
   obtain ⟨s, s1, s2, s3⟩ := sort_both (gapsUp w w.length) (by
    have h200 : (gapsUp w w.length).length ≤ w.length * 20000 := hgl
    have hbb : (gapsUp w w.length).length ≤ 60 * 259 := by
     have : ∀ i, i ≤ w.length → (gapsUp w i).length ≤ i * 259 := by
      intro i
      induction i with
      | zero => intro _; simp [gapsUp]
      | succ i ih =>
       intro hi
       have := ih (by omega)
       have h5 := (hx.ok i (by omega)).2.2
       have h6 := Nat.div_le_self (rd w (i : Int)).toNat w.length
       rw [gapsUp_succ, List.length_append, rowL_len]
       omega
     have h7 := this w.length (Nat.le_refl _)
     have h8 : w.length * 259 ≤ 60 * 259 := Nat.mul_le_mul_right _ (by omega)
     exact Nat.le_trans h7 h8
    omega)
   have es : s = gapL x := asc_uniq s _ s1.1 (asc_pick _ _) (fun v => by rw [s1.2.1, hgg])
   rw [es] at s3
   have f2 := from_gapL x hx.1 (by omega)
   obtain ⟨r, r1, r2, r3⟩ := apery_more x (by have := hx.1.len2; omega) (w.length : Int) (by omega)
   obtain ⟨_, _, _, A, er, hA⟩ := r1.2.2.1 (r1.2.2.2 hx.1 hx.2.2.2.1 (by omega))
   rw [Int.toNat_natCast] at er hA
   have erw : r = w := by
    have hl : r.length = w.length := by rw [er]; simp
    refine Ap.uniq (x := x) ⟨hx.1, by omega, by omega, by rw [hl]; exact hx.2.2.2.1, A, by rw [hl]; exact er, by rw [hl]; exact hA⟩ hx hl
   subst erw
   obtain ⟨q, q1, q2⟩ := equal_ev r r hw2
   rw [q1.2 rfl] at q2
   refine Ev.one (fun k => by rw [impl_FromApery.l0]) ?_
   exact Ev.neg (by omega) (Ev.bnd s3 (Ev.bnd f2 (Ev.pos rfl (Ev.bnd r3 (Ev.bnd q2 (Ev.pos rfl (Ev.now _)))))))
 ·refine ⟨([], false), ⟨fun x h => absurd ⟨x, h⟩ hx, fun _ => rfl⟩, main _ (fun hok => ?_) (fun _ => rfl)⟩
  have hbb : (gapsUp w w.length).length ≤ 60 * 259 := by
   have : ∀ i, i ≤ w.length → (gapsUp w i).length ≤ i * 259 := by
    intro i
    induction i with
    | zero => intro _; simp [gapsUp]
    | succ i ih =>
     intro hi
     have := ih (by omega)
     have h5 := (hok i (by omega)).2.2
     have h6 := Nat.div_le_self (rd w (i : Int)).toNat w.length
     rw [gapsUp_succ, List.length_append, rowL_len]
     omega
   have h7 := this w.length (Nat.le_refl _)
   have h8 : w.length * 259 ≤ 60 * 259 := Nat.mul_le_mul_right _ (by omega)
   exact Nat.le_trans h7 h8
  obtain ⟨s, s1, s2, s3⟩ := sort_both (gapsUp w w.length) (by omega)
  obtain ⟨b, b1, b3⟩ := from_impl s (by omega)
  refine Ev.one (fun k => by rw [impl_FromApery.l0]) ?_
  refine Ev.neg (by omega) (Ev.bnd s3 (Ev.bnd b3 ?_))
  obtain ⟨c1, c2, c3⟩ := fromS_facts s b b1
  cases b with
  | false => exact Ev.neg (by rw [c1]; decide) (Ev.now _)
  | true =>
   have hgl := fromS_len s true
   obtain ⟨r, r1, r2, r3⟩ := apery_more (fromS s true).1 (by omega) (w.length : Int) (by omega)
   obtain ⟨q, q1, q2⟩ := equal_ev r w (by have := r1.1; omega)
   refine Ev.pos c1 (Ev.bnd r3 (Ev.bnd q2 ?_))
   cases q with
   | false => exact Ev.neg (by decide) (Ev.now _)
   | true =>
    exfalso
    have e := q1.1 rfl
    subst e
    obtain ⟨_, t1, t2, A, er, hA⟩ := r1.2.2.1 (fun e => by rw [e] at hw1; exact absurd hw1.1 (by decide))
    rw [Int.toNat_natCast] at er hA
    exact hx ⟨_, t1, hw1.1, hw1.2, t2, A, er, hA⟩
/-! fromap2: spec.FromApery -/
theorem Sums.into {g g' : List Int} {n : Int} (h : ∀ x ∈ g, Sums g' x) (hs : Sums g n) : Sums g' n :=
 Sums.ind (P := fun n => Sums g' n) (Sums.zero _) (fun x n hx _ hn => Sums.both hn (h x hx)) hs
theorem l6min_eq : ∀ k a b c, spec_l6Minimal.l0 k a b c = spec_l3Minimal.l0 k a b c := by
 intro k
 induction k with
 | zero => intro a b c; rw [spec_l6Minimal.l0, spec_l3Minimal.l0]
 | succ k ih => intro a b c; rw [spec_l6Minimal.l0, spec_l3Minimal.l0]; simp only [ih]
theorem spec_l6Minimal_ev (l : List Int) (hl : l.length ≤ 1048576) (hr : ∀ x ∈ l, 1 ≤ x ∧ x ≤ 2000000) :
  ∃ s, (asc s ∧ (∀ y, y ∈ s ↔ y ∈ l) ∧ s.length ≤ l.length) ∧ Ev (fun k => spec_l6Minimal.f k l) (minL s) := by
 obtain ⟨s, s1, s2⟩ := spec_l3Minimal_ev l hl hr
 refine ⟨s, s1, Ev.congr (fun k => ?_) s2⟩
 unfold spec_l6Minimal.f spec_l3Minimal.f
 simp only [l6min_eq]
theorem spec_fa_l0 (w : List Int) (hw1 : 1 ≤ w.length ∧ w.length ≤ 60) {R : List Int × Bool}
  (hend : (∀ i, 1 ≤ i → i < w.length → 1 ≤ rd w (i : Int) ∧ rd w (i : Int) ≤ 260) → Ev (fun k => (spec_l6Minimal.f k ((w.length : Int) :: w.drop 1)).bind fun t1284 => ((spec_AperySet.f k t1284 (w.length : Int)).bind fun t1288 => ((spec_l2Same.f k t1288 w).bind fun t1291 => (if t1291 = true then (some (t1284, true)) else (some (([] : List Int), false)))))) R)
  (hbad : (∃ i, 1 ≤ i ∧ i < w.length ∧ ¬ (1 ≤ rd w (i : Int) ∧ rd w (i : Int) ≤ 260)) → R = ([], false)) :
  ∀ d i, i + d = w.length → 1 ≤ i → (∀ j, 1 ≤ j → j < i → 1 ≤ rd w (j : Int) ∧ rd w (j : Int) ≤ 260) → Ev (fun k => spec_FromApery.l0 k w (w.length : Int) ((w.length : Int) :: (w.take i).drop 1) (i : Int)) R := by
 intro d
 induction d with
 | zero =>
  intro i hi h1 hj
  obtain rfl : i = w.length := by omega
  rw [List.take_of_length_le (Nat.le_refl _)]
  refine Ev.one (fun k => by rw [spec_FromApery.l0]) ?_
  exact Ev.neg (by omega) (hend hj)
 | succ d ih =>
  intro i hi h1 hj
  have hil : i < w.length := by omega
  have w1 := spec_l1In_ev (rd w (i : Int)) 1 260
  refine Ev.one (fun k => by rw [spec_FromApery.l0]) ?_
  refine Ev.pos (by omega) (Ev.pos (by omega) (Ev.pos (by omega) (Ev.bnd w1 ?_)))
  by_cases hc : 1 ≤ rd w (i : Int) ∧ rd w (i : Int) ≤ 260
  ·rw [decide_eq_true hc, w64_succ i (by omega)]
   have ih := ih (i + 1) (by omega) (by omega) (fun j h1 h2 => by
    by_cases e : j = i
    ·rw [e]; exact hc
    ·exact hj j h1 (by omega))
   have e : (w.take (i + 1)).drop 1 = (w.take i).drop 1 ++ [rd w (i : Int)] := by
    rw [List.take_succ_eq_append_getElem hil, List.drop_append_of_le_length (by rw [List.length_take]; omega), rd_at w i hil]
   rw [e] at ih
   refine Ev.pos rfl (Ev.pos (by simp; omega) ?_)
   exact ih
  ·rw [decide_eq_false hc, hbad ⟨i, h1, hil, hc⟩]
   exact Ev.neg (by decide) (Ev.now _)
theorem Ap.sums {x w : List Int} (h : Ap x w) (n : Int) (L : List Int) (hL : ∀ y, y ∈ L ↔ y = (w.length : Int) ∨ y ∈ w.drop 1) : Sums x n ↔ Sums L n := by
 obtain ⟨A, hA, h1⟩ := h.at
 obtain ⟨hS, hw1, hw2, hs, _⟩ := h
 have hpx : ∀ z ∈ x, 1 ≤ z := fun z hz => (hS.rng z hz).1
 have hin : ∀ i, 1 ≤ i → i < w.length → (A i : Int) ∈ L := fun i hi hl => (hL _).2 (.inr (by
  rw [← hA i hl, rd_at w i hl]
  exact List.mem_iff_getElem.2 ⟨i - 1, by rw [List.length_drop]; omega, by rw [List.getElem_drop]; congr 1; omega⟩))
 have hq : (w.length : Int) ∈ L := (hL _).2 (.inl rfl)
 constructor
 ·intro hn
  obtain ⟨m, rfl⟩ : ∃ m : Nat, n = (m : Int) := ⟨n.toNat, by have := hn.nonneg hpx; omega⟩
  have hlt := Nat.mod_lt m (show 0 < w.length by omega)
  have hle := (ap_iff x w.length hw1 hs A h1 m).1 hn
  have m1 := Nat.mod_add_div m w.length
  have m2 := Nat.mod_add_div (A (m % w.length)) w.length
  rw [(h1 _ hlt).2.1.1] at m2
  have m3 : A (m % w.length) / w.length ≤ m / w.length := Nat.div_le_div_right hle
  obtain ⟨c, hc⟩ : ∃ c, m / w.length = A (m % w.length) / w.length + c := ⟨m / w.length - A (m % w.length) / w.length, by omega⟩
  rw [hc, Nat.mul_add] at m1
  have hA0 : Sums L (A (m % w.length) : Int) := by
   by_cases h0 : m % w.length = 0
   ·have : A (m % w.length) = 0 := Classical.byContradiction fun hn => (h1 _ hlt).2.2 0 (by omega) ⟨by rw [Nat.zero_mod, h0], Sums.zero x⟩
    rw [this]
    exact Sums.zero L
   ·exact Sums.one (hin _ (by omega) hlt)
  have := hA0.both (Sums.nmul (Sums.one hq) c)
  rwa [show (A (m % w.length) : Int) + (c : Int) * (w.length : Int) = (m : Int) from by rw [← Int.natCast_mul, Nat.mul_comm c w.length]; omega] at this
 ·refine Sums.into fun y hy => ?_
  rcases (hL y).1 hy with e | e
  ·rw [e]; exact hs
  ·obtain ⟨j, hj, rfl⟩ := List.getElem_of_mem e
   rw [List.length_drop] at hj
   rw [List.getElem_drop]
   have := hA (1 + j) (by omega)
   rw [rd_at w (1 + j) (by omega)] at this
   rw [this]
   exact (h1 (1 + j) (by omega)).2.1.2
theorem Ap.one {x y w : List Int} (hx : Ap x w) (hy : Ap y w) : x = y := sg_uniq x y hx.1 hy.1 fun n => by
 rw [hx.sums n ((w.length : Int) :: w.drop 1) (fun z => List.mem_cons), hy.sums n ((w.length : Int) :: w.drop 1) (fun z => List.mem_cons)]
theorem spec_fromap_ev (w : List Int) (hw2 : w.length ≤ 1048576) : ∃ r : List Int × Bool, ((∀ x, Ap x w → r = (x, true)) ∧ ((¬ ∃ x, Ap x w) → r = ([], false))) ∧ Ev (fun k => spec_FromApery.f k w) r := by
 have w2 := spec_l1In_ev (w.length : Int) 1 60
 unfold spec_FromApery.f
 by_cases hw : (1 : Int) ≤ (w.length : Int) ∧ (w.length : Int) ≤ 60
 rotate_left
 ·rw [decide_eq_false hw] at w2
  exact ⟨([], false), ⟨fun x h => absurd (show _ ∧ _ from ⟨by have := h.2.1; omega, by have := h.2.2.1; omega⟩) hw, fun _ => rfl⟩, Ev.bnd w2 (Ev.neg (by decide) (Ev.now _))⟩
 rw [decide_eq_true hw] at w2
 have hw1 : 1 ≤ w.length ∧ w.length ≤ 60 := by omega
 have main : ∀ R : List Int × Bool, _ → _ → Ev (fun k => (spec_l1In.f (w.length : Int) 1 60).bind fun t1274 => (if t1274 = true then (spec_FromApery.l0 k w (w.length : Int) (([(w.length : Int)] : List Int)) 1) else (some (([] : List Int), false)))) R := fun R h1 h2 => by
  refine Ev.bnd w2 (Ev.pos rfl ?_)
  have := spec_fa_l0 w hw1 (R := R) h1 h2 (w.length - 1) 1 (by omega) (Nat.le_refl _) (fun j h1 h2 => by omega)
  rw [show (w.take 1).drop 1 = [] from List.drop_eq_nil_of_le (by rw [List.length_take]; omega)] at this
  exact this
 have hdr : ∀ v ∈ w.drop 1, (∀ i, 1 ≤ i → i < w.length → 1 ≤ rd w (i : Int) ∧ rd w (i : Int) ≤ 260) → 1 ≤ v ∧ v ≤ 260 := fun v hv h => by
  obtain ⟨j, hj, rfl⟩ := List.getElem_of_mem hv
  rw [List.length_drop] at hj
  have := h (1 + j) (by omega) (by omega)
  rw [rd_at w (1 + j) (by omega)] at this
  rw [List.getElem_drop]
  exact this
 by_cases hx : ∃ x, Ap x w
 ·obtain ⟨x, hx⟩ := hx
  refine ⟨(x, true), ⟨fun y hy => by rw [hx.one hy], fun h => absurd ⟨x, hx⟩ h⟩, main _ (fun hok => ?_) (fun ⟨i, h1, hi, hn⟩ => ?_)⟩
  ·have hgr : ∀ v ∈ (w.length : Int) :: w.drop 1, 1 ≤ v ∧ v ≤ 2000000 := fun v hv => by
    rcases List.mem_cons.1 hv with e | e
    ·omega
    ·have := hdr v e hok; omega
   obtain ⟨s, s1, s2⟩ := spec_l6Minimal_ev ((w.length : Int) :: w.drop 1) (by simp; omega) hgr
   have es : minL s = x := min_uniq x s hx.1 (fun z hz => (hgr z ((s1.2.1 z).1 hz)).1) s1.1 (fun n => hx.sums n s (fun y => (s1.2.1 y).trans List.mem_cons))
   rw [es] at s2
   obtain ⟨r, r1, r2, r3⟩ := apery_more x (by have := hx.1.len2; omega) (w.length : Int) (by omega)
   obtain ⟨_, _, _, A, er, hA⟩ := r1.2.2.1 (r1.2.2.2 hx.1 hx.2.2.2.1 (by omega))
   rw [Int.toNat_natCast] at er hA
   have erw : r = w := by
    have hl : r.length = w.length := by rw [er]; simp
    refine Ap.uniq (x := x) ⟨hx.1, by omega, by omega, by rw [hl]; exact hx.2.2.2.1, A, by rw [hl]; exact er, by rw [hl]; exact hA⟩ hx hl
   subst erw
   obtain ⟨q, q1, q2⟩ := spec_l2Same_ev r r hw2
   rw [q1.2 rfl] at q2
   exact Ev.bnd s2 (Ev.bnd r2 (Ev.bnd q2 (Ev.pos rfl (Ev.now _))))
  ·exfalso
   have h2 := hx.ok i hi
   refine hn ⟨?_, by have := h2.2.2; omega⟩
   refine Classical.byContradiction fun h3 => ?_
   have h4 := h2.2.1
   have h5 := h2.1
   rw [show (rd w (i : Int)).toNat = 0 from by omega, Nat.zero_mod] at h4
   omega
 ·refine ⟨([], false), ⟨fun x h => absurd ⟨x, h⟩ hx, fun _ => rfl⟩, main _ (fun hok => ?_) (fun _ => rfl)⟩
  have hgr : ∀ v ∈ (w.length : Int) :: w.drop 1, 1 ≤ v ∧ v ≤ 2000000 := fun v hv => by
   rcases List.mem_cons.1 hv with e | e
   ·omega
   ·have := hdr v e hok; omega
  obtain ⟨s, s1, s2⟩ := spec_l6Minimal_ev ((w.length : Int) :: w.drop 1) (by simp; omega) hgr
  have hml := minL_len s
  have hsl := s1.2.2
  rw [List.length_cons, List.length_drop] at hsl
  obtain ⟨r, r1, r2, r3⟩ := apery_more (minL s) (by omega) (w.length : Int) (by omega)
  obtain ⟨q, q1, q2⟩ := spec_l2Same_ev r w (by have := r1.1; omega)
  refine Ev.bnd s2 (Ev.bnd r2 (Ev.bnd q2 ?_))
  cases q with
  | false => exact Ev.neg (by decide) (Ev.now _)
  | true =>
   exfalso
   have e := q1.1 rfl
   subst e
   obtain ⟨_, t1, t2, A, er, hA⟩ := r1.2.2.1 (fun e => by rw [e] at hw1; exact absurd hw1.1 (by decide))
   rw [Int.toNat_natCast] at er hA
   exact hx ⟨_, t1, hw1.1, hw1.2, t2, A, er, hA⟩
/-! fromco: FromCoordinates of both sides -/
/-- The least elements that the coordinates l tell. -/
def apOf (l : List Int) (n : Nat) : List Int := 0 :: (List.range n).map fun i : Nat => ((i : Int) + 1) + ((l.length : Int) + 1) * rd l (i : Int)
theorem apOf_len (l : List Int) (n : Nat) : (apOf l n).length = n + 1 := by simp [apOf]
theorem apOf_at (l : List Int) (n i : Nat) (h : i < n) : rd (apOf l n) ((i + 1 : Nat) : Int) = ((i : Int) + 1) + ((l.length : Int) + 1) * rd l (i : Int) := by
 rw [rd_at _ (i + 1) (by rw [apOf_len]; omega)]
 unfold apOf
 rw [List.getElem_cons_succ, List.getElem_map, List.getElem_range]
theorem apOf_succ (l : List Int) (n : Nat) : apOf l (n + 1) = apOf l n ++ [((n : Int) + 1) + ((l.length : Int) + 1) * rd l (n : Int)] := by
 unfold apOf
 rw [List.range_succ, List.map_append]
 rfl
theorem list_rd (a b : List Int) (h : a.length = b.length) (he : ∀ i : Nat, i < a.length → rd a (i : Int) = rd b (i : Int)) : a = b := by
 refine List.ext_getElem h fun i h1 h2 => ?_
 have := he i h1
 rwa [rd_at a i h1, rd_at b i h2] at this
theorem Co.facts {x l : List Int} (h : Co x l) : l.length + 1 ≤ 60 ∧ (∀ v ∈ l, 1 ≤ v ∧ v ≤ 200) ∧ Ap x (apOf l l.length) ∧ ∃ A : Nat → Nat, (∀ i, i < l.length + 1 → isAp x (l.length + 1) i (A i)) ∧ ∀ i : Nat, i < l.length → (A (i + 1) : Int) = ((i : Int) + 1) + ((l.length : Int) + 1) * rd l (i : Int) := by
 obtain ⟨hS, q, A, h1, h2, h3, h4, h5, e⟩ := h
 have hl : l.length + 1 = q := by rw [e]; simp; omega
 subst hl
 have hp : ∀ z ∈ x, 1 ≤ z := fun z hz => (hS.rng z hz).1
 have hr : ∀ i : Nat, i < l.length → rd l (i : Int) = ((A (i + 1) / (l.length + 1) : Nat) : Int) := fun i hi => by
  rw [rd_at l i hi]
  have : l[i] = ((List.range (l.length + 1 - 1)).map fun i => ((A (i + 1) / (l.length + 1) : Nat) : Int))[i]'(by simpa using hi) := by congr 1
  rw [this]
  simp
 have hA : ∀ i : Nat, i < l.length → (A (i + 1) : Int) = ((i : Int) + 1) + ((l.length : Int) + 1) * rd l (i : Int) := fun i hi => by
  have hd := Nat.mod_add_div (A (i + 1)) (l.length + 1)
  rw [(h5 (i + 1) (by omega)).2.1.1] at hd
  rw [hr i hi]
  have := congrArg (Nat.cast (R := Int)) hd
  rw [Int.natCast_add, Int.natCast_mul] at this
  rw [← this]
  rfl
 have hmin : ∀ z ∈ x, ((l.length + 1 : Nat) : Int) ≤ z := fun z hz => by
  obtain ⟨j, hj, rfl⟩ := List.getElem_of_mem hz
  have e0 := rd_at x 0 (by have := hS.len1; omega)
  rw [show ((0 : Nat) : Int) = 0 from rfl, h1] at e0
  by_cases hj0 : j = 0
  ·subst hj0; omega
  ·have := List.pairwise_iff_getElem.1 hS.up 0 j (by omega) hj (by omega)
   omega
 have hge : ∀ i : Nat, i < l.length → l.length + 1 ≤ A (i + 1) := fun i hi => by
  obtain ⟨⟨a1, a2⟩, _⟩ := (h5 (i + 1) (by omega)).2
  have hne : (A (i + 1) : Int) ≠ 0 := fun e => by
   rw [show A (i + 1) = 0 from by omega, Nat.zero_mod] at a1
   omega
  obtain ⟨z, hz, hle, _⟩ := a2.cut hp hne
  have := hmin z hz
  omega
 have hv : ∀ v ∈ l, 1 ≤ v ∧ v ≤ 200 := fun v hv => by
  obtain ⟨i, hi, rfl⟩ := List.getElem_of_mem hv
  rw [← rd_at l i hi, hr i hi]
  have b1 := (h5 (i + 1) (by omega)).1
  have b2 : 1 ≤ A (i + 1) / (l.length + 1) := (Nat.one_le_div_iff (by omega)).2 (hge i hi)
  have b3 : A (i + 1) / (l.length + 1) < 201 := (Nat.div_lt_iff_lt_mul (by omega)).2 (by omega)
  exact ⟨Int.ofNat_le.2 b2, Int.ofNat_le.2 (Nat.le_of_lt_succ b3)⟩
 have h0 : A 0 = 0 := Classical.byContradiction fun hn => (h5 0 (by omega)).2.2 0 (by omega) ⟨Nat.zero_mod _, Sums.zero x⟩
 have hlen := apOf_len l l.length
 refine ⟨h3, hv, ⟨hS, by omega, by omega, by rw [hlen]; exact Sums.one h4, A, ?_, by rw [hlen]; exact h5⟩, A, fun i hi => (h5 i hi).2, hA⟩
 rw [hlen]
 refine list_rd _ _ (by rw [hlen]; simp) fun i hi => ?_
 rw [hlen] at hi
 rw [rd_at ((List.range (l.length + 1)).map fun i => (A i : Int)) i (by simpa using hi), List.getElem_map, List.getElem_range]
 cases i with
 | zero => rw [h0]; rfl
 | succ i => rw [apOf_at l l.length i (by omega), hA i (by omega)]
theorem Co.kunz {x l : List Int} (h : Co x l) : kzFree l := by
 obtain ⟨h1, hv, hap, A, hA, he⟩ := h.facts
 intro a b ha hab hb
 obtain ⟨i, rfl⟩ : ∃ i : Nat, a = (i : Int) + 1 := ⟨(a - 1).toNat, by omega⟩
 obtain ⟨j, rfl⟩ : ∃ j : Nat, b = (j : Int) + 1 := ⟨(b - 1).toNat, by omega⟩
 have hi := he i (by omega)
 have hj := he j (by omega)
 obtain ⟨⟨a1, a2⟩, _⟩ := hA (i + 1) (by omega)
 obtain ⟨⟨b1, b2⟩, _⟩ := hA (j + 1) (by omega)
 have hs := a2.both b2
 have hm : (A (i + 1) + A (j + 1)) % (l.length + 1) = (i + 1 + (j + 1)) % (l.length + 1) := by rw [Nat.add_mod, a1, b1]
 have hle : ∀ r, r < l.length + 1 → (i + 1 + (j + 1)) % (l.length + 1) = r → A r ≤ A (i + 1) + A (j + 1) := fun r hr e => Classical.byContradiction fun hn => (hA r hr).2 (A (i + 1) + A (j + 1)) (by omega) ⟨by rw [hm, e], by rw [Int.natCast_add]; exact hs⟩
 unfold kz
 rw [show (i : Int) + 1 - 1 = (i : Int) from by omega, show (j : Int) + 1 - 1 = (j : Int) from by omega]
 generalize hX : rd l (i : Int) = X at hi ⊢
 generalize hY : rd l (j : Int) = Y at hj ⊢
 rintro (⟨c1, c2⟩ | ⟨c1, c2⟩)
 ·have hk := he (i + j + 1) (by omega)
  have := hle (i + j + 1 + 1) (by omega) (by rw [Nat.mod_eq_of_lt (by omega)]; omega)
  rw [show (i : Int) + 1 + ((j : Int) + 1) - 1 = ((i + j + 1 : Nat) : Int) from by omega] at c2
  generalize rd l ((i + j + 1 : Nat) : Int) = Z at hk c2
  have h5 : ((l.length : Int) + 1) * Z ≤ ((l.length : Int) + 1) * (X + Y) := by
   rw [Int.mul_add]
   omega
  have := Int.le_of_mul_le_mul_left h5 (by omega)
  omega
 ·obtain ⟨c, hc⟩ : ∃ c : Nat, i + 1 + (j + 1) = l.length + 1 + (c + 1) := ⟨i + j - l.length, by omega⟩
  have hk := he c (by omega)
  have := hle (c + 1) (by omega) (by rw [hc, Nat.add_mod_left, Nat.mod_eq_of_lt (by omega)])
  rw [show (i : Int) + 1 + ((j : Int) + 1) - ((l.length : Int) + 1) - 1 = (c : Int) from by omega] at c2
  generalize rd l (c : Int) = Z at hk c2
  have h5 : ((l.length : Int) + 1) * Z ≤ ((l.length : Int) + 1) * (X + Y + 1) := by
   rw [Int.mul_add, Int.mul_add]
   omega
  have := Int.le_of_mul_le_mul_left h5 (by omega)
  omega
theorem co_of_ap {x l : List Int} (h : Ap x (apOf l l.length)) (hv : ∀ v ∈ l, 1 ≤ v ∧ v ≤ 200) : Co x l := by
 obtain ⟨A, hA, h1⟩ := h.at
 obtain ⟨hS, _, hw2, hs, _⟩ := h
 rw [apOf_len] at hA h1 hw2 hs
 have hp : ∀ z ∈ x, 1 ≤ z := fun z hz => (hS.rng z hz).1
 obtain ⟨a, a1, a2, a3, a4⟩ := first_of x (by have := hS.len1; omega) hS.rng
 have hmin : ∀ z ∈ x, (a : Int) ≤ z := fun z hz => by
  obtain ⟨j, hj, rfl⟩ := List.getElem_of_mem hz
  have e0 := rd_at x 0 (by have := hS.len1; omega)
  rw [show ((0 : Nat) : Int) = 0 from rfl, a1] at e0
  by_cases hj0 : j = 0
  ·subst hj0; omega
  ·have := List.pairwise_iff_getElem.1 hS.up 0 j (by omega) hj (by omega)
   omega
 have hAi : ∀ i : Nat, i < l.length → (A (i + 1) : Int) = ((i : Int) + 1) + ((l.length : Int) + 1) * rd l (i : Int) := fun i hi => by
  rw [← hA (i + 1) (by omega), apOf_at l l.length i hi]
 have hge : ∀ i : Nat, i < l.length → ((l.length : Int) + 1) * 1 ≤ ((l.length : Int) + 1) * rd l (i : Int) := fun i hi => by
  refine Int.mul_le_mul_of_nonneg_left ?_ (by omega)
  rw [rd_at l i hi]
  exact (hv _ (List.getElem_mem hi)).1
 have hle : (a : Int) ≤ ((l.length + 1 : Nat) : Int) := by
  obtain ⟨z, hz, hle, _⟩ := hs.cut hp (by omega)
  have := hmin z hz
  omega
 have ha : a = l.length + 1 := by
  refine Classical.byContradiction fun hn => ?_
  have h5 := (ap_iff x (l.length + 1) (by omega) hs A h1 a).1 (Sums.one a4)
  rw [Nat.mod_eq_of_lt (by omega)] at h5
  obtain ⟨i, rfl⟩ : ∃ i, a = i + 1 := ⟨a - 1, by omega⟩
  have := hAi i (by omega)
  have := hge i (by omega)
  omega
 subst ha
 refine ⟨hS, l.length + 1, A, a1, by omega, hw2, a4, h1, ?_⟩
 rw [Nat.add_sub_cancel]
 refine list_rd _ _ (by simp) fun i hi => ?_
 rw [rd_at ((List.range l.length).map fun i => ((A (i + 1) / (l.length + 1) : Nat) : Int)) i (by simpa using hi), List.getElem_map, List.getElem_range]
 obtain ⟨c, hc⟩ : ∃ c : Nat, rd l (i : Int) = (c : Int) := ⟨(rd l (i : Int)).toNat, by
  rw [rd_at l i hi]
  have := hv _ (List.getElem_mem hi)
  omega⟩
 have e := hAi i hi
 rw [hc] at e ⊢
 have e2 : A (i + 1) = i + 1 + (l.length + 1) * c := by
  have e3 : (((l.length + 1) * c : Nat) : Int) = ((l.length : Int) + 1) * (c : Int) := by rw [Int.natCast_mul]; rfl
  omega
 rw [e2, Nat.add_mul_div_left _ _ (by omega), Nat.div_eq_of_lt (by omega), Nat.zero_add]
/-! fromco2: FromCoordinates of both sides, walked -/
theorem prod_rng (m v : Int) (hm : 1 ≤ m ∧ m ≤ 60) (hv : 1 ≤ v ∧ v ≤ 200) : 1 ≤ m * v ∧ m * v ≤ 12000 := by
 have h1 : m * 1 ≤ m * v := Int.mul_le_mul_of_nonneg_left hv.1 (by omega)
 have h2 : m * v ≤ m * 200 := Int.mul_le_mul_of_nonneg_left hv.2 (by omega)
 omega
theorem apOf_zero (l : List Int) (n : Nat) : rd (apOf l n) 0 = 0 := rfl
theorem apOf_rng (l : List Int) (hl : l.length + 1 ≤ 60) (hv : ∀ v ∈ l, 1 ≤ v ∧ v ≤ 200) : ∀ v ∈ apOf l l.length, -20000 < v ∧ v < 20000 := fun v h => by
 unfold apOf at h
 rcases List.mem_cons.1 h with e | e
 ·omega
 ·obtain ⟨i, hi, rfl⟩ := List.mem_map.1 e
  rw [List.mem_range] at hi
  have := prod_rng ((l.length : Int) + 1) (rd l (i : Int)) (by omega) (rd_rng l 1 200 hv (i : Int) (by omega) (by omega))
  omega
theorem impl_fc_l0 (l : List Int) (hl : l.length + 1 ≤ 60) (hv : ∀ v ∈ l, 1 ≤ v ∧ v ≤ 200) {R : List Int × Bool}
  (hend : Ev (fun k => (impl_FromApery.f k (apOf l l.length)).bind fun bt1220 => (if bt1220.2 = true then ((impl_CoordinatesOf.f k bt1220.1).bind fun t1225 => ((slices_Equal_int_int.f k t1225 l).bind fun t1228 => (if t1228 = true then (some (bt1220.1, true)) else (some (([] : List Int), false))))) else (some (([] : List Int), false)))) R) :
  ∀ d i, i + d = l.length → Ev (fun k => impl_FromCoordinates.l0 k l ((l.length : Int) + 1) (apOf l i) l (l.length : Int) (i : Int)) R := by
 intro d
 induction d with
 | zero =>
  intro i hi
  obtain rfl : i = l.length := by omega
  refine Ev.one (fun k => by rw [impl_FromCoordinates.l0]) ?_
  exact Ev.neg (by omega) hend
 | succ d ih =>
  intro i hi
  have ih := ih (i + 1) (by omega)
  have hp := prod_rng ((l.length : Int) + 1) (rd l (i : Int)) (by omega) (rd_rng l 1 200 hv (i : Int) (by omega) (by omega))
  rw [apOf_succ] at ih
  refine Ev.one (fun k => by rw [impl_FromCoordinates.l0]) ?_
  rw [w64_succ i (by omega), w64_of (x := ((l.length : Int) + 1) * rd l (i : Int)) (by omega) (by omega), show ((i + 1 : Nat) : Int) = (i : Int) + 1 from by omega, w64_of (x := (i : Int) + 1 + ((l.length : Int) + 1) * rd l (i : Int)) (by omega) (by omega)]
  exact Ev.pos (by omega) (Ev.pos (by omega) (Ev.pos (by omega) (Ev.pos (by rw [apOf_len]; omega) ih)))
theorem spec_fc_l0 (l : List Int) (hl : l.length + 1 ≤ 60) (hv : ∀ v ∈ l, 1 ≤ v ∧ v ≤ 200) {R : List Int × Bool}
  (hend : Ev (fun k => spec_FromApery.f k (apOf l l.length)) R) :
  ∀ d i, i + d = l.length → Ev (fun k => spec_FromCoordinates.l0 k l ((l.length : Int) + 1) (apOf l i) ((i : Int) + 1)) R := by
 intro d
 induction d with
 | zero =>
  intro i hi
  obtain rfl : i = l.length := by omega
  refine Ev.one (fun k => by rw [spec_FromCoordinates.l0]) ?_
  exact Ev.neg (by omega) (Ev.bnd hend (Ev.now _))
 | succ d ih =>
  intro i hi
  have ih := ih (i + 1) (by omega)
  have hp := prod_rng ((l.length : Int) + 1) (rd l (i : Int)) (by omega) (rd_rng l 1 200 hv (i : Int) (by omega) (by omega))
  have hc := Int.mul_comm (rd l (i : Int)) ((l.length : Int) + 1)
  rw [apOf_succ] at ih
  refine Ev.one (fun k => by rw [spec_FromCoordinates.l0]) ?_
  rw [w64_of (x := (i : Int) + 1 - 1) (by omega) (by omega), show (i : Int) + 1 - 1 = (i : Int) from by omega, hc, w64_of (x := ((l.length : Int) + 1) * rd l (i : Int)) (by omega) (by omega), w64_of (x := ((l.length : Int) + 1) * rd l (i : Int) + ((i : Int) + 1)) (by omega) (by omega), w64_of (x := (i : Int) + 1 + 1) (by omega) (by omega), Int.add_comm (((l.length : Int) + 1) * rd l (i : Int)) ((i : Int) + 1)]
  rw [show ((i + 1 : Nat) : Int) + 1 = (i : Int) + 1 + 1 from by omega] at ih
  exact Ev.pos (by omega) (Ev.pos (by omega) (Ev.pos (by omega) (Ev.pos (by rw [apOf_len]; omega) ih)))
theorem fromco_both (l : List Int) (hl : l.length ≤ 1048576) : ∃ r : List Int × Bool, ((∀ x, Co x l → r = (x, true)) ∧ ((¬ ∃ x, Co x l) → r = ([], false))) ∧ Ev (fun k => spec_FromCoordinates.f k l) r ∧ Ev (fun k => impl_FromCoordinates.f k l) r := by
 obtain ⟨c, c1, c2, _⟩ := clash_both l hl
 have w1 := impl_allWithin_ev l 1 200 (by omega)
 have o1 : Ev (fun k => spec_FromCoordinates.j0 k l true) ([], false) := Ev.one (fun k => by rw [spec_FromCoordinates.j0]) (Ev.pos rfl (Ev.now _))
 have o2 : Ev (fun k => impl_FromCoordinates.j0 k l ((l.length : Int) + 1) true) ([], false) := Ev.one (fun k => by rw [impl_FromCoordinates.j0]) (Ev.pos rfl (Ev.now _))
 have e0 : wrap64 ((l.length : Int) + 1) = (l.length : Int) + 1 := w64_of (by omega) (by omega)
 by_cases hlen : l.length + 1 ≤ 60
 rotate_left
 ·have hno : ¬ ∃ x, Co x l := fun ⟨x, h⟩ => hlen h.facts.1
  refine ⟨([], false), ⟨fun x h => absurd ⟨x, h⟩ hno, fun _ => rfl⟩, ?_, ?_⟩
  ·unfold spec_FromCoordinates.f
   refine Ev.bnd c2 ?_
   rw [decide_eq_true (show (l.length : Int) ≥ 60 by omega)]
   cases c.2.2 with
   | true => exact Ev.pos rfl o1
   | false => exact Ev.neg (by decide) o1
  ·unfold impl_FromCoordinates.f
   rw [e0]
   exact Ev.pos (by omega) o2
 by_cases hv : ∀ v ∈ l, 1 ≤ v ∧ v ≤ 200
 rotate_left
 ·have hno : ¬ ∃ x, Co x l := fun ⟨x, h⟩ => hv h.facts.2.1
  have hc : c.2.2 = true := by
   cases h : c.2.2 with
   | true => rfl
   | false => exact absurd (c1.1 h) hv
  have hb : allIn l 1 200 = false := by rw [← Bool.not_eq_true, allIn_iff]; exact hv
  rw [hb] at w1
  refine ⟨([], false), ⟨fun x h => absurd ⟨x, h⟩ hno, fun _ => rfl⟩, ?_, ?_⟩
  ·unfold spec_FromCoordinates.f
   exact Ev.bnd c2 (Ev.pos hc o1)
  ·unfold impl_FromCoordinates.f
   rw [e0]
   exact Ev.neg (by omega) (Ev.bnd w1 o2)
 rw [(allIn_iff l 1 200).2 hv] at w1
 have hal := apOf_len l l.length
 obtain ⟨r, r1, r2⟩ := impl_fromap_ev (apOf l l.length) (apOf_rng l hlen hv) (by omega)
 obtain ⟨s, s1, s2⟩ := spec_fromap_ev (apOf l l.length) (by omega)
 have hi : ∀ R : List Int × Bool, Ev (fun k => (impl_FromApery.f k (apOf l l.length)).bind fun bt1220 => (if bt1220.2 = true then ((impl_CoordinatesOf.f k bt1220.1).bind fun t1225 => ((slices_Equal_int_int.f k t1225 l).bind fun t1228 => (if t1228 = true then (some (bt1220.1, true)) else (some (([] : List Int), false))))) else (some (([] : List Int), false)))) R → Ev (fun k => impl_FromCoordinates.f k l) R := fun R h => by
  unfold impl_FromCoordinates.f
  rw [e0]
  refine Ev.neg (by omega) (Ev.bnd w1 (Ev.one (fun k => by rw [impl_FromCoordinates.j0]) ?_))
  exact Ev.neg (by decide) (impl_fc_l0 l hlen hv (R := R) h l.length 0 (by omega))
 by_cases hx : ∃ x, Co x l
 ·obtain ⟨x, hx⟩ := hx
  have hap := hx.facts.2.2.1
  have er := r1.1 x hap
  have es := s1.1 x hap
  subst er es
  refine ⟨(x, true), ⟨fun y hy => by rw [hap.one hy.facts.2.2.1], fun h => absurd ⟨x, hx⟩ h⟩, ?_, hi _ ?_⟩
  ·unfold spec_FromCoordinates.f
   refine Ev.bnd c2 (Ev.neg (by rw [c1.2 hv hx.kunz]; decide) (Ev.one (fun k => by rw [spec_FromCoordinates.j0]) ?_))
   rw [decide_eq_false (show ¬ (l.length : Int) ≥ 60 by omega), e0]
   have := spec_fc_l0 l hlen hv s2 l.length 0 (by omega)
   exact Ev.neg (by decide) this
  ·obtain ⟨t, t1, _, t3⟩ := coordsof_more x (by have := hx.1.len2; omega)
   have et := (t1.2.1 hx.1).uniq hx
   subst et
   obtain ⟨q, q1, q2⟩ := equal_ev t t hl
   rw [q1.2 rfl] at q2
   exact Ev.bnd r2 (Ev.pos rfl (Ev.bnd t3 (Ev.bnd q2 (Ev.pos rfl (Ev.now _)))))
 ·have hna : ¬ ∃ x, Ap x (apOf l l.length) := fun ⟨x, h⟩ => hx ⟨x, co_of_ap h hv⟩
  have er := r1.2 hna
  have es := s1.2 hna
  subst er es
  refine ⟨([], false), ⟨fun x h => absurd ⟨x, h⟩ hx, fun _ => rfl⟩, ?_, hi _ (Ev.bnd r2 (Ev.neg (by decide) (Ev.now _)))⟩
  unfold spec_FromCoordinates.f
  refine Ev.bnd c2 ?_
  rw [decide_eq_false (show ¬ (l.length : Int) ≥ 60 by omega)]
  cases c.2.2 with
  | true => exact Ev.pos rfl o1
  | false =>
   refine Ev.neg (by decide) (Ev.one (fun k => by rw [spec_FromCoordinates.j0]) ?_)
   rw [e0]
   have := spec_fc_l0 l hlen hv s2 l.length 0 (by omega)
   exact Ev.neg (by decide) this
/-- The coordinates add up to the number of the gaps. -/
theorem co_genus {x l : List Int} (h : Co x l) : ((gapL x).length : Int) = l.sum := by
 obtain ⟨hl, hv, hap, _⟩ := h.facts
 have hal := apOf_len l l.length
 generalize hw : apOf l l.length = w at hap hal
 have hnd : (gapsUp w w.length).Nodup := by
  unfold gapsUp List.Nodup
  rw [List.pairwise_flatMap]
  constructor
  ·intro r hr
   unfold rowL
   rw [List.pairwise_map]
   refine List.Pairwise.imp (fun {a b} hab e => ?_) (List.pairwise_lt_range ..)
   have h1 : w.length * a = w.length * b := by omega
   have := Nat.eq_of_mul_eq_mul_left (by omega) h1
   omega
  ·refine List.Pairwise.imp_of_mem (R := fun a b => a < b) (fun {a b} ha hb hab u hu v hv e => ?_) (List.pairwise_lt_range ..)
   unfold rowL at hu hv
   obtain ⟨s, _, rfl⟩ := List.mem_map.1 hu
   obtain ⟨t, _, rfl⟩ := List.mem_map.1 hv
   rw [List.mem_range] at ha hb
   have e1 : a + w.length * s = b + w.length * t := by omega
   have := congrArg (· % w.length) e1
   simp only [Nat.add_mul_mod_self_left] at this
   rw [Nat.mod_eq_of_lt ha, Nat.mod_eq_of_lt hb] at this
   omega
 have hgd : (gapL x).Nodup := List.Pairwise.imp (fun {a b} (hab : a < b) e => by omega) (show asc (gapL x) from asc_pick _ _)
 have hp := ((List.perm_ext_iff_of_nodup hnd hgd).2 (gapsUp_gaps hap)).length_eq
 rw [← hp, hal]
 have key : ∀ i, i ≤ l.length → ((gapsUp w (i + 1)).length : Int) = (l.take i).sum := by
  intro i
  induction i with
  | zero =>
   intro _
   rw [gapsUp_succ, List.length_append, rowL_len, ← hw, show ((0 : Nat) : Int) = 0 from rfl, apOf_zero, show (0 : Int).toNat = 0 from rfl, Nat.zero_div]
   simp [gapsUp]
  | succ i ih =>
   intro hi
   have hc := rd_rng l 1 200 hv (i : Int) (by omega) (by omega)
   obtain ⟨c, hc⟩ : ∃ c : Nat, rd l (i : Int) = (c : Int) := ⟨(rd l (i : Int)).toNat, by omega⟩
   rw [gapsUp_succ, List.length_append, rowL_len, List.take_succ_eq_append_getElem (by omega), List.sum_append, Int.natCast_add, ih (by omega)]
   congr 1
   have e := apOf_at l l.length i (by omega)
   rw [hw, hc] at e
   have e3 : (((l.length + 1) * c : Nat) : Int) = ((l.length : Int) + 1) * (c : Int) := by rw [Int.natCast_mul]; rfl
   rw [show (rd w ((i + 1 : Nat) : Int)).toNat = i + 1 + (l.length + 1) * c from by omega, hal, Nat.add_mul_div_left _ _ (by omega), Nat.div_eq_of_lt (by omega), Nat.zero_add, List.sum_cons, List.sum_nil, Int.add_zero, ← hc, rd_at l i (by omega)]
 have := key l.length (Nat.le_refl _)
 rwa [List.take_of_length_le (Nat.le_refl _)] at this
/-! plaw: words on laws over bytes -/
theorem big_no (b : List Int) (h : b.length ≤ 1048576) : Ev (fun _ => laws_big.f b) false := by
 refine Ev.const ?_
 unfold laws_big.f
 rw [decide_eq_false (by omega)]
theorem big_yes (b : List Int) (h : ¬ b.length ≤ 1048576) : Ev (fun _ => laws_big.f b) true := by
 refine Ev.const ?_
 unfold laws_big.f
 rw [decide_eq_true (by omega)]
theorem sameInts_l0 (l : List Int) (hl : l.length ≤ 35184372088832) : ∀ (d i : Nat), i + d = l.length → Ev (fun k => laws_sameInts.l0 k l l (i : Int)) true := by
 intro d
 induction d with
 | zero =>
  intro i hi
  refine Ev.one (fun k => by rw [laws_sameInts.l0]) ?_
  exact Ev.neg (by omega) (Ev.now _)
 | succ d ih =>
  intro i hi
  refine Ev.one (fun k => by rw [laws_sameInts.l0]) ?_
  refine Ev.pos (by omega) (Ev.pos (by omega) (Ev.pos (by omega) (Ev.pos rfl ?_)))
  rw [w64_succ i (by omega)]
  exact ih (i + 1) (by omega)
theorem sameInts_ev (l : List Int) (hl : l.length ≤ 35184372088832) : Ev (fun k => laws_sameInts.f k l l) true := by
 unfold laws_sameInts.f
 exact Ev.pos rfl (sameInts_l0 l hl l.length 0 (by omega))
/-! draw: the cursor of the draws, what it picks, the drawn semigroups -/
theorem i64_and255 (n : Int) : Go.bits .and .i64 n 255 = n % 256 := by
 have h1 : (BitVec.ofInt 64 255).toNat = 2 ^ 8 - 1 := by decide
 have key : (BitVec.ofInt 64 n &&& BitVec.ofInt 64 255).toNat = (n % ((2 ^ 64 : Nat) : Int)).toNat % 2 ^ 8 := by
  rw [BitVec.toNat_and, BitVec.toNat_ofInt, h1, Nat.and_two_pow_sub_one_eq_mod]
 show IntKind.i64.wrap ((BitVec.ofInt 64 n &&& BitVec.ofInt 64 255).toNat : Nat) = n % 256
 rw [key, IntKind.wrap_i64]
 omega
/-- The cursor stands inside the bytes. -/
def CurOk (b : List Int) (i : Int) : Prop := b.length ≤ 1048576 ∧ 0 ≤ i ∧ i ≤ (b.length : Int)
theorem l1Byte_ok (b : List Int) (i h : Int) (ok : CurOk b i) : ∃ x i' h', spec_l1Byte.f b i h = some (x, i', h') ∧ (0 ≤ x ∧ x ≤ 255) ∧ CurOk b i' := by
 obtain ⟨o1, o2, o3⟩ := ok
 unfold spec_l1Byte.f
 by_cases c : i < (b.length : Int)
 ·rw [if_pos c, if_pos o2]
  refine ⟨_, _, _, rfl, ?_, o1, ?_⟩
  ·rw [i64_and255]; omega
  ·rw [w64_of (by omega) (by omega)]; omega
 ·rw [if_neg c]
  refine ⟨_, _, _, rfl, ?_, o1, o2, o3⟩
  rw [i64_and255]; omega
theorem tmod_in (x n : Int) (h0 : 0 ≤ x) (hn : 1 ≤ n) : 0 ≤ Int.tmod x n ∧ Int.tmod x n < n :=
 ⟨Int.tmod_nonneg n h0, by have := Int.tmod_lt_of_pos x (show 0 < n by omega); exact this⟩
theorem l1Below_ok (b : List Int) (i h n : Int) (ok : CurOk b i) : ∃ x i' h', spec_l1Below.f b i h n = some (x, i', h') ∧ (0 ≤ x ∧ (1 ≤ n → x < n) ∧ (n ≤ 0 → x = 0)) ∧ CurOk b i' := by
 unfold spec_l1Below.f
 by_cases c : n ≤ 0
 ·rw [if_pos c]
  exact ⟨_, _, _, rfl, ⟨by omega, by omega, fun _ => rfl⟩, ok⟩
 rw [if_neg c]
 obtain ⟨x, i1, h1, e1, b1, k1⟩ := l1Byte_ok b i h ok
 rw [e1]
 by_cases c2 : n ≤ 256
 ·rw [if_pos c2]
  simp only [Option.bind_some]
  rw [if_neg (by omega)]
  exact ⟨_, _, _, rfl, ⟨(tmod_in x n b1.1 (by omega)).1, fun _ => (tmod_in x n b1.1 (by omega)).2, by omega⟩, k1⟩
 ·rw [if_neg c2]
  obtain ⟨y, i2, h2, e2, b2, k2⟩ := l1Byte_ok b i1 h1 k1
  obtain ⟨z, i3, h3, e3, b3, k3⟩ := l1Byte_ok b i2 h2 k2
  obtain ⟨u, i4, h4, e4, b4, k4⟩ := l1Byte_ok b i3 h3 k3
  simp only [Option.bind_some, e2, e3, e4]
  rw [if_neg (by omega)]
  have hv : 0 ≤ wrap64 ((wrap64 ((wrap64 ((wrap64 (x * 16777216)) + (wrap64 (y * 65536)))) + (wrap64 (z * 256)))) + u) := by
   rw [w64_of (x := x * 16777216) (by omega) (by omega), w64_of (x := y * 65536) (by omega) (by omega), w64_of (x := z * 256) (by omega) (by omega), w64_of (x := x * 16777216 + y * 65536) (by omega) (by omega), w64_of (x := x * 16777216 + y * 65536 + z * 256) (by omega) (by omega), w64_of (by omega) (by omega)]
   omega
  exact ⟨_, _, _, rfl, ⟨(tmod_in _ n hv (by omega)).1, fun _ => (tmod_in _ n hv (by omega)).2, by omega⟩, k4⟩
theorem l1Once_ok (b : List Int) (i h n : Int) (ok : CurOk b i) : ∃ x i' h', spec_l1Once.f b i h n = some (x, i', h') ∧ CurOk b i' := by
 unfold spec_l1Once.f
 obtain ⟨x, i1, h1, e1, _, k1⟩ := l1Below_ok b i h n ok
 rw [e1]
 exact ⟨_, _, _, rfl, k1⟩
theorem l1PickInt_ok (b : List Int) (i h : Int) (l : List Int) (ok : CurOk b i) (hl : 1 ≤ l.length) : ∃ x i' h', spec_l1PickInt.f b i h l = some (x, i', h') ∧ x ∈ l ∧ CurOk b i' := by
 unfold spec_l1PickInt.f
 obtain ⟨x, i1, h1, e1, b1, k1⟩ := l1Below_ok b i h (l.length : Int) ok
 have b2 := b1.2.1 (by omega)
 rw [e1]
 simp only [Option.bind_some]
 rw [if_pos b1.1, if_pos b2]
 refine ⟨_, _, _, rfl, ?_, k1⟩
 obtain ⟨m, rfl⟩ : ∃ m : Nat, x = (m : Int) := ⟨x.toNat, by omega⟩
 rw [rd_at l m (by omega)]
 exact List.getElem_mem _
theorem l1New_l0 (b : List Int) (hb : b.length ≤ 1048576) : ∀ (d i : Nat) (h : Int), i + d = 4001 → ∃ h', Ev (fun k => spec_l1New.l0 k b h (i : Int)) (b, 0, h') := by
 intro d
 induction d with
 | zero =>
  intro i h hi
  refine ⟨h, Ev.one (fun k => by rw [spec_l1New.l0]) ?_⟩
  by_cases c : (i : Int) < (b.length : Int)
  ·exact Ev.pos c (Ev.neg (by omega) (Ev.now _))
  ·exact Ev.neg c (Ev.now _)
 | succ d ih =>
  intro i h hi
  by_cases c : (i : Int) < (b.length : Int)
  ·by_cases c2 : (i : Int) < 4000
   ·obtain ⟨h', e⟩ := ih (i + 1) (Go.bits .and .i64 (wrap64 ((wrap64 ((wrap64 (h * 131)) + (wrap64 (rd b (i : Int))))) + 7)) 1073741823) (by omega)
    refine ⟨h', Ev.one (fun k => by rw [spec_l1New.l0]) ?_⟩
    refine Ev.pos c (Ev.pos c2 (Ev.pos (by omega) ?_))
    rw [w64_succ i (by omega)]
    exact e
   ·refine ⟨h, Ev.one (fun k => by rw [spec_l1New.l0]) ?_⟩
    exact Ev.pos c (Ev.neg c2 (Ev.now _))
  ·refine ⟨h, Ev.one (fun k => by rw [spec_l1New.l0]) ?_⟩
   exact Ev.neg c (Ev.now _)
theorem l1New_ok (b : List Int) (hb : b.length ≤ 1048576) : ∃ h, Ev (fun k => spec_l1New.f k b) (b, 0, h) ∧ CurOk b 0 := by
 obtain ⟨h', e⟩ := l1New_l0 b hb 4001 0 (wrap64 (26583 + (b.length : Int))) (by omega)
 exact ⟨h', e, hb, by omega, by omega⟩
end Go.Proofs.Ytkfplkdchkmgbaa.Pure
