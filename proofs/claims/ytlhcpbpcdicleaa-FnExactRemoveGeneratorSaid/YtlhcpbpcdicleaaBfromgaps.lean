/- Plain lemmas (fromgaps): no program, no memory. -/
import Derived.Test.YtlhcpbpcdicleaaC0
import Derived.Test.YtlhcpbpcdicleaaC3
import Derived.Test.YtlhcpbpcdicleaaC6
import Derived.Test.YtlhcpbpcdicleaaBwithin
import Derived.Test.YtlhcpbpcdicleaaBallwithin
import Derived.Test.YtlhcpbpcdicleaaBtable
import Derived.Test.YtlhcpbpcdicleaaBasc
import Derived.Test.YtlhcpbpcdicleaaBbase
namespace Go.Proofs.Ytlhcpbpcdicleaa.Pure
open Go.RowKit Go.Proofs.Ytlhcpbpcdicleaa.C Go.Proofs.YtlhcpbpcdicleaaW.PrintWords Go.Proofs.YtlhcpbpcdicleaaW.PrintLast Go.Proofs.YtlhcpbpcdicleaaW.PrintMore
set_option linter.unusedVariables false
set_option linter.unusedSimpArgs false
/-! fromgaps: GapClash and FromGaps of both sides -/
def okL (l : List Int) : Prop := asc l ∧ ∀ x ∈ l, 1 ≤ x ∧ x ≤ 199
theorem spec_l8Gaps_l0 (l : List Int) (hl : l.length ≤ 1048576) : ∀ (d i : Nat), i + d = l.length → ∃ b, (b = true ↔ asc l ∧ ∀ x ∈ l.drop i, 1 ≤ x ∧ x ≤ 199) ∧ Ev (fun k => spec_l8Gaps.l0 k l (i : Int)) b := by
  intro d
  induction d with
  | zero =>
    intro i hi
    obtain ⟨b, b1, b2⟩ := spec_IsAscending_ev l hl
    rw [List.drop_eq_nil_of_le (by omega)]
    refine ⟨b, by rw [b1]; simp, Ev.one (fun k => by rw [spec_l8Gaps.l0]) ?_⟩
    exact Ev.neg (by omega) (Ev.bnd b2 (Ev.now _))
  | succ d ih =>
    intro i hi
    rw [List.drop_eq_getElem_cons (show i < l.length by omega)]
    by_cases h : 1 ≤ l[i] ∧ l[i] ≤ 199
    · obtain ⟨b, b1, b2⟩ := ih (i + 1) (by omega)
      refine ⟨b, ?_, Ev.one (fun k => by rw [spec_l8Gaps.l0]) ?_⟩
      · rw [b1]
        exact ⟨fun e => ⟨e.1, fun x hx => by
          rcases List.mem_cons.1 hx with e2 | hx
          · rw [e2]; exact h
          · exact e.2 x hx⟩, fun e => ⟨e.1, fun x hx => e.2 x (List.mem_cons_of_mem _ hx)⟩⟩
      · rw [rd_at l i (by omega), w64_succ i (by omega)]
        exact Ev.pos (by omega) (Ev.pos (by omega) (Ev.bnd (spec_l1In_ev _ _ _) (Ev.pos (decide_eq_true h) b2)))
    · refine ⟨false, ⟨(fun e => by cases e), fun e => absurd (e.2 _ (List.mem_cons_self ..)) h⟩, Ev.one (fun k => by rw [spec_l8Gaps.l0]) ?_⟩
      rw [rd_at l i (by omega)]
      exact Ev.pos (by omega) (Ev.pos (by omega) (Ev.bnd (spec_l1In_ev _ _ _) (Ev.neg (by rw [decide_eq_false h]; decide) (Ev.now _))))
theorem spec_l8Gaps_ev (l : List Int) (hl : l.length ≤ 1048576) : ∃ b, (b = true ↔ okL l) ∧ Ev (fun k => spec_l8Gaps.f k l) b := by
  unfold spec_l8Gaps.f
  exact spec_l8Gaps_l0 l hl l.length 0 (by omega)
theorem impl_gapList_ev (l : List Int) (hl : l.length ≤ 1048576) : ∃ b, (b = true ↔ okL l) ∧ Ev (fun k => impl_gapList.f k l) b := by
  obtain ⟨b, b1, b2⟩ := impl_IsAscending_ev l hl
  unfold impl_gapList.f
  cases b with
  | false => exact ⟨false, ⟨(fun e => by cases e), fun e => b1.2 e.1⟩, Ev.bnd b2 (Ev.neg (by decide) (Ev.now _))⟩
  | true =>
    refine ⟨allIn l 1 199, ?_, Ev.bnd b2 (Ev.pos rfl (Ev.bnd (impl_allWithin_ev l 1 199 (by omega)) (Ev.now _)))⟩
    rw [allIn_iff]
    exact ⟨fun e => ⟨b1.1 rfl, e⟩, fun e => e.2⟩
theorem equal_l0 (a b : List Int) (hab : a.length = b.length) (hl : a.length ≤ 1048576) : ∀ (d i : Nat), i + d = a.length → ∃ r, (r = true ↔ a.drop i = b.drop i) ∧ Ev (fun k => slices_Equal_int_int.l0 k a b (a.length : Int) (i : Int)) r := by
  intro d
  induction d with
  | zero =>
    intro i hi
    refine ⟨true, by rw [List.drop_eq_nil_of_le (show a.length ≤ i by omega), List.drop_eq_nil_of_le (show b.length ≤ i by omega)]; simp, Ev.one (fun k => by rw [slices_Equal_int_int.l0]) ?_⟩
    exact Ev.neg (by omega) (Ev.now _)
  | succ d ih =>
    intro i hi
    rw [List.drop_eq_getElem_cons (show i < a.length by omega), List.drop_eq_getElem_cons (show i < b.length by omega)]
    by_cases h : a[i] = b[i]
    · obtain ⟨r, r1, r2⟩ := ih (i + 1) (by omega)
      refine ⟨r, by rw [r1, h, List.cons.injEq]; simp, Ev.one (fun k => by rw [slices_Equal_int_int.l0]) ?_⟩
      rw [rd_at a i (by omega), rd_at b i (by omega), w64_succ i (by omega)]
      exact Ev.pos (by omega) (Ev.pos (by omega) (Ev.pos (by omega) (Ev.pos (by omega) (Ev.pos h r2))))
    · refine ⟨false, ⟨(fun e => by cases e), fun e => absurd (List.cons.inj e).1 h⟩, Ev.one (fun k => by rw [slices_Equal_int_int.l0]) ?_⟩
      rw [rd_at a i (by omega), rd_at b i (by omega)]
      exact Ev.pos (by omega) (Ev.pos (by omega) (Ev.pos (by omega) (Ev.pos (by omega) (Ev.neg h (Ev.now _)))))
theorem equal_ev (a b : List Int) (hl : a.length ≤ 1048576) : ∃ r, (r = true ↔ a = b) ∧ Ev (fun k => slices_Equal_int_int.f k a b) r := by
  unfold slices_Equal_int_int.f
  by_cases h : a.length = b.length
  · obtain ⟨r, r1, r2⟩ := equal_l0 a b h hl a.length 0 (by omega)
    exact ⟨r, by rw [r1]; simp, Ev.pos (by omega) r2⟩
  · exact ⟨false, ⟨(fun e => by cases e), fun e => absurd (congrArg List.length e) h⟩, Ev.neg (by omega) (Ev.now _)⟩
/-- The table of a list's numbers. -/
def mk (l : List Int) (n : Nat) : List Bool := (List.range n).map fun m : Nat => decide ((m : Int) ∈ l)
theorem mk_len (l : List Int) (n : Nat) : (mk l n).length = n := by simp [mk]
theorem mk_at (l : List Int) (n m : Nat) (h : m < n) : rdOf false (mk l n) (m : Int) = decide ((m : Int) ∈ l) := by
  rw [rdOf_at]
  unfold mk
  rw [List.getD_eq_getElem?_getD, List.getElem?_map, List.getElem?_range h]
  rfl
theorem mk_nil (n : Nat) : mk [] n = List.replicate n false := by
  apply List.ext_getElem (by simp [mk])
  intro i h1 h2
  simp [mk]
theorem mk_get (l : List Int) (n i : Nat) (h : i < (mk l n).length) : (mk l n)[i] = decide ((i : Int) ∈ l) := by
  simp [mk]
theorem mk_set (l : List Int) (n m : Nat) : (mk l n).set m true = mk (l ++ [(m : Int)]) n := by
  apply List.ext_getElem (by rw [List.length_set, mk_len, mk_len])
  intro i h1 h2
  rw [List.getElem_set, mk_get]
  by_cases h : m = i
  · subst h
    rw [if_pos rfl, mk_get]
    exact (decide_eq_true (List.mem_append.2 (.inr (List.mem_singleton.2 rfl)))).symm
  · rw [if_neg h, mk_get]
    have e : ((i : Int) ∈ l ↔ (i : Int) ∈ l ++ [(m : Int)]) := by
      rw [List.mem_append, List.mem_singleton]
      exact ⟨fun e => .inl e, fun e => e.resolve_right (fun e => h (by omega))⟩
    exact decide_eq_decide.2 e
theorem mk_next (l : List Int) (n i : Nat) (h : i < l.length) (h0 : 0 ≤ l[i]) : (mk (l.take i) n).set (l[i]).toNat true = mk (l.take (i + 1)) n := by
  rw [mk_set, List.take_succ_eq_append_getElem h, show (((l[i]).toNat : Nat) : Int) = l[i] from by omega]
/-- Two numbers beside the list whose sum is in it. -/
def clQ (l : List Int) (a b : Int) : Prop := ∃ b', b ≤ b' ∧ a ∉ l ∧ b' ∉ l ∧ a + b' ∈ l
def clP (l : List Int) (a : Int) : Prop := ∃ a', a ≤ a' ∧ clQ l a' a'
theorem clP_step (l : List Int) (a : Int) : clP l a ↔ clQ l a a ∨ clP l (a + 1) := by
  constructor
  · rintro ⟨a', h1, h2⟩
    by_cases e : a = a'
    · subst e; exact .inl h2
    · exact .inr ⟨a', by omega, h2⟩
  · rintro (h | ⟨a', h1, h2⟩)
    · exact ⟨a, by omega, h⟩
    · exact ⟨a', by omega, h2⟩
theorem clQ_step (l : List Int) (a b : Int) : clQ l a b ↔ (a ∉ l ∧ b ∉ l ∧ a + b ∈ l) ∨ clQ l a (b + 1) := by
  constructor
  · rintro ⟨b', h1, h2⟩
    by_cases e : b = b'
    · subst e; exact .inl h2
    · exact .inr ⟨b', by omega, h2⟩
  · rintro (h | ⟨b', h1, h2⟩)
    · exact ⟨b, by omega, h⟩
    · exact ⟨b', by omega, h2⟩
theorem clQ_end (l : List Int) (most : Int) (hm : ∀ x ∈ l, x ≤ most) (a b : Int) (h : most < a + b) : ¬ clQ l a b := by
  rintro ⟨b', h1, _, _, h4⟩
  have := hm _ h4
  omega
theorem clP_end (l : List Int) (most : Int) (hm : ∀ x ∈ l, x ≤ most) (a : Int) (h0 : 0 ≤ a) (h : most < a) : ¬ clP l a := by
  rintro ⟨a', h1, h2⟩
  exact clQ_end l most hm a' a' (by omega) h2
theorem spec_GapClash_l2 (l : List Int) (most N : Nat) (hm : ∀ x ∈ l, x ≤ (most : Int)) (hN : most < N) (hNb : N ≤ 1000) (a : Nat) (ha1 : 1 ≤ a) (ha : a ≤ most)
    (P : ∃ r : Int × Int × Bool, (r.2.2 = true ↔ clP l ((a + 1 : Nat) : Int)) ∧ Ev (fun k => spec_GapClash.l1 k (most : Int) (mk l N) ((a + 1 : Nat) : Int)) r) :
    ∀ (d b : Nat), most < a + b + d → 1 ≤ b → b ≤ most + 1 → ∃ r : Int × Int × Bool, (r.2.2 = true ↔ clQ l (a : Int) (b : Int) ∨ clP l ((a + 1 : Nat) : Int)) ∧ Ev (fun k => spec_GapClash.l2 k (most : Int) (mk l N) (a : Int) (b : Int)) r := by
  obtain ⟨r, r1, r2⟩ := P
  have hl := mk_len l N
  have out : ∀ b : Nat, ¬ clQ l (a : Int) (b : Int) → Ev (fun k => spec_GapClash.j4 k (most : Int) (mk l N) (a : Int) (b : Int) false) r ∧ (r.2.2 = true ↔ clQ l (a : Int) (b : Int) ∨ clP l ((a + 1 : Nat) : Int)) := by
    intro b hq
    refine ⟨Ev.one (fun k => by rw [spec_GapClash.j4]) ?_, ⟨fun e => .inr (r1.1 e), fun e => r1.2 (e.resolve_left hq)⟩⟩
    rw [w64_succ a (by omega)]
    exact Ev.neg (by decide) r2
  have far : ∀ b : Nat, b ≤ most + 1 → most < a + b → ∃ r : Int × Int × Bool, (r.2.2 = true ↔ clQ l (a : Int) (b : Int) ∨ clP l ((a + 1 : Nat) : Int)) ∧ Ev (fun k => spec_GapClash.l2 k (most : Int) (mk l N) (a : Int) (b : Int)) r := by
    intro b hb h
    have o := out b (clQ_end l most hm a b (by omega))
    refine ⟨r, o.2, Ev.one (fun k => by rw [spec_GapClash.l2]) ?_⟩
    rw [w64_of (x := (a : Int) + (b : Int)) (by omega) (by omega)]
    exact Ev.neg (by omega) o.1
  intro d
  induction d with
  | zero =>
    intro b h1 h2 h3
    exact far b h3 (by omega)
  | succ d ih =>
    intro b h1 h2 h3
    by_cases h : most < a + b
    · exact far b h3 h
    by_cases hA : (a : Int) ∈ l
    · have o := out b (by rintro ⟨b', _, h, _⟩; exact h hA)
      refine ⟨r, o.2, Ev.one (fun k => by rw [spec_GapClash.l2]) ?_⟩
      rw [w64_of (x := (a : Int) + (b : Int)) (by omega) (by omega), mk_at l N a (by omega), decide_eq_true hA]
      exact Ev.pos (by omega) (Ev.pos (by omega) (Ev.pos (by omega) o.1))
    · obtain ⟨r', i1, i2⟩ := ih (b + 1) (by omega) (by omega) (by omega)
      have e1 : ((b + 1 : Nat) : Int) = (b : Int) + 1 := by omega
      have e2 : (a : Int) + (b : Int) = ((a + b : Nat) : Int) := by omega
      have st := clQ_step l (a : Int) (b : Int)
      rw [← e1] at st
      by_cases hB : (b : Int) ∈ l
      · refine ⟨r', by rw [i1, st]; exact ⟨fun e => e.elim (fun e => .inl (.inr e)) .inr, fun e => e.elim (fun e => .inl (e.resolve_left (fun e => e.2.1 hB))) .inr⟩, Ev.one (fun k => by rw [spec_GapClash.l2]) ?_⟩
        rw [w64_of (x := (a : Int) + (b : Int)) (by omega) (by omega), mk_at l N a (by omega), decide_eq_false hA]
        refine Ev.pos (by omega) (Ev.pos (by omega) (Ev.pos (by omega) (Ev.one (fun k => by rw [spec_GapClash.j4]) ?_)))
        rw [mk_at l N b (by omega), decide_eq_true hB, w64_succ b (by omega)]
        exact Ev.pos rfl (Ev.pos (by omega) (Ev.pos (by omega) (Ev.pos rfl i2)))
      · by_cases hC : (a : Int) + (b : Int) ∈ l
        · refine ⟨((a : Int), (b : Int), true), ⟨fun _ => .inl (st.2 (.inl ⟨hA, hB, hC⟩)), fun _ => rfl⟩, Ev.one (fun k => by rw [spec_GapClash.l2]) ?_⟩
          rw [w64_of (x := (a : Int) + (b : Int)) (by omega) (by omega), mk_at l N a (by omega), decide_eq_false hA]
          refine Ev.pos (by omega) (Ev.pos (by omega) (Ev.pos (by omega) (Ev.one (fun k => by rw [spec_GapClash.j4]) ?_)))
          rw [mk_at l N b (by omega), decide_eq_false hB, w64_of (x := (a : Int) + (b : Int)) (by omega) (by omega), e2, mk_at l N (a + b) (by omega), ← e2, decide_eq_true hC]
          exact Ev.pos rfl (Ev.pos (by omega) (Ev.pos (by omega) (Ev.neg (by decide) (Ev.pos (by omega) (Ev.pos (by omega) (Ev.pos rfl (Ev.now _)))))))
        · refine ⟨r', by rw [i1, st]; exact ⟨fun e => e.elim (fun e => .inl (.inr e)) .inr, fun e => e.elim (fun e => .inl (e.resolve_left (fun e => hC e.2.2))) .inr⟩, Ev.one (fun k => by rw [spec_GapClash.l2]) ?_⟩
          rw [w64_of (x := (a : Int) + (b : Int)) (by omega) (by omega), mk_at l N a (by omega), decide_eq_false hA]
          refine Ev.pos (by omega) (Ev.pos (by omega) (Ev.pos (by omega) (Ev.one (fun k => by rw [spec_GapClash.j4]) ?_)))
          rw [mk_at l N b (by omega), decide_eq_false hB, w64_of (x := (a : Int) + (b : Int)) (by omega) (by omega), e2, mk_at l N (a + b) (by omega), ← e2, decide_eq_false hC, w64_succ b (by omega)]
          exact Ev.pos rfl (Ev.pos (by omega) (Ev.pos (by omega) (Ev.neg (by decide) (Ev.pos (by omega) (Ev.pos (by omega) (Ev.neg (by decide) i2))))))
theorem spec_GapClash_l1 (l : List Int) (most N : Nat) (hm : ∀ x ∈ l, x ≤ (most : Int)) (hN : most < N) (hNb : N ≤ 1000) :
    ∀ (d a : Nat), a + d = most + 1 → 1 ≤ a → ∃ r : Int × Int × Bool, (r.2.2 = true ↔ clP l (a : Int)) ∧ Ev (fun k => spec_GapClash.l1 k (most : Int) (mk l N) (a : Int)) r := by
  intro d
  induction d with
  | zero =>
    intro a h h1
    refine ⟨(0, 0, false), ⟨(fun e => by cases e), fun e => absurd e (clP_end l most hm a (by omega) (by omega))⟩, Ev.one (fun k => by rw [spec_GapClash.l1]) ?_⟩
    exact Ev.neg (by omega) (Ev.now _)
  | succ d ih =>
    intro a h h1
    obtain ⟨r, r1, r2⟩ := spec_GapClash_l2 l most N hm hN hNb a h1 (by omega) (ih (a + 1) (by omega) (by omega)) (most + 1) a (by omega) h1 (by omega)
    refine ⟨r, ?_, Ev.one (fun k => by rw [spec_GapClash.l1]) ?_⟩
    · rw [r1, clP_step l (a : Int)]
      exact Iff.rfl
    · exact Ev.pos (by omega) r2
theorem spec_GapClash_l0 (l : List Int) (most N : Nat) (hl : l.length ≤ 1048576) (h1 : ∀ x ∈ l, 1 ≤ x) (hm : ∀ x ∈ l, x ≤ (most : Int)) (hN : most < N) (hNb : N ≤ 1000) :
    ∀ (d i : Nat), i + d = l.length → ∃ r : Int × Int × Bool, (r.2.2 = true ↔ clP l 1) ∧ Ev (fun k => spec_GapClash.l0 k l (most : Int) (mk (l.take i) N) (i : Int)) r := by
  intro d
  induction d with
  | zero =>
    intro i hi
    obtain ⟨r, r1, r2⟩ := spec_GapClash_l1 l most N hm hN hNb most 1 (by omega) (by omega)
    refine ⟨r, r1, Ev.one (fun k => by rw [spec_GapClash.l0]) ?_⟩
    rw [List.take_of_length_le (by omega)]
    exact Ev.neg (by omega) r2
  | succ d ih =>
    intro i hi
    obtain ⟨r, r1, r2⟩ := ih (i + 1) (by omega)
    have a1 := h1 _ (List.getElem_mem (show i < l.length by omega))
    have a2 := hm _ (List.getElem_mem (show i < l.length by omega))
    refine ⟨r, r1, Ev.one (fun k => by rw [spec_GapClash.l0]) ?_⟩
    rw [rd_at l i (by omega), mk_next l N i (by omega) (by omega), w64_succ i (by omega), mk_len]
    exact Ev.pos (by omega) (Ev.pos (by omega) (Ev.pos (by omega) (Ev.pos (by omega) r2)))
/-- The last number of a list that ascends is the greatest. -/
theorem asc_last (l : List Int) (h : asc l) (hl : 0 < l.length) : ∀ x ∈ l, x ≤ rd l ((l.length - 1 : Nat) : Int) := by
  intro x hx
  rw [rd_at l _ (by omega)]
  obtain ⟨i, hi, e⟩ := List.getElem_of_mem hx
  subst e
  by_cases he : i = l.length - 1
  · subst he; exact Int.le_refl _
  · have := List.pairwise_iff_getElem.1 h i (l.length - 1) hi (by omega) (by omega)
    omega
theorem okL_top (l : List Int) (h : okL l) (hl : 0 < l.length) : ∃ most : Nat, rd l ((l.length - 1 : Nat) : Int) = (most : Int) ∧ 1 ≤ most ∧ most ≤ 199 ∧ ∀ x ∈ l, x ≤ (most : Int) := by
  have a := asc_last l h.1 hl
  have b := h.2 (rd l ((l.length - 1 : Nat) : Int)) (by rw [rd_at l _ (by omega)]; exact List.getElem_mem _)
  refine ⟨(rd l ((l.length - 1 : Nat) : Int)).toNat, by omega, by omega, by omega, fun x hx => ?_⟩
  have := a x hx
  omega
theorem clP_nil : ¬ clP [] 1 := by
  rintro ⟨a, _, b, _, _, _, h⟩
  simp at h
theorem spec_GapClash_ev (l : List Int) (hl : l.length ≤ 1048576) : ∃ r : Int × Int × Bool, (r.2.2 = true ↔ okL l ∧ clP l 1) ∧ Ev (fun k => spec_GapClash.f k l) r := by
  obtain ⟨b, b1, b2⟩ := spec_l8Gaps_ev l hl
  unfold spec_GapClash.f
  cases b with
  | false =>
    refine ⟨(0, 0, false), ⟨(fun e => by cases e), fun e => b1.2 e.1⟩, Ev.bnd b2 (Ev.neg (by decide) (Ev.one (fun k => by rw [spec_GapClash.j0]) ?_))⟩
    exact Ev.pos rfl (Ev.now _)
  | true =>
    have ok := b1.1 rfl
    by_cases h : l.length = 0
    · refine ⟨(0, 0, false), ⟨(fun e => by cases e), fun e => ?_⟩, Ev.bnd b2 (Ev.pos rfl (Ev.one (fun k => by rw [spec_GapClash.j0]) ?_))⟩
      · rw [List.length_eq_zero_iff] at h
        subst h
        exact absurd e.2 clP_nil
      · exact Ev.pos (by rw [h]; rfl) (Ev.now _)
    · obtain ⟨most, m1, m2, m3, m4⟩ := okL_top l ok (by omega)
      have e1 : wrap64 ((l.length : Int) - 1) = ((l.length - 1 : Nat) : Int) := by rw [w64_of (by omega) (by omega)]; omega
      have e2 : wrap64 (wrap64 (2 * (most : Int)) + 1) = ((2 * most + 1 : Nat) : Int) := by
        rw [w64_of (x := 2 * (most : Int)) (by omega) (by omega), w64_of (by omega) (by omega)]; omega
      obtain ⟨r, r1, r2⟩ := spec_GapClash_l0 l most (2 * most + 1) hl (fun x hx => (ok.2 x hx).1) m4 (by omega) (by omega) l.length 0 (by omega)
      refine ⟨r, by rw [r1]; exact ⟨fun e => ⟨ok, e⟩, fun e => e.2⟩, Ev.bnd b2 (Ev.pos rfl (Ev.one (fun k => by rw [spec_GapClash.j0]) ?_))⟩
      rw [List.take_zero, mk_nil] at r2
      rw [e1, m1, e2, Int.toNat_natCast]
      exact Ev.neg (by rw [beq_iff_eq]; omega) (Ev.pos (by omega) (Ev.pos (by omega) (Ev.pos (by omega) (Ev.pos (by omega) r2))))
theorem impl_GapClash_l2 (l : List Int) (most N : Nat) (hm : ∀ x ∈ l, x ≤ (most : Int)) (hN : most < N) (hNb : N ≤ 1000) (a : Nat) (ha1 : 1 ≤ a) (ha : a ≤ most)
    (P : ∃ r : Int × Int × Bool, (r.2.2 = true ↔ clP l ((a + 1 : Nat) : Int)) ∧ Ev (fun k => impl_GapClash.l1 k (mk l N) (most : Int) ((a + 1 : Nat) : Int)) r) :
    ∀ (d b : Nat), most < a + b + d → 1 ≤ b → b ≤ most + 1 → ∃ r : Int × Int × Bool, (r.2.2 = true ↔ clQ l (a : Int) (b : Int) ∨ clP l ((a + 1 : Nat) : Int)) ∧ Ev (fun k => impl_GapClash.l2 k (mk l N) (most : Int) (a : Int) (b : Int)) r := by
  obtain ⟨r, r1, r2⟩ := P
  have hl := mk_len l N
  have far : ∀ b : Nat, b ≤ most + 1 → most < a + b → ∃ r : Int × Int × Bool, (r.2.2 = true ↔ clQ l (a : Int) (b : Int) ∨ clP l ((a + 1 : Nat) : Int)) ∧ Ev (fun k => impl_GapClash.l2 k (mk l N) (most : Int) (a : Int) (b : Int)) r := by
    intro b hb h
    refine ⟨r, ⟨fun e => .inr (r1.1 e), fun e => r1.2 (e.resolve_left (clQ_end l most hm a b (by omega)))⟩, Ev.one (fun k => by rw [impl_GapClash.l2]) ?_⟩
    rw [w64_of (x := (a : Int) + (b : Int)) (by omega) (by omega), w64_succ a (by omega)]
    exact Ev.neg (by omega) r2
  intro d
  induction d with
  | zero =>
    intro b h1 h2 h3
    exact far b h3 (by omega)
  | succ d ih =>
    intro b h1 h2 h3
    by_cases h : most < a + b
    · exact far b h3 h
    obtain ⟨r', i1, i2⟩ := ih (b + 1) (by omega) (by omega) (by omega)
    have e1 : ((b + 1 : Nat) : Int) = (b : Int) + 1 := by omega
    have e2 : (a : Int) + (b : Int) = ((a + b : Nat) : Int) := by omega
    have st := clQ_step l (a : Int) (b : Int)
    rw [← e1] at st
    have go : ¬ ((a : Int) ∉ l ∧ (b : Int) ∉ l ∧ (a : Int) + (b : Int) ∈ l) → (r'.2.2 = true ↔ clQ l (a : Int) (b : Int) ∨ clP l ((a + 1 : Nat) : Int)) := by
      intro n
      rw [i1, st]
      exact ⟨fun e => e.elim (fun e => .inl (.inr e)) .inr, fun e => e.elim (fun e => .inl (e.resolve_left n)) .inr⟩
    by_cases hA : (a : Int) ∈ l
    · refine ⟨r', go (fun e => e.1 hA), Ev.one (fun k => by rw [impl_GapClash.l2]) ?_⟩
      rw [w64_of (x := (a : Int) + (b : Int)) (by omega) (by omega), mk_at l N a (by omega), decide_eq_true hA, w64_succ b (by omega)]
      exact Ev.pos (by omega) (Ev.pos (by omega) (Ev.pos (by omega) (Ev.pos rfl i2)))
    · by_cases hB : (b : Int) ∈ l
      · refine ⟨r', go (fun e => e.2.1 hB), Ev.one (fun k => by rw [impl_GapClash.l2]) ?_⟩
        rw [w64_of (x := (a : Int) + (b : Int)) (by omega) (by omega), mk_at l N a (by omega), decide_eq_false hA, mk_at l N b (by omega), decide_eq_true hB, w64_succ b (by omega)]
        exact Ev.pos (by omega) (Ev.pos (by omega) (Ev.pos (by omega) (Ev.neg (by decide) (Ev.pos (by omega) (Ev.pos (by omega) (Ev.pos rfl i2))))))
      · by_cases hC : (a : Int) + (b : Int) ∈ l
        · refine ⟨((a : Int), (b : Int), true), ⟨fun _ => .inl (st.2 (.inl ⟨hA, hB, hC⟩)), fun _ => rfl⟩, Ev.one (fun k => by rw [impl_GapClash.l2]) ?_⟩
          rw [w64_of (x := (a : Int) + (b : Int)) (by omega) (by omega), mk_at l N a (by omega), decide_eq_false hA, mk_at l N b (by omega), decide_eq_false hB, e2, mk_at l N (a + b) (by omega), ← e2, decide_eq_true hC]
          exact Ev.pos (by omega) (Ev.pos (by omega) (Ev.pos (by omega) (Ev.neg (by decide) (Ev.pos (by omega) (Ev.pos (by omega) (Ev.neg (by decide) (Ev.pos (by omega) (Ev.pos (by omega) (Ev.pos rfl (Ev.now _))))))))))
        · refine ⟨r', go (fun e => hC e.2.2), Ev.one (fun k => by rw [impl_GapClash.l2]) ?_⟩
          rw [w64_of (x := (a : Int) + (b : Int)) (by omega) (by omega), mk_at l N a (by omega), decide_eq_false hA, mk_at l N b (by omega), decide_eq_false hB, e2, mk_at l N (a + b) (by omega), ← e2, decide_eq_false hC, w64_succ b (by omega)]
          exact Ev.pos (by omega) (Ev.pos (by omega) (Ev.pos (by omega) (Ev.neg (by decide) (Ev.pos (by omega) (Ev.pos (by omega) (Ev.neg (by decide) (Ev.pos (by omega) (Ev.pos (by omega) (Ev.neg (by decide) i2)))))))))
theorem impl_GapClash_l1 (l : List Int) (most N : Nat) (hm : ∀ x ∈ l, x ≤ (most : Int)) (hN : most < N) (hNb : N ≤ 1000) :
    ∀ (d a : Nat), a + d = most + 1 → 1 ≤ a → ∃ r : Int × Int × Bool, (r.2.2 = true ↔ clP l (a : Int)) ∧ Ev (fun k => impl_GapClash.l1 k (mk l N) (most : Int) (a : Int)) r := by
  intro d
  induction d with
  | zero =>
    intro a h h1
    refine ⟨(0, 0, false), ⟨(fun e => by cases e), fun e => absurd e (clP_end l most hm a (by omega) (by omega))⟩, Ev.one (fun k => by rw [impl_GapClash.l1]) ?_⟩
    exact Ev.neg (by omega) (Ev.now _)
  | succ d ih =>
    intro a h h1
    obtain ⟨r, r1, r2⟩ := impl_GapClash_l2 l most N hm hN hNb a h1 (by omega) (ih (a + 1) (by omega) (by omega)) (most + 1) a (by omega) h1 (by omega)
    refine ⟨r, ?_, Ev.one (fun k => by rw [impl_GapClash.l1]) ?_⟩
    · rw [r1, clP_step l (a : Int)]
      exact Iff.rfl
    · exact Ev.pos (by omega) r2
theorem impl_GapClash_l0 (l : List Int) (most N : Nat) (hl : l.length ≤ 1048576) (h0 : 0 < l.length) (ht : rd l ((l.length - 1 : Nat) : Int) = (most : Int)) (h1 : ∀ x ∈ l, 1 ≤ x) (hm : ∀ x ∈ l, x ≤ (most : Int)) (hN : most < N) (hNb : N ≤ 1000) :
    ∀ (d i : Nat), i + d = l.length → ∃ r : Int × Int × Bool, (r.2.2 = true ↔ clP l 1) ∧ Ev (fun k => impl_GapClash.l0 k l (mk (l.take i) N) l (l.length : Int) (i : Int)) r := by
  have e1 : wrap64 ((l.length : Int) - 1) = ((l.length - 1 : Nat) : Int) := by rw [w64_of (by omega) (by omega)]; omega
  intro d
  induction d with
  | zero =>
    intro i hi
    obtain ⟨r, r1, r2⟩ := impl_GapClash_l1 l most N hm hN hNb most 1 (by omega) (by omega)
    refine ⟨r, r1, Ev.one (fun k => by rw [impl_GapClash.l0]) ?_⟩
    rw [List.take_of_length_le (by omega), e1, ht]
    exact Ev.neg (by omega) (Ev.pos (by omega) (Ev.pos (by omega) r2))
  | succ d ih =>
    intro i hi
    obtain ⟨r, r1, r2⟩ := ih (i + 1) (by omega)
    have a1 := h1 _ (List.getElem_mem (show i < l.length by omega))
    have a2 := hm _ (List.getElem_mem (show i < l.length by omega))
    refine ⟨r, r1, Ev.one (fun k => by rw [impl_GapClash.l0]) ?_⟩
    rw [rd_at l i (by omega), mk_next l N i (by omega) (by omega), w64_succ i (by omega), mk_len]
    exact Ev.pos (by omega) (Ev.pos (by omega) (Ev.pos (by omega) (Ev.pos (by omega) (Ev.pos (by omega) r2))))
theorem impl_GapClash_ev (l : List Int) (hl : l.length ≤ 1048576) : ∃ r : Int × Int × Bool, (r.2.2 = true ↔ okL l ∧ clP l 1) ∧ Ev (fun k => impl_GapClash.f k l) r := by
  obtain ⟨b, b1, b2⟩ := impl_gapList_ev l hl
  unfold impl_GapClash.f
  cases b with
  | false =>
    refine ⟨(0, 0, false), ⟨(fun e => by cases e), fun e => b1.2 e.1⟩, Ev.bnd b2 (Ev.neg (by decide) (Ev.one (fun k => by rw [impl_GapClash.j0]) ?_))⟩
    exact Ev.pos rfl (Ev.now _)
  | true =>
    have ok := b1.1 rfl
    by_cases h : l.length = 0
    · refine ⟨(0, 0, false), ⟨(fun e => by cases e), fun e => ?_⟩, Ev.bnd b2 (Ev.pos rfl (Ev.one (fun k => by rw [impl_GapClash.j0]) ?_))⟩
      · rw [List.length_eq_zero_iff] at h
        subst h
        exact absurd e.2 clP_nil
      · exact Ev.pos (by rw [h]; rfl) (Ev.now _)
    · obtain ⟨most, m1, m2, m3, m4⟩ := okL_top l ok (by omega)
      obtain ⟨r, r1, r2⟩ := impl_GapClash_l0 l most 201 hl (by omega) m1 (fun x hx => (ok.2 x hx).1) m4 (by omega) (by omega) l.length 0 (by omega)
      refine ⟨r, by rw [r1]; exact ⟨fun e => ⟨ok, e⟩, fun e => e.2⟩, Ev.bnd b2 (Ev.pos rfl (Ev.one (fun k => by rw [impl_GapClash.j0]) ?_))⟩
      rw [List.take_zero, mk_nil] at r2
      exact Ev.neg (by rw [beq_iff_eq]; omega) (Ev.pos (by omega) r2)
end Go.Proofs.Ytlhcpbpcdicleaa.Pure
