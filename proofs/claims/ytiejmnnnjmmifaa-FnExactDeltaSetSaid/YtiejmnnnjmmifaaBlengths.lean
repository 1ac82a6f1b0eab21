/- Plain lemmas (lengths): no program, no memory. -/
import Derived.Test.YtiejmnnnjmmifaaC0
import Derived.Test.YtiejmnnnjmmifaaC8
import Derived.Test.YtiejmnnnjmmifaaBwithin
import Derived.Test.YtiejmnnnjmmifaaBasc
import Derived.Test.YtiejmnnnjmmifaaBsortspec
import Derived.Test.YtiejmnnnjmmifaaBisort
import Derived.Test.YtiejmnnnjmmifaaBissg
import Derived.Test.YtiejmnnnjmmifaaBshell
import Derived.Test.YtiejmnnnjmmifaaBdot
import Derived.Test.YtiejmnnnjmmifaaBfactor
import Derived.Test.YtiejmnnnjmmifaaBpigeon
import Derived.Test.YtiejmnnnjmmifaaBfacboth
import Derived.Test.YtiejmnnnjmmifaaBhasnum
import Derived.Test.YtiejmnnnjmmifaaBbase
namespace Go.Proofs.Ytiejmnnnjmmifaa.Pure
open Go.RowKit Go.Proofs.Ytiejmnnnjmmifaa.C Go.Proofs.YtiejmnnnjmmifaaW.PrintWords Go.Proofs.YtiejmnnnjmmifaaW.PrintLast Go.Proofs.YtiejmnnnjmmifaaW.PrintMore
set_option linter.unusedVariables false
set_option linter.unusedSimpArgs false
/-! lengths: LengthsOf of both sides -/
theorem sum_take (l : List Int) (i : Nat) (hi : i < l.length) : (l.take (i + 1)).sum = (l.take i).sum + l[i] := by
  rw [List.take_succ_eq_append_getElem hi, List.sum_append, List.sum_cons, List.sum_nil, Int.add_zero]
theorem sum_bound (l : List Int) (h : ∀ x ∈ l, 0 ≤ x ∧ x ≤ 1000000) (i : Nat) : 0 ≤ (l.take i).sum ∧ (l.take i).sum ≤ (i : Int) * 1000000 := by
  induction i with
  | zero => simp
  | succ i ih =>
    by_cases hi : i < l.length
    · have := h l[i] (List.getElem_mem hi)
      rw [sum_take l i hi]
      omega
    · rw [List.take_of_length_le (by omega)] at ih ⊢
      omega
theorem spec_sum_l0 (l : List Int) (hl : l.length ≤ 1048576) (h : ∀ x ∈ l, 0 ≤ x ∧ x ≤ 1000000) : ∀ d i, i + d = l.length → Ev (fun k => spec_l12Sum.l0 k l (l.take i).sum (i : Int)) l.sum := by
  intro d
  induction d with
  | zero =>
    intro i hi
    rw [List.take_of_length_le (by omega)]
    refine Ev.one (fun k => by rw [spec_l12Sum.l0]) ?_
    exact Ev.neg (by omega) (Ev.now _)
  | succ d ih =>
    intro i hi
    have ih := ih (i + 1) (by omega)
    have hil : i < l.length := by omega
    have hb := sum_bound l h i
    have hx := h l[i] (List.getElem_mem hil)
    rw [sum_take l i hil] at ih
    refine Ev.one (fun k => by rw [spec_l12Sum.l0]) ?_
    rw [rd_at l i hil, w64_succ i (by omega), w64_of (by omega) (by omega)]
    exact Ev.pos (by omega) (Ev.pos (by omega) ih)
theorem spec_sum_ev (l : List Int) (hl : l.length ≤ 1048576) (h : ∀ x ∈ l, 0 ≤ x ∧ x ≤ 1000000) : Ev (fun k => spec_l12Sum.f k l) l.sum := spec_sum_l0 l hl h l.length 0 (by omega)
theorem impl_total_l0 (l : List Int) (hl : l.length ≤ 1048576) (h : ∀ x ∈ l, 0 ≤ x ∧ x ≤ 1000000) : ∀ d i, i + d = l.length → Ev (fun k => impl_total.l0 k (l.take i).sum l (l.length : Int) (i : Int)) l.sum := by
  intro d
  induction d with
  | zero =>
    intro i hi
    rw [List.take_of_length_le (by omega)]
    refine Ev.one (fun k => by rw [impl_total.l0]) ?_
    exact Ev.neg (by omega) (Ev.now _)
  | succ d ih =>
    intro i hi
    have ih := ih (i + 1) (by omega)
    have hil : i < l.length := by omega
    have hb := sum_bound l h i
    have hx := h l[i] (List.getElem_mem hil)
    rw [sum_take l i hil] at ih
    refine Ev.one (fun k => by rw [impl_total.l0]) ?_
    rw [rd_at l i hil, w64_succ i (by omega), w64_of (by omega) (by omega)]
    exact Ev.pos (by omega) (Ev.pos (by omega) (Ev.pos (by omega) ih))
theorem impl_total_ev (l : List Int) (hl : l.length ≤ 1048576) (h : ∀ x ∈ l, 0 ≤ x ∧ x ≤ 1000000) : Ev (fun k => impl_total.f k l) l.sum := impl_total_l0 l hl h l.length 0 (by omega)
theorem sum_dot : ∀ (l g : List Int), l.length = g.length → (∀ x ∈ l, 0 ≤ x) → (∀ x ∈ g, 1 ≤ x ∧ x ≤ 60) → 0 ≤ l.sum ∧ l.sum ≤ dot l g ∧ dot l g ≤ 60 * l.sum
  | [], g, _, _, _ => by rw [dot_nil]; simp
  | x :: l, [], h, _, _ => by simp at h
  | x :: l, y :: g, h, hl, hg => by
    have h1 := sum_dot l g (by simpa using h) (fun z hz => hl z (List.mem_cons_of_mem _ hz)) (fun z hz => hg z (List.mem_cons_of_mem _ hz))
    have hx := hl x (List.mem_cons_self ..)
    have hy := hg y (List.mem_cons_self ..)
    have h2 : x * 1 ≤ x * y := Int.mul_le_mul_of_nonneg_left hy.1 hx
    have h3 : x * y ≤ x * 60 := Int.mul_le_mul_of_nonneg_left hy.2 hx
    rw [dot_cons, List.sum_cons]
    omega
theorem elem_sum : ∀ (l : List Int), (∀ x ∈ l, 0 ≤ x) → ∀ x ∈ l, x ≤ l.sum
  | [], _, x, hx => by cases hx
  | y :: l, h, x, hx => by
    have hy := h y (List.mem_cons_self ..)
    have h0 : ∀ l : List Int, (∀ x ∈ l, 0 ≤ x) → 0 ≤ l.sum := fun l h => by
      induction l with
      | nil => simp
      | cons z l ih =>
        rw [List.sum_cons]
        have := h z (List.mem_cons_self ..)
        have := ih (fun w hw => h w (List.mem_cons_of_mem _ hw))
        omega
    have h1 := h0 l (fun z hz => h z (List.mem_cons_of_mem _ hz))
    rw [List.sum_cons]
    rcases List.mem_cons.1 hx with rfl | hx
    · omega
    · have := elem_sum l (fun z hz => h z (List.mem_cons_of_mem _ hz)) x hx
      omega
/-- What is known of the factorizations. -/
theorem facS_rows (b : Bool) (g : List Int) (hS : b = true → SG g) (n : Int) : (facS b g n).length ≤ 100000000000 ∧ ∀ l ∈ facS b g n, l.length ≤ 12 ∧ (∀ x ∈ l, 0 ≤ x ∧ x ≤ 1000000) ∧ 0 ≤ l.sum ∧ l.sum ≤ 100 ∧ (n ≠ 0 → 1 ≤ l.sum) := by
  unfold facS
  by_cases h : b = true ∧ (0 ≤ n ∧ n ≤ 100)
  · rw [if_pos h]
    have hS := hS h.1
    obtain ⟨m, rfl⟩ : ∃ m : Nat, n = (m : Int) := ⟨n.toNat, by omega⟩
    refine ⟨facL_room g hS g (fun _ h => h) (Nat.le_refl _) m (by omega), fun l hl => ?_⟩
    have h1 := (facL_mem g m l (fun x hx => (hS.rng x hx).1)).1 hl
    have h2 := sum_dot l g h1.1 h1.2.1 hS.rng
    rw [h1.2.2] at h2
    exact ⟨by have := hS.len2; omega, fun x hx => ⟨h1.2.1 x hx, by have := elem_sum l h1.2.1 x hx; omega⟩, h2.1, by omega, fun _ => by omega⟩
  · rw [if_neg h]
    exact ⟨by simp, fun l hl => by cases hl⟩
theorem asc_len (l : List Int) (h : asc l) (a b : Int) (hl : ∀ x ∈ l, a ≤ x ∧ x ≤ b) (hab : a ≤ b + 1) : (l.length : Int) ≤ b - a + 1 := by
  have key : ∀ i (hi : i < l.length), a + (i : Int) ≤ l[i] := by
    intro i
    induction i with
    | zero => intro hi; have := hl _ (List.getElem_mem hi); omega
    | succ i ih =>
      intro hi
      have h1 := ih (by omega)
      have h2 := List.pairwise_iff_getElem.1 h i (i + 1) (by omega) hi (by omega)
      omega
  by_cases h0 : l.length = 0
  · omega
  · have h1 := key (l.length - 1) (by omega)
    have h2 := hl _ (List.getElem_mem (show l.length - 1 < l.length by omega))
    omega
theorem spec_len_l0 (all : List (List Int)) (hN : all.length ≤ 100000000000) (hr : ∀ l ∈ all, l.length ≤ 12 ∧ ∀ x ∈ l, 0 ≤ x ∧ x ≤ 1000000) : ∀ d i, i + d = all.length → ∀ out : List Int, out.length ≤ i →
    (∀ y, y ∈ out ↔ y ∈ (all.take i).map List.sum) → ∃ r, (asc r ∧ ∀ y, y ∈ r ↔ y ∈ all.map List.sum) ∧ Ev (fun k => spec_LengthsOf.l0 k out all (i : Int)) r := by
  intro d
  induction d with
  | zero =>
    intro i hi out ho hm
    rw [List.take_of_length_le (by omega)] at hm
    obtain ⟨r, r1, r2⟩ := spec_SortList_big out (by omega)
    refine ⟨r, ⟨r1.1, fun y => (r1.2.1 y).trans (hm y)⟩, Ev.one (fun k => by rw [spec_LengthsOf.l0]) ?_⟩
    exact Ev.neg (by omega) (Ev.bnd r2 (Ev.now _))
  | succ d ih =>
    intro i hi out ho hm
    have hil : i < all.length := by omega
    have hl := hr all[i] (List.getElem_mem hil)
    have htk : (all.take (i + 1)).map List.sum = (all.take i).map List.sum ++ [all[i].sum] := by rw [List.take_succ_eq_append_getElem hil, List.map_append]; rfl
    obtain ⟨b, b1, b2⟩ := spec_HasNumber_ev out all[i].sum (by omega)
    cases b with
    | true =>
      obtain ⟨r, r1, r2⟩ := ih (i + 1) (by omega) out (by omega) (fun y => by
        rw [htk, List.mem_append, List.mem_singleton, hm]
        exact ⟨.inl, fun h => h.elim id (fun h => h ▸ (hm _).1 (b1.1 rfl))⟩)
      refine ⟨r, r1, Ev.one (fun k => by rw [spec_LengthsOf.l0]) ?_⟩
      rw [rd_L2_at all i hil, w64_succ i (by omega)]
      exact Ev.pos (by omega) (Ev.pos (by omega) (Ev.bnd (spec_sum_ev all[i] (by omega) hl.2) (Ev.bnd b2 (Ev.pos rfl r2))))
    | false =>
      obtain ⟨r, r1, r2⟩ := ih (i + 1) (by omega) (out ++ [all[i].sum]) (by rw [List.length_append, List.length_singleton]; omega) (fun y => by
        rw [htk, List.mem_append, List.mem_append, List.mem_singleton, hm])
      refine ⟨r, r1, Ev.one (fun k => by rw [spec_LengthsOf.l0]) ?_⟩
      rw [rd_L2_at all i hil, w64_succ i (by omega)]
      exact Ev.pos (by omega) (Ev.pos (by omega) (Ev.bnd (spec_sum_ev all[i] (by omega) hl.2) (Ev.bnd b2 (Ev.neg (by decide) (Ev.pos (by omega) r2)))))
theorem impl_len_l0 (all : List (List Int)) (hN : all.length ≤ 100000000000) (hr : ∀ l ∈ all, l.length ≤ 12 ∧ ∀ x ∈ l, 0 ≤ x ∧ x ≤ 1000000) : ∃ r, (asc r ∧ ∀ y, y ∈ r ↔ y ∈ all.map List.sum) ∧
    ∀ d i, i + d = all.length → Ev (fun k => impl_LengthsOf.l0 k ((all.take i).map List.sum) all (all.length : Int) (i : Int)) r := by
  obtain ⟨r, r1, r2⟩ := impl_SortList_ev (all.map List.sum) (by rw [List.length_map]; omega)
  refine ⟨r, ⟨r1.1, r1.2.1⟩, ?_⟩
  intro d
  induction d with
  | zero =>
    intro i hi
    rw [List.take_of_length_le (by omega)]
    refine Ev.one (fun k => by rw [impl_LengthsOf.l0]) ?_
    exact Ev.neg (by omega) (Ev.bnd r2 (Ev.now _))
  | succ d ih =>
    intro i hi
    have hil : i < all.length := by omega
    have hl := hr all[i] (List.getElem_mem hil)
    have htk : (all.take (i + 1)).map List.sum = (all.take i).map List.sum ++ [all[i].sum] := by rw [List.take_succ_eq_append_getElem hil, List.map_append]; rfl
    have ih := ih (i + 1) (by omega)
    rw [htk] at ih
    refine Ev.one (fun k => by rw [impl_LengthsOf.l0]) ?_
    rw [rd_L2_at all i hil, w64_succ i (by omega)]
    exact Ev.pos (by omega) (Ev.pos (by omega) (Ev.pos (by omega) (Ev.bnd (impl_total_ev all[i] (by omega) hl.2) (Ev.pos (by rw [List.length_map, List.length_take]; omega) ih))))
theorem lengths_both (g : List Int) (hlen : g.length ≤ 1048576) (n : Int) : ∃ r, (asc r ∧ (∀ y ∈ r, 0 ≤ y ∧ y ≤ 100 ∧ (n ≠ 0 → 1 ≤ y)) ∧ r.length ≤ 101) ∧ Ev (fun k => spec_LengthsOf.f k g n) r ∧ Ev (fun k => impl_LengthsOf.f k g n) r := by
  obtain ⟨b, b1, b2, b3⟩ := fac_both g hlen n
  obtain ⟨c, c1, _, c3⟩ := sg_both g hlen
  obtain rfl := bool_same b1 c1
  have hf := facS_rows b g b1.1 n
  have hr : ∀ l ∈ facS b g n, l.length ≤ 12 ∧ ∀ x ∈ l, 0 ≤ x ∧ x ≤ 1000000 := fun l hl => ⟨(hf.2 l hl).1, (hf.2 l hl).2.1⟩
  obtain ⟨r, r1, r2⟩ := spec_len_l0 (facS b g n) hf.1 hr (facS b g n).length 0 (by omega) [] (by simp) (by simp)
  obtain ⟨s, s1, s2⟩ := impl_len_l0 (facS b g n) hf.1 hr
  obtain rfl := asc_uniq r s r1.1 s1.1 (fun x => (r1.2 x).trans (s1.2 x).symm)
  have hy : ∀ y ∈ r, 0 ≤ y ∧ y ≤ 100 ∧ (n ≠ 0 → 1 ≤ y) := fun y hy => by
    obtain ⟨l, hl, rfl⟩ := List.mem_map.1 ((r1.2 y).1 hy)
    exact (hf.2 l hl).2.2
  refine ⟨r, ⟨r1.1, hy, by have := asc_len r r1.1 0 100 (fun x hx => ⟨(hy x hx).1, (hy x hx).2.1⟩) (by omega); omega⟩, ?_, ?_⟩
  · unfold spec_LengthsOf.f
    exact Ev.bnd b2 r2
  · unfold impl_LengthsOf.f
    have hw := impl_within_ev n 0 100
    cases b with
    | false =>
      refine Ev.bnd c3 (Ev.neg (by decide) ?_)
      refine Ev.one (fun k => by rw [impl_LengthsOf.j0]) ?_
      have e : facS false g n = [] := if_neg (by simp)
      have e2 : r = [] := by
        cases r with
        | nil => rfl
        | cons y r => have := (r1.2 y).1 (List.mem_cons_self ..); rw [e] at this; cases this
      rw [e2]
      exact Ev.pos rfl (Ev.now _)
    | true =>
      refine Ev.bnd c3 (Ev.pos rfl (Ev.bnd hw ?_))
      refine Ev.one (fun k => by rw [impl_LengthsOf.j0]) ?_
      by_cases hn : 0 ≤ n ∧ n ≤ 100
      · rw [decide_eq_true hn]
        exact Ev.neg (by decide) (Ev.bnd b3 (s2 (facS true g n).length 0 (by omega)))
      · rw [decide_eq_false hn]
        have e : facS true g n = [] := if_neg (fun h => hn h.2)
        have e2 : r = [] := by
          cases r with
          | nil => rfl
          | cons y r => have := (r1.2 y).1 (List.mem_cons_self ..); rw [e] at this; cases this
        rw [e2]
        exact Ev.pos rfl (Ev.now _)
end Go.Proofs.Ytiejmnnnjmmifaa.Pure
