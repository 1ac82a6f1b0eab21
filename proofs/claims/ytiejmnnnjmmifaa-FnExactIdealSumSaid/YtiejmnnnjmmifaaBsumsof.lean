/- Plain lemmas (sumsof): no program, no memory. -/
import Derived.Test.YtiejmnnnjmmifaaC0
import Derived.Test.YtiejmnnnjmmifaaC13
import Derived.Test.YtiejmnnnjmmifaaBallwithin
import Derived.Test.YtiejmnnnjmmifaaBgcd
import Derived.Test.YtiejmnnnjmmifaaBisort
import Derived.Test.YtiejmnnnjmmifaaBbase
namespace Go.Proofs.Ytiejmnnnjmmifaa.Pure
open Go.RowKit Go.Proofs.Ytiejmnnnjmmifaa.C Go.Proofs.YtiejmnnnjmmifaaW.PrintWords Go.Proofs.YtiejmnnnjmmifaaW.PrintLast Go.Proofs.YtiejmnnnjmmifaaW.PrintMore
set_option linter.unusedVariables false
set_option linter.unusedSimpArgs false
/-! sumsof: SumsOf of both sides, for lists that are small -/
def sumsP (a b : List Int) (i : Nat) : List Int := (a.take i).flatMap fun x => b.map fun y => x + y
theorem sumsP_succ (a b : List Int) (i : Nat) (hi : i < a.length) : sumsP a b (i + 1) = sumsP a b i ++ b.map fun y => a[i] + y := by
  unfold sumsP
  rw [List.take_succ_eq_append_getElem hi, List.flatMap_append]
  simp
theorem sumsP_len (a b : List Int) (i : Nat) : (sumsP a b i).length ≤ i * b.length := by
  induction i with
  | zero => simp [sumsP]
  | succ i ih =>
    by_cases hi : i < a.length
    · rw [sumsP_succ a b i hi, List.length_append, List.length_map, Nat.succ_mul]
      omega
    · have e : sumsP a b (i + 1) = sumsP a b i := by unfold sumsP; rw [List.take_of_length_le (by omega), List.take_of_length_le (by omega)]
      rw [e, Nat.succ_mul]
      omega
theorem spec_sums_l1 (a b : List Int) (ha : ∀ x ∈ a, -200 ≤ x ∧ x ≤ 200) (hb : ∀ x ∈ b, -200 ≤ x ∧ x ≤ 200) (hal : a.length ≤ 20) (hbl : b.length ≤ 20) (i : Nat) (hi : i < a.length) {r : List Int}
    (hn : Ev (fun k => spec_SumsOf.l0 k a b (sumsP a b (i + 1)) ((i + 1 : Nat) : Int)) r) :
    ∀ d j, j + d = b.length → Ev (fun k => spec_SumsOf.l1 k a b (sumsP a b i ++ (b.take j).map fun y => a[i] + y) (i : Int) (j : Int)) r := by
  have hx := ha _ (List.getElem_mem hi)
  have hsl := sumsP_len a b i
  have hm : i * b.length ≤ 20 * 20 := Nat.mul_le_mul (by omega) hbl
  intro d
  induction d with
  | zero =>
    intro j hj
    rw [List.take_of_length_le (by omega), ← sumsP_succ a b i hi]
    refine Ev.one (fun k => by rw [spec_SumsOf.l1]) ?_
    rw [w64_succ i (by omega)]
    exact Ev.neg (by omega) hn
  | succ d ih =>
    intro j hj
    have hjl : j < b.length := by omega
    have hy := hb _ (List.getElem_mem hjl)
    have ih := ih (j + 1) (by omega)
    rw [List.take_succ_eq_append_getElem hjl, List.map_append, ← List.append_assoc, List.map_cons, List.map_nil] at ih
    refine Ev.one (fun k => by rw [spec_SumsOf.l1]) ?_
    rw [rd_at a i hi, rd_at b j hjl, w64_succ j (by omega), w64_of (x := a[i] + b[j]) (by omega) (by omega)]
    exact Ev.pos (by omega) (Ev.pos (by omega) (Ev.pos (by omega) (Ev.pos (by omega) (Ev.pos (by rw [List.length_append, List.length_map, List.length_take]; omega) ih))))
theorem impl_sums_l1 (a b : List Int) (ha : ∀ x ∈ a, -200 ≤ x ∧ x ≤ 200) (hb : ∀ x ∈ b, -200 ≤ x ∧ x ≤ 200) (hal : a.length ≤ 20) (hbl : b.length ≤ 20) (i : Nat) (hi : i < a.length) {r : List Int}
    (hn : Ev (fun k => impl_SumsOf.l0 k b (sumsP a b (i + 1)) a (a.length : Int) ((i + 1 : Nat) : Int)) r) :
    ∀ d j, j + d = b.length → Ev (fun k => impl_SumsOf.l1 k b (sumsP a b i ++ (b.take j).map fun y => a[i] + y) a[i] a (a.length : Int) (i : Int) b (b.length : Int) (j : Int)) r := by
  have hx := ha _ (List.getElem_mem hi)
  have hsl := sumsP_len a b i
  have hm : i * b.length ≤ 20 * 20 := Nat.mul_le_mul (by omega) hbl
  intro d
  induction d with
  | zero =>
    intro j hj
    rw [List.take_of_length_le (by omega), ← sumsP_succ a b i hi]
    refine Ev.one (fun k => by rw [impl_SumsOf.l1]) ?_
    rw [w64_succ i (by omega)]
    exact Ev.neg (by omega) hn
  | succ d ih =>
    intro j hj
    have hjl : j < b.length := by omega
    have hy := hb _ (List.getElem_mem hjl)
    have ih := ih (j + 1) (by omega)
    rw [List.take_succ_eq_append_getElem hjl, List.map_append, ← List.append_assoc, List.map_cons, List.map_nil] at ih
    refine Ev.one (fun k => by rw [impl_SumsOf.l1]) ?_
    rw [rd_at b j hjl, w64_succ j (by omega), w64_of (x := a[i] + b[j]) (by omega) (by omega)]
    exact Ev.pos (by omega) (Ev.pos (by omega) (Ev.pos (by omega) (Ev.pos (by rw [List.length_append, List.length_map, List.length_take]; omega) ih)))
theorem spec_l2All_l0 (l : List Int) (hl : l.length ≤ 300) (hr : ∀ x ∈ l, -200 ≤ x ∧ x ≤ 200) : ∀ d i, i + d = l.length → Ev (fun k => spec_l2All.l0 k l (i : Int)) true := by
  intro d
  induction d with
  | zero =>
    intro i hi
    refine Ev.one (fun k => by rw [spec_l2All.l0]) ?_
    rw [decide_eq_true (show (l.length : Int) ≤ 300 by omega)]
    exact Ev.neg (by omega) (Ev.now _)
  | succ d ih =>
    intro i hi
    have hil : i < l.length := by omega
    have hx := hr _ (List.getElem_mem hil)
    have ih := ih (i + 1) (by omega)
    refine Ev.one (fun k => by rw [spec_l2All.l0]) ?_
    rw [rd_at l i hil, w64_succ i (by omega)]
    exact Ev.pos (by omega) (Ev.pos (by omega) (Ev.bnd (spec_l2Small_ev _) (Ev.pos (decide_eq_true (by omega)) ih)))
theorem sumsof_both (a b : List Int) (ha : ∀ x ∈ a, -200 ≤ x ∧ x ≤ 200) (hb : ∀ x ∈ b, -200 ≤ x ∧ x ≤ 200) (hal : a.length ≤ 20) (hbl : b.length ≤ 20) : ∃ r, r.length ≤ 400 ∧ Ev (fun k => spec_SumsOf.f k a b) r ∧ Ev (fun k => impl_SumsOf.f k a b) r := by
  have hsl := sumsP_len a b a.length
  have hm : a.length * b.length ≤ 20 * 20 := Nat.mul_le_mul hal hbl
  obtain ⟨r, r1, r2, r3⟩ := sort_both (sumsP a b a.length) (by omega)
  refine ⟨r, by omega, ?_, ?_⟩
  · unfold spec_SumsOf.f spec_l2All.f
    refine Ev.some (Ev.bnd (spec_l2All_l0 a (by omega) ha a.length 0 (by omega)) (Ev.pos rfl (Ev.bnd (spec_l2All_l0 b (by omega) hb b.length 0 (by omega)) (Ev.one (fun k => by rw [spec_SumsOf.j0]) ?_))))
    refine Ev.neg (by decide) ?_
    have key : ∀ d i, i + d = a.length → Ev (fun k => spec_SumsOf.l0 k a b (sumsP a b i) (i : Int)) r := by
      intro d
      induction d with
      | zero =>
        intro i hi
        obtain rfl : i = a.length := by omega
        refine Ev.one (fun k => by rw [spec_SumsOf.l0]) ?_
        exact Ev.neg (by omega) (Ev.bnd r2 (Ev.now _))
      | succ d ih =>
        intro i hi
        refine Ev.one (fun k => by rw [spec_SumsOf.l0]) ?_
        refine Ev.pos (by omega) ?_
        have := spec_sums_l1 a b ha hb hal hbl i (by omega) (ih (i + 1) (by omega)) b.length 0 (by omega)
        rw [List.take_zero, List.map_nil, List.append_nil] at this
        exact this
    exact key a.length 0 (by omega)
  · unfold impl_SumsOf.f
    have h1 := impl_allWithin_ev a (-1000000) 1000000 (by omega)
    have h2 := impl_allWithin_ev b (-1000000) 1000000 (by omega)
    rw [(allIn_iff a _ _).2 (fun x hx => by have := ha x hx; omega)] at h1
    rw [(allIn_iff b _ _).2 (fun x hx => by have := hb x hx; omega)] at h2
    refine Ev.bnd h1 (Ev.pos rfl (Ev.bnd h2 (Ev.pos rfl (Ev.neg (by omega) ?_))))
    rw [decide_eq_false (show ¬ (b.length : Int) > 300 by omega)]
    refine Ev.one (fun k => by rw [impl_SumsOf.j0]) ?_
    refine Ev.neg (by decide) ?_
    have key : ∀ d i, i + d = a.length → Ev (fun k => impl_SumsOf.l0 k b (sumsP a b i) a (a.length : Int) (i : Int)) r := by
      intro d
      induction d with
      | zero =>
        intro i hi
        obtain rfl : i = a.length := by omega
        refine Ev.one (fun k => by rw [impl_SumsOf.l0]) ?_
        exact Ev.neg (by omega) (Ev.bnd r3 (Ev.now _))
      | succ d ih =>
        intro i hi
        refine Ev.one (fun k => by rw [impl_SumsOf.l0]) ?_
        rw [rd_at a i (by omega)]
        refine Ev.pos (by omega) (Ev.pos (by omega) (Ev.pos (by omega) ?_))
        have := impl_sums_l1 a b ha hb hal hbl i (by omega) (ih (i + 1) (by omega)) b.length 0 (by omega)
        rw [List.take_zero, List.map_nil, List.append_nil] at this
        exact this
    exact key a.length 0 (by omega)
end Go.Proofs.Ytiejmnnnjmmifaa.Pure
