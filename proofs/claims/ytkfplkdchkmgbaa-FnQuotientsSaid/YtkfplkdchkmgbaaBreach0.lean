/- Plain lemmas (reach0, reach, small, mScaledElements, mQuotientOf, quot2): no program, no memory. -/
import Derived.Test.YtkfplkdchkmgbaaC0
import Derived.Test.YtkfplkdchkmgbaaC11
import Derived.Test.YtkfplkdchkmgbaaC17
import Derived.Test.YtkfplkdchkmgbaaC18
import Derived.Test.YtkfplkdchkmgbaaC19
import Derived.Test.YtkfplkdchkmgbaaC20
import Derived.Test.YtkfplkdchkmgbaaC24
import Derived.Test.YtkfplkdchkmgbaaC25
import Derived.Test.YtkfplkdchkmgbaaBbase
import Derived.Test.YtkfplkdchkmgbaaBhasnum
namespace Go.Proofs.Ytkfplkdchkmgbaa.Pure
open Go.RowKit Go.Proofs.Ytkfplkdchkmgbaa.C Go.Proofs.YtkfplkdchkmgbaaW.PrintWords Go.Proofs.YtkfplkdchkmgbaaW.PrintLast Go.Proofs.YtkfplkdchkmgbaaW.PrintMore
set_option linter.unusedVariables false
set_option linter.unusedSimpArgs false
/-! reach0: impl.reach -/
theorem reach_at (g : List Int) (hS : SG g) (d : Int) : impl_reach.p (tblL g 201) d = some (elB g d) := by
  unfold impl_reach.p
  have ht := tblL_length g 201
  by_cases h1 : d ≥ 200
  · rw [if_pos h1]
    exact congrArg some ((elB_iff g d).2 (hS.ends d h1)).symm
  · rw [if_neg h1]
    by_cases h2 : d ≥ 0
    · obtain ⟨m, rfl⟩ : ∃ m : Nat, d = (m : Int) := ⟨d.toNat, by omega⟩
      rw [if_pos h2, if_pos (by omega), rdOf_tblL g 201 m (by omega)]
    · rw [if_neg h2]
      refine congrArg some (elB_of ⟨(fun e => by cases e), fun e => ?_⟩)
      have := e.nonneg (fun x hx => (hS.rng x hx).1)
      omega
theorem reach_ev (g : List Int) (hlen : g.length ≤ 1048576) (hS : SG g) : Ev (fun k => impl_reach.f k g) (impl_reach.p (tblL g 201)) := by
  obtain ⟨b, b1, b2⟩ := impl_IsSemigroup_ev g hlen
  obtain rfl := b1.2 hS
  unfold impl_reach.f
  exact Ev.bnd b2 (Ev.pos rfl (Ev.bnd (impl_table_ev g hS 200 (by omega)) (Ev.now _)))
theorem reach_ap (g : List Int) (hS : SG g) (d : Int) : Ev (fun _ => apF1.f (impl_reach.p (tblL g 201)) d) (elB g d) := Ev.const (reach_at g hS d)
/-! reach: spec.l3Has as a test -/
theorem spec_l3Has_el (g : List Int) (hS : SG g) (n : Int) : Ev (fun k => spec_l3Has.f k g n) (elB g n) := by
  obtain ⟨b, b1, b2⟩ := spec_l3Has_ev g hS n
  rw [show b = elB g n from elB_of (b1.trans ⟨fun h => h.1, fun h => ⟨h, by omega⟩⟩)] at b2
  exact b2
/-! small: spec.l4Small -/
theorem spec_l4Small_l0 (g : List Int) (m : Nat) (hm : m ≤ 1000000) : ∀ (d i : Nat), i + d = m →
    Ev (fun k => spec_l4Small.l0 k (m : Int) (pick (fun n => elB g (n : Int)) (fun n => (n : Int)) i) (tblL g (m + 1)) (i : Int)) (pick (fun n => elB g (n : Int)) (fun n => (n : Int)) m) := by
  intro d
  induction d with
  | zero =>
    intro i hi
    obtain rfl : i = m := by omega
    refine Ev.one (fun k => by rw [spec_l4Small.l0]) ?_
    exact Ev.neg (by omega) (Ev.now _)
  | succ d ih =>
    intro i hi
    have ih := ih (i + 1) (by omega)
    have hl := pick_len (fun n => elB g (n : Int)) (fun n => (n : Int)) i
    have ht := tblL_length g (m + 1)
    refine Ev.one (fun k => by rw [spec_l4Small.l0]) ?_
    rw [rdOf_tblL g (m + 1) i (by omega), w64_succ i (by omega)]
    cases hb : elB g (i : Int) with
    | true =>
      rw [pick_pos _ _ i hb] at ih
      exact Ev.pos (by omega) (Ev.pos (by omega) (Ev.pos (by omega) (Ev.pos rfl (Ev.pos (by omega) ih))))
    | false =>
      rw [pick_neg _ _ i hb] at ih
      exact Ev.pos (by omega) (Ev.pos (by omega) (Ev.pos (by omega) (Ev.neg (by decide) ih)))
theorem spec_l4Small_ev (g : List Int) (m : Nat) (h1 : 1 ≤ m) (hm : m ≤ 1000000) (hg : ∀ x ∈ g, 1 ≤ x) (hlen : g.length ≤ 1048576) : Ev (fun k => spec_l4Small.f k g (m : Int)) (pick (fun n => elB g (n : Int)) (fun n => (n : Int)) m) := by
  unfold spec_l4Small.f
  exact Ev.some (Ev.neg (by omega) (Ev.bnd (spec_tbl_ev g m hg hlen (by omega)) (spec_l4Small_l0 g m hm m 0 (by omega))))
theorem scaled_spec_l0 (l : List Int) (d : Int) (hl : l.length ≤ 1000) : ∀ (e i : Nat), i + e = l.length → Ev (fun k => spec_ScaledElements.l0 k d ((l.take i).map fun x => wrap64 (x * d)) l (i : Int)) (l.map fun x => wrap64 (x * d)) := by
  intro e
  induction e with
  | zero =>
    intro i hi
    rw [List.take_of_length_le (by omega)]
    refine Ev.one (fun k => by rw [spec_ScaledElements.l0]) ?_
    exact Ev.neg (by omega) (Ev.now _)
  | succ e ih =>
    intro i hi
    have hil : i < l.length := by omega
    have ih := ih (i + 1) (by omega)
    rw [List.take_succ_eq_append_getElem hil, List.map_append, List.map_cons, List.map_nil] at ih
    refine Ev.one (fun k => by rw [spec_ScaledElements.l0]) ?_
    rw [rd_at l i hil, w64_succ i (by omega)]
    exact Ev.pos (by omega) (Ev.pos (by omega) (Ev.pos (by rw [List.length_map, List.length_take]; omega) ih))
theorem scaled_impl_l0 (g : List Int) (d : Int) (m : Nat) (hm : m ≤ 1000) : ∀ (e i : Nat), i + e = m →
    Ev (fun k => impl_ScaledElements.l0 k d (pick (fun n => elB g (n : Int)) (fun n => wrap64 ((n : Int) * d)) i) (tblL g m) (m : Int) (i : Int)) (pick (fun n => elB g (n : Int)) (fun n => wrap64 ((n : Int) * d)) m) := by
  intro e
  induction e with
  | zero =>
    intro i hi
    obtain rfl : i = m := by omega
    refine Ev.one (fun k => by rw [impl_ScaledElements.l0]) ?_
    exact Ev.neg (by omega) (Ev.now _)
  | succ e ih =>
    intro i hi
    have ih := ih (i + 1) (by omega)
    have hl := pick_len (fun n => elB g (n : Int)) (fun n => wrap64 ((n : Int) * d)) i
    have ht := tblL_length g m
    refine Ev.one (fun k => by rw [impl_ScaledElements.l0]) ?_
    rw [rdOf_tblL g m i (by omega), w64_succ i (by omega)]
    cases hb : elB g (i : Int) with
    | true =>
      rw [pick_pos _ _ i hb] at ih
      exact Ev.pos (by omega) (Ev.pos (by omega) (Ev.pos (by omega) (Ev.pos rfl (Ev.pos (by omega) ih))))
    | false =>
      rw [pick_neg _ _ i hb] at ih
      exact Ev.pos (by omega) (Ev.pos (by omega) (Ev.pos (by omega) (Ev.neg (by decide) ih)))
theorem scaled_both (g : List Int) (hlen : g.length ≤ 1048576) (d n : Int) : ∃ r : List Int, r.length ≤ 1000 ∧ Ev (fun k => spec_ScaledElements.f k g d n) r ∧ Ev (fun k => impl_ScaledElements.f k g d n) r := by
  obtain ⟨b, b1, b2, b3⟩ := sg_both g hlen
  have stopS : Ev (fun k => spec_ScaledElements.j0 k d n [] true g) [] := by
    refine Ev.one (fun k => by rw [spec_ScaledElements.j0]) ?_
    exact Ev.pos rfl (Ev.now _)
  have stopI : Ev (fun k => impl_ScaledElements.j0 k d n true g) [] := by
    refine Ev.one (fun k => by rw [impl_ScaledElements.j0]) ?_
    exact Ev.pos rfl (Ev.now _)
  unfold spec_ScaledElements.f impl_ScaledElements.f
  cases b with
  | false => exact ⟨[], by simp, Ev.some (Ev.bnd b2 (Ev.neg (by decide) stopS)), Ev.bnd b3 (Ev.neg (by decide) stopI)⟩
  | true =>
    have hS := b1.1 rfl
    by_cases h1 : 1 ≤ d ∧ d ≤ 20
    · by_cases h2 : 0 ≤ n ∧ n ≤ 200
      · obtain ⟨m, rfl⟩ : ∃ m : Nat, n = (m : Int) := ⟨n.toNat, by omega⟩
        have hl := pick_len (fun n => elB g (n : Int)) (fun n => (n : Int)) (m + 1)
        have e : (pick (fun n => elB g (n : Int)) (fun n => (n : Int)) (m + 1)).map (fun x => wrap64 (x * d)) = pick (fun n => elB g (n : Int)) (fun n => wrap64 ((n : Int) * d)) (m + 1) := by
          unfold pick
          rw [List.map_map]
          rfl
        refine ⟨pick (fun n => elB g (n : Int)) (fun n => wrap64 ((n : Int) * d)) (m + 1), by have := pick_len (fun n => elB g (n : Int)) (fun n => wrap64 ((n : Int) * d)) (m + 1); omega, ?_, ?_⟩
        · refine Ev.some (Ev.bnd b2 (Ev.pos rfl (Ev.bnd (spec_l1In_ev _ _ _) (Ev.pos (decide_eq_true h1) (Ev.bnd (spec_l1In_ev _ _ _) (Ev.one (fun k => by rw [spec_ScaledElements.j0]) ?_))))))
          rw [w64_succ m (by omega)]
          refine Ev.neg (by rw [decide_eq_true h2]; decide) (Ev.bnd (spec_l4Small_ev g (m + 1) (by omega) (by omega) (fun x hx => (hS.rng x hx).1) hlen) ?_)
          have h := scaled_spec_l0 (pick (fun n => elB g (n : Int)) (fun n => (n : Int)) (m + 1)) d (by omega) _ 0 (Nat.zero_add _)
          rw [e] at h
          exact h
        · refine Ev.bnd b3 (Ev.pos rfl (Ev.bnd (impl_within_ev _ _ _) (Ev.pos (decide_eq_true h1) (Ev.bnd (impl_within_ev _ _ _) (Ev.one (fun k => by rw [impl_ScaledElements.j0]) ?_)))))
          refine Ev.neg (by rw [decide_eq_true h2]; decide) (Ev.bnd (impl_table_ev g hS m (by omega)) ?_)
          rw [tblL_length]
          exact scaled_impl_l0 g d (m + 1) (by omega) (m + 1) 0 (by omega)
      · exact ⟨[], by simp, Ev.some (Ev.bnd b2 (Ev.pos rfl (Ev.bnd (spec_l1In_ev _ _ _) (Ev.pos (decide_eq_true h1) (Ev.bnd (spec_l1In_ev _ _ _) (by rw [decide_eq_false h2]; exact stopS)))))),
          Ev.bnd b3 (Ev.pos rfl (Ev.bnd (impl_within_ev _ _ _) (Ev.pos (decide_eq_true h1) (Ev.bnd (impl_within_ev _ _ _) (by rw [decide_eq_false h2]; exact stopI)))))⟩
    · exact ⟨[], by simp, Ev.some (Ev.bnd b2 (Ev.pos rfl (Ev.bnd (spec_l1In_ev _ _ _) (Ev.neg (by rw [decide_eq_false h1]; decide) stopS)))),
        Ev.bnd b3 (Ev.pos rfl (Ev.bnd (impl_within_ev _ _ _) (Ev.neg (by rw [decide_eq_false h1]; decide) stopI)))⟩
noncomputable def quoL (g : List Int) (d : Int) (i : Nat) : List Int := pick (fun n => !elB g (d * ((n + 1 : Nat) : Int))) (fun n => ((n + 1 : Nat) : Int)) i
theorem quo_mul (d : Int) (m : Nat) (hd : 1 ≤ d ∧ d ≤ 20) (hm : m ≤ 200) : 0 ≤ d * (m : Int) ∧ d * (m : Int) ≤ 4000 := by
  have h1 : 0 ≤ d * (m : Int) := Int.mul_nonneg (by omega) (by omega)
  have h2 : d * (m : Int) ≤ 20 * (m : Int) := Int.mul_le_mul_of_nonneg_right hd.2 (by omega)
  omega
theorem spec_quo_l0 (g : List Int) (hS : SG g) (d : Int) (hd : 1 ≤ d ∧ d ≤ 20) {r : List Int × Bool} (hr : Ev (fun k => spec_FromGaps.f k (quoL g d 199)) r) : ∀ e i, i + e = 199 → Ev (fun k => spec_QuotientOf.l0 k d (quoL g d i) ((i + 1 : Nat) : Int) g) r := by
  intro e
  induction e with
  | zero =>
    intro i hi
    obtain rfl : i = 199 := by omega
    refine Ev.one (fun k => by rw [spec_QuotientOf.l0]) ?_
    exact Ev.neg (by omega) (Ev.bnd hr (Ev.now _))
  | succ e ih =>
    intro i hi
    have ih := ih (i + 1) (by omega)
    have hl : (quoL g d i).length ≤ i := pick_len _ _ _
    have hm := quo_mul d (i + 1) hd (by omega)
    refine Ev.one (fun k => by rw [spec_QuotientOf.l0]) ?_
    rw [w64_succ (i + 1) (by omega), Int.mul_comm ((i + 1 : Nat) : Int) d, w64_of (x := d * ((i + 1 : Nat) : Int)) (by omega) (by omega)]
    refine Ev.pos (by omega) (Ev.bnd (spec_l3Has_el g hS _) ?_)
    cases hb : elB g (d * ((i + 1 : Nat) : Int)) with
    | true =>
      unfold quoL at ih ⊢
      rw [pick_neg _ _ i (by rw [hb]; rfl)] at ih
      exact Ev.pos rfl ih
    | false =>
      unfold quoL at ih hl ⊢
      rw [pick_pos _ _ i (by rw [hb]; rfl)] at ih
      exact Ev.neg (by decide) (Ev.pos (by omega) ih)
theorem impl_quo_l0 (g : List Int) (hS : SG g) (d : Int) (hd : 1 ≤ d ∧ d ≤ 20) {r : List Int × Bool} (hr : Ev (fun k => impl_FromGaps.f k (quoL g d 199)) r) : ∀ e i, i + e = 199 → Ev (fun k => impl_QuotientOf.l0 k d (impl_reach.p (tblL g 201)) (quoL g d i) ((i + 1 : Nat) : Int)) r := by
  intro e
  induction e with
  | zero =>
    intro i hi
    obtain rfl : i = 199 := by omega
    refine Ev.one (fun k => by rw [impl_QuotientOf.l0]) ?_
    exact Ev.neg (by omega) (Ev.bnd hr (Ev.now _))
  | succ e ih =>
    intro i hi
    have ih := ih (i + 1) (by omega)
    have hl : (quoL g d i).length ≤ i := pick_len _ _ _
    have hm := quo_mul d (i + 1) hd (by omega)
    refine Ev.one (fun k => by rw [impl_QuotientOf.l0]) ?_
    rw [w64_succ (i + 1) (by omega), w64_of (x := d * ((i + 1 : Nat) : Int)) (by omega) (by omega)]
    refine Ev.pos (by omega) (Ev.bnd (reach_ap g hS _) ?_)
    cases hb : elB g (d * ((i + 1 : Nat) : Int)) with
    | true =>
      unfold quoL at ih ⊢
      rw [pick_neg _ _ i (by rw [hb]; rfl)] at ih
      exact Ev.pos rfl ih
    | false =>
      unfold quoL at ih hl ⊢
      rw [pick_pos _ _ i (by rw [hb]; rfl)] at ih
      exact Ev.neg (by decide) (Ev.pos (by omega) ih)
theorem quotient_both (g : List Int) (d : Int) (hlen : g.length ≤ 1048576) : ∃ r : List Int × Bool, r.1.length ≤ 401 ∧ Ev (fun k => spec_QuotientOf.f k g d) r ∧ Ev (fun k => impl_QuotientOf.f k g d) r := by
  obtain ⟨b, b1, b2, b3⟩ := sg_both g hlen
  have hw1 := spec_l1In_ev d 1 20
  have hw2 := impl_within_ev d 1 20
  have out_ : ∀ t : Bool, t = true → Ev (fun k => spec_QuotientOf.j0 k d t g) ([], false) ∧ Ev (fun k => impl_QuotientOf.j0 k d t g) ([], false) := fun t ht => by
    subst ht
    exact ⟨Ev.one (fun k => by rw [spec_QuotientOf.j0]) (Ev.pos rfl (Ev.now _)), Ev.one (fun k => by rw [impl_QuotientOf.j0]) (Ev.pos rfl (Ev.now _))⟩
  unfold spec_QuotientOf.f impl_QuotientOf.f
  cases b with
  | false => exact ⟨([], false), by simp, Ev.bnd b2 (Ev.neg (by decide) (out_ _ rfl).1), Ev.bnd b3 (Ev.neg (by decide) (out_ _ rfl).2)⟩
  | true =>
    by_cases hd : 1 ≤ d ∧ d ≤ 20
    rotate_left
    · rw [decide_eq_false hd] at hw1 hw2
      exact ⟨([], false), by simp, Ev.bnd b2 (Ev.pos rfl (Ev.bnd hw1 (out_ _ rfl).1)), Ev.bnd b3 (Ev.pos rfl (Ev.bnd hw2 (out_ _ rfl).2))⟩
    rw [decide_eq_true hd] at hw1 hw2
    have hS := b1.1 rfl
    have hl : (quoL g d 199).length ≤ 199 := pick_len _ _ _
    obtain ⟨q, _, q1, q2⟩ := from_both (quoL g d 199) (by omega)
    refine ⟨fromS (quoL g d 199) q, fromS_len _ _, Ev.bnd b2 (Ev.pos rfl (Ev.bnd hw1 ?_)), Ev.bnd b3 (Ev.pos rfl (Ev.bnd hw2 ?_))⟩
    · refine Ev.one (fun k => by rw [spec_QuotientOf.j0]) ?_
      exact Ev.neg (by decide) (spec_quo_l0 g hS d hd q1 199 0 (by omega))
    · refine Ev.one (fun k => by rw [impl_QuotientOf.j0]) ?_
      exact Ev.neg (by decide) (Ev.bnd (reach_ev g hlen hS) (impl_quo_l0 g hS d hd q2 199 0 (by omega)))
/-! quot2: what is known of a quotient -/
theorem quoL_mem (g : List Int) (d : Int) (n : Nat) (h1 : 1 ≤ n) (h2 : n ≤ 199) : (n : Int) ∈ quoL g d 199 ↔ ¬ Sums g (d * (n : Int)) := by
  unfold quoL pick
  rw [List.mem_map]
  constructor
  · rintro ⟨m, hm, e⟩
    rw [List.mem_filter] at hm
    have hm2 := hm.2
    rw [show ((m + 1 : Nat) : Int) = (n : Int) from e, Bool.not_eq_true', ← Bool.not_eq_true, elB_iff] at hm2
    exact hm2
  · intro h
    refine ⟨n - 1, ?_, by show ((n - 1 + 1 : Nat) : Int) = (n : Int); omega⟩
    rw [List.mem_filter, List.mem_range]
    refine ⟨by omega, ?_⟩
    rw [show ((n - 1 + 1 : Nat) : Int) = (n : Int) from by omega, Bool.not_eq_true', ← Bool.not_eq_true, elB_iff]
    exact h
theorem quotient_more (g : List Int) (d : Int) (hlen : g.length ≤ 1048576) : ∃ r : List Int × Bool, (r.1.length ≤ 401 ∧ (r.2 = true → SG g ∧ SG r.1 ∧ (1 ≤ d ∧ d ≤ 20) ∧ ∀ n : Nat, n ≤ 199 → (Sums r.1 (n : Int) ↔ Sums g (d * (n : Int))))) ∧ Ev (fun k => spec_QuotientOf.f k g d) r ∧ Ev (fun k => impl_QuotientOf.f k g d) r := by
  obtain ⟨b, b1, b2, b3⟩ := sg_both g hlen
  have hw1 := spec_l1In_ev d 1 20
  have hw2 := impl_within_ev d 1 20
  have out_ : ∀ t : Bool, t = true → Ev (fun k => spec_QuotientOf.j0 k d t g) ([], false) ∧ Ev (fun k => impl_QuotientOf.j0 k d t g) ([], false) := fun t ht => by
    subst ht
    exact ⟨Ev.one (fun k => by rw [spec_QuotientOf.j0]) (Ev.pos rfl (Ev.now _)), Ev.one (fun k => by rw [impl_QuotientOf.j0]) (Ev.pos rfl (Ev.now _))⟩
  unfold spec_QuotientOf.f impl_QuotientOf.f
  cases b with
  | false => exact ⟨([], false), ⟨by simp, fun h => by cases h⟩, Ev.bnd b2 (Ev.neg (by decide) (out_ _ rfl).1), Ev.bnd b3 (Ev.neg (by decide) (out_ _ rfl).2)⟩
  | true =>
    by_cases hd : 1 ≤ d ∧ d ≤ 20
    rotate_left
    · rw [decide_eq_false hd] at hw1 hw2
      exact ⟨([], false), ⟨by simp, fun h => by cases h⟩, Ev.bnd b2 (Ev.pos rfl (Ev.bnd hw1 (out_ _ rfl).1)), Ev.bnd b3 (Ev.pos rfl (Ev.bnd hw2 (out_ _ rfl).2))⟩
    rw [decide_eq_true hd] at hw1 hw2
    have hS := b1.1 rfl
    have hl : (quoL g d 199).length ≤ 199 := pick_len _ _ _
    obtain ⟨q, q0, q1, q2⟩ := from_both (quoL g d 199) (by omega)
    have hf := fromS_facts _ q q0
    refine ⟨fromS (quoL g d 199) q, ⟨fromS_len _ _, fun h => ?_⟩, Ev.bnd b2 (Ev.pos rfl (Ev.bnd hw1 ?_)), Ev.bnd b3 (Ev.pos rfl (Ev.bnd hw2 ?_))⟩
    · rw [hf.1] at h
      obtain ⟨h1, h2⟩ := hf.2.1 h
      refine ⟨hS, h1, hd, fun n hn => ?_⟩
      by_cases h0 : n = 0
      · subst h0
        rw [show d * ((0 : Nat) : Int) = 0 from by simp]
        exact ⟨fun _ => Sums.zero _, fun _ => Sums.zero _⟩
      · rw [sums_gaps h1 h2 (n : Int) (by omega), quoL_mem g d n (by omega) hn]
        exact Classical.not_not
    · refine Ev.one (fun k => by rw [spec_QuotientOf.j0]) ?_
      exact Ev.neg (by decide) (spec_quo_l0 g hS d hd q1 199 0 (by omega))
    · refine Ev.one (fun k => by rw [impl_QuotientOf.j0]) ?_
      exact Ev.neg (by decide) (Ev.bnd (reach_ev g hlen hS) (impl_quo_l0 g hS d hd q2 199 0 (by omega)))
end Go.Proofs.Ytkfplkdchkmgbaa.Pure
