/- Plain lemmas (dual): no program, no memory. -/
import Derived.Test.YtiejmnnnjmmifaaC0
import Derived.Test.YtiejmnnnjmmifaaC4
import Derived.Test.YtiejmnnnjmmifaaC5
import Derived.Test.YtiejmnnnjmmifaaC6
import Derived.Test.YtiejmnnnjmmifaaC9
import Derived.Test.YtiejmnnnjmmifaaBsums
import Derived.Test.YtiejmnnnjmmifaaBasc
import Derived.Test.YtiejmnnnjmmifaaBsortspec
import Derived.Test.YtiejmnnnjmmifaaBisort
import Derived.Test.YtiejmnnnjmmifaaBissg
import Derived.Test.YtiejmnnnjmmifaaBshell
import Derived.Test.YtiejmnnnjmmifaaBelems
import Derived.Test.YtiejmnnnjmmifaaBgapl
import Derived.Test.YtiejmnnnjmmifaaBspecgaps
import Derived.Test.YtiejmnnnjmmifaaBreach
import Derived.Test.YtiejmnnnjmmifaaBreachany
import Derived.Test.YtiejmnnnjmmifaaBexi
import Derived.Test.YtiejmnnnjmmifaaBminimalin
import Derived.Test.YtiejmnnnjmmifaaBideal
import Derived.Test.YtiejmnnnjmmifaaBsifted
import Derived.Test.YtiejmnnnjmmifaaBascpick
import Derived.Test.YtiejmnnnjmmifaaBbase
namespace Go.Proofs.Ytiejmnnnjmmifaa.Pure
open Go.RowKit Go.Proofs.Ytiejmnnnjmmifaa.C Go.Proofs.YtiejmnnnjmmifaaW.PrintWords Go.Proofs.YtiejmnnnjmmifaaW.PrintLast Go.Proofs.YtiejmnnnjmmifaaW.PrintMore
set_option linter.unusedVariables false
set_option linter.unusedSimpArgs false
/-! dual: DualGens of both sides -/
theorem frob_last (g : List Int) (hS : SG g) : (gapL g = [] ∧ lastS (gapL g) = -1) ∨ (1 ≤ lastS (gapL g) ∧ lastS (gapL g) ≤ 199 ∧ ¬ Sums g (lastS (gapL g)) ∧ ∀ x, lastS (gapL g) < x → Sums g x) := by
  have hp : ∀ x ∈ g, 1 ≤ x := fun x hx => (hS.rng x hx).1
  unfold lastS
  by_cases h : (gapL g).length = 0
  · exact .inl ⟨List.eq_nil_of_length_eq_zero h, by rw [if_pos h]⟩
  · refine .inr ?_
    rw [if_neg h, rd_at _ _ (by omega)]
    have h1 := (gapL_mem g _).1 (List.getElem_mem (show (gapL g).length - 1 < (gapL g).length by omega))
    refine ⟨?_, by omega, h1.2.2, fun x hx => ?_⟩
    · refine Classical.byContradiction fun hn => h1.2.2 ?_
      rw [show (gapL g)[(gapL g).length - 1] = 0 from by omega]
      exact Sums.zero g
    · refine Classical.byContradiction fun hn => ?_
      have h2 : x < 200 := Classical.byContradiction fun h3 => hn (hS.ends x (by omega))
      have h3 := (gapL_mem g x).2 ⟨by omega, h2, hn⟩
      obtain ⟨j, hj, ej⟩ := List.getElem_of_mem h3
      have ha : asc (gapL g) := asc_pick _ _
      by_cases e : j = (gapL g).length - 1
      · subst e; omega
      · have := List.pairwise_iff_getElem.1 ha j ((gapL g).length - 1) hj (by omega) (by omega)
        omega
theorem spec_l15Has_el (g : List Int) (hS : SG g) (n : Int) : Ev (fun k => spec_l15Has.f k g n) (elB g n) := by
  unfold spec_l15Has.f
  by_cases h : n = 0
  · rw [show elB g n = true from (elB_iff g n).2 (h ▸ Sums.zero g)]
    exact Ev.pos h (Ev.now _)
  · exact Ev.neg h (Ev.bnd (spec_l3Has_el g hS n) (Ev.now _))
theorem spec_cond_ev (g : List Int) (hlen : g.length ≤ 1048576) (hS : SG g) (b2 : Ev (fun k => spec_IsSemigroup.f k g) true) : Ev (fun k => spec_ConductorOf.f k g) (lastS (gapL g) + 1) := by
  have hl := gapL_len g
  have hb := lastS_gaps true g
  rw [show gapsS true g = gapL g from if_pos rfl] at hb
  have e1 : wrap64 (lastS (gapL g) + 1) = lastS (gapL g) + 1 := w64_of (by omega) (by omega)
  have h1 : Ev (fun k => spec_Gaps.f k g) (gapL g) := by
    unfold spec_Gaps.f
    exact Ev.bnd b2 (Ev.pos rfl (Ev.bnd (spec_l4Gaps_ev g (fun x hx => (hS.rng x hx).1) hlen) (Ev.now _)))
  have h2 : Ev (fun k => spec_FrobeniusOf.f k g) (lastS (gapL g)) := by
    unfold spec_FrobeniusOf.f lastS
    by_cases h : (gapL g).length = 0
    · rw [if_pos h]
      exact Ev.bnd h1 (Ev.pos (by omega) (Ev.now _))
    · rw [if_neg h]
      have e2 : wrap64 (((gapL g).length : Int) - 1) = (((gapL g).length - 1 : Nat) : Int) := by rw [w64_of (by omega) (by omega)]; omega
      refine Ev.bnd h1 (Ev.neg (by omega) ?_)
      rw [e2]
      exact Ev.pos (by omega) (Ev.pos (by omega) (Ev.now _))
  unfold spec_ConductorOf.f
  refine Ev.bnd h2 ?_
  rw [e1]
  exact Ev.now _
theorem cond_all (g : List Int) (hS : SG g) : ∀ x, lastS (gapL g) < x → Sums g x := by
  intro x hx
  rcases frob_last g hS with ⟨h0, h1⟩ | h
  · refine Classical.byContradiction fun hn => ?_
    have h5 : x < 200 := Classical.byContradiction fun h6 => hn (hS.ends x (by omega))
    have := (gapL_mem g x).2 ⟨by omega, h5, hn⟩
    rw [h0] at this
    cases this
  · exact h.2.2.2 x hx
/-- Whether the sums of x and of each number of l are elements. -/
noncomputable def dB (g l : List Int) (x : Int) : Bool := l.all fun y => elB g (wrap64 (x + y))
theorem all_drop (l : List Int) (p : Int → Bool) (i : Nat) (h : i < l.length) : (l.drop i).all p = (p l[i] && (l.drop (i + 1)).all p) := by rw [List.drop_eq_getElem_cons h, List.all_cons]
theorem spec_dual_l0 (g : List Int) (hS : SG g) (l : List Int) (x : Int) (hl : l.length ≤ 1048576) : ∀ d i, i + d = l.length → Ev (fun k => spec_l16Dual.l0 k l x (i : Int) g) ((l.drop i).all fun y => elB g (wrap64 (x + y))) := by
  intro d
  induction d with
  | zero =>
    intro i hi
    rw [List.drop_eq_nil_of_le (by omega)]
    refine Ev.one (fun k => by rw [spec_l16Dual.l0]) ?_
    exact Ev.neg (by omega) (Ev.now _)
  | succ d ih =>
    intro i hi
    have hil : i < l.length := by omega
    have ih := ih (i + 1) (by omega)
    rw [all_drop l _ i hil]
    refine Ev.one (fun k => by rw [spec_l16Dual.l0]) ?_
    rw [rd_at l i hil, w64_succ i (by omega)]
    refine Ev.pos (by omega) (Ev.pos (by omega) (Ev.bnd (spec_l15Has_el g hS _) ?_))
    cases hb : elB g (wrap64 (x + l[i])) with
    | true => exact Ev.pos rfl ih
    | false => exact Ev.neg (by decide) (Ev.now _)
theorem spec_dual_ev (g : List Int) (hS : SG g) (l : List Int) (x : Int) (hl : l.length ≤ 1048576) : Ev (fun k => spec_l16Dual.f k g l x) (dB g l x) := by
  unfold spec_l16Dual.f
  exact spec_dual_l0 g hS l x hl l.length 0 (by omega)
theorem impl_dual_l0 (g : List Int) (P : Int → Option Bool) (hP : ∀ d, P d = some (elB g d)) (l : List Int) (x : Int) (hl : l.length ≤ 1048576) : ∀ d i, i + d = l.length → ∀ k, d < k → impl_DualGens.l0 k P l x (i : Int) = some ((l.drop i).all fun y => elB g (wrap64 (x + y))) := by
  intro d
  induction d with
  | zero =>
    intro i hi k hk
    obtain ⟨k, rfl⟩ : ∃ m, k = m + 1 := ⟨k - 1, by omega⟩
    rw [List.drop_eq_nil_of_le (by omega), impl_DualGens.l0, if_neg (by omega)]
    rfl
  | succ d ih =>
    intro i hi k hk
    obtain ⟨k, rfl⟩ : ∃ m, k = m + 1 := ⟨k - 1, by omega⟩
    have hil : i < l.length := by omega
    have ih := ih (i + 1) (by omega) k (by omega)
    rw [all_drop l _ i hil, impl_DualGens.l0, if_pos (by omega), if_pos (by omega), if_pos (by omega), rd_at l i hil, w64_succ i (by omega), hP, Option.bind_some]
    cases hb : elB g (wrap64 (x + l[i])) with
    | true => rw [if_pos rfl, ih]; rfl
    | false => rw [if_neg (by decide)]; rfl
theorem impl_dual_p (g : List Int) (P : Int → Option Bool) (hP : ∀ d, P d = some (elB g d)) (l : List Int) (hl : l.length ≤ 1048576) (k : Nat) (hk : l.length < k) : impl_DualGens.p k P l = fun x => some (dB g l x) := by
  funext x
  exact impl_dual_l0 g P hP l x hl l.length 0 (by omega) k hk
theorem Ev.later {α : Type} {f h : Nat → Option α} {r : α} (n : Nat) (e : ∀ k, n < k → f k = h k) (hr : Ev h r) : Ev f r := by
  obtain ⟨K, hK⟩ := hr
  exact ⟨max K (n + 1), fun k hk => (e k (by omega)).trans (hK k (by omega))⟩
theorem spec_dg_l0 (g : List Int) (hS : SG g) (l : List Int) (hl : l.length ≤ 1048576) (a c : Int) (ha : -200 ≤ a ∧ a ≤ 200) (hc : 0 ≤ c ∧ c ≤ 200) (hcond : Ev (fun k => spec_ConductorOf.f k g) c) (n : Nat) (hn : (n : Int) = c + rd g 0) {r : List Int}
    (hr : Ev (fun k => spec_MinimalIn.f k g (pick (fun i => dB g l (-a + (i : Int))) (fun i => -a + (i : Int)) n)) r) :
    ∀ d i, i + d = n → Ev (fun k => spec_DualGens.l0 k l a (pick (fun i => dB g l (-a + (i : Int))) (fun i => -a + (i : Int)) i) (-a + (i : Int)) g) r := by
  have h1 := hS.len1
  have hg0 : 1 ≤ rd g 0 ∧ rd g 0 ≤ 60 := by
    have := hS.rng _ (List.getElem_mem (show 0 < g.length by omega))
    have e := rd_at g 0 (by omega)
    rw [show ((0 : Nat) : Int) = 0 from rfl] at e
    omega
  intro d
  induction d with
  | zero =>
    intro i hi
    obtain rfl : i = n := by omega
    refine Ev.one (fun k => by rw [spec_DualGens.l0]) ?_
    refine Ev.bnd hcond ?_
    rw [w64_of (x := c - a) (by omega) (by omega), w64_of (x := c - a + rd g 0) (by omega) (by omega)]
    exact Ev.pos (by omega) (Ev.neg (by omega) (Ev.bnd hr (Ev.now _)))
  | succ d ih =>
    intro i hi
    have ih := ih (i + 1) (by omega)
    have hpl := pick_len (fun i => dB g l (-a + (i : Int))) (fun i : Nat => -a + (i : Int)) i
    refine Ev.one (fun k => by rw [spec_DualGens.l0]) ?_
    refine Ev.bnd hcond ?_
    rw [w64_of (x := c - a) (by omega) (by omega), w64_of (x := c - a + rd g 0) (by omega) (by omega), w64_of (x := -a + (i : Int) + 1) (by omega) (by omega), show -a + (i : Int) + 1 = -a + ((i + 1 : Nat) : Int) from by omega]
    refine Ev.pos (by omega) (Ev.pos (by omega) (Ev.bnd (spec_dual_ev g hS l _ hl) ?_))
    cases hb : dB g l (-a + (i : Int)) with
    | true =>
      rw [pick_pos _ _ i hb] at ih
      exact Ev.pos rfl (Ev.pos (by omega) ih)
    | false =>
      rw [pick_neg _ _ i hb] at ih
      exact Ev.neg (by decide) ih
theorem ex_char (g l : List Int) (y : Int) : y ∈ exL g true l ↔ y ∈ l ∧ ∀ z ∈ l, y = z ∨ ¬ Sums g (y - z) := by
  unfold exL exB
  rw [List.mem_filter, List.all_eq_true]
  refine and_congr_right fun _ => forall_congr' fun z => forall_congr' fun _ => ?_
  unfold exq
  rw [if_pos rfl, Bool.or_eq_true, decide_eq_true_eq, Bool.not_eq_true', ← Bool.not_eq_true, elB_iff]
theorem dual_both (g l : List Int) (hlen : g.length ≤ 1048576) (hl : l.length ≤ 1048576) : ∃ r, r.length ≤ 1048576 ∧ Ev (fun k => spec_DualGens.f k g l) r ∧ Ev (fun k => impl_DualGens.f k g l) r := by
  obtain ⟨b, b1, b2, b3⟩ := sg_both g hlen
  have v1 := spec_valid_ev l hl
  have v2 := impl_ideal_ev l hl
  have out_ : Ev (fun k => spec_DualGens.j0 k l true g) [] := Ev.one (fun k => by rw [spec_DualGens.j0]) (Ev.pos rfl (Ev.now _))
  unfold spec_DualGens.f impl_DualGens.f
  cases b with
  | false => exact ⟨[], by simp, Ev.bnd b2 (Ev.neg (by decide) out_), Ev.bnd b3 (Ev.neg (by decide) (Ev.now _))⟩
  | true =>
    have hS := b1.1 rfl
    have hp : ∀ x ∈ g, 1 ≤ x := fun x hx => (hS.rng x hx).1
    cases hb : idealB l with
    | false =>
      rw [hb] at v1 v2
      exact ⟨[], by simp, Ev.bnd b2 (Ev.pos rfl (Ev.bnd v1 out_)), Ev.bnd b3 (Ev.pos rfl (Ev.bnd v2 (Ev.neg (by decide) (Ev.now _))))⟩
    | true =>
      rw [hb] at v1 v2
      obtain ⟨h1, h2, h3⟩ := idealB_of l hb
      obtain ⟨p, p1, p2⟩ := reach_any g hlen
      obtain ⟨q, q1, q2, q3⟩ := sort_both l hl
      have hcond := spec_cond_ev g hlen hS b2
      have hca := cond_all g hS
      have hcb := lastS_gaps true g
      rw [show gapsS true g = gapL g from if_pos rfl] at hcb
      generalize hc : lastS (gapL g) + 1 = c at hcond
      have hca : ∀ x, c ≤ x → Sums g x := fun x hx => hca x (by omega)
      have hql : 0 < q.length := by
        have := (q1.2.1 _).2 (List.getElem_mem (show 0 < l.length by omega))
        exact List.length_pos_of_mem this
      have e0 : rd q 0 = q[0] := rd_at q 0 hql
      have hal : q[0] ∈ l := (q1.2.1 _).1 (List.getElem_mem hql)
      have ham : ∀ y ∈ l, q[0] ≤ y := fun y hy => by
        obtain ⟨j, hj, ej⟩ := List.getElem_of_mem ((q1.2.1 y).2 hy)
        by_cases hj0 : j = 0
        · subst hj0; omega
        · have := List.pairwise_iff_getElem.1 q1.1 0 j hql hj (by omega)
          omega
      have har := h1 _ hal
      generalize q[0] = a at e0 hal ham har
      have hlen1 := hS.len1
      have hg : rd g 0 ∈ g := by
        have e := rd_at g 0 (by omega)
        rw [show ((0 : Nat) : Int) = 0 from rfl] at e
        rw [e]
        exact List.getElem_mem _
      have hg0 := hS.rng _ hg
      generalize hm : rd g 0 = m at hg hg0
      have hD : ∀ x : Int, -1000 ≤ x → x ≤ 1000 → (dB g l x = true ↔ ∀ y ∈ l, Sums g (x + y)) := fun x hx0 hx1 => by
        unfold dB
        rw [List.all_eq_true]
        refine forall_congr' fun y => forall_congr' fun hy => ?_
        have := h1 y hy
        rw [w64_of (by omega) (by omega), elB_iff]
      obtain ⟨r, r1, r2, r3⟩ := sifted_ev g hlen hS (fun x => some (dB g l x)) (dB g l) (fun _ => rfl) (-a) (400 - a) (by omega) (by omega)
      have e2 : Ev (fun k => impl_sifted.f k g (wrap64 (-(rd q 0))) (wrap64 (400 - rd q 0)) (impl_DualGens.p k p l)) r := by
        rw [e0, w64_of (x := -a) (by omega) (by omega), w64_of (x := 400 - a) (by omega) (by omega)]
        exact Ev.later l.length (fun k hk => by rw [impl_dual_p g p (p1 hS) l hl k hk]) r3
      obtain ⟨n, hn⟩ : ∃ n : Nat, (n : Int) = c + m := ⟨(c + m).toNat, by omega⟩
      have hpl := pick_len (fun i => dB g l (-a + (i : Int))) (fun i : Nat => -a + (i : Int)) n
      have hpm := pick_mem (dB g l) (-a) n
      obtain ⟨s, s1, s2, _⟩ := minimal_both g (pick (fun i => dB g l (-a + (i : Int))) (fun i => -a + (i : Int)) n) hlen (by omega)
      have hsm := s1.2.2.2.2 hS (fun x hx => by have := (hpm x).1 hx; omega)
      have e : s = r := asc_uniq s r s1.1 r1.1 (fun y => by
        rw [hsm, ex_char, hpm, r1.2]
        constructor
        · rintro ⟨a1, a2⟩
          refine ⟨⟨a1.1, by omega, a1.2.2⟩, fun z hz => ?_⟩
          by_cases hzn : z < -a + (n : Int)
          · exact a2 z ((hpm z).2 ⟨hz.1, hzn, hz.2.2⟩)
          · refine .inr fun hs => ?_
            have := hs.nonneg hp
            omega
        · rintro ⟨⟨a1, a2, a3⟩, a4⟩
          have hyn : y < -a + (n : Int) := Classical.byContradiction fun hyn => by
            have hd : dB g l (y - m) = true := (hD _ (by omega) (by omega)).2 fun t ht => hca _ (by have := ham t ht; omega)
            rcases a4 (y - m) ⟨by omega, by omega, hd⟩ with h | h
            · omega
            · exact h (by rw [show y - (y - m) = m from by omega]; exact Sums.one hg)
          refine ⟨⟨a1, hyn, a3⟩, fun z hz => ?_⟩
          have hz := (hpm z).1 hz
          exact a4 z ⟨hz.1, by omega, hz.2.2⟩)
      rw [e] at s2
      have hrn : r.length ≤ 1048576 := r2
      refine ⟨r, hrn, Ev.bnd b2 (Ev.pos rfl (Ev.bnd v1 ?_)), Ev.bnd b3 (Ev.pos rfl (Ev.bnd v2 (Ev.pos rfl (Ev.bnd p2 (Ev.bnd q3 (Ev.pos (by omega) e2))))))⟩
      refine Ev.one (fun k => by rw [spec_DualGens.j0]) ?_
      refine Ev.neg (by decide) (Ev.bnd q2 (Ev.pos (by omega) ?_))
      have := spec_dg_l0 g hS l hl a c har (by omega) hcond n (by omega) s2 n 0 (by omega)
      rw [show -a + ((0 : Nat) : Int) = -a from by omega] at this
      rw [e0, w64_of (x := -a) (by omega) (by omega)]
      exact this
end Go.Proofs.Ytiejmnnnjmmifaa.Pure
