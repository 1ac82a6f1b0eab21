/- Plain lemmas (speccond, elemat, reachany, exi, extreme, maximal, minimalin, exch, apery, mExceedingOf, pfro0, pfsums, exceed2, mIsBelow, draw2, draw6): no program, no memory. -/
import Derived.Test.YtkfplkdchkmgbaaC0
import Derived.Test.YtkfplkdchkmgbaaC1
import Derived.Test.YtkfplkdchkmgbaaC13
import Derived.Test.YtkfplkdchkmgbaaC16
import Derived.Test.YtkfplkdchkmgbaaC18
import Derived.Test.YtkfplkdchkmgbaaC2
import Derived.Test.YtkfplkdchkmgbaaC20
import Derived.Test.YtkfplkdchkmgbaaC21
import Derived.Test.YtkfplkdchkmgbaaC3
import Derived.Test.YtkfplkdchkmgbaaC35
import Derived.Test.YtkfplkdchkmgbaaC36
import Derived.Test.YtkfplkdchkmgbaaC37
import Derived.Test.YtkfplkdchkmgbaaC6
import Derived.Test.YtkfplkdchkmgbaaBbase
import Derived.Test.YtkfplkdchkmgbaaBisort
import Derived.Test.YtkfplkdchkmgbaaBleastle
import Derived.Test.YtkfplkdchkmgbaaBreach0
import Derived.Test.YtkfplkdchkmgbaaBspecgaps
namespace Go.Proofs.Ytkfplkdchkmgbaa.Pure
open Go.RowKit Go.Proofs.Ytkfplkdchkmgbaa.C Go.Proofs.YtkfplkdchkmgbaaW.PrintWords Go.Proofs.YtkfplkdchkmgbaaW.PrintLast Go.Proofs.YtkfplkdchkmgbaaW.PrintMore
set_option linter.unusedVariables false
set_option linter.unusedSimpArgs false
/-! speccond: spec.ConductorOf -/
theorem spec_cond_ev (g : List Int) (hlen : g.length ≤ 1048576) (hS : SG g) (b2 : Ev (fun k => spec_IsSemigroup.f k g) true) : Ev (fun k => spec_ConductorOf.f k g) (lastS (gapL g) + 1) := by
  have hl := gapL_len g
  have hb := lastS_gaps true g
  rw [show gapsS true g = gapL g from if_pos rfl] at hb
  have e1 : wrap64 (lastS (gapL g) + 1) = lastS (gapL g) + 1 := w64_of (by omega) (by omega)
  have h1 : Ev (fun k => spec_Gaps.f k g) (gapL g) := by
    unfold spec_Gaps.f
    exact Ev.bnd b2 (Ev.pos rfl (Ev.bnd (spec_l4Gaps_ev g (fun x hx => (hS.rng x hx).1) hlen) (Ev.now _)))
  have h2 : Ev (fun k => spec_FrobeniusOf.f k g) (lastS (gapL g)) := by
    unfold spec_FrobeniusOf.f lastS
    by_cases h : (gapL g).length = 0
    · rw [if_pos h]
      exact Ev.bnd h1 (Ev.pos (by omega) (Ev.now _))
    · rw [if_neg h]
      have e2 : wrap64 (((gapL g).length : Int) - 1) = (((gapL g).length - 1 : Nat) : Int) := by rw [w64_of (by omega) (by omega)]; omega
      refine Ev.bnd h1 (Ev.neg (by omega) ?_)
      rw [e2]
      exact Ev.pos (by omega) (Ev.pos (by omega) (Ev.now _))
  unfold spec_ConductorOf.f
  refine Ev.bnd h2 ?_
  rw [e1]
  exact Ev.now _
/-! elemat: spec.ElementAt answers -/
theorem spec_Small_ev (g : List Int) (hlen : g.length ≤ 1048576) (hS : SG g) (b2 : Ev (fun k => spec_IsSemigroup.f k g) true) : ∃ l, l.length ≤ 200 ∧ (∀ x ∈ l, 0 ≤ x ∧ x ≤ 200) ∧ Ev (fun k => spec_SmallElements.f k g) l := by
  have hc := spec_cond_ev g hlen hS b2
  have hb := lastS_gaps true g
  rw [show gapsS true g = gapL g from if_pos rfl] at hb
  obtain ⟨c, hc0⟩ : ∃ c : Nat, lastS (gapL g) + 1 = (c : Int) := ⟨(lastS (gapL g) + 1).toNat, by omega⟩
  rw [hc0] at hc
  unfold spec_SmallElements.f
  by_cases h1 : 1 ≤ c
  · have h := spec_l4Small_ev g c h1 (by omega) (fun x hx => (hS.rng x hx).1) hlen
    refine ⟨_, Nat.le_trans (pick_len _ _ _) (by omega), fun x hx => ?_, Ev.bnd b2 (Ev.pos rfl (Ev.bnd hc (Ev.bnd h (Ev.now _))))⟩
    unfold pick at hx
    obtain ⟨m, hm, rfl⟩ := List.mem_map.1 hx
    have := List.mem_range.1 (List.mem_filter.1 hm).1
    omega
  · refine ⟨[], by simp, by simp, Ev.bnd b2 (Ev.pos rfl (Ev.bnd hc ?_))⟩
    refine Ev.bnd (a := []) ?_ (Ev.now _)
    unfold spec_l4Small.f
    exact Ev.some (Ev.pos (by omega) (Ev.now _))
theorem spec_ElementAt_ok (g : List Int) (hlen : g.length ≤ 1048576) (i : Int) : ∃ v, v ≤ 9223372036854775807 ∧ Ev (fun k => spec_ElementAt.f k g i) v := by
  obtain ⟨b, b1, b2⟩ := spec_IsSemigroup_ev g hlen
  have w1 := spec_l1In_ev i 0 200
  have out_ : Ev (fun k => spec_ElementAt.j0 k i true g) (-1) := Ev.one (fun k => by rw [spec_ElementAt.j0]) (Ev.pos rfl (Ev.now _))
  unfold spec_ElementAt.f
  cases b with
  | false => exact ⟨-1, by omega, Ev.bnd b2 (Ev.neg (by decide) out_)⟩
  | true =>
    have hS := b1.1 rfl
    by_cases hi : 0 ≤ i ∧ i ≤ 200
    rotate_left
    · rw [decide_eq_false hi] at w1
      exact ⟨-1, by omega, Ev.bnd b2 (Ev.pos rfl (Ev.bnd w1 out_))⟩
    rw [decide_eq_true hi] at w1
    obtain ⟨l, l1, l2, l3⟩ := spec_Small_ev g hlen hS b2
    by_cases hl : i < (l.length : Int)
    · obtain ⟨q, rfl⟩ : ∃ q : Nat, i = (q : Int) := ⟨i.toNat, by omega⟩
      refine ⟨rd l (q : Int), ?_, Ev.bnd b2 (Ev.pos rfl (Ev.bnd w1 (Ev.one (fun k => by rw [spec_ElementAt.j0]) ?_)))⟩
      · rw [rd_at l q (by omega)]
        have := l2 _ (List.getElem_mem (show q < l.length by omega))
        omega
      · exact Ev.neg (by decide) (Ev.bnd l3 (Ev.pos hl (Ev.pos hi.1 (Ev.now _))))
    · refine ⟨wrap64 ((wrap64 (lastS (gapL g) + 1 + i)) - (l.length : Int)), by unfold wrap64; omega, Ev.bnd b2 (Ev.pos rfl (Ev.bnd w1 (Ev.one (fun k => by rw [spec_ElementAt.j0]) ?_)))⟩
      exact Ev.neg (by decide) (Ev.bnd l3 (Ev.neg hl (Ev.bnd (spec_cond_ev g hlen hS b2) (Ev.now _))))
/-! reachany: impl.reach, whatever the list -/
theorem reach_any (g : List Int) (hlen : g.length ≤ 1048576) : ∃ p : Int → Option Bool, (SG g → ∀ d, p d = some (elB g d)) ∧ Ev (fun k => impl_reach.f k g) p := by
  obtain ⟨b, b1, b2⟩ := impl_IsSemigroup_ev g hlen
  cases b with
  | true => exact ⟨impl_reach.p (tblL g 201), fun hS d => reach_at g hS d, reach_ev g hlen (b1.1 rfl)⟩
  | false =>
    refine ⟨fun _ => some false, (fun hS => by have := b1.2 hS; cases this), ?_⟩
    unfold impl_reach.f
    exact Ev.bnd b2 (Ev.neg (by decide) (Ev.now _))
/-! exi: impl.extreme -/
noncomputable def exq (g : List Int) (dn : Bool) (x y : Int) : Bool := decide (x = y) || !elB g (if dn = true then x - y else y - x)
noncomputable def exB (g : List Int) (dn : Bool) (l : List Int) (x : Int) : Bool := l.all (exq g dn x)
noncomputable def exL (g : List Int) (dn : Bool) (l : List Int) : List Int := l.filter (exB g dn l)
theorem take_all (g : List Int) (p : Int → Bool) (i : Nat) (hi : i < g.length) : (g.take (i + 1)).all p = ((g.take i).all p && p g[i]) := by
  rw [List.take_succ_eq_append_getElem hi, List.all_append]
  simp
theorem impl_ex_l1 (g : List Int) (dn : Bool) (P : Int → Int → Option Bool) (hP : ∀ x y : Int, -1000000 ≤ x ∧ x ≤ 1000000 → -1000000 ≤ y ∧ y ≤ 1000000 → P x y = some (elB g (if dn = true then x - y else y - x)))
    (l : List Int) (hl : l.length ≤ 1048576) (hr : ∀ x ∈ l, -1000000 ≤ x ∧ x ≤ 1000000) (acc : List Int) (j : Nat) (hj : j < l.length) (hacc : acc.length ≤ 1048576) {r : List Int}
    (hn : Ev (fun k => impl_extreme.l0 k P l (if exB g dn l l[j] = true then acc ++ [l[j]] else acc) l (l.length : Int) ((j + 1 : Nat) : Int)) r) :
    ∀ d i, i + d = l.length → Ev (fun k => impl_extreme.l1 k P l acc l[j] ((l.take i).all (exq g dn l[j])) l (l.length : Int) (j : Int) l (l.length : Int) (i : Int)) r := by
  have hx := hr _ (List.getElem_mem hj)
  intro d
  induction d with
  | zero =>
    intro i hi
    obtain rfl : i = l.length := by omega
    rw [List.take_length]
    refine Ev.one (fun k => by rw [impl_extreme.l1]) ?_
    rw [w64_succ j (by omega)]
    refine Ev.neg (by omega) ?_
    change Ev (fun k => if exB g dn l l[j] = true then _ else _) r
    cases hb : exB g dn l l[j] with
    | true =>
      rw [hb, if_pos rfl] at hn
      exact Ev.pos rfl (Ev.pos (by omega) hn)
    | false =>
      rw [hb, if_neg (by decide)] at hn
      exact Ev.neg (by decide) hn
  | succ d ih =>
    intro i hi
    have hil : i < l.length := by omega
    have hy := hr _ (List.getElem_mem hil)
    have ih := ih (i + 1) (by omega)
    rw [take_all l _ i hil] at ih
    refine Ev.one (fun k => by rw [impl_extreme.l1]) ?_
    rw [rd_at l i hil, w64_succ i (by omega)]
    refine Ev.pos (by omega) (Ev.pos (by omega) (Ev.pos (by omega) ?_))
    cases hb : (l.take i).all (exq g dn l[j]) with
    | false =>
      rw [hb, Bool.false_and] at ih
      exact Ev.neg (by decide) ih
    | true =>
      rw [hb, Bool.true_and] at ih
      refine Ev.pos rfl ?_
      by_cases he : l[j] = l[i]
      · rw [show exq g dn l[j] l[i] = true from by unfold exq; rw [decide_eq_true he]; rfl] at ih
        exact Ev.pos he ih
      · rw [show exq g dn l[j] l[i] = !elB g (if dn = true then l[j] - l[i] else l[i] - l[j]) from by unfold exq; rw [decide_eq_false he]; rfl] at ih
        exact Ev.neg he (Ev.bnd (Ev.const (hP _ _ hx hy)) ih)
theorem impl_ex_l0 (g : List Int) (dn : Bool) (P : Int → Int → Option Bool) (hP : ∀ x y : Int, -1000000 ≤ x ∧ x ≤ 1000000 → -1000000 ≤ y ∧ y ≤ 1000000 → P x y = some (elB g (if dn = true then x - y else y - x)))
    (l : List Int) (hl : l.length ≤ 1048576) (hr : ∀ x ∈ l, -1000000 ≤ x ∧ x ≤ 1000000) :
    ∀ d j, j + d = l.length → Ev (fun k => impl_extreme.l0 k P l ((l.take j).filter (exB g dn l)) l (l.length : Int) (j : Int)) (exL g dn l) := by
  intro d
  induction d with
  | zero =>
    intro j hj
    rw [List.take_of_length_le (by omega)]
    refine Ev.one (fun k => by rw [impl_extreme.l0]) ?_
    exact Ev.neg (by omega) (Ev.now _)
  | succ d ih =>
    intro j hj
    have hjl : j < l.length := by omega
    have ih := ih (j + 1) (by omega)
    have hf := List.length_filter_le (exB g dn l) (l.take j)
    rw [List.length_take] at hf
    rw [List.take_succ_eq_append_getElem hjl, List.filter_append] at ih
    refine Ev.one (fun k => by rw [impl_extreme.l0]) ?_
    rw [rd_at l j hjl]
    refine Ev.pos (by omega) (Ev.pos (by omega) (Ev.pos (by omega) ?_))
    refine impl_ex_l1 g dn P hP l hl hr _ j hjl (by omega) ?_ l.length 0 (by omega)
    cases hb : exB g dn l l[j] with
    | true => rw [List.filter_cons_of_pos hb, List.filter_nil] at ih; rw [if_pos rfl]; exact ih
    | false => rw [List.filter_cons_of_neg (by rw [hb]; decide), List.filter_nil, List.append_nil] at ih; rw [if_neg (by decide)]; exact ih
theorem exB_same (g : List Int) (dn : Bool) (l s : List Int) (h : ∀ y, y ∈ s ↔ y ∈ l) (x : Int) : exB g dn s x = exB g dn l x := by
  unfold exB
  rw [Bool.eq_iff_iff, List.all_eq_true, List.all_eq_true]
  exact ⟨fun h1 y hy => h1 y ((h y).2 hy), fun h1 y hy => h1 y ((h y).1 hy)⟩
theorem impl_ex_ev (g : List Int) (hlen : g.length ≤ 1048576) (dn : Bool) (l : List Int) (hl : l.length ≤ 1048576) (P : Int → Int → Option Bool)
    (hP : SG g → ∀ x y : Int, -1000000 ≤ x ∧ x ≤ 1000000 → -1000000 ≤ y ∧ y ≤ 1000000 → P x y = some (elB g (if dn = true then x - y else y - x))) :
    ∃ r, (asc r ∧ (∀ y ∈ r, y ∈ l) ∧ r.length ≤ l.length ∧ (¬ SG g → r = []) ∧ (SG g → (∀ x ∈ l, -1000000 ≤ x ∧ x ≤ 1000000) → ∀ y, y ∈ r ↔ y ∈ exL g dn l) ∧ (¬ (∀ x ∈ l, -1000000 ≤ x ∧ x ≤ 1000000) → r = [])) ∧ Ev (fun k => impl_extreme.f k g l P) r := by
  obtain ⟨b, b1, b3⟩ := impl_IsSemigroup_ev g hlen
  have h2 := impl_allWithin_ev l (-1000000) 1000000 (by omega)
  have out_ : ∀ t : Bool, t = true → Ev (fun k => impl_extreme.j0 k l P t) [] := fun t ht => by
    subst ht
    exact Ev.one (fun k => by rw [impl_extreme.j0]) (Ev.pos rfl (Ev.now _))
  unfold impl_extreme.f
  cases b with
  | false => exact ⟨[], ⟨List.Pairwise.nil, by simp, by simp, fun _ => rfl, (fun hS => by have := b1.2 hS; cases this), fun _ => rfl⟩, Ev.bnd b3 (Ev.neg (by decide) (out_ _ rfl))⟩
  | true =>
    have hS := b1.1 rfl
    cases hb : allIn l (-1000000) 1000000 with
    | false =>
      rw [hb] at h2
      exact ⟨[], ⟨List.Pairwise.nil, by simp, by simp, fun _ => rfl, (fun _ hr => by rw [(allIn_iff l _ _).2 hr] at hb; cases hb), fun _ => rfl⟩, Ev.bnd b3 (Ev.pos rfl (Ev.bnd h2 (out_ _ rfl)))⟩
    | true =>
      rw [hb] at h2
      have hr := (allIn_iff l _ _).1 hb
      obtain ⟨s, s1, s3⟩ := impl_SortList_ev l (by omega)
      have hm : ∀ y, y ∈ exL g dn s ↔ y ∈ exL g dn l := fun y => by
        unfold exL
        rw [List.mem_filter, List.mem_filter, s1.2.1, exB_same g dn l s s1.2.1]
      have hle : (exL g dn s).length ≤ s.length := List.length_filter_le ..
      have hsr : ∀ x ∈ s, -1000000 ≤ x ∧ x ≤ 1000000 := fun x hx => hr x ((s1.2.1 x).1 hx)
      refine ⟨exL g dn s, ⟨s1.1.filter _, fun y hy => (s1.2.1 y).1 (List.mem_filter.1 hy).1, by omega, fun h => absurd hS h, fun _ _ y => hm y, fun h => absurd hr h⟩, Ev.bnd b3 (Ev.pos rfl (Ev.bnd h2 ?_))⟩
      refine Ev.one (fun k => by rw [impl_extreme.j0]) ?_
      exact Ev.neg (by decide) (Ev.bnd s3 (impl_ex_l0 g dn P (hP hS) s (by omega) hsr s.length 0 (by omega)))
/-! extreme: spec.l10Top, and both sides -/
theorem spec_l10All_l0 (l : List Int) (hl : l.length ≤ 1048576) : ∀ d i, i + d = l.length → Ev (fun k => spec_l10All.l0 k l (i : Int)) (allIn (l.drop i) (-1000000) 1000000) := by
  intro d
  induction d with
  | zero =>
    intro i hi
    rw [List.drop_eq_nil_of_le (by omega)]
    refine Ev.one (fun k => by rw [spec_l10All.l0]) ?_
    exact Ev.neg (by omega) (Ev.now _)
  | succ d ih =>
    intro i hi
    have hil : i < l.length := by omega
    have ih := ih (i + 1) (by omega)
    rw [List.drop_eq_getElem_cons hil]
    refine Ev.one (fun k => by rw [spec_l10All.l0]) ?_
    rw [rd_at l i hil, w64_succ i (by omega)]
    refine Ev.pos (by omega) (Ev.pos (by omega) (Ev.bnd (spec_l2Small_ev _) ?_))
    by_cases h : -1000000 ≤ l[i] ∧ l[i] ≤ 1000000
    · rw [allIn_cons _ _ _ _ h]
      exact Ev.pos (decide_eq_true h) ih
    · rw [allIn_cons_not _ _ _ _ h]
      exact Ev.neg (by rw [decide_eq_false h]; decide) (Ev.now _)
theorem spec_l10All_ev (l : List Int) (hl : l.length ≤ 1048576) : Ev (fun k => spec_l10All.f k l) (allIn l (-1000000) 1000000) := spec_l10All_l0 l hl l.length 0 (by omega)
theorem spec_top_l1 (g : List Int) (hS : SG g) (dn : Bool) (l : List Int) (hl : l.length ≤ 1048576) (hr : ∀ x ∈ l, -1000000 ≤ x ∧ x ≤ 1000000) (acc : List Int) (j : Nat) (hj : j < l.length) (hacc : acc.length ≤ 1048576) {r : List Int}
    (hn : Ev (fun k => spec_l10Top.l0 k l dn (if exB g dn l l[j] = true then acc ++ [l[j]] else acc) ((j + 1 : Nat) : Int) g) r) :
    ∀ d i, i + d = l.length → Ev (fun k => spec_l10Top.l1 k l dn acc (j : Int) ((l.take i).all (exq g dn l[j])) (i : Int) g) r := by
  have hx := hr _ (List.getElem_mem hj)
  intro d
  induction d with
  | zero =>
    intro i hi
    obtain rfl : i = l.length := by omega
    rw [List.take_length]
    refine Ev.one (fun k => by rw [spec_l10Top.l1]) ?_
    rw [rd_at l j hj, w64_succ j (by omega)]
    refine Ev.neg (by omega) ?_
    change Ev (fun k => if exB g dn l l[j] = true then _ else _) r
    cases hb : exB g dn l l[j] with
    | true =>
      rw [hb, if_pos rfl] at hn
      exact Ev.pos rfl (Ev.pos (by omega) (Ev.pos (by omega) (Ev.pos (by omega) hn)))
    | false =>
      rw [hb, if_neg (by decide)] at hn
      exact Ev.neg (by decide) hn
  | succ d ih =>
    intro i hi
    have hil : i < l.length := by omega
    have hy := hr _ (List.getElem_mem hil)
    have ih := ih (i + 1) (by omega)
    rw [take_all l _ i hil] at ih
    refine Ev.one (fun k => by rw [spec_l10Top.l1]) ?_
    rw [rd_at l j hj, rd_at l i hil, w64_succ i (by omega), w64_of (x := l[j] - l[i]) (by omega) (by omega), w64_of (x := l[i] - l[j]) (by omega) (by omega)]
    refine Ev.pos (by omega) (Ev.pos (by omega) (Ev.pos (by omega) (Ev.pos (by omega) ?_)))
    cases hb : (l.take i).all (exq g dn l[j]) with
    | false =>
      rw [hb, Bool.false_and] at ih
      exact Ev.neg (by decide) ih
    | true =>
      rw [hb, Bool.true_and] at ih
      refine Ev.pos rfl ?_
      by_cases he : l[j] = l[i]
      · rw [show exq g dn l[j] l[i] = true from by unfold exq; rw [decide_eq_true he]; rfl] at ih
        exact Ev.pos he ih
      · have e1 : exq g dn l[j] l[i] = !elB g (if dn = true then l[j] - l[i] else l[i] - l[j]) := by unfold exq; rw [decide_eq_false he]; rfl
        rw [e1] at ih
        refine Ev.neg he ?_
        cases dn with
        | true =>
          rw [if_pos rfl] at ih
          exact Ev.pos rfl (Ev.bnd (spec_l3Has_el g hS _) ih)
        | false =>
          rw [if_neg (by decide)] at ih
          refine Ev.neg (by decide) (Ev.bnd (spec_l3Has_el g hS _) ?_)
          cases hc : elB g (l[i] - l[j]) with
          | true => rw [hc] at ih; exact Ev.pos rfl ih
          | false => rw [hc] at ih; exact Ev.neg (by decide) ih
theorem spec_top_l0 (g : List Int) (hS : SG g) (dn : Bool) (l : List Int) (hl : l.length ≤ 1048576) (hr : ∀ x ∈ l, -1000000 ≤ x ∧ x ≤ 1000000) {r : List Int} (hq : Ev (fun k => spec_SortList.f k (exL g dn l)) r) :
    ∀ d j, j + d = l.length → Ev (fun k => spec_l10Top.l0 k l dn ((l.take j).filter (exB g dn l)) (j : Int) g) r := by
  intro d
  induction d with
  | zero =>
    intro j hj
    rw [List.take_of_length_le (by omega)]
    refine Ev.one (fun k => by rw [spec_l10Top.l0]) ?_
    exact Ev.neg (by omega) (Ev.bnd hq (Ev.now _))
  | succ d ih =>
    intro j hj
    have hjl : j < l.length := by omega
    have ih := ih (j + 1) (by omega)
    have hf := List.length_filter_le (exB g dn l) (l.take j)
    rw [List.length_take] at hf
    rw [List.take_succ_eq_append_getElem hjl, List.filter_append] at ih
    refine Ev.one (fun k => by rw [spec_l10Top.l0]) ?_
    refine Ev.pos (by omega) ?_
    refine spec_top_l1 g hS dn l hl hr _ j hjl (by omega) ?_ l.length 0 (by omega)
    cases hb : exB g dn l l[j] with
    | true => rw [List.filter_cons_of_pos hb, List.filter_nil] at ih; rw [if_pos rfl]; exact ih
    | false => rw [List.filter_cons_of_neg (by rw [hb]; decide), List.filter_nil, List.append_nil] at ih; rw [if_neg (by decide)]; exact ih
theorem top_both (g : List Int) (hlen : g.length ≤ 1048576) (dn : Bool) (l : List Int) (hl : l.length ≤ 1048576) (P : Int → Int → Option Bool)
    (hP : SG g → ∀ x y : Int, -1000000 ≤ x ∧ x ≤ 1000000 → -1000000 ≤ y ∧ y ≤ 1000000 → P x y = some (elB g (if dn = true then x - y else y - x))) :
    ∃ r, (asc r ∧ (∀ y ∈ r, y ∈ l) ∧ r.length ≤ l.length ∧ (¬ SG g → r = []) ∧ (SG g → (∀ x ∈ l, -1000000 ≤ x ∧ x ≤ 1000000) → ∀ y, y ∈ r ↔ y ∈ exL g dn l)) ∧ Ev (fun k => spec_l10Top.f k g l dn) r ∧ Ev (fun k => impl_extreme.f k g l P) r := by
  obtain ⟨r, r1, r3⟩ := impl_ex_ev g hlen dn l hl P hP
  refine ⟨r, ⟨r1.1, r1.2.1, r1.2.2.1, r1.2.2.2.1, r1.2.2.2.2.1⟩, ?_, r3⟩
  obtain ⟨b, b1, b2⟩ := spec_IsSemigroup_ev g hlen
  have h1 := spec_l10All_ev l hl
  have out_ : ∀ t : Bool, t = true → Ev (fun k => spec_l10Top.j0 k l dn [] t g) [] := fun t ht => by
    subst ht
    exact Ev.one (fun k => by rw [spec_l10Top.j0]) (Ev.pos rfl (Ev.now _))
  unfold spec_l10Top.f
  cases b with
  | false =>
    rw [r1.2.2.2.1 (fun hS => by have := b1.2 hS; cases this)]
    exact Ev.some (Ev.bnd b2 (Ev.neg (by decide) (out_ _ rfl)))
  | true =>
    have hS := b1.1 rfl
    cases hb : allIn l (-1000000) 1000000 with
    | false =>
      rw [hb] at h1
      rw [r1.2.2.2.2.2 (fun hr => by rw [(allIn_iff l _ _).2 hr] at hb; cases hb)]
      exact Ev.some (Ev.bnd b2 (Ev.pos rfl (Ev.bnd h1 (out_ _ rfl))))
    | true =>
      rw [hb] at h1
      have hr := (allIn_iff l _ _).1 hb
      have hle : (exL g dn l).length ≤ l.length := List.length_filter_le ..
      obtain ⟨s, s1, s2⟩ := spec_SortList_ev (exL g dn l) (by omega)
      obtain rfl := asc_uniq r s r1.1 s1.1 (fun y => (r1.2.2.2.2.1 hS hr y).trans (s1.2.1 y).symm)
      refine Ev.some (Ev.bnd b2 (Ev.pos rfl (Ev.bnd h1 ?_)))
      refine Ev.one (fun k => by rw [spec_l10Top.j0]) ?_
      exact Ev.neg (by decide) (spec_top_l0 g hS dn l hl hr s2 l.length 0 (by omega))
/-! maximal: MaximalOf of both sides -/
theorem maximal_both (g l : List Int) (hlen : g.length ≤ 1048576) (hl : l.length ≤ 1048576) : ∃ r, (asc r ∧ (∀ y ∈ r, y ∈ l) ∧ r.length ≤ l.length ∧ (¬ SG g → r = []) ∧ (SG g → (∀ x ∈ l, -1000000 ≤ x ∧ x ≤ 1000000) → ∀ y, y ∈ r ↔ y ∈ exL g false l)) ∧ Ev (fun k => spec_MaximalOf.f k g l) r ∧ Ev (fun k => impl_MaximalOf.f k g l) r := by
  obtain ⟨p, p1, p2⟩ := reach_any g hlen
  obtain ⟨r, r1, r2, r3⟩ := top_both g hlen false l hl (impl_MaximalOf.p p) (fun hS x y hx hy => by
    unfold impl_MaximalOf.p
    rw [p1 hS, w64_of (by omega) (by omega), if_neg (by decide)])
  refine ⟨r, r1, ?_, ?_⟩
  · unfold spec_MaximalOf.f
    exact Ev.bnd r2 (Ev.now _)
  · unfold impl_MaximalOf.f
    exact Ev.bnd p2 r3
/-! minimalin: MinimalIn of both sides -/
theorem minimal_both (g l : List Int) (hlen : g.length ≤ 1048576) (hl : l.length ≤ 1048576) : ∃ r, (asc r ∧ (∀ y ∈ r, y ∈ l) ∧ r.length ≤ l.length ∧ (¬ SG g → r = []) ∧ (SG g → (∀ x ∈ l, -1000000 ≤ x ∧ x ≤ 1000000) → ∀ y, y ∈ r ↔ y ∈ exL g true l)) ∧ Ev (fun k => spec_MinimalIn.f k g l) r ∧ Ev (fun k => impl_MinimalIn.f k g l) r := by
  obtain ⟨p, p1, p2⟩ := reach_any g hlen
  obtain ⟨r, r1, r2, r3⟩ := top_both g hlen true l hl (impl_MinimalIn.p p) (fun hS x y hx hy => by
    unfold impl_MinimalIn.p
    rw [p1 hS, w64_of (by omega) (by omega), if_pos rfl])
  refine ⟨r, r1, ?_, ?_⟩
  · unfold spec_MinimalIn.f
    exact Ev.bnd r2 (Ev.now _)
  · unfold impl_MinimalIn.f
    exact Ev.bnd p2 r3
/-! exch: what the extreme numbers are -/
theorem exL_mem (g : List Int) (dn : Bool) (l : List Int) (y : Int) : y ∈ exL g dn l ↔ y ∈ l ∧ ∀ z ∈ l, y = z ∨ ¬ Sums g (if dn = true then y - z else z - y) := by
  unfold exL exB
  rw [List.mem_filter, List.all_eq_true]
  refine and_congr_right fun _ => ⟨fun h z hz => ?_, fun h z hz => ?_⟩
  · have := h z hz
    unfold exq at this
    rw [Bool.or_eq_true, decide_eq_true_eq, Bool.not_eq_true', ← Bool.not_eq_true, elB_iff] at this
    exact this
  · have := h z hz
    unfold exq
    rw [Bool.or_eq_true, decide_eq_true_eq, Bool.not_eq_true', ← Bool.not_eq_true, elB_iff]
    exact this
theorem minimal_more (g l : List Int) (hlen : g.length ≤ 1048576) (hl : l.length ≤ 1048576) : ∃ r, (asc r ∧ (∀ y ∈ r, y ∈ l) ∧ r.length ≤ l.length ∧ (r ≠ [] → SG g ∧ ∀ x ∈ l, -1000000 ≤ x ∧ x ≤ 1000000) ∧ (SG g → (∀ x ∈ l, -1000000 ≤ x ∧ x ≤ 1000000) → ∀ y, y ∈ r ↔ y ∈ exL g true l)) ∧ Ev (fun k => spec_MinimalIn.f k g l) r ∧ Ev (fun k => impl_MinimalIn.f k g l) r := by
  obtain ⟨r, r1, r2, r3⟩ := minimal_both g l hlen hl
  obtain ⟨p, p1, p2⟩ := reach_any g hlen
  obtain ⟨s, s1, s3⟩ := impl_ex_ev g hlen true l hl (impl_MinimalIn.p p) (fun hS x y hx hy => by
    unfold impl_MinimalIn.p
    rw [p1 hS, w64_of (by omega) (by omega), if_pos rfl])
  have e : r = s := by
    refine Ev.uniq r3 ?_
    unfold impl_MinimalIn.f
    exact Ev.bnd p2 s3
  subst e
  refine ⟨r, ⟨r1.1, r1.2.1, r1.2.2.1, fun h => ⟨Classical.byContradiction fun hn => h (r1.2.2.2.1 hn), Classical.byContradiction fun hn => h (s1.2.2.2.2.2 hn)⟩, r1.2.2.2.2⟩, r2, r3⟩
/-- Under each number of a finite list lies a least one. -/
theorem min_below (g l : List Int) (hp : ∀ x ∈ g, 1 ≤ x) : ∀ (n : Nat) (x : Int), x ∈ l → (∀ z ∈ l, x - z ≤ (n : Int)) → ∃ z, z ∈ exL g true l ∧ Sums g (x - z) := by
  intro n
  induction n using Nat.strongRecOn with
  | ind n ih =>
    intro x hx hn
    by_cases h : x ∈ exL g true l
    · exact ⟨x, h, by rw [Int.sub_self]; exact Sums.zero g⟩
    · rw [exL_mem] at h
      have h : ∃ z ∈ l, x ≠ z ∧ Sums g (x - z) := by
        refine Classical.byContradiction fun hc => h ⟨hx, fun z hz => ?_⟩
        by_cases e : x = z
        · exact .inl e
        · refine .inr fun hs => hc ⟨z, hz, e, ?_⟩
          rwa [if_pos rfl] at hs
      obtain ⟨z, hz, hne, hs⟩ := h
      have h0 := hs.nonneg hp
      have hxx := hn z hz
      obtain ⟨c, hc⟩ : ∃ c : Nat, (n : Int) - (x - z) = (c : Int) := ⟨((n : Int) - (x - z)).toNat, by omega⟩
      obtain ⟨u, hu, hsu⟩ := ih c (by omega) z hz (fun v hv => by have := hn v hv; omega)
      refine ⟨u, hu, ?_⟩
      have := hs.both hsu
      rwa [show x - z + (z - u) = x - u from by omega] at this
/-! apery: AperySet of both sides -/
def isAp (g : List Int) (n r m : Nat) : Prop := (m % n = r ∧ Sums g (m : Int)) ∧ ∀ m', m' < m → ¬ (m' % n = r ∧ Sums g (m' : Int))
theorem least_nat (P : Nat → Prop) : ∀ b, P b → ∃ m, m ≤ b ∧ P m ∧ ∀ m', m' < m → ¬ P m' := by
  intro b
  induction b using Nat.strongRecOn with
  | ind b ih =>
    intro h
    by_cases hb : ∃ c, c < b ∧ P c
    · obtain ⟨c, hc, hp⟩ := hb
      obtain ⟨m, m1, m2⟩ := ih c hc hp
      exact ⟨m, by omega, m2⟩
    · exact ⟨b, Nat.le_refl _, h, fun m' hm hp => hb ⟨m', hm, hp⟩⟩
theorem ap_exists (g : List Int) (hS : SG g) (n r : Nat) (hn : 1 ≤ n ∧ n ≤ 60) (hr : r < n) : ∃ m, m ≤ 199 + n ∧ isAp g n r m := by
  have h1 := Nat.div_add_mod (200 - r + (n - 1)) n
  have h2 := Nat.mod_lt (200 - r + (n - 1)) (show 0 < n by omega)
  generalize hq : (200 - r + (n - 1)) / n = q at h1
  generalize hz : n * q = z at h1
  have hm : (r + z) % n = r := by rw [← hz, Nat.add_mul_mod_self_left, Nat.mod_eq_of_lt hr]
  obtain ⟨m, m1, m2⟩ := least_nat (fun m => m % n = r ∧ Sums g (m : Int)) (r + z) ⟨hm, hS.ends _ (by omega)⟩
  exact ⟨m, by omega, m2⟩
theorem spec_ap_l1 (g : List Int) (n r m : Nat) (hn : 1 ≤ n ∧ n ≤ 60) (hm : m ≤ 199 + n) (ha : isAp g n r m) (out : List Int) (ho : out.length ≤ 60) {R : List Int}
    (hk : Ev (fun k => spec_l6Apery.l0 k (n : Int) (tblL g 261) (out ++ [(m : Int)]) ((r + 1 : Nat) : Int)) R) (hr : r < n) :
    ∀ d t, t + d = m / n → Ev (fun k => spec_l6Apery.l1 k (n : Int) (tblL g 261) out (r : Int) ((n * t + r : Nat) : Int)) R := by
  have h1 := Nat.div_add_mod m n
  rw [ha.1.1] at h1
  have ht := tblL_length g 261
  intro d
  induction d with
  | zero =>
    intro t h
    obtain rfl : t = m / n := by omega
    rw [h1]
    refine Ev.one (fun k => by rw [spec_l6Apery.l1]) ?_
    rw [rdOf_tblL g 261 m (by omega), (elB_iff g _).2 ha.1.2, w64_succ r (by omega)]
    exact Ev.pos (by omega) (Ev.pos (by omega) (Ev.pos rfl (Ev.pos (by omega) hk)))
  | succ d ih =>
    intro t h
    have hlt : n * t + r < m := by
      have : n * (t + 1) ≤ n * (m / n) := Nat.mul_le_mul_left n (by omega)
      rw [Nat.mul_succ] at this
      omega
    have hnot : elB g ((n * t + r : Nat) : Int) = false := by
      cases hb : elB g ((n * t + r : Nat) : Int) with
      | false => rfl
      | true => exact absurd ⟨by rw [Nat.mul_add_mod, Nat.mod_eq_of_lt hr], (elB_iff g _).1 hb⟩ (ha.2 _ hlt)
    have ih := ih (t + 1) (by omega)
    rw [show n * (t + 1) + r = n * t + r + n from by rw [Nat.mul_succ]; omega] at ih
    refine Ev.one (fun k => by rw [spec_l6Apery.l1]) ?_
    rw [rdOf_tblL g 261 (n * t + r) (by omega), hnot, w64_of (x := ((n * t + r : Nat) : Int) + (n : Int)) (by omega) (by omega), show ((n * t + r : Nat) : Int) + (n : Int) = ((n * t + r + n : Nat) : Int) from by omega]
    exact Ev.pos (by omega) (Ev.pos (by omega) (Ev.neg (by decide) ih))
theorem set_mid (a b : List Int) (x v : Int) : (a ++ x :: b).set a.length v = a ++ v :: b := by simp
theorem rd_mid (a b : List Int) (x : Int) : rd (a ++ x :: b) (a.length : Int) = x := by
  rw [rd_at _ _ (by simp)]
  simp
theorem impl_ap_l1 (g : List Int) (n r m : Nat) (hn : 1 ≤ n ∧ n ≤ 60) (hm : m ≤ 199 + n) (ha : isAp g n r m) (out rest : List Int) (ho : out.length = r) {R : List Int}
    (hk : Ev (fun k => impl_AperySet.l0 k (n : Int) (out ++ (m : Int) :: rest) (tblL g (200 + n + 1)) (n : Int) ((r + 1 : Nat) : Int)) R) (hr : r < n) :
    ∀ d c, c + d = m → Ev (fun k => impl_AperySet.l1 k (n : Int) (out ++ (c : Int) :: rest) (tblL g (200 + n + 1)) (r : Int) (n : Int) (r : Int)) R := by
  have ht := tblL_length g (200 + n + 1)
  subst ho
  intro d
  induction d with
  | zero =>
    intro c h
    obtain rfl : c = m := by omega
    refine Ev.one (fun k => by rw [impl_AperySet.l1]) ?_
    rw [rd_mid, rdOf_tblL g (200 + n + 1) c (by omega), (elB_iff g _).2 ha.1.2, tmod_nat c n, ha.1.1, w64_succ out.length (by omega)]
    exact Ev.pos (by omega) (Ev.pos (by rw [List.length_append, List.length_cons]; omega) (Ev.pos (by omega) (Ev.pos (by omega) (Ev.pos rfl (Ev.neg (by omega) (Ev.pos rfl hk))))))
  | succ d ih =>
    intro c h
    have ih := ih (c + 1) (by omega)
    have hnot := ha.2 c (by omega)
    refine Ev.one (fun k => by rw [impl_AperySet.l1]) ?_
    rw [rd_mid, rdOf_tblL g (200 + n + 1) c (by omega), tmod_nat c n, w64_succ c (by omega), Int.toNat_natCast, set_mid]
    refine Ev.pos (by omega) (Ev.pos (by rw [List.length_append, List.length_cons]; omega) (Ev.pos (by omega) (Ev.pos (by omega) ?_)))
    cases hb : elB g (c : Int) with
    | false => exact Ev.neg (by decide) ih
    | true => exact Ev.pos rfl (Ev.neg (by omega) (Ev.neg (fun e => hnot ⟨by omega, (elB_iff g _).1 hb⟩) ih))
theorem apery_more (g : List Int) (hlen : g.length ≤ 1048576) (n : Int) (hn64 : n ≤ 9223372036854775807) : ∃ r, (r.length ≤ 60 ∧ (∀ x ∈ r, 0 ≤ x ∧ x ≤ 259) ∧ (r ≠ [] → (1 ≤ n ∧ n ≤ 60) ∧ SG g ∧ Sums g n ∧ ∃ A : Nat → Nat, r = ((List.range n.toNat).map fun i => (A i : Int)) ∧ ∀ i, i < n.toNat → A i ≤ 199 + n.toNat ∧ isAp g n.toNat i (A i)) ∧ (SG g → Sums g n → 1 ≤ n ∧ n ≤ 60 → r ≠ [])) ∧ Ev (fun k => spec_AperySet.f k g n) r ∧ Ev (fun k => impl_AperySet.f k g n) r := by
  obtain ⟨b, b1, b2⟩ := spec_Contains_ev g hlen n
  obtain ⟨c, c1, c2⟩ := impl_Contains_ev g hlen n hn64
  obtain rfl := bool_same b1 c1
  have w1 := spec_l1In_ev n 1 60
  have w2 := impl_within_ev n 1 60
  have out_ : Ev (fun k => impl_AperySet.j0 k n true g) [] := Ev.one (fun k => by rw [impl_AperySet.j0]) (Ev.pos rfl (Ev.now _))
  unfold spec_AperySet.f impl_AperySet.f
  by_cases hn : 1 ≤ n ∧ n ≤ 60
  rotate_left
  · rw [decide_eq_false hn] at w1 w2
    refine ⟨[], ⟨by simp, by simp, by simp, fun _ _ h => absurd h hn⟩, Ev.bnd b2 ?_, Ev.bnd w2 (Ev.neg (by decide) out_)⟩
    cases b with
    | true => exact Ev.pos rfl (Ev.bnd w1 (Ev.neg (by decide) (Ev.now _)))
    | false => exact Ev.neg (by decide) (Ev.now _)
  rw [decide_eq_true hn] at w1 w2
  cases b with
  | false => exact ⟨[], ⟨by simp, by simp, by simp, fun h1 h2 _ => absurd (b1.2 ⟨h1, h2⟩) (by decide)⟩, Ev.bnd b2 (Ev.neg (by decide) (Ev.now _)), Ev.bnd w2 (Ev.pos rfl (Ev.bnd c2 out_))⟩
  | true =>
    have hS := (b1.1 rfl).1
    obtain ⟨q, rfl⟩ : ∃ q : Nat, n = (q : Int) := ⟨n.toNat, by omega⟩
    have hq : 1 ≤ q ∧ q ≤ 60 := by omega
    have hex : ∀ r : Nat, ∃ m, r < q → m ≤ 199 + q ∧ isAp g q r m := fun r => by
      by_cases hr : r < q
      · obtain ⟨m, hm⟩ := ap_exists g hS q r hq hr
        exact ⟨m, fun _ => hm⟩
      · exact ⟨0, fun h => absurd h hr⟩
    obtain ⟨A, hA⟩ := Classical.axiomOfChoice hex
    refine ⟨(List.range q).map fun r => (A r : Int), ⟨by simp; omega, fun x hx => ?_, fun _ => ⟨hn, hS, (b1.1 rfl).2, A, rfl, hA⟩, fun _ _ _ e => ?_⟩, ?_, ?_⟩
    · obtain ⟨r, hr, rfl⟩ := List.mem_map.1 hx
      rw [List.mem_range] at hr
      have := (hA r hr).1
      omega
    · have := congrArg List.length e
      rw [List.length_map, List.length_range, List.length_nil] at this
      omega
    · refine Ev.bnd b2 (Ev.pos rfl (Ev.bnd w1 (Ev.pos rfl (Ev.bnd (a := (List.range q).map fun r => (A r : Int)) ?_ (Ev.now _)))))
      unfold spec_l6Apery.f
      refine Ev.bnd (spec_tbl_ev g 260 (fun x hx => (hS.rng x hx).1) hlen (by omega)) ?_
      have key : ∀ d r, r + d = q → Ev (fun k => spec_l6Apery.l0 k (q : Int) (tblL g 261) ((List.range r).map fun r => (A r : Int)) (r : Int)) ((List.range q).map fun r => (A r : Int)) := by
        intro d
        induction d with
        | zero =>
          intro r hr
          obtain rfl : r = q := by omega
          refine Ev.one (fun k => by rw [spec_l6Apery.l0]) ?_
          exact Ev.neg (by omega) (Ev.now _)
        | succ d ih =>
          intro r hr
          have ih := ih (r + 1) (by omega)
          rw [List.range_succ, List.map_append] at ih
          refine Ev.one (fun k => by rw [spec_l6Apery.l0]) ?_
          refine Ev.pos (by omega) ?_
          have := spec_ap_l1 g q r (A r) hq (hA r (by omega)).1 (hA r (by omega)).2 ((List.range r).map fun r => (A r : Int)) (by simp; omega) ih (by omega) (A r / q) 0 (by omega)
          rw [Nat.mul_zero, Nat.zero_add] at this
          exact this
      exact key q 0 (by omega)
    · refine Ev.bnd w2 (Ev.pos rfl (Ev.bnd c2 (Ev.one (fun k => by rw [impl_AperySet.j0]) ?_)))
      rw [Int.toNat_natCast, w64_of (x := 200 + (q : Int)) (by omega) (by omega), show (200 : Int) + (q : Int) = ((200 + q : Nat) : Int) from by omega]
      refine Ev.neg (by decide) (Ev.pos (by omega) (Ev.pos (by omega) (Ev.some (Ev.bnd (impl_table_ev g hS (200 + q) (by omega)) ?_))))
      rw [List.length_replicate]
      have key : ∀ d r, r + d = q → Ev (fun k => impl_AperySet.l0 k (q : Int) (((List.range r).map fun r => (A r : Int)) ++ List.replicate d 0) (tblL g (200 + q + 1)) (q : Int) (r : Int)) ((List.range q).map fun r => (A r : Int)) := by
        intro d
        induction d with
        | zero =>
          intro r hr
          obtain rfl : r = q := by omega
          refine Ev.one (fun k => by rw [impl_AperySet.l0]) ?_
          rw [List.replicate_zero, List.append_nil]
          exact Ev.neg (by omega) (Ev.now _)
        | succ d ih =>
          intro r hr
          have ih := ih (r + 1) (by omega)
          rw [List.range_succ, List.map_append, List.append_assoc] at ih
          refine Ev.one (fun k => by rw [impl_AperySet.l0]) ?_
          refine Ev.pos (by omega) ?_
          rw [List.replicate_succ]
          exact impl_ap_l1 g q r (A r) hq (hA r (by omega)).1 (hA r (by omega)).2 ((List.range r).map fun r => (A r : Int)) (List.replicate d 0) (by simp) ih (by omega) (A r) 0 (by omega)
      exact key q 0 (by omega)
theorem apery_both (g : List Int) (hlen : g.length ≤ 1048576) (n : Int) (hn64 : n ≤ 9223372036854775807) : ∃ r, (r.length ≤ 60 ∧ (∀ x ∈ r, 0 ≤ x ∧ x ≤ 259) ∧ (r ≠ [] → 1 ≤ n ∧ n ≤ 60)) ∧ Ev (fun k => spec_AperySet.f k g n) r ∧ Ev (fun k => impl_AperySet.f k g n) r := by
  obtain ⟨r, r1, r2, r3⟩ := apery_more g hlen n hn64
  exact ⟨r, ⟨r1.1, r1.2.1, fun h => (r1.2.2.1 h).1⟩, r2, r3⟩
theorem Sums.nmul {g : List Int} {x : Int} (hx : Sums g x) (k : Nat) : Sums g ((k : Int) * x) := by
  induction k with
  | zero => rw [show ((0 : Nat) : Int) * x = 0 from by simp]; exact Sums.zero g
  | succ k ih =>
    have h := ih.both hx
    rwa [show (k : Int) * x + x = ((k + 1 : Nat) : Int) * x from by rw [Int.natCast_add, Int.add_mul]; simp] at h
/-- What the list of least elements holds. -/
theorem apery_mem (g : List Int) (hp : ∀ x ∈ g, 1 ≤ x) (q : Nat) (h1 : 1 ≤ q) (hq : Sums g (q : Int)) (A : Nat → Nat) (hA : ∀ i, i < q → A i ≤ 199 + q ∧ isAp g q i (A i)) (w : Int) :
    w ∈ ((List.range q).map fun i => (A i : Int)) ↔ Sums g w ∧ ¬ Sums g (w - (q : Int)) := by
  rw [List.mem_map]
  constructor
  · rintro ⟨i, hi, rfl⟩
    rw [List.mem_range] at hi
    obtain ⟨_, ⟨a1, a2⟩, a3⟩ := hA i hi
    refine ⟨a2, fun h => ?_⟩
    have h0 := h.nonneg hp
    refine a3 (A i - q) (by omega) ⟨?_, by rwa [show ((A i - q : Nat) : Int) = (A i : Int) - (q : Int) from by omega]⟩
    exact (Nat.mod_eq_sub_mod (show q ≤ A i by omega)).symm.trans a1
  · rintro ⟨h2, h3⟩
    obtain ⟨m, rfl⟩ : ∃ m : Nat, w = (m : Int) := ⟨w.toNat, by have := h2.nonneg hp; omega⟩
    have hlt := Nat.mod_lt m (show 0 < q by omega)
    obtain ⟨_, ⟨a1, a2⟩, a3⟩ := hA (m % q) hlt
    refine ⟨m % q, List.mem_range.2 hlt, ?_⟩
    have hle : A (m % q) ≤ m := Classical.byContradiction fun hn => a3 m (by omega) ⟨rfl, h2⟩
    refine Classical.byContradiction fun hne => h3 ?_
    have m1 := Nat.mod_add_div m q
    have m2 := Nat.mod_add_div (A (m % q)) q
    have m3 : A (m % q) / q ≤ m / q := Nat.div_le_div_right hle
    obtain ⟨c, hc⟩ : ∃ c, m / q = A (m % q) / q + c := ⟨m / q - A (m % q) / q, by omega⟩
    rw [hc, Nat.mul_add] at m1
    rw [a1] at m2
    cases c with
    | zero => rw [Nat.mul_zero] at m1; omega
    | succ c =>
      have := a2.both (Sums.nmul hq c)
      rw [Nat.mul_succ] at m1
      rwa [show (A (m % q) : Int) + (c : Int) * (q : Int) = (m : Int) - (q : Int) from by rw [← Int.natCast_mul, Nat.mul_comm c q]; omega] at this
theorem spec_exc_l0 (l : List Int) (n : Int) (hl : l.length ≤ 1000) (hv : ∀ x ∈ l, -10000 ≤ x - n ∧ x - n ≤ 10000) : ∀ d i, i + d = l.length → Ev (fun k => spec_ExceedingOf.l0 k n ((l.take i).map (fun x => x - n) ++ l.drop i) (i : Int)) (l.map fun x => x - n) := by
  intro d
  induction d with
  | zero =>
    intro i hi
    rw [List.take_of_length_le (by omega), List.drop_eq_nil_of_le (by omega), List.append_nil]
    refine Ev.one (fun k => by rw [spec_ExceedingOf.l0]) ?_
    exact Ev.neg (by rw [List.length_map]; omega) (Ev.now _)
  | succ d ih =>
    intro i hi
    have hil : i < l.length := by omega
    have hx := hv _ (List.getElem_mem hil)
    have ih := ih (i + 1) (by omega)
    have e : ((l.take i).map fun x => x - n).length = i := by rw [List.length_map, List.length_take]; omega
    have hr : rd ((l.take i).map (fun x => x - n) ++ l[i] :: l.drop (i + 1)) (i : Int) = l[i] := by
      have := rd_mid ((l.take i).map fun x => x - n) (l.drop (i + 1)) l[i]
      rwa [e] at this
    have hs : ((l.take i).map (fun x => x - n) ++ l[i] :: l.drop (i + 1)).set i (l[i] - n) = (l.take (i + 1)).map (fun x => x - n) ++ l.drop (i + 1) := by
      have := set_mid ((l.take i).map fun x => x - n) (l.drop (i + 1)) l[i] (l[i] - n)
      rw [e] at this
      rw [this, List.take_succ_eq_append_getElem hil, List.map_append, List.append_assoc]
      rfl
    rw [List.drop_eq_getElem_cons hil]
    refine Ev.one (fun k => by rw [spec_ExceedingOf.l0]) ?_
    rw [hr, w64_succ i (by omega), w64_of (x := l[i] - n) (by omega) (by omega), Int.toNat_natCast, hs]
    exact Ev.pos (by rw [List.length_append, e, List.length_cons]; omega) (Ev.pos (by omega) ih)
theorem impl_exc_l0 (l : List Int) (n : Int) (hl : l.length ≤ 1000) (hv : ∀ x ∈ l, -10000 ≤ x - n ∧ x - n ≤ 10000) : ∀ d i, i + d = l.length → Ev (fun k => impl_ExceedingOf.l0 k n ((l.take i).map fun x => x - n) l (l.length : Int) (i : Int)) (l.map fun x => x - n) := by
  intro d
  induction d with
  | zero =>
    intro i hi
    rw [List.take_of_length_le (by omega)]
    refine Ev.one (fun k => by rw [impl_ExceedingOf.l0]) ?_
    exact Ev.neg (by omega) (Ev.now _)
  | succ d ih =>
    intro i hi
    have hil : i < l.length := by omega
    have hx := hv _ (List.getElem_mem hil)
    have ih := ih (i + 1) (by omega)
    rw [List.take_succ_eq_append_getElem hil, List.map_append, List.map_cons, List.map_nil] at ih
    refine Ev.one (fun k => by rw [impl_ExceedingOf.l0]) ?_
    rw [rd_at l i hil, w64_succ i (by omega), w64_of (x := l[i] - n) (by omega) (by omega)]
    exact Ev.pos (by omega) (Ev.pos (by omega) (Ev.pos (by omega) (Ev.pos (by rw [List.length_map, List.length_take]; omega) ih)))
theorem exceeding_both (g : List Int) (n : Int) (hlen : g.length ≤ 1048576) (hn64 : n ≤ 9223372036854775807) : ∃ r, r.length ≤ 1048576 ∧ Ev (fun k => spec_ExceedingOf.f k g n) r ∧ Ev (fun k => impl_ExceedingOf.f k g n) r := by
  obtain ⟨a, a1, a2, a3⟩ := apery_both g hlen n hn64
  obtain ⟨m, m1, m2, m3⟩ := maximal_both g a hlen (by omega)
  have hv : ∀ x ∈ m, -10000 ≤ x - n ∧ x - n ≤ 10000 := fun x hx => by
    have h1 := a1.2.1 x (m1.2.1 x hx)
    have h2 := a1.2.2 (fun e => by have := m1.2.1 x hx; rw [e] at this; cases this)
    omega
  refine ⟨m.map fun x => x - n, by rw [List.length_map]; omega, ?_, ?_⟩
  · unfold spec_ExceedingOf.f
    have h := spec_exc_l0 m n (by omega) hv m.length 0 (by omega)
    rw [List.take_zero, List.map_nil, List.nil_append, List.drop_zero] at h
    exact Ev.bnd a2 (Ev.bnd m2 h)
  · unfold impl_ExceedingOf.f
    refine Ev.bnd a3 ?_
    by_cases h0 : (a.length : Int) = 0
    · have e : m = [] := List.eq_nil_of_length_eq_zero (by omega)
      rw [e]
      exact Ev.pos h0 (Ev.now _)
    · exact Ev.neg h0 (Ev.bnd m3 (impl_exc_l0 m n (by omega) hv m.length 0 (by omega)))
/-! pfro0: PseudoFrobenius of both sides -/
noncomputable def pfB (g : List Int) (x : Int) : Bool := g.all fun y => elB g (x + y)
noncomputable def pfL (g : List Int) : List Int := (gapL g).filter (pfB g)
theorem gap_at (g : List Int) (j : Nat) (hj : j < (gapL g).length) : 0 ≤ (gapL g)[j] ∧ (gapL g)[j] < 200 := by
  have := (gapL_mem g _).1 (List.getElem_mem hj)
  omega
theorem gap_sum (g : List Int) (hS : SG g) (j : Nat) (hj : j < (gapL g).length) (y : Int) (hy : y ∈ g) (b : Bool) (hb : b = true ↔ (gapL g)[j] + y ∈ gapL g) : (!b) = elB g ((gapL g)[j] + y) := by
  have h1 := gap_at g j hj
  have h2 := hS.rng y hy
  refine elB_of ?_
  rw [Bool.not_eq_true', ← Bool.not_eq_true, hb, gapL_mem]
  constructor
  · intro h
    refine Classical.byContradiction fun hn => h ⟨by omega, ?_, hn⟩
    refine Classical.byContradiction fun h3 => hn (hS.ends _ (by omega))
  · intro h h3
    exact h3.2.2 h
theorem all_succ (g : List Int) (p : Int → Bool) (i : Nat) (hi : i < g.length) : (g.take (i + 1)).all p = ((g.take i).all p && p g[i]) := by
  rw [List.take_succ_eq_append_getElem hi, List.all_append]
  simp
theorem spec_pf_l1 (g : List Int) (hS : SG g) (acc : List Int) (j : Nat) (hj : j < (gapL g).length) (hacc : acc.length ≤ 200) {r : List Int}
    (hn : Ev (fun k => spec_PseudoFrobenius.l0 k (if pfB g (gapL g)[j] = true then acc ++ [(gapL g)[j]] else acc) (gapL g) ((j + 1 : Nat) : Int) g) r) :
    ∀ d i, i + d = g.length → Ev (fun k => spec_PseudoFrobenius.l1 k acc (gapL g) (j : Int) ((g.take i).all fun y => elB g ((gapL g)[j] + y)) (i : Int) g) r := by
  have hgl := gapL_len g
  have h200 := gap_at g j hj
  have hl2 := hS.len2
  intro d
  induction d with
  | zero =>
    intro i hi
    obtain rfl : i = g.length := by omega
    rw [List.take_length]
    refine Ev.one (fun k => by rw [spec_PseudoFrobenius.l1]) ?_
    rw [rd_at _ j hj, w64_succ j (by omega)]
    refine Ev.neg (by omega) ?_
    change Ev (fun k => if pfB g (gapL g)[j] = true then _ else _) r
    cases hb : pfB g (gapL g)[j] with
    | true =>
      rw [hb, if_pos rfl] at hn
      exact Ev.pos rfl (Ev.pos (by omega) (Ev.pos (by omega) (Ev.pos (by omega) hn)))
    | false =>
      rw [hb, if_neg (by decide)] at hn
      exact Ev.neg (by decide) hn
  | succ d ih =>
    intro i hi
    have hig : i < g.length := by omega
    have hy := hS.rng g[i] (List.getElem_mem hig)
    have ih := ih (i + 1) (by omega)
    rw [all_succ g _ i hig] at ih
    refine Ev.one (fun k => by rw [spec_PseudoFrobenius.l1]) ?_
    rw [rd_at _ j hj, rd_at g i hig, w64_succ i (by omega), w64_of (by omega) (by omega)]
    refine Ev.pos (by omega) ?_
    cases hb : (g.take i).all fun y => elB g ((gapL g)[j] + y) with
    | false =>
      rw [hb, Bool.false_and] at ih
      exact Ev.neg (by decide) ih
    | true =>
      rw [hb, Bool.true_and] at ih
      obtain ⟨b, b1, b2⟩ := spec_HasNumber_ev (gapL g) ((gapL g)[j] + g[i]) (by omega)
      rw [← gap_sum g hS j hj g[i] (List.getElem_mem hig) b b1] at ih
      exact Ev.pos rfl (Ev.pos (by omega) (Ev.pos (by omega) (Ev.pos (by omega) (Ev.bnd b2 ih))))
theorem spec_pf_l0 (g : List Int) (hS : SG g) : ∀ d j, j + d = (gapL g).length → Ev (fun k => spec_PseudoFrobenius.l0 k (((gapL g).take j).filter (pfB g)) (gapL g) (j : Int) g) (pfL g) := by
  have hgl := gapL_len g
  intro d
  induction d with
  | zero =>
    intro j hj
    rw [List.take_of_length_le (by omega)]
    refine Ev.one (fun k => by rw [spec_PseudoFrobenius.l0]) ?_
    exact Ev.neg (by omega) (Ev.now _)
  | succ d ih =>
    intro j hj
    have hjl : j < (gapL g).length := by omega
    have ih := ih (j + 1) (by omega)
    have hf := List.length_filter_le (pfB g) ((gapL g).take j)
    rw [List.length_take] at hf
    rw [List.take_succ_eq_append_getElem hjl, List.filter_append] at ih
    refine Ev.one (fun k => by rw [spec_PseudoFrobenius.l0]) ?_
    refine Ev.pos (by omega) ?_
    refine spec_pf_l1 g hS _ j hjl (by omega) ?_ g.length 0 (by omega)
    cases hb : pfB g (gapL g)[j] with
    | true => rw [List.filter_cons_of_pos hb, List.filter_nil] at ih; rw [if_pos rfl]; exact ih
    | false => rw [List.filter_cons_of_neg (by rw [hb]; decide), List.filter_nil, List.append_nil] at ih; rw [if_neg (by decide)]; exact ih
noncomputable def pfS (b : Bool) (g : List Int) : List Int := if b = true then pfL g else []
theorem pfS_len (b : Bool) (g : List Int) : (pfS b g).length ≤ 200 := by
  unfold pfS
  split
  · exact Nat.le_trans (List.length_filter_le ..) (gapL_len g)
  · simp
theorem pfS_mem (b : Bool) (g : List Int) (x : Int) (h : x ∈ pfS b g) : b = true ∧ x ∈ gapL g := by
  unfold pfS at h
  cases b with
  | true => rw [if_pos rfl] at h; exact ⟨rfl, (List.mem_filter.1 h).1⟩
  | false => rw [if_neg (by decide)] at h; cases h
theorem spec_pf_ev (g : List Int) (b : Bool) (b1 : b = true ↔ SG g) (b2 : Ev (fun k => spec_Gaps.f k g) (gapsS b g)) : Ev (fun k => spec_PseudoFrobenius.f k g) (pfS b g) := by
  unfold spec_PseudoFrobenius.f
  cases b with
  | false =>
    refine Ev.bnd b2 ?_
    refine Ev.one (fun k => by rw [spec_PseudoFrobenius.l0]) ?_
    exact Ev.neg (by simp [gapsS]) (Ev.now _)
  | true =>
    have hS := b1.1 rfl
    have e : gapsS true g = gapL g := if_pos rfl
    rw [e] at b2
    exact Ev.bnd b2 (spec_pf_l0 g hS (gapL g).length 0 (by omega))
/-! pfsums: pseudo-Frobenius numbers -/
theorem pf_iff (g : List Int) (hS : SG g) (x : Int) : x ∈ pfL g ↔ (0 ≤ x ∧ x < 200 ∧ ¬ Sums g x) ∧ ∀ y ∈ g, Sums g (x + y) := by
  unfold pfL pfB
  rw [List.mem_filter, gapL_mem, List.all_eq_true]
  exact ⟨fun h => ⟨h.1, fun y hy => (elB_iff g _).1 (h.2 y hy)⟩, fun h => ⟨h.1, fun y hy => (elB_iff g _).2 (h.2 y hy)⟩⟩
theorem pf_sums (g : List Int) (x : Int) (h : ∀ y ∈ g, Sums g (x + y)) (hp : ∀ y ∈ g, 1 ≤ y) (s : Int) (hs : Sums g s) (h0 : s ≠ 0) : Sums g (x + s) := by
  obtain ⟨y, hy, _, hc⟩ := hs.cut hp h0
  have := Sums.both (h y hy) hc
  rwa [show x + y + (s - y) = x + s from by omega] at this
/-! exceed2: the exceeding numbers are the pseudo-Frobenius ones -/
/-- A number below 0 whose sums with all are in: then 1 is in. -/
theorem neg_pf (g : List Int) (hS : SG g) (x : Int) (hx : x < 0) (h : ∀ y ∈ g, Sums g (x + y)) : x = -1 ∧ ∀ n : Int, 0 ≤ n → Sums g n := by
  have hp : ∀ y ∈ g, 1 ≤ y := fun y hy => (hS.rng y hy).1
  have hl := hS.len1
  obtain ⟨a, ha, a1, a2, am⟩ := first_of g (by omega) hS.rng
  -- a is the least positive element
  have hasc := hS.up
  have hmin : ∀ y ∈ g, (a : Int) ≤ y := fun y hy => by
    obtain ⟨j, hj, ej⟩ := List.getElem_of_mem hy
    have e0 : g[0] = (a : Int) := by rw [← ha]; exact (rd_at g 0 (by omega)).symm
    by_cases e : j = 0
    · subst e; omega
    · have := List.pairwise_iff_getElem.1 hasc 0 j (by omega) hj (by omega)
      omega
  have hpos : ∀ s, Sums g s → s ≠ 0 → (a : Int) ≤ s := fun s hs h0 => by
    obtain ⟨y, hy, hys, _⟩ := hs.cut hp h0
    have := hmin y hy
    omega
  have hxa := h _ am
  have hxa0 := hxa.nonneg hp
  have ex : x = -(a : Int) := Classical.byContradiction fun hn => by
    have := hpos _ hxa (by omega)
    omega
  -- all are multiples of a
  have hmul : ∀ (n : Nat) (s : Int), s ≤ (n : Int) → Sums g s → (a : Int) ∣ s := by
    intro n
    induction n with
    | zero => intro s hs h1; have := h1.nonneg hp; rw [show s = 0 from by omega]; exact ⟨0, by simp⟩
    | succ n ih =>
      intro s hs h1
      by_cases h0 : s = 0
      · rw [h0]; exact ⟨0, by simp⟩
      · have h2 := pf_sums g x h hp s h1 h0
        obtain ⟨c, hc⟩ := ih _ (by omega) h2
        exact ⟨c + 1, by rw [Int.mul_add, Int.mul_one, ← hc]; omega⟩
  have e1 := hmul 200 200 (by omega) (hS.ends 200 (by omega))
  have e2 := hmul 201 201 (by omega) (hS.ends 201 (by omega))
  have e3 : (a : Int) ∣ 1 := by
    obtain ⟨c, hc⟩ := e1
    obtain ⟨d, hd⟩ := e2
    exact ⟨d - c, by rw [Int.mul_sub, ← hc, ← hd]; rfl⟩
  have e4 : (a : Int) ≤ 1 := Int.le_of_dvd (by omega) e3
  have ea : (a : Int) = 1 := by omega
  refine ⟨by omega, fun n hn => ?_⟩
  obtain ⟨m, rfl⟩ : ∃ m : Nat, n = (m : Int) := ⟨n.toNat, by omega⟩
  rw [ea] at am
  have := Sums.times am m
  rwa [Int.mul_one] at this
theorem exceeding_more (g : List Int) (n : Int) (hlen : g.length ≤ 1048576) (hn64 : n ≤ 9223372036854775807) : ∃ r, (r.length ≤ 60 ∧ (r ≠ [] → SG g ∧ ((∀ m : Int, 0 ≤ m → Sums g m) → r = [-1]) ∧ ((∃ m : Int, 0 ≤ m ∧ ¬ Sums g m) → r = pfL g))) ∧ Ev (fun k => spec_ExceedingOf.f k g n) r ∧ Ev (fun k => impl_ExceedingOf.f k g n) r := by
  obtain ⟨a, a1, a2, a3⟩ := apery_more g hlen n hn64
  obtain ⟨m, m1, m2, m3⟩ := maximal_both g a hlen (by omega)
  have hv : ∀ x ∈ m, -10000 ≤ x - n ∧ x - n ≤ 10000 := fun x hx => by
    have h1 := a1.2.1 x (m1.2.1 x hx)
    have h2 := (a1.2.2.1 (fun e => by have := m1.2.1 x hx; rw [e] at this; cases this)).1
    omega
  refine ⟨m.map fun x => x - n, ⟨by rw [List.length_map]; omega, fun hne => ?_⟩, ?_, ?_⟩
  · have hane : a ≠ [] := fun e => hne (by rw [List.eq_nil_of_length_eq_zero (show m.length = 0 by have := m1.2.2.1; rw [e] at this; simpa using this)]; rfl)
    obtain ⟨hn, hS, hSn, A, rfl, hA⟩ := a1.2.2.1 hane
    have hp : ∀ y ∈ g, 1 ≤ y := fun y hy => (hS.rng y hy).1
    obtain ⟨q, rfl⟩ : ∃ q : Nat, n = (q : Int) := ⟨n.toNat, by omega⟩
    rw [Int.toNat_natCast] at hA m1 a1
    have hmem := apery_mem g hp q (by omega) hSn A hA
    have hm := m1.2.2.2.2 hS (fun x hx => by have := a1.2.1 x hx; omega)
    -- w is in m exactly if w - q is like a pseudo-Frobenius number
    have key : ∀ x : Int, x + q ∈ m ↔ ¬ Sums g x ∧ ∀ y ∈ g, Sums g (x + y) := fun x => by
      rw [hm, exL_mem]
      simp only [hmem, show (false = true) = False from by simp, if_false]
      rw [show x + (q : Int) - (q : Int) = x from by omega]
      constructor
      · rintro ⟨⟨h1, h2⟩, h3⟩
        refine ⟨h2, fun y hy => ?_⟩
        have hy1 := hp y hy
        refine Classical.byContradiction fun hc => ?_
        rcases h3 (x + q + y) ⟨h1.both (Sums.one hy), by rwa [show x + (q : Int) + y - (q : Int) = x + y from by omega]⟩ with e | e
        · omega
        · exact e (by rw [show x + (q : Int) + y - (x + (q : Int)) = y from by omega]; exact Sums.one hy)
      · rintro ⟨h2, h3⟩
        refine ⟨⟨pf_sums g x h3 hp _ hSn (by omega), h2⟩, fun z hz => ?_⟩
        by_cases e : x + (q : Int) = z
        · exact .inl e
        · refine .inr fun hs => hz.2 ?_
          have := pf_sums g x h3 hp _ hs (by omega)
          rwa [show x + (z - (x + (q : Int))) = z - (q : Int) from by omega] at this
    have hasc : asc (m.map fun x => x - (q : Int)) := by
      unfold asc
      rw [List.pairwise_map]
      exact List.Pairwise.imp (fun h => by omega) m1.1
    have kmem : ∀ x : Int, x ∈ (m.map fun x => x - (q : Int)) ↔ ¬ Sums g x ∧ ∀ y ∈ g, Sums g (x + y) := fun x => by
      rw [← key x, List.mem_map]
      constructor
      · rintro ⟨w, hw, e⟩
        rwa [show x + (q : Int) = w from by omega]
      · intro h
        exact ⟨x + q, h, by omega⟩
    refine ⟨hS, fun hall => ?_, fun ⟨s, hs0, hs1⟩ => ?_⟩
    · refine asc_uniq _ _ hasc (List.pairwise_singleton ..) (fun x => ?_)
      rw [kmem, List.mem_singleton]
      constructor
      · rintro ⟨h1, h2⟩
        have hx : x < 0 := Classical.byContradiction fun hc => h1 (hall x (by omega))
        exact (neg_pf g hS x hx h2).1
      · rintro rfl
        exact ⟨fun h => by have := h.nonneg hp; omega, fun y hy => hall _ (by have := hp y hy; omega)⟩
    · refine asc_uniq _ _ hasc (List.Pairwise.filter _ (asc_pick _ _)) (fun x => ?_)
      rw [kmem]
      show _ ↔ x ∈ pfL g
      rw [pf_iff g hS]
      constructor
      · rintro ⟨h1, h2⟩
        have hx : 0 ≤ x := Classical.byContradiction fun hc => hs1 ((neg_pf g hS x (by omega) h2).2 s hs0)
        exact ⟨⟨hx, Classical.byContradiction fun hc => h1 (hS.ends x (by omega)), h1⟩, h2⟩
      · rintro ⟨⟨_, _, h1⟩, h2⟩
        exact ⟨h1, h2⟩
  · unfold spec_ExceedingOf.f
    have h := spec_exc_l0 m n (by omega) hv m.length 0 (by omega)
    rw [List.take_zero, List.map_nil, List.nil_append, List.drop_zero] at h
    exact Ev.bnd a2 (Ev.bnd m2 h)
  · unfold impl_ExceedingOf.f
    refine Ev.bnd a3 ?_
    by_cases h0 : (a.length : Int) = 0
    · have e : m = [] := List.eq_nil_of_length_eq_zero (by omega)
      rw [e]
      exact Ev.pos h0 (Ev.now _)
    · exact Ev.neg h0 (Ev.bnd m3 (impl_exc_l0 m n (by omega) hv m.length 0 (by omega)))
theorem below_both (g : List Int) (hlen : g.length ≤ 1048576) (a b : Int) : ∃ r, Ev (fun k => spec_IsBelow.f k g a b) r ∧ Ev (fun k => impl_IsBelow.f k g a b) r := by
  obtain ⟨s, s1, s2⟩ := spec_IsSemigroup_ev g hlen
  unfold spec_IsBelow.f impl_IsBelow.f
  by_cases h : (-1000000 ≤ a ∧ a ≤ 1000000) ∧ (-1000000 ≤ b ∧ b ≤ 1000000)
  · have e1 : wrap64 (b - a) = b - a := w64_of (by omega) (by omega)
    have hin : allIn [a, b] (-1000000) 1000000 = true := by rw [allIn_iff]; simp only [List.mem_cons, List.not_mem_nil, or_false]; rintro x (rfl | rfl); exact h.1; exact h.2
    rw [e1]
    obtain ⟨c, c1, c2⟩ := impl_Contains_ev g hlen (b - a) (by omega)
    have himpl : Ev (fun k => (impl_allWithin.f k [a, b] (-1000000) 1000000).bind fun t288 => if t288 = true then (impl_Contains.f k g (b - a)).bind fun t289 => some t289 else some false) c :=
      Ev.bnd (impl_allWithin_ev _ _ _ (by simp)) (Ev.pos hin (Ev.bnd c2 (Ev.now _)))
    cases s with
    | false =>
      have : c = false := by
        cases c with
        | false => rfl
        | true => have := s1.2 (c1.1 rfl).1; cases this
      subst this
      exact ⟨false, Ev.bnd s2 (Ev.neg (by decide) (Ev.now _)), himpl⟩
    | true =>
      have hS := s1.1 rfl
      obtain ⟨d, d1, d2⟩ := spec_l3Has_ev g hS (b - a)
      obtain rfl : d = c := bool_same (p := Sums g (b - a)) (d1.trans ⟨fun e => e.1, fun e => ⟨e, by omega⟩⟩) (c1.trans ⟨fun e => e.2, fun e => ⟨hS, e⟩⟩)
      exact ⟨d, Ev.bnd s2 (Ev.pos rfl (Ev.bnd (spec_l2Small_ev a) (Ev.pos (decide_eq_true h.1) (Ev.bnd (spec_l2Small_ev b) (Ev.pos (decide_eq_true h.2) (Ev.bnd d2 (Ev.now _))))))), himpl⟩
  · refine ⟨false, ?_, Ev.bnd (impl_allWithin_ev _ _ _ (by simp)) (Ev.neg (fun e => h ?_) (Ev.now _))⟩
    · cases s with
      | false => exact Ev.bnd s2 (Ev.neg (by decide) (Ev.now _))
      | true =>
        by_cases ha : -1000000 ≤ a ∧ a ≤ 1000000
        · have hb : ¬ (-1000000 ≤ b ∧ b ≤ 1000000) := fun e => h ⟨ha, e⟩
          exact Ev.bnd s2 (Ev.pos rfl (Ev.bnd (spec_l2Small_ev a) (Ev.pos (decide_eq_true ha) (Ev.bnd (spec_l2Small_ev b) (Ev.neg (by rw [decide_eq_false hb]; decide) (Ev.now _))))))
        · exact Ev.bnd s2 (Ev.pos rfl (Ev.bnd (spec_l2Small_ev a) (Ev.neg (by rw [decide_eq_false ha]; decide) (Ev.now _))))
    · rw [allIn_iff] at e
      exact ⟨e a (by simp), e b (by simp)⟩
/-! draw2: drawn lists of small numbers -/
theorem l2Draw_l0 (b : List Int) (x4 : Int) (h4 : x4 ≤ 5) : ∀ (d q : Nat) (l : List Int) (i h : Int), q + d = 5 → l.length = q → CurOk b i → ∃ x i' h', x.length ≤ 5 ∧ CurOk b i' ∧ Ev (fun k => spec_l2Draw.l0 k l x4 (q : Int) b i h) (x, i', h') := by
  intro d
  induction d with
  | zero =>
    intro q l i h hq hl ok
    refine ⟨l, i, h, by omega, ok, Ev.one (fun k => by rw [spec_l2Draw.l0]) ?_⟩
    exact Ev.neg (by omega) (Ev.now _)
  | succ d ih =>
    intro q l i h hq hl ok
    by_cases c : (q : Int) < x4
    · obtain ⟨y, i1, h1, e1, _, k1⟩ := l1Below_ok b i h 25 ok
      have f1 : Ev (fun _ : Nat => spec_l1Below.f b i h 25) (y, i1, h1) := Ev.const e1
      obtain ⟨x, i', h', n1, n2, n3⟩ := ih (q + 1) (l ++ [wrap64 (y - 4)]) i1 h1 (by omega) (by simp; omega) k1
      refine ⟨x, i', h', n1, n2, ?_⟩
      refine Ev.one (fun k => by rw [spec_l2Draw.l0]) ?_
      refine Ev.pos c (Ev.bnd f1 ?_)
      rw [w64_succ q (by omega)]
      exact Ev.pos (show l.length < 17592186044416 by omega) n3
    · refine ⟨l, i, h, by omega, ok, Ev.one (fun k => by rw [spec_l2Draw.l0]) ?_⟩
      exact Ev.neg c (Ev.now _)
theorem l2Draw_ok (b : List Int) (i h : Int) (ok : CurOk b i) : ∃ x i' h', x.length ≤ 5 ∧ CurOk b i' ∧ Ev (fun k => spec_l2Draw.f k b i h) (x, i', h') := by
  unfold spec_l2Draw.f
  obtain ⟨y, i1, h1, e1, b1, k1⟩ := l1Below_ok b i h 6 ok
  have f1 : Ev (fun _ : Nat => spec_l1Below.f b i h 6) (y, i1, h1) := Ev.const e1
  obtain ⟨x, i', h', n1, n2, n3⟩ := l2Draw_l0 b y (by have := b1.2.1 (by omega); omega) 5 0 [] i1 h1 (by omega) rfl k1
  exact ⟨x, i', h', n1, n2, Ev.bnd f1 n3⟩
theorem l2Bent_ok (b : List Int) (i h : Int) (ok : CurOk b i) : ∃ x i' h', x.length ≤ 6 ∧ CurOk b i' ∧ Ev (fun k => spec_l2Bent.f k b i h) (x, i', h') := by
  unfold spec_l2Bent.f
  obtain ⟨x, i1, h1, hx, k1, e1⟩ := l2Draw_ok b i h ok
  obtain ⟨y, i2, h2, e2, k2⟩ := l1Once_ok b i1 h1 8 k1
  have f2 : Ev (fun _ : Nat => spec_l1Once.f b i1 h1 8) (y, i2, h2) := Ev.const e2
  cases y with
  | false => exact ⟨x, i2, h2, by omega, k2, Ev.bnd e1 (Ev.bnd f2 (Ev.neg (show ¬ false = true by decide) (Ev.now _)))⟩
  | true =>
    obtain ⟨v, i3, h3, e3, _, k3⟩ := l1PickInt_ok b i2 h2 [1000000, 1000001, (-1000001), (-9223372036854775808)] k2 (by decide)
    have f3 : Ev (fun _ : Nat => spec_l1PickInt.f b i2 h2 [1000000, 1000001, (-1000001), (-9223372036854775808)]) (v, i3, h3) := Ev.const e3
    exact ⟨x ++ [v], i3, h3, by simp; omega, k3, Ev.bnd e1 (Ev.bnd f2 (Ev.pos rfl (Ev.bnd f3 (Ev.pos (show x.length < 17592186044416 by omega) (Ev.now _)))))⟩
/-! draw6: a drawn semigroup with a number -/
theorem l6Case_ok (b : List Int) (hb : b.length ≤ 1048576) : ∃ g n, g.length ≤ 13 ∧ n ≤ 9223372036854775807 ∧ Ev (fun k => spec_l6Case.f k b) (g, n) := by
  unfold spec_l6Case.f
  obtain ⟨h0, e0, k0⟩ := l1New_ok b hb
  obtain ⟨g, i1, h1, hS, k1, e1⟩ := l3Draw_ok b 0 h0 k0
  have n1 := hS.len1; have n2 := hS.len2
  obtain ⟨y, i2, h2, e2, b2, k2⟩ := l1Below_ok b i1 h1 (g.length : Int) k1
  have b3 := b2.2.1 (by omega)
  obtain ⟨z, i3, h3, e3, _, k3⟩ := l1Below_ok b i2 h2 8 k2
  have f2 : Ev (fun _ : Nat => spec_l1Below.f b i1 h1 (g.length : Int)) (y, i2, h2) := Ev.const e2
  have f3 : Ev (fun _ : Nat => spec_l1Below.f b i2 h2 8) (z, i3, h3) := Ev.const e3
  obtain ⟨q, rfl⟩ : ∃ q : Nat, y = (q : Int) := ⟨y.toNat, by omega⟩
  have hrd : rd g (q : Int) ≤ 60 := by
    rw [rd_at g q (by omega)]
    exact (hS.rng _ (List.getElem_mem _)).2
  have go : ∀ {X : Nat → Option (List Int × Int)} {r}, Ev X r → Ev (fun k => if (0 : Int) ≤ (q : Int) then (if (q : Int) < (g.length : Int) then X k else none) else none) r := fun h => Ev.pos (by omega) (Ev.pos b3 h)
  by_cases c0 : z = 0
  · obtain ⟨v, i4, h4, e4, hv, _⟩ := l1PickInt_ok b i3 h3 [0, (-1), 61, 60, 7] k3 (by decide)
    have f4 : Ev (fun _ : Nat => spec_l1PickInt.f b i3 h3 [0, (-1), 61, 60, 7]) (v, i4, h4) := Ev.const e4
    refine ⟨g, v, by omega, ?_, Ev.bnd e0 (Ev.bnd e1 (Ev.bnd f2 (go (Ev.bnd f3 (Ev.pos c0 (Ev.bnd f4 (Ev.now _)))))))⟩
    simp only [List.mem_cons, List.not_mem_nil, or_false] at hv
    omega
  by_cases c1 : z = 1
  · obtain ⟨u, i4, h4, e4, _, _⟩ := l1Below_ok b i3 h3 6 k3
    have f4 : Ev (fun _ : Nat => spec_l1Below.f b i3 h3 6) (u, i4, h4) := Ev.const e4
    obtain ⟨v, hv, f5⟩ := spec_ElementAt_ok g (by omega) (wrap64 (1 + u))
    exact ⟨g, v, by omega, hv, Ev.bnd e0 (Ev.bnd e1 (Ev.bnd f2 (go (Ev.bnd f3 (Ev.neg c0 (Ev.pos c1 (Ev.bnd f4 (Ev.bnd f5 (Ev.now _)))))))))⟩
  by_cases c2 : z = 2
  · obtain ⟨s, i4, h4, hs, _, f4⟩ := l3Bent_ok b i3 h3 k3
    exact ⟨s, rd g (q : Int), hs, by omega, Ev.bnd e0 (Ev.bnd e1 (Ev.bnd f2 (go (Ev.bnd f3 (Ev.neg c0 (Ev.neg c1 (Ev.pos c2 (Ev.bnd f4 (Ev.now _)))))))))⟩
  · exact ⟨g, rd g (q : Int), by omega, by omega, Ev.bnd e0 (Ev.bnd e1 (Ev.bnd f2 (go (Ev.bnd f3 (Ev.neg c0 (Ev.neg c1 (Ev.neg c2 (Ev.now _))))))))⟩
end Go.Proofs.Ytkfplkdchkmgbaa.Pure
