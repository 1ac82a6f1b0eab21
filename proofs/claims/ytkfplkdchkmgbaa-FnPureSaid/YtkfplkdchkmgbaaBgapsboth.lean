/- Plain lemmas (gapsboth, reach, reach0, reachany, exi, extreme, minimalin, ideal, mIdealGens, text, draw16): no program, no memory. -/
import Derived.Test.YtkfplkdchkmgbaaC0
import Derived.Test.YtkfplkdchkmgbaaC17
import Derived.Test.YtkfplkdchkmgbaaC18
import Derived.Test.YtkfplkdchkmgbaaC2
import Derived.Test.YtkfplkdchkmgbaaC3
import Derived.Test.YtkfplkdchkmgbaaC4
import Derived.Test.YtkfplkdchkmgbaaC5
import Derived.Test.YtkfplkdchkmgbaaC6
import Derived.Test.YtkfplkdchkmgbaaBbase
import Derived.Test.YtkfplkdchkmgbaaBdrawsg
namespace Go.Proofs.Ytkfplkdchkmgbaa.Pure
open Go.RowKit Go.Proofs.Ytkfplkdchkmgbaa.C Go.Proofs.YtkfplkdchkmgbaaW.PrintWords Go.Proofs.YtkfplkdchkmgbaaW.PrintLast Go.Proofs.YtkfplkdchkmgbaaW.PrintMore
set_option linter.unusedVariables false
set_option linter.unusedSimpArgs false
/-! gapsboth: Gaps of both sides -/
theorem gaps_both (g : List Int) (hlen : g.length ≤ 1048576) : ∃ b, (b = true ↔ SG g) ∧ Ev (fun k => spec_Gaps.f k g) (gapsS b g) ∧ Ev (fun k => impl_Gaps.f k g) (gapsS b g) := by
 obtain ⟨b, b1, b2, b3⟩ := sg_both g hlen
 refine ⟨b, b1, ?_⟩
 unfold spec_Gaps.f impl_Gaps.f gapsS
 cases b with
 | false => exact ⟨Ev.bnd b2 (Ev.neg (by decide) (Ev.now _)), Ev.bnd b3 (Ev.neg (by decide) (Ev.now _))⟩
 | true =>
  have hS := b1.1 rfl
  refine ⟨Ev.bnd b2 (Ev.pos rfl (Ev.bnd (spec_l4Gaps_ev g (fun x hx => (hS.rng x hx).1) hlen) (Ev.now _))), Ev.bnd b3 (Ev.pos rfl (Ev.bnd (impl_table_ev g hS 200 (by omega)) ?_))⟩
  rw [tblL_length]
  exact impl_Gaps_l0 g hS 201 0 (by omega)
/-! reach: spec.l3Has as a test -/
theorem spec_l3Has_el (g : List Int) (hS : SG g) (n : Int) : Ev (fun k => spec_l3Has.f k g n) (elB g n) := by
 obtain ⟨b, b1, b2⟩ := spec_l3Has_ev g hS n
 rw [show b = elB g n from elB_of (b1.trans ⟨fun h => h.1, fun h => ⟨h, by omega⟩⟩)] at b2
 exact b2
/-! reach0: impl.reach -/
theorem reach_at (g : List Int) (hS : SG g) (d : Int) : impl_reach.p (tblL g 201) d = some (elB g d) := by
 unfold impl_reach.p
 have ht := tblL_length g 201
 by_cases h1 : d ≥ 200
 ·rw [if_pos h1]
  exact congrArg some ((elB_iff g d).2 (hS.ends d h1)).symm
 ·rw [if_neg h1]
  by_cases h2 : d ≥ 0
  ·obtain ⟨m, rfl⟩ : ∃ m : Nat, d = (m : Int) := ⟨d.toNat, by omega⟩
   rw [if_pos h2, if_pos (by omega), rdOf_tblL g 201 m (by omega)]
  ·rw [if_neg h2]
   refine congrArg some (elB_of ⟨(fun e => by cases e), fun e => ?_⟩)
   have := e.nonneg (fun x hx => (hS.rng x hx).1)
   omega
theorem reach_ev (g : List Int) (hlen : g.length ≤ 1048576) (hS : SG g) : Ev (fun k => impl_reach.f k g) (impl_reach.p (tblL g 201)) := by
 obtain ⟨b, b1, b2⟩ := impl_IsSemigroup_ev g hlen
 obtain rfl := b1.2 hS
 unfold impl_reach.f
 exact Ev.bnd b2 (Ev.pos rfl (Ev.bnd (impl_table_ev g hS 200 (by omega)) (Ev.now _)))
theorem reach_ap (g : List Int) (hS : SG g) (d : Int) : Ev (fun _ => apF1.f (impl_reach.p (tblL g 201)) d) (elB g d) := Ev.const (reach_at g hS d)
/-! reachany: impl.reach, whatever the list -/
theorem reach_any (g : List Int) (hlen : g.length ≤ 1048576) : ∃ p : Int → Option Bool, (SG g → ∀ d, p d = some (elB g d)) ∧ Ev (fun k => impl_reach.f k g) p := by
 obtain ⟨b, b1, b2⟩ := impl_IsSemigroup_ev g hlen
 cases b with
 | true => exact ⟨impl_reach.p (tblL g 201), fun hS d => reach_at g hS d, reach_ev g hlen (b1.1 rfl)⟩
 | false =>
  refine ⟨fun _ => some false, (fun hS => by have := b1.2 hS; cases this), ?_⟩
  unfold impl_reach.f
  exact Ev.bnd b2 (Ev.neg (by decide) (Ev.now _))
/-! exi: impl.extreme -/
noncomputable def exq (g : List Int) (dn : Bool) (x y : Int) : Bool := decide (x = y) || !elB g (if dn = true then x - y else y - x)
noncomputable def exB (g : List Int) (dn : Bool) (l : List Int) (x : Int) : Bool := l.all (exq g dn x)
noncomputable def exL (g : List Int) (dn : Bool) (l : List Int) : List Int := l.filter (exB g dn l)
theorem take_all (g : List Int) (p : Int → Bool) (i : Nat) (hi : i < g.length) : (g.take (i + 1)).all p = ((g.take i).all p && p g[i]) := by
 rw [List.take_succ_eq_append_getElem hi, List.all_append]
 simp
theorem impl_ex_l1 (g : List Int) (dn : Bool) (P : Int → Int → Option Bool) (hP : ∀ x y : Int, -1000000 ≤ x ∧ x ≤ 1000000 → -1000000 ≤ y ∧ y ≤ 1000000 → P x y = some (elB g (if dn = true then x - y else y - x)))
  (l : List Int) (hl : l.length ≤ 1048576) (hr : ∀ x ∈ l, -1000000 ≤ x ∧ x ≤ 1000000) (acc : List Int) (j : Nat) (hj : j < l.length) (hacc : acc.length ≤ 1048576) {r : List Int}
  (hn : Ev (fun k => impl_extreme.l0 k P l (if exB g dn l l[j] = true then acc ++ [l[j]] else acc) l (l.length : Int) ((j + 1 : Nat) : Int)) r) :
  ∀ d i, i + d = l.length → Ev (fun k => impl_extreme.l1 k P l acc l[j] ((l.take i).all (exq g dn l[j])) l (l.length : Int) (j : Int) l (l.length : Int) (i : Int)) r := by
 have hx := hr _ (List.getElem_mem hj)
 intro d
 induction d with
 | zero =>
  intro i hi
  obtain rfl : i = l.length := by omega
  rw [List.take_length]
  refine Ev.one (fun k => by rw [impl_extreme.l1]) ?_
  rw [w64_succ j (by omega)]
  refine Ev.neg (by omega) ?_
  change Ev (fun k => if exB g dn l l[j] = true then _ else _) r
  cases hb : exB g dn l l[j] with
  | true =>
   rw [hb, if_pos rfl] at hn
   exact Ev.pos rfl (Ev.pos (by omega) hn)
  | false =>
   rw [hb, if_neg (by decide)] at hn
   exact Ev.neg (by decide) hn
 | succ d ih =>
  intro i hi
  have hil : i < l.length := by omega
  have hy := hr _ (List.getElem_mem hil)
  have ih := ih (i + 1) (by omega)
  rw [take_all l _ i hil] at ih
  refine Ev.one (fun k => by rw [impl_extreme.l1]) ?_
  rw [rd_at l i hil, w64_succ i (by omega)]
  refine Ev.pos (by omega) (Ev.pos (by omega) (Ev.pos (by omega) ?_))
  cases hb : (l.take i).all (exq g dn l[j]) with
  | false =>
   rw [hb, Bool.false_and] at ih
   exact Ev.neg (by decide) ih
  | true =>
   rw [hb, Bool.true_and] at ih
   refine Ev.pos rfl ?_
   by_cases he : l[j] = l[i]
   ·rw [show exq g dn l[j] l[i] = true from by unfold exq; rw [decide_eq_true he]; rfl] at ih
    exact Ev.pos he ih
   ·rw [show exq g dn l[j] l[i] = !elB g (if dn = true then l[j] - l[i] else l[i] - l[j]) from by unfold exq; rw [decide_eq_false he]; rfl] at ih
    exact Ev.neg he (Ev.bnd (Ev.const (hP _ _ hx hy)) ih)
theorem impl_ex_l0 (g : List Int) (dn : Bool) (P : Int → Int → Option Bool) (hP : ∀ x y : Int, -1000000 ≤ x ∧ x ≤ 1000000 → -1000000 ≤ y ∧ y ≤ 1000000 → P x y = some (elB g (if dn = true then x - y else y - x)))
  (l : List Int) (hl : l.length ≤ 1048576) (hr : ∀ x ∈ l, -1000000 ≤ x ∧ x ≤ 1000000) :
  ∀ d j, j + d = l.length → Ev (fun k => impl_extreme.l0 k P l ((l.take j).filter (exB g dn l)) l (l.length : Int) (j : Int)) (exL g dn l) := by
 intro d
 induction d with
 | zero =>
  intro j hj
  rw [List.take_of_length_le (by omega)]
  refine Ev.one (fun k => by rw [impl_extreme.l0]) ?_
  exact Ev.neg (by omega) (Ev.now _)
 | succ d ih =>
  intro j hj
  have hjl : j < l.length := by omega
  have ih := ih (j + 1) (by omega)
  have hf := List.length_filter_le (exB g dn l) (l.take j)
  rw [List.length_take] at hf
  rw [List.take_succ_eq_append_getElem hjl, List.filter_append] at ih
  refine Ev.one (fun k => by rw [impl_extreme.l0]) ?_
  rw [rd_at l j hjl]
  refine Ev.pos (by omega) (Ev.pos (by omega) (Ev.pos (by omega) ?_))
  refine impl_ex_l1 g dn P hP l hl hr _ j hjl (by omega) ?_ l.length 0 (by omega)
  cases hb : exB g dn l l[j] with
  | true => rw [List.filter_cons_of_pos hb, List.filter_nil] at ih; rw [if_pos rfl]; exact ih
  | false => rw [List.filter_cons_of_neg (by rw [hb]; decide), List.filter_nil, List.append_nil] at ih; rw [if_neg (by decide)]; exact ih
theorem exB_same (g : List Int) (dn : Bool) (l s : List Int) (h : ∀ y, y ∈ s ↔ y ∈ l) (x : Int) : exB g dn s x = exB g dn l x := by
 unfold exB
 rw [Bool.eq_iff_iff, List.all_eq_true, List.all_eq_true]
 exact ⟨fun h1 y hy => h1 y ((h y).2 hy), fun h1 y hy => h1 y ((h y).1 hy)⟩
theorem impl_ex_ev (g : List Int) (hlen : g.length ≤ 1048576) (dn : Bool) (l : List Int) (hl : l.length ≤ 1048576) (P : Int → Int → Option Bool)
  (hP : SG g → ∀ x y : Int, -1000000 ≤ x ∧ x ≤ 1000000 → -1000000 ≤ y ∧ y ≤ 1000000 → P x y = some (elB g (if dn = true then x - y else y - x))) :
  ∃ r, (asc r ∧ (∀ y ∈ r, y ∈ l) ∧ r.length ≤ l.length ∧ (¬ SG g → r = []) ∧ (SG g → (∀ x ∈ l, -1000000 ≤ x ∧ x ≤ 1000000) → ∀ y, y ∈ r ↔ y ∈ exL g dn l) ∧ (¬ (∀ x ∈ l, -1000000 ≤ x ∧ x ≤ 1000000) → r = [])) ∧ Ev (fun k => impl_extreme.f k g l P) r := by
 obtain ⟨b, b1, b3⟩ := impl_IsSemigroup_ev g hlen
 have h2 := impl_allWithin_ev l (-1000000) 1000000 (by omega)
 have out_ : ∀ t : Bool, t = true → Ev (fun k => impl_extreme.j0 k l P t) [] := fun t ht => by
  subst ht
  exact Ev.one (fun k => by rw [impl_extreme.j0]) (Ev.pos rfl (Ev.now _))
 unfold impl_extreme.f
 cases b with
 | false => exact ⟨[], ⟨List.Pairwise.nil, by simp, by simp, fun _ => rfl, (fun hS => by have := b1.2 hS; cases this), fun _ => rfl⟩, Ev.bnd b3 (Ev.neg (by decide) (out_ _ rfl))⟩
 | true =>
  have hS := b1.1 rfl
  cases hb : allIn l (-1000000) 1000000 with
  | false =>
   rw [hb] at h2
   exact ⟨[], ⟨List.Pairwise.nil, by simp, by simp, fun _ => rfl, (fun _ hr => by rw [(allIn_iff l _ _).2 hr] at hb; cases hb), fun _ => rfl⟩, Ev.bnd b3 (Ev.pos rfl (Ev.bnd h2 (out_ _ rfl)))⟩
  | true =>
   rw [hb] at h2
   have hr := (allIn_iff l _ _).1 hb
   obtain ⟨s, s1, s3⟩ := impl_SortList_ev l (by omega)
   have hm : ∀ y, y ∈ exL g dn s ↔ y ∈ exL g dn l := fun y => by
    unfold exL
    rw [List.mem_filter, List.mem_filter, s1.2.1, exB_same g dn l s s1.2.1]
   have hle : (exL g dn s).length ≤ s.length := List.length_filter_le ..
   have hsr : ∀ x ∈ s, -1000000 ≤ x ∧ x ≤ 1000000 := fun x hx => hr x ((s1.2.1 x).1 hx)
   refine ⟨exL g dn s, ⟨s1.1.filter _, fun y hy => (s1.2.1 y).1 (List.mem_filter.1 hy).1, by omega, fun h => absurd hS h, fun _ _ y => hm y, fun h => absurd hr h⟩, Ev.bnd b3 (Ev.pos rfl (Ev.bnd h2 ?_))⟩
   refine Ev.one (fun k => by rw [impl_extreme.j0]) ?_
   exact Ev.neg (by decide) (Ev.bnd s3 (impl_ex_l0 g dn P (hP hS) s (by omega) hsr s.length 0 (by omega)))
/-! extreme: spec.l10Top, and both sides -/
theorem spec_l10All_l0 (l : List Int) (hl : l.length ≤ 1048576) : ∀ d i, i + d = l.length → Ev (fun k => spec_l10All.l0 k l (i : Int)) (allIn (l.drop i) (-1000000) 1000000) := by
 intro d
 induction d with
 | zero =>
  intro i hi
  rw [List.drop_eq_nil_of_le (by omega)]
  refine Ev.one (fun k => by rw [spec_l10All.l0]) ?_
  exact Ev.neg (by omega) (Ev.now _)
 | succ d ih =>
  intro i hi
  have hil : i < l.length := by omega
  have ih := ih (i + 1) (by omega)
  rw [List.drop_eq_getElem_cons hil]
  refine Ev.one (fun k => by rw [spec_l10All.l0]) ?_
  rw [rd_at l i hil, w64_succ i (by omega)]
  refine Ev.pos (by omega) (Ev.pos (by omega) (Ev.bnd (spec_l2Small_ev _) ?_))
  by_cases h : -1000000 ≤ l[i] ∧ l[i] ≤ 1000000
  ·rw [allIn_cons _ _ _ _ h]
   exact Ev.pos (decide_eq_true h) ih
  ·rw [allIn_cons_not _ _ _ _ h]
   exact Ev.neg (by rw [decide_eq_false h]; decide) (Ev.now _)
theorem spec_l10All_ev (l : List Int) (hl : l.length ≤ 1048576) : Ev (fun k => spec_l10All.f k l) (allIn l (-1000000) 1000000) := spec_l10All_l0 l hl l.length 0 (by omega)
theorem spec_top_l1 (g : List Int) (hS : SG g) (dn : Bool) (l : List Int) (hl : l.length ≤ 1048576) (hr : ∀ x ∈ l, -1000000 ≤ x ∧ x ≤ 1000000) (acc : List Int) (j : Nat) (hj : j < l.length) (hacc : acc.length ≤ 1048576) {r : List Int}
  (hn : Ev (fun k => spec_l10Top.l0 k l dn (if exB g dn l l[j] = true then acc ++ [l[j]] else acc) ((j + 1 : Nat) : Int) g) r) :
  ∀ d i, i + d = l.length → Ev (fun k => spec_l10Top.l1 k l dn acc (j : Int) ((l.take i).all (exq g dn l[j])) (i : Int) g) r := by
 have hx := hr _ (List.getElem_mem hj)
 intro d
 induction d with
 | zero =>
  intro i hi
  obtain rfl : i = l.length := by omega
  rw [List.take_length]
  refine Ev.one (fun k => by rw [spec_l10Top.l1]) ?_
  rw [rd_at l j hj, w64_succ j (by omega)]
  refine Ev.neg (by omega) ?_
  change Ev (fun k => if exB g dn l l[j] = true then _ else _) r
  cases hb : exB g dn l l[j] with
  | true =>
   rw [hb, if_pos rfl] at hn
   exact Ev.pos rfl (Ev.pos (by omega) (Ev.pos (by omega) (Ev.pos (by omega) hn)))
  | false =>
   rw [hb, if_neg (by decide)] at hn
   exact Ev.neg (by decide) hn
 | succ d ih =>
  intro i hi
  have hil : i < l.length := by omega
  have hy := hr _ (List.getElem_mem hil)
  have ih := ih (i + 1) (by omega)
  rw [take_all l _ i hil] at ih
  refine Ev.one (fun k => by rw [spec_l10Top.l1]) ?_
  rw [rd_at l j hj, rd_at l i hil, w64_succ i (by omega), w64_of (x := l[j] - l[i]) (by omega) (by omega), w64_of (x := l[i] - l[j]) (by omega) (by omega)]
  refine Ev.pos (by omega) (Ev.pos (by omega) (Ev.pos (by omega) (Ev.pos (by omega) ?_)))
  cases hb : (l.take i).all (exq g dn l[j]) with
  | false =>
   rw [hb, Bool.false_and] at ih
   exact Ev.neg (by decide) ih
  | true =>
   rw [hb, Bool.true_and] at ih
   refine Ev.pos rfl ?_
   by_cases he : l[j] = l[i]
   ·rw [show exq g dn l[j] l[i] = true from by unfold exq; rw [decide_eq_true he]; rfl] at ih
    exact Ev.pos he ih
   ·have e1 : exq g dn l[j] l[i] = !elB g (if dn = true then l[j] - l[i] else l[i] - l[j]) := by unfold exq; rw [decide_eq_false he]; rfl
    rw [e1] at ih
    refine Ev.neg he ?_
    cases dn with
    | true =>
     rw [if_pos rfl] at ih
     exact Ev.pos rfl (Ev.bnd (spec_l3Has_el g hS _) ih)
    | false =>
     rw [if_neg (by decide)] at ih
     refine Ev.neg (by decide) (Ev.bnd (spec_l3Has_el g hS _) ?_)
     cases hc : elB g (l[i] - l[j]) with
     | true => rw [hc] at ih; exact Ev.pos rfl ih
     | false => rw [hc] at ih; exact Ev.neg (by decide) ih
theorem spec_top_l0 (g : List Int) (hS : SG g) (dn : Bool) (l : List Int) (hl : l.length ≤ 1048576) (hr : ∀ x ∈ l, -1000000 ≤ x ∧ x ≤ 1000000) {r : List Int} (hq : Ev (fun k => spec_SortList.f k (exL g dn l)) r) :
  ∀ d j, j + d = l.length → Ev (fun k => spec_l10Top.l0 k l dn ((l.take j).filter (exB g dn l)) (j : Int) g) r := by
 intro d
 induction d with
 | zero =>
  intro j hj
  rw [List.take_of_length_le (by omega)]
  refine Ev.one (fun k => by rw [spec_l10Top.l0]) ?_
  exact Ev.neg (by omega) (Ev.bnd hq (Ev.now _))
 | succ d ih =>
  intro j hj
  have hjl : j < l.length := by omega
  have ih := ih (j + 1) (by omega)
  have hf := List.length_filter_le (exB g dn l) (l.take j)
  rw [List.length_take] at hf
  rw [List.take_succ_eq_append_getElem hjl, List.filter_append] at ih
  refine Ev.one (fun k => by rw [spec_l10Top.l0]) ?_
  refine Ev.pos (by omega) ?_
  refine spec_top_l1 g hS dn l hl hr _ j hjl (by omega) ?_ l.length 0 (by omega)
  cases hb : exB g dn l l[j] with
  | true => rw [List.filter_cons_of_pos hb, List.filter_nil] at ih; rw [if_pos rfl]; exact ih
  | false => rw [List.filter_cons_of_neg (by rw [hb]; decide), List.filter_nil, List.append_nil] at ih; rw [if_neg (by decide)]; exact ih
theorem top_both (g : List Int) (hlen : g.length ≤ 1048576) (dn : Bool) (l : List Int) (hl : l.length ≤ 1048576) (P : Int → Int → Option Bool)
  (hP : SG g → ∀ x y : Int, -1000000 ≤ x ∧ x ≤ 1000000 → -1000000 ≤ y ∧ y ≤ 1000000 → P x y = some (elB g (if dn = true then x - y else y - x))) :
  ∃ r, (asc r ∧ (∀ y ∈ r, y ∈ l) ∧ r.length ≤ l.length ∧ (¬ SG g → r = []) ∧ (SG g → (∀ x ∈ l, -1000000 ≤ x ∧ x ≤ 1000000) → ∀ y, y ∈ r ↔ y ∈ exL g dn l)) ∧ Ev (fun k => spec_l10Top.f k g l dn) r ∧ Ev (fun k => impl_extreme.f k g l P) r := by
 obtain ⟨r, r1, r3⟩ := impl_ex_ev g hlen dn l hl P hP
 refine ⟨r, ⟨r1.1, r1.2.1, r1.2.2.1, r1.2.2.2.1, r1.2.2.2.2.1⟩, ?_, r3⟩
 obtain ⟨b, b1, b2⟩ := spec_IsSemigroup_ev g hlen
 have h1 := spec_l10All_ev l hl
 have out_ : ∀ t : Bool, t = true → Ev (fun k => spec_l10Top.j0 k l dn [] t g) [] := fun t ht => by
  subst ht
  exact Ev.one (fun k => by rw [spec_l10Top.j0]) (Ev.pos rfl (Ev.now _))
 unfold spec_l10Top.f
 cases b with
 | false =>
  rw [r1.2.2.2.1 (fun hS => by have := b1.2 hS; cases this)]
  exact Ev.some (Ev.bnd b2 (Ev.neg (by decide) (out_ _ rfl)))
 | true =>
  have hS := b1.1 rfl
  cases hb : allIn l (-1000000) 1000000 with
  | false =>
   rw [hb] at h1
   rw [r1.2.2.2.2.2 (fun hr => by rw [(allIn_iff l _ _).2 hr] at hb; cases hb)]
   exact Ev.some (Ev.bnd b2 (Ev.pos rfl (Ev.bnd h1 (out_ _ rfl))))
  | true =>
   rw [hb] at h1
   have hr := (allIn_iff l _ _).1 hb
   have hle : (exL g dn l).length ≤ l.length := List.length_filter_le ..
   obtain ⟨s, s1, s2⟩ := spec_SortList_ev (exL g dn l) (by omega)
   obtain rfl := asc_uniq r s r1.1 s1.1 (fun y => (r1.2.2.2.2.1 hS hr y).trans (s1.2.1 y).symm)
   refine Ev.some (Ev.bnd b2 (Ev.pos rfl (Ev.bnd h1 ?_)))
   refine Ev.one (fun k => by rw [spec_l10Top.j0]) ?_
   exact Ev.neg (by decide) (spec_top_l0 g hS dn l hl hr s2 l.length 0 (by omega))
/-! minimalin: MinimalIn of both sides -/
theorem minimal_both (g l : List Int) (hlen : g.length ≤ 1048576) (hl : l.length ≤ 1048576) : ∃ r, (asc r ∧ (∀ y ∈ r, y ∈ l) ∧ r.length ≤ l.length ∧ (¬ SG g → r = []) ∧ (SG g → (∀ x ∈ l, -1000000 ≤ x ∧ x ≤ 1000000) → ∀ y, y ∈ r ↔ y ∈ exL g true l)) ∧ Ev (fun k => spec_MinimalIn.f k g l) r ∧ Ev (fun k => impl_MinimalIn.f k g l) r := by
 obtain ⟨p, p1, p2⟩ := reach_any g hlen
 obtain ⟨r, r1, r2, r3⟩ := top_both g hlen true l hl (impl_MinimalIn.p p) (fun hS x y hx hy => by
  unfold impl_MinimalIn.p
  rw [p1 hS, w64_of (by omega) (by omega), if_pos rfl])
 refine ⟨r, r1, ?_, ?_⟩
 ·unfold spec_MinimalIn.f
  exact Ev.bnd r2 (Ev.now _)
 ·unfold impl_MinimalIn.f
  exact Ev.bnd p2 r3
/-! ideal: lists of ideals of both sides -/
noncomputable def idealB (l : List Int) : Bool := allIn l (-200) 200 && decide ((1 : Int) ≤ (l.length : Int) ∧ (l.length : Int) ≤ 20)
theorem spec_valid_l0 (l : List Int) (hl : l.length ≤ 1048576) : ∀ d i, i + d = l.length → Ev (fun k => spec_l16Valid.l0 k l (i : Int)) (allIn (l.drop i) (-200) 200 && decide ((1 : Int) ≤ (l.length : Int) ∧ (l.length : Int) ≤ 20)) := by
 intro d
 induction d with
 | zero =>
  intro i hi
  rw [List.drop_eq_nil_of_le (by omega)]
  refine Ev.one (fun k => by rw [spec_l16Valid.l0]) ?_
  exact Ev.neg (by omega) (Ev.bnd (spec_l1In_ev _ _ _) (Ev.now _))
 | succ d ih =>
  intro i hi
  have hil : i < l.length := by omega
  have ih := ih (i + 1) (by omega)
  rw [List.drop_eq_getElem_cons hil]
  refine Ev.one (fun k => by rw [spec_l16Valid.l0]) ?_
  rw [rd_at l i hil, w64_succ i (by omega)]
  refine Ev.pos (by omega) (Ev.pos (by omega) (Ev.bnd (spec_l1In_ev _ _ _) ?_))
  by_cases h : -200 ≤ l[i] ∧ l[i] ≤ 200
  ·rw [allIn_cons _ _ _ _ h]
   exact Ev.pos (decide_eq_true h) ih
  ·rw [allIn_cons_not _ _ _ _ h]
   exact Ev.neg (by rw [decide_eq_false h]; decide) (Ev.now _)
theorem spec_valid_ev (l : List Int) (hl : l.length ≤ 1048576) : Ev (fun k => spec_l16Valid.f k l) (idealB l) := spec_valid_l0 l hl l.length 0 (by omega)
theorem impl_ideal_ev (l : List Int) (hl : l.length ≤ 1048576) : Ev (fun k => impl_idealList.f k l) (idealB l) := by
 unfold impl_idealList.f idealB
 refine Ev.bnd (impl_within_ev _ _ _) ?_
 by_cases h : (1 : Int) ≤ (l.length : Int) ∧ (l.length : Int) ≤ 20
 ·rw [decide_eq_true h, Bool.and_true]
  exact Ev.pos rfl (Ev.bnd (impl_allWithin_ev l _ _ (by omega)) (Ev.now _))
 ·rw [decide_eq_false h, Bool.and_false]
  exact Ev.neg (by decide) (Ev.now _)
theorem idealB_of (l : List Int) (h : idealB l = true) : (∀ x ∈ l, -200 ≤ x ∧ x ≤ 200) ∧ 1 ≤ l.length ∧ l.length ≤ 20 := by
 unfold idealB at h
 rw [Bool.and_eq_true, decide_eq_true_eq] at h
 exact ⟨(allIn_iff l _ _).1 h.1, by omega, by omega⟩
theorem idealgens_both (g l : List Int) (hlen : g.length ≤ 1048576) (hl : l.length ≤ 1048576) : ∃ r, r.length ≤ 1048576 ∧ Ev (fun k => spec_IdealGens.f k g l) r ∧ Ev (fun k => impl_IdealGens.f k g l) r := by
 obtain ⟨r, r1, r2, r3⟩ := minimal_both g l hlen hl
 obtain ⟨b, b1, b3⟩ := impl_IsSemigroup_ev g hlen
 have h1 := spec_valid_ev l hl
 have h2 := impl_ideal_ev l hl
 unfold spec_IdealGens.f impl_IdealGens.f
 cases hb : idealB l with
 | false =>
  rw [hb] at h1 h2
  refine ⟨[], by simp, Ev.bnd h1 (Ev.neg (by decide) (Ev.now _)), Ev.bnd b3 ?_⟩
  cases b with
  | true => exact Ev.pos rfl (Ev.bnd h2 (Ev.neg (by decide) (Ev.now _)))
  | false => exact Ev.neg (by decide) (Ev.now _)
 | true =>
  rw [hb] at h1 h2
  cases b with
  | true => exact ⟨r, by omega, Ev.bnd h1 (Ev.pos rfl (Ev.bnd r2 (Ev.now _))), Ev.bnd b3 (Ev.pos rfl (Ev.bnd h2 (Ev.pos rfl (Ev.bnd r3 (Ev.now _)))))⟩
  | false =>
   have e : r = [] := r1.2.2.2.1 (fun hS => by have := b1.2 hS; cases this)
   rw [e] at r2
   exact ⟨[], by simp, Ev.bnd h1 (Ev.pos rfl (Ev.bnd r2 (Ev.now _))), Ev.bnd b3 (Ev.neg (by decide) (Ev.now _))⟩
/-! text: a number and a list as a text -/
theorem app_size (a b : ByteArray) : (a ++ b).size = a.size + b.size := ByteArray.size_append
theorem format_l0 : ∀ (d : Nat) (x : Int) (neg : Bool) (s : ByteArray), x.natAbs < 10 ^ d → d ≤ 18 → s.size + d ≤ 30 → ∃ r : ByteArray, r.size ≤ 31 ∧ Ev (fun k => spec_FormatInt.l0 k x neg s) r := by
 intro d
 induction d with
 | zero =>
  intro x neg s hx _ hs
  have h0 : x = 0 := by rw [Nat.pow_zero] at hx; omega
  cases neg with
  | true =>
   refine ⟨(⟨#[45]⟩ : ByteArray) ++ s, ?_, Ev.one (fun k => by rw [spec_FormatInt.l0]) ?_⟩
   ·rw [app_size]; show 1 + s.size ≤ 31; omega
   ·exact Ev.pos h0 (Ev.pos rfl (Ev.pos (by omega) (Ev.now _)))
  | false =>
   refine ⟨s, by omega, Ev.one (fun k => by rw [spec_FormatInt.l0]) ?_⟩
   exact Ev.pos h0 (Ev.neg (by decide) (Ev.now _))
 | succ d ih =>
  intro x neg s hx hd hs
  by_cases h0 : x = 0
  ·cases neg with
   | true =>
    refine ⟨(⟨#[45]⟩ : ByteArray) ++ s, ?_, Ev.one (fun k => by rw [spec_FormatInt.l0]) ?_⟩
    ·rw [app_size]; show 1 + s.size ≤ 31; omega
    ·exact Ev.pos h0 (Ev.pos rfl (Ev.pos (by omega) (Ev.now _)))
   | false =>
    refine ⟨s, by omega, Ev.one (fun k => by rw [spec_FormatInt.l0]) ?_⟩
    exact Ev.pos h0 (Ev.neg (by decide) (Ev.now _))
  ·have hp : 10 ^ (d + 1) ≤ 1000000000000000000 := Nat.pow_le_pow_right (n := 10) (by omega) (show d + 1 ≤ 18 from hd)
   have e1 : (Int.tdiv x 10).natAbs = x.natAbs / 10 := by rw [Int.natAbs_tdiv]; rfl
   have e2 : x.natAbs / 10 < 10 ^ d := by rw [Nat.pow_succ] at hx; omega
   have e3 : wrap64 (Int.tdiv x 10) = Int.tdiv x 10 := w64_of (by omega) (by omega)
   by_cases hm : Int.tmod x 10 < 0
   ·obtain ⟨r, r1, r2⟩ := ih (Int.tdiv x 10) neg (strOfNums [(wrap64 (48 + (wrap64 (-(Int.tmod x 10))))) % 256] ++ s) (by omega) (by omega) (by rw [app_size, strOfNums_size]; simp only [List.length_cons, List.length_nil]; omega)
    refine ⟨r, r1, Ev.one (fun k => by rw [spec_FormatInt.l0]) ?_⟩
    rw [e3]
    refine Ev.neg h0 (Ev.pos hm (Ev.some (Ev.pos ?_ r2)))
    rw [strOfNums_size]; simp only [List.length_cons, List.length_nil]; omega
   ·obtain ⟨r, r1, r2⟩ := ih (Int.tdiv x 10) neg (strOfNums [(wrap64 (48 + (Int.tmod x 10))) % 256] ++ s) (by omega) (by omega) (by rw [app_size, strOfNums_size]; simp only [List.length_cons, List.length_nil]; omega)
    refine ⟨r, r1, Ev.one (fun k => by rw [spec_FormatInt.l0]) ?_⟩
    rw [e3]
    refine Ev.neg h0 (Ev.neg hm (Ev.some (Ev.pos ?_ r2)))
    rw [strOfNums_size]; simp only [List.length_cons, List.length_nil]; omega
theorem format_ok (x : Int) (hx : -1000000 ≤ x ∧ x ≤ 1000000) : ∃ r : ByteArray, r.size ≤ 31 ∧ Ev (fun k => spec_FormatInt.f k x) r := by
 unfold spec_FormatInt.f
 by_cases h0 : x = 0
 ·exact ⟨(⟨#[48]⟩ : ByteArray), by decide, Ev.pos h0 (Ev.now _)⟩
 ·obtain ⟨r, r1, r2⟩ := format_l0 7 x (decide (x < 0)) (⟨#[]⟩ : ByteArray) (by show x.natAbs < 10000000; omega) (by omega) (by show 0 + 7 ≤ 30; omega)
  exact ⟨r, r1, Ev.neg h0 r2⟩
theorem join_l0 (l : List ByteArray) (hl : l.length ≤ 100000) (hs : ∀ s ∈ l, s.size ≤ 31) : ∀ (d i : Nat) (acc : List Int), i + d = l.length → acc.length ≤ 32 * i → ∃ r : ByteArray, r.size ≤ 32 * l.length ∧ Ev (fun k => spec_Join.l0 k l (⟨#[44]⟩ : ByteArray) acc (i : Int)) r := by
 intro d
 induction d with
 | zero =>
  intro i acc hi ha
  refine ⟨strOfNums acc, by rw [strOfNums_size]; omega, Ev.one (fun k => by rw [spec_Join.l0]) ?_⟩
  exact Ev.neg (by omega) (Ev.now _)
 | succ d ih =>
  intro i acc hi ha
  have hil : i < l.length := by omega
  have hx : (rdOf ByteArray.empty l (i : Int)).size ≤ 31 := by
   unfold rdOf
   rw [Int.toNat_natCast, List.getD_eq_getElem?_getD, List.getElem?_eq_getElem hil, Option.getD_some]
   exact hs _ (List.getElem_mem hil)
  have c1 : (⟨#[44]⟩ : ByteArray).size = 1 := rfl
  by_cases h0 : i = 0
  ·subst h0
   obtain ⟨r, r1, r2⟩ := ih 1 (acc ++ bytesOf (rdOf ByteArray.empty l ((0 : Nat) : Int))) (by omega) (by rw [List.length_append, bytesOf_length]; omega)
   refine ⟨r, r1, Ev.one (fun k => by rw [spec_Join.l0]) ?_⟩
   rw [w64_succ 0 (by omega)]
   exact Ev.pos (by omega) (Ev.neg (by omega) (Ev.pos (by omega) (Ev.pos (by omega) r2)))
  ·obtain ⟨r, r1, r2⟩ := ih (i + 1) ((acc ++ bytesOf (⟨#[44]⟩ : ByteArray)) ++ bytesOf (rdOf ByteArray.empty l (i : Int))) (by omega) (by rw [List.length_append, List.length_append, bytesOf_length, bytesOf_length]; omega)
   refine ⟨r, r1, Ev.one (fun k => by rw [spec_Join.l0]) ?_⟩
   rw [w64_succ i (by omega)]
   exact Ev.pos (by omega) (Ev.pos (by omega) (Ev.pos (by omega) (Ev.some (Ev.pos (by omega) (Ev.pos (by rw [List.length_append, bytesOf_length]; omega) r2)))))
theorem text_l0 (l : List Int) (hl : l.length ≤ 100000) (hv : ∀ x ∈ l, -1000000 ≤ x ∧ x ≤ 1000000) : ∀ (d i : Nat) (acc : List ByteArray), i + d = l.length → acc.length = i → (∀ s ∈ acc, s.size ≤ 31) → ∃ r : ByteArray, r.size ≤ 32 * l.length ∧ Ev (fun k => spec_ListText.l0 k l acc (i : Int)) r := by
 intro d
 induction d with
 | zero =>
  intro i acc hi ha hs
  obtain ⟨r, r1, r2⟩ := join_l0 acc (by omega) hs acc.length 0 [] (by omega) (by simp)
  refine ⟨r, by omega, Ev.one (fun k => by rw [spec_ListText.l0]) ?_⟩
  exact Ev.neg (by omega) (Ev.bnd (a := r) r2 (Ev.now _))
 | succ d ih =>
  intro i acc hi ha hs
  have hil : i < l.length := by omega
  obtain ⟨s, s1, s2⟩ := format_ok l[i] (hv _ (List.getElem_mem hil))
  obtain ⟨r, r1, r2⟩ := ih (i + 1) (acc ++ [s]) (by omega) (by simp; omega) (fun t ht => by
   rcases List.mem_append.1 ht with h | h
   ·exact hs t h
   ·rw [List.mem_singleton.1 h]; exact s1)
  refine ⟨r, r1, Ev.one (fun k => by rw [spec_ListText.l0]) ?_⟩
  rw [rd_at l i hil, w64_succ i (by omega)]
  exact Ev.pos (by omega) (Ev.pos (by omega) (Ev.bnd s2 (Ev.pos (by omega) r2)))
theorem text_ok (l : List Int) (hl : l.length ≤ 100000) (hv : ∀ x ∈ l, -1000000 ≤ x ∧ x ≤ 1000000) : ∃ r : ByteArray, r.size ≤ 3200004 ∧ Ev (fun k => spec_ListText.f k l) r := by
 unfold spec_ListText.f
 by_cases h0 : l = []
 ·subst h0
  exact ⟨(⟨#[110, 111, 110, 101]⟩ : ByteArray), by decide, Ev.pos rfl (Ev.now _)⟩
 ·obtain ⟨r, r1, r2⟩ := text_l0 l hl hv l.length 0 [] (by omega) rfl (by simp)
  exact ⟨r, by omega, Ev.neg (by have := List.length_pos_iff.2 h0; omega) r2⟩
/-! draw16: drawn semigroups with lists, and how great their numbers are -/
theorem l3Bent_rng (b : List Int) (i h : Int) (ok : CurOk b i) : ∃ x i' h', (x.length ≤ 13 ∧ ∀ v ∈ x, -1000000 ≤ v ∧ v ≤ 1000000) ∧ CurOk b i' ∧ Ev (fun k => spec_l3Bent.f k b i h) (x, i', h') := by
 unfold spec_l3Bent.f
 obtain ⟨g, i1, h1, hS, k1, e1⟩ := l3Draw_ok b i h ok
 have n1 := hS.len1; have n2 := hS.len2
 have hr : ∀ v ∈ g, -1000000 ≤ v ∧ v ≤ 1000000 := fun v hv => by have := hS.rng v hv; omega
 obtain ⟨y, i2, h2, e2, b2, k2⟩ := l1Below_ok b i1 h1 12 k1
 have f2 : Ev (fun _ : Nat => spec_l1Below.f b i1 h1 12) (y, i2, h2) := Ev.const e2
 by_cases c0 : y = 0
 ·obtain ⟨v, i3, h3, e3, hv, k3⟩ := l1PickInt_ok b i2 h2 [0, 61, 12, (-3), 60] k2 (by decide)
  have f3 : Ev (fun _ : Nat => spec_l1PickInt.f b i2 h2 [0, 61, 12, (-3), 60]) (v, i3, h3) := Ev.const e3
  refine ⟨g ++ [v], i3, h3, ⟨by simp; omega, fun u hu => ?_⟩, k3, Ev.bnd e1 (Ev.bnd f2 (Ev.pos c0 (Ev.bnd f3 (Ev.pos (by show g.length < _; omega) (Ev.now _)))))⟩
  rcases List.mem_append.1 hu with h | h
  ·exact hr u h
  ·rw [List.mem_singleton.1 h]
   simp only [List.mem_cons, List.not_mem_nil, or_false] at hv
   omega
 by_cases c1 : y = 1
 ·exact ⟨g.drop 1, i2, h2, ⟨by simp; omega, fun u hu => hr u (List.mem_of_mem_drop hu)⟩, k2, Ev.bnd e1 (Ev.bnd f2 (Ev.neg c0 (Ev.pos c1 (Ev.pos (by show 1 ≤ (g.length : Int); omega) (Ev.now _)))))⟩
 by_cases c2 : y = 2
 ·obtain ⟨v, i3, h3, e3, hv, k3⟩ := l1PickInt_ok b i2 h2 [0, 59, 4] k2 (by decide)
  have f3 : Ev (fun _ : Nat => spec_l1PickInt.f b i2 h2 [0, 59, 4]) (v, i3, h3) := Ev.const e3
  refine ⟨[v, 60], i3, h3, ⟨by simp, fun u hu => ?_⟩, k3, Ev.bnd e1 (Ev.bnd f2 (Ev.neg c0 (Ev.neg c1 (Ev.pos c2 (Ev.bnd f3 (Ev.now _))))))⟩
  simp only [List.mem_cons, List.not_mem_nil, or_false] at hv hu
  omega
 ·exact ⟨g, i2, h2, ⟨by omega, hr⟩, k2, Ev.bnd e1 (Ev.bnd f2 (Ev.neg c0 (Ev.neg c1 (Ev.neg c2 (Ev.now _)))))⟩
theorem l16Draw_l0 (b : List Int) (x4 : Int) (h4 : x4 ≤ 4) : ∀ (d q : Nat) (l : List Int) (i h : Int), q + d = 4 → l.length = q → (∀ v ∈ l, -1000000 ≤ v ∧ v ≤ 1000000) → CurOk b i → ∃ x i' h', (x.length ≤ 5 ∧ ∀ v ∈ x, -1000000 ≤ v ∧ v ≤ 1000000) ∧ CurOk b i' ∧ Ev (fun k => spec_l16Draw.l0 k l x4 (q : Int) b i h) (x, i', h') := by
 have fin : ∀ (l : List Int) (i h : Int), l.length ≤ 4 → (∀ v ∈ l, -1000000 ≤ v ∧ v ≤ 1000000) → CurOk b i → ∃ x i' h', (x.length ≤ 5 ∧ ∀ v ∈ x, -1000000 ≤ v ∧ v ≤ 1000000) ∧ CurOk b i' ∧ Ev (fun _ : Nat => ((spec_l1Below.f b i h 16).bind fun bt1675 => (if bt1675.1 = 0 then (some ((([] : List Int)), bt1675.2.1, bt1675.2.2)) else (if bt1675.1 = 1 then ((spec_l1PickInt.f b bt1675.2.1 bt1675.2.2 (([200, 201, (-200), (-201)] : List Int))).bind fun bt1684 => (if l.length < 17592186044416 then (some ((l ++ [bt1684.1]), bt1684.2.1, bt1684.2.2)) else (none))) else (some (l, bt1675.2.1, bt1675.2.2)))))) (x, i', h') := fun l i h hl hv ok => by
  obtain ⟨y, i2, h2, e2, _, k2⟩ := l1Below_ok b i h 16 ok
  have f2 : Ev (fun _ : Nat => spec_l1Below.f b i h 16) (y, i2, h2) := Ev.const e2
  by_cases c0 : y = 0
  ·exact ⟨[], i2, h2, ⟨by simp, by simp⟩, k2, Ev.bnd f2 (Ev.pos c0 (Ev.now _))⟩
  by_cases c1 : y = 1
  ·obtain ⟨v, i3, h3, e3, hw, k3⟩ := l1PickInt_ok b i2 h2 [200, 201, (-200), (-201)] k2 (by decide)
   have f3 : Ev (fun _ : Nat => spec_l1PickInt.f b i2 h2 [200, 201, (-200), (-201)]) (v, i3, h3) := Ev.const e3
   refine ⟨l ++ [v], i3, h3, ⟨by simp; omega, fun u hu => ?_⟩, k3, Ev.bnd f2 (Ev.neg c0 (Ev.pos c1 (Ev.bnd f3 (Ev.pos (show l.length < 17592186044416 by omega) (Ev.now _)))))⟩
   rcases List.mem_append.1 hu with h | h
   ·exact hv u h
   ·rw [List.mem_singleton.1 h]
    simp only [List.mem_cons, List.not_mem_nil, or_false] at hw
    omega
  ·exact ⟨l, i2, h2, ⟨by omega, hv⟩, k2, Ev.bnd f2 (Ev.neg c0 (Ev.neg c1 (Ev.now _)))⟩
 intro d
 induction d with
 | zero =>
  intro q l i h hq hl hv ok
  obtain ⟨x, i', h', n1, n2, n3⟩ := fin l i h (by omega) hv ok
  refine ⟨x, i', h', n1, n2, Ev.one (fun k => by rw [spec_l16Draw.l0]) ?_⟩
  exact Ev.neg (by omega) n3
 | succ d ih =>
  intro q l i h hq hl hv ok
  by_cases c : (q : Int) < x4
  ·obtain ⟨y, i1, h1, e1, b1, k1⟩ := l1Below_ok b i h 24 ok
   have f1 : Ev (fun _ : Nat => spec_l1Below.f b i h 24) (y, i1, h1) := Ev.const e1
   have hy := b1.2.1 (by omega)
   obtain ⟨x, i', h', n1, n2, n3⟩ := ih (q + 1) (l ++ [wrap64 (y - 6)]) i1 h1 (by omega) (by simp; omega) (fun u hu => by
    rcases List.mem_append.1 hu with h | h
    ·exact hv u h
    ·rw [List.mem_singleton.1 h, w64_of (by omega) (by omega)]; omega) k1
   refine ⟨x, i', h', n1, n2, ?_⟩
   refine Ev.one (fun k => by rw [spec_l16Draw.l0]) ?_
   refine Ev.pos c (Ev.bnd f1 ?_)
   rw [w64_succ q (by omega)]
   exact Ev.pos (show l.length < 17592186044416 by omega) n3
  ·obtain ⟨x, i', h', n1, n2, n3⟩ := fin l i h (by omega) hv ok
   refine ⟨x, i', h', n1, n2, Ev.one (fun k => by rw [spec_l16Draw.l0]) ?_⟩
   exact Ev.neg c n3
theorem l16Draw_ok (b : List Int) (i h : Int) (ok : CurOk b i) : ∃ x i' h', (x.length ≤ 5 ∧ ∀ v ∈ x, -1000000 ≤ v ∧ v ≤ 1000000) ∧ CurOk b i' ∧ Ev (fun k => spec_l16Draw.f k b i h) (x, i', h') := by
 unfold spec_l16Draw.f
 obtain ⟨y, i1, h1, e1, b1, k1⟩ := l1Below_ok b i h 4 ok
 have f1 : Ev (fun _ : Nat => spec_l1Below.f b i h 4) (y, i1, h1) := Ev.const e1
 have hy := b1.2.1 (by omega)
 obtain ⟨x, i', h', n1, n2, n3⟩ := l16Draw_l0 b (wrap64 (1 + y)) (by rw [w64_of (by omega) (by omega)]; omega) 4 0 [] i1 h1 (by omega) rfl (by simp) k1
 exact ⟨x, i', h', n1, n2, Ev.bnd f1 n3⟩
theorem drawInIdeal_ok (b : List Int) (hb : b.length ≤ 1048576) : ∃ g l x, (g.length ≤ 13 ∧ ∀ v ∈ g, -1000000 ≤ v ∧ v ≤ 1000000) ∧ (l.length ≤ 5 ∧ ∀ v ∈ l, -1000000 ≤ v ∧ v ≤ 1000000) ∧ Ev (fun k => spec_DrawInIdeal.f k b) (g, l, x) := by
 unfold spec_DrawInIdeal.f
 obtain ⟨h0, e0, k0⟩ := l1New_ok b hb
 obtain ⟨g, i1, h1, hg, k1, e1⟩ := l3Bent_rng b 0 h0 k0
 obtain ⟨l, i2, h2, hl, k2, e2⟩ := l16Draw_ok b i1 h1 k1
 obtain ⟨x, i3, h3, e3, _, k3⟩ := l1Below_ok b i2 h2 50 k2
 obtain ⟨y, i4, h4, e4, _, k4⟩ := l1Below_ok b i3 h3 50 k3
 obtain ⟨v, i5, h5, e5, _, _⟩ := l1PickInt_ok b i4 h4 [wrap64 (x - 10), wrap64 (y - 10), 1000001] k4 (by simp)
 have f3 : Ev (fun _ : Nat => spec_l1Below.f b i2 h2 50) (x, i3, h3) := Ev.const e3
 have f4 : Ev (fun _ : Nat => spec_l1Below.f b i3 h3 50) (y, i4, h4) := Ev.const e4
 have f5 : Ev (fun _ : Nat => spec_l1PickInt.f b i4 h4 [wrap64 (x - 10), wrap64 (y - 10), 1000001]) (v, i5, h5) := Ev.const e5
 exact ⟨g, l, v, hg, hl, Ev.bnd e0 (Ev.bnd e1 (Ev.bnd e2 (Ev.bnd f3 (Ev.bnd f4 (Ev.bnd f5 (Ev.now _))))))⟩
end Go.Proofs.Ytkfplkdchkmgbaa.Pure
