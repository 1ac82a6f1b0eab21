/- Plain lemmas (extreme, minimalin, mini, exch, ideal, sumsof, sifted, ascpick, froblast, speccond, has15, dual, mInIdeal, idealgens2, idealsum2, canonical2, symm, plaw, draw, drawsg, draw16, draw17, idealmath): no program, no memory. -/
import Derived.Test.YtkfplkdchkmgbaaGreatC0
import Derived.Test.YtkfplkdchkmgbaaGreatC1
import Derived.Test.YtkfplkdchkmgbaaGreatC10
import Derived.Test.YtkfplkdchkmgbaaGreatC11
import Derived.Test.YtkfplkdchkmgbaaGreatC12
import Derived.Test.YtkfplkdchkmgbaaGreatC13
import Derived.Test.YtkfplkdchkmgbaaGreatC2
import Derived.Test.YtkfplkdchkmgbaaGreatC3
import Derived.Test.YtkfplkdchkmgbaaGreatC4
import Derived.Test.YtkfplkdchkmgbaaGreatC5
import Derived.Test.YtkfplkdchkmgbaaGreatC6
import Derived.Test.YtkfplkdchkmgbaaGreatC7
import Derived.Test.YtkfplkdchkmgbaaGreatC9
import Derived.Test.YtkfplkdchkmgbaaGreatBbase
namespace Go.Proofs.YtkfplkdchkmgbaaGreat.Pure
open Go.RowKit Go.Proofs.YtkfplkdchkmgbaaGreat.C Go.Proofs.YtkfplkdchkmgbaaGreatW.PrintWords Go.Proofs.YtkfplkdchkmgbaaGreatW.PrintLast Go.Proofs.YtkfplkdchkmgbaaGreatW.PrintMore
set_option linter.unusedVariables false
set_option linter.unusedSimpArgs false
/-! extreme: spec.l10Top, and both sides -/
theorem spec_l10All_l0 (l : List Int) (hl : l.length ≤ 1048576) : ∀ d i, i + d = l.length → Ev (fun k => spec_l10All.l0 k l (i : Int)) (allIn (l.drop i) (-1000000) 1000000) := by
 intro d
 induction d with
 | zero =>
  intro i hi
  rw [List.drop_eq_nil_of_le (by omega)]
  refine Ev.one (fun k => by rw [spec_l10All.l0]) ?_
  exact Ev.neg (by omega) (Ev.now _)
 | succ d ih =>
  intro i hi
  have hil : i < l.length := by omega
  have ih := ih (i + 1) (by omega)
  rw [List.drop_eq_getElem_cons hil]
  refine Ev.one (fun k => by rw [spec_l10All.l0]) ?_
  rw [rd_at l i hil, w64_succ i (by omega)]
  refine Ev.pos (by omega) (Ev.pos (by omega) (Ev.bnd (spec_l2Small_ev _) ?_))
  by_cases h : -1000000 ≤ l[i] ∧ l[i] ≤ 1000000
  ·rw [allIn_cons _ _ _ _ h]
   exact Ev.pos (decide_eq_true h) ih
  ·rw [allIn_cons_not _ _ _ _ h]
   exact Ev.neg (by rw [decide_eq_false h]; decide) (Ev.now _)
theorem spec_l10All_ev (l : List Int) (hl : l.length ≤ 1048576) : Ev (fun k => spec_l10All.f k l) (allIn l (-1000000) 1000000) := spec_l10All_l0 l hl l.length 0 (by omega)
theorem spec_top_l1 (g : List Int) (hS : SG g) (dn : Bool) (l : List Int) (hl : l.length ≤ 1048576) (hr : ∀ x ∈ l, -1000000 ≤ x ∧ x ≤ 1000000) (acc : List Int) (j : Nat) (hj : j < l.length) (hacc : acc.length ≤ 1048576) {r : List Int}
  (hn : Ev (fun k => spec_l10Top.l0 k l dn (if exB g dn l l[j] = true then acc ++ [l[j]] else acc) ((j + 1 : Nat) : Int) g) r) :
  ∀ d i, i + d = l.length → Ev (fun k => spec_l10Top.l1 k l dn acc (j : Int) ((l.take i).all (exq g dn l[j])) (i : Int) g) r := by
 have hx := hr _ (List.getElem_mem hj)
 intro d
 induction d with
 | zero =>
  intro i hi
  obtain rfl : i = l.length := by omega
  rw [List.take_length]
  refine Ev.one (fun k => by rw [spec_l10Top.l1]) ?_
  rw [rd_at l j hj, w64_succ j (by omega)]
  refine Ev.neg (by omega) ?_
  change Ev (fun k => if exB g dn l l[j] = true then _ else _) r
  cases hb : exB g dn l l[j] with
  | true =>
   rw [hb, if_pos rfl] at hn
   exact Ev.pos rfl (Ev.pos (by omega) (Ev.pos (by omega) (Ev.pos (by omega) hn)))
  | false =>
   rw [hb, if_neg (by decide)] at hn
   exact Ev.neg (by decide) hn
 | succ d ih =>
  intro i hi
  have hil : i < l.length := by omega
  have hy := hr _ (List.getElem_mem hil)
  have ih := ih (i + 1) (by omega)
  rw [take_all l _ i hil] at ih
  refine Ev.one (fun k => by rw [spec_l10Top.l1]) ?_
  rw [rd_at l j hj, rd_at l i hil, w64_succ i (by omega), w64_of (x := l[j] - l[i]) (by omega) (by omega), w64_of (x := l[i] - l[j]) (by omega) (by omega)]
  refine Ev.pos (by omega) (Ev.pos (by omega) (Ev.pos (by omega) (Ev.pos (by omega) ?_)))
  cases hb : (l.take i).all (exq g dn l[j]) with
  | false =>
   rw [hb, Bool.false_and] at ih
   exact Ev.neg (by decide) ih
  | true =>
   rw [hb, Bool.true_and] at ih
   refine Ev.pos rfl ?_
   by_cases he : l[j] = l[i]
   ·rw [show exq g dn l[j] l[i] = true from by unfold exq; rw [decide_eq_true he]; rfl] at ih
    exact Ev.pos he ih
   ·have e1 : exq g dn l[j] l[i] = !elB g (if dn = true then l[j] - l[i] else l[i] - l[j]) := by unfold exq; rw [decide_eq_false he]; rfl
    rw [e1] at ih
    refine Ev.neg he ?_
    cases dn with
    | true =>
     rw [if_pos rfl] at ih
     exact Ev.pos rfl (Ev.bnd (spec_l3Has_el g hS _) ih)
    | false =>
     rw [if_neg (by decide)] at ih
     refine Ev.neg (by decide) (Ev.bnd (spec_l3Has_el g hS _) ?_)
     cases hc : elB g (l[i] - l[j]) with
     | true => rw [hc] at ih; exact Ev.pos rfl ih
     | false => rw [hc] at ih; exact Ev.neg (by decide) ih
theorem spec_top_l0 (g : List Int) (hS : SG g) (dn : Bool) (l : List Int) (hl : l.length ≤ 1048576) (hr : ∀ x ∈ l, -1000000 ≤ x ∧ x ≤ 1000000) {r : List Int} (hq : Ev (fun k => spec_SortList.f k (exL g dn l)) r) :
  ∀ d j, j + d = l.length → Ev (fun k => spec_l10Top.l0 k l dn ((l.take j).filter (exB g dn l)) (j : Int) g) r := by
 intro d
 induction d with
 | zero =>
  intro j hj
  rw [List.take_of_length_le (by omega)]
  refine Ev.one (fun k => by rw [spec_l10Top.l0]) ?_
  exact Ev.neg (by omega) (Ev.bnd hq (Ev.now _))
 | succ d ih =>
  intro j hj
  have hjl : j < l.length := by omega
  have ih := ih (j + 1) (by omega)
  have hf := List.length_filter_le (exB g dn l) (l.take j)
  rw [List.length_take] at hf
  rw [List.take_succ_eq_append_getElem hjl, List.filter_append] at ih
  refine Ev.one (fun k => by rw [spec_l10Top.l0]) ?_
  refine Ev.pos (by omega) ?_
  refine spec_top_l1 g hS dn l hl hr _ j hjl (by omega) ?_ l.length 0 (by omega)
  cases hb : exB g dn l l[j] with
  | true => rw [List.filter_cons_of_pos hb, List.filter_nil] at ih; rw [if_pos rfl]; exact ih
  | false => rw [List.filter_cons_of_neg (by rw [hb]; decide), List.filter_nil, List.append_nil] at ih; rw [if_neg (by decide)]; exact ih
theorem top_both (g : List Int) (hlen : g.length ≤ 1048576) (dn : Bool) (l : List Int) (hl : l.length ≤ 1048576) (P : Int → Int → Option Bool)
  (hP : SG g → ∀ x y : Int, -1000000 ≤ x ∧ x ≤ 1000000 → -1000000 ≤ y ∧ y ≤ 1000000 → P x y = some (elB g (if dn = true then x - y else y - x))) :
  ∃ r, (asc r ∧ (∀ y ∈ r, y ∈ l) ∧ r.length ≤ l.length ∧ (¬ SG g → r = []) ∧ (SG g → (∀ x ∈ l, -1000000 ≤ x ∧ x ≤ 1000000) → ∀ y, y ∈ r ↔ y ∈ exL g dn l)) ∧ Ev (fun k => spec_l10Top.f k g l dn) r ∧ Ev (fun k => impl_extreme.f k g l P) r := by
 obtain ⟨r, r1, r3⟩ := impl_ex_ev g hlen dn l hl P hP
 refine ⟨r, ⟨r1.1, r1.2.1, r1.2.2.1, r1.2.2.2.1, r1.2.2.2.2.1⟩, ?_, r3⟩
 obtain ⟨b, b1, b2⟩ := spec_IsSemigroup_ev g hlen
 have h1 := spec_l10All_ev l hl
 have out_ : ∀ t : Bool, t = true → Ev (fun k => spec_l10Top.j0 k l dn [] t g) [] := fun t ht => by
  subst ht
  exact Ev.one (fun k => by rw [spec_l10Top.j0]) (Ev.pos rfl (Ev.now _))
 unfold spec_l10Top.f
 cases b with
 | false =>
  rw [r1.2.2.2.1 (fun hS => by have := b1.2 hS; cases this)]
  exact Ev.some (Ev.bnd b2 (Ev.neg (by decide) (out_ _ rfl)))
 | true =>
  have hS := b1.1 rfl
  cases hb : allIn l (-1000000) 1000000 with
  | false =>
   rw [hb] at h1
   rw [r1.2.2.2.2.2 (fun hr => by rw [(allIn_iff l _ _).2 hr] at hb; cases hb)]
   exact Ev.some (Ev.bnd b2 (Ev.pos rfl (Ev.bnd h1 (out_ _ rfl))))
  | true =>
   rw [hb] at h1
   have hr := (allIn_iff l _ _).1 hb
   have hle : (exL g dn l).length ≤ l.length := List.length_filter_le ..
   obtain ⟨s, s1, s2⟩ := spec_SortList_ev (exL g dn l) (by omega)
   obtain rfl := asc_uniq r s r1.1 s1.1 (fun y => (r1.2.2.2.2.1 hS hr y).trans (s1.2.1 y).symm)
   refine Ev.some (Ev.bnd b2 (Ev.pos rfl (Ev.bnd h1 ?_)))
   refine Ev.one (fun k => by rw [spec_l10Top.j0]) ?_
   exact Ev.neg (by decide) (spec_top_l0 g hS dn l hl hr s2 l.length 0 (by omega))
/-! minimalin: MinimalIn of both sides -/
theorem minimal_both (g l : List Int) (hlen : g.length ≤ 1048576) (hl : l.length ≤ 1048576) : ∃ r, (asc r ∧ (∀ y ∈ r, y ∈ l) ∧ r.length ≤ l.length ∧ (¬ SG g → r = []) ∧ (SG g → (∀ x ∈ l, -1000000 ≤ x ∧ x ≤ 1000000) → ∀ y, y ∈ r ↔ y ∈ exL g true l)) ∧ Ev (fun k => spec_MinimalIn.f k g l) r ∧ Ev (fun k => impl_MinimalIn.f k g l) r := by
 obtain ⟨p, p1, p2⟩ := reach_any g hlen
 obtain ⟨r, r1, r2, r3⟩ := top_both g hlen true l hl (impl_MinimalIn.p p) (fun hS x y hx hy => by
  unfold impl_MinimalIn.p
  rw [p1 hS, w64_of (by omega) (by omega), if_pos rfl])
 refine ⟨r, r1, ?_, ?_⟩
 ·unfold spec_MinimalIn.f
  exact Ev.bnd r2 (Ev.now _)
 ·unfold impl_MinimalIn.f
  exact Ev.bnd p2 r3
/-! mini: impl.MinimalIn -/
theorem impl_minimal_ev (g l : List Int) (hlen : g.length ≤ 1048576) (hl : l.length ≤ 1048576) : ∃ r, (asc r ∧ r.length ≤ l.length ∧ (SG g → (∀ x ∈ l, -1000000 ≤ x ∧ x ≤ 1000000) → ∀ y, y ∈ r ↔ y ∈ exL g true l)) ∧ Ev (fun k => impl_MinimalIn.f k g l) r := by
 obtain ⟨p, p1, p2⟩ := reach_any g hlen
 obtain ⟨r, r1, r3⟩ := impl_ex_ev g hlen true l hl (impl_MinimalIn.p p) (fun hS x y hx hy => by
  unfold impl_MinimalIn.p
  rw [p1 hS, w64_of (by omega) (by omega), if_pos rfl])
 refine ⟨r, ⟨r1.1, r1.2.2.1, r1.2.2.2.2.1⟩, ?_⟩
 unfold impl_MinimalIn.f
 exact Ev.bnd p2 r3
/-! exch: what the extreme numbers are -/
theorem exL_mem (g : List Int) (dn : Bool) (l : List Int) (y : Int) : y ∈ exL g dn l ↔ y ∈ l ∧ ∀ z ∈ l, y = z ∨ ¬ Sums g (if dn = true then y - z else z - y) := by
 unfold exL exB
 rw [List.mem_filter, List.all_eq_true]
 refine and_congr_right fun _ => ⟨fun h z hz => ?_, fun h z hz => ?_⟩
 ·have := h z hz
  unfold exq at this
  rw [Bool.or_eq_true, decide_eq_true_eq, Bool.not_eq_true', ← Bool.not_eq_true, elB_iff] at this
  exact this
 ·have := h z hz
  unfold exq
  rw [Bool.or_eq_true, decide_eq_true_eq, Bool.not_eq_true', ← Bool.not_eq_true, elB_iff]
  exact this
theorem minimal_more (g l : List Int) (hlen : g.length ≤ 1048576) (hl : l.length ≤ 1048576) : ∃ r, (asc r ∧ (∀ y ∈ r, y ∈ l) ∧ r.length ≤ l.length ∧ (r ≠ [] → SG g ∧ ∀ x ∈ l, -1000000 ≤ x ∧ x ≤ 1000000) ∧ (SG g → (∀ x ∈ l, -1000000 ≤ x ∧ x ≤ 1000000) → ∀ y, y ∈ r ↔ y ∈ exL g true l)) ∧ Ev (fun k => spec_MinimalIn.f k g l) r ∧ Ev (fun k => impl_MinimalIn.f k g l) r := by
 obtain ⟨r, r1, r2, r3⟩ := minimal_both g l hlen hl
 obtain ⟨p, p1, p2⟩ := reach_any g hlen
 obtain ⟨s, s1, s3⟩ := impl_ex_ev g hlen true l hl (impl_MinimalIn.p p) (fun hS x y hx hy => by
  unfold impl_MinimalIn.p
  rw [p1 hS, w64_of (by omega) (by omega), if_pos rfl])
 have e : r = s := by
  refine Ev.uniq r3 ?_
  unfold impl_MinimalIn.f
  exact Ev.bnd p2 s3
 subst e
 refine ⟨r, ⟨r1.1, r1.2.1, r1.2.2.1, fun h => ⟨Classical.byContradiction fun hn => h (r1.2.2.2.1 hn), Classical.byContradiction fun hn => h (s1.2.2.2.2.2 hn)⟩, r1.2.2.2.2⟩, r2, r3⟩
/-- Under each number of a finite list lies a least one. -/
theorem min_below (g l : List Int) (hp : ∀ x ∈ g, 1 ≤ x) : ∀ (n : Nat) (x : Int), x ∈ l → (∀ z ∈ l, x - z ≤ (n : Int)) → ∃ z, z ∈ exL g true l ∧ Sums g (x - z) := by
 intro n
 induction n using Nat.strongRecOn with
 | ind n ih =>
  intro x hx hn
  by_cases h : x ∈ exL g true l
  ·exact ⟨x, h, by rw [Int.sub_self]; exact Sums.zero g⟩
  ·rw [exL_mem] at h
   have h : ∃ z ∈ l, x ≠ z ∧ Sums g (x - z) := by
    refine Classical.byContradiction fun hc => h ⟨hx, fun z hz => ?_⟩
    by_cases e : x = z
    ·exact .inl e
    ·refine .inr fun hs => hc ⟨z, hz, e, ?_⟩
     rwa [if_pos rfl] at hs
   obtain ⟨z, hz, hne, hs⟩ := h
   have h0 := hs.nonneg hp
   have hxx := hn z hz
   obtain ⟨c, hc⟩ : ∃ c : Nat, (n : Int) - (x - z) = (c : Int) := ⟨((n : Int) - (x - z)).toNat, by omega⟩
   obtain ⟨u, hu, hsu⟩ := ih c (by omega) z hz (fun v hv => by have := hn v hv; omega)
   refine ⟨u, hu, ?_⟩
   have := hs.both hsu
   rwa [show x - z + (z - u) = x - u from by omega] at this
/-! ideal: lists of ideals of both sides -/
noncomputable def idealB (l : List Int) : Bool := allIn l (-200) 200 && decide ((1 : Int) ≤ (l.length : Int) ∧ (l.length : Int) ≤ 20)
theorem spec_valid_l0 (l : List Int) (hl : l.length ≤ 1048576) : ∀ d i, i + d = l.length → Ev (fun k => spec_l16Valid.l0 k l (i : Int)) (allIn (l.drop i) (-200) 200 && decide ((1 : Int) ≤ (l.length : Int) ∧ (l.length : Int) ≤ 20)) := by
 intro d
 induction d with
 | zero =>
  intro i hi
  rw [List.drop_eq_nil_of_le (by omega)]
  refine Ev.one (fun k => by rw [spec_l16Valid.l0]) ?_
  exact Ev.neg (by omega) (Ev.bnd (spec_l1In_ev _ _ _) (Ev.now _))
 | succ d ih =>
  intro i hi
  have hil : i < l.length := by omega
  have ih := ih (i + 1) (by omega)
  rw [List.drop_eq_getElem_cons hil]
  refine Ev.one (fun k => by rw [spec_l16Valid.l0]) ?_
  rw [rd_at l i hil, w64_succ i (by omega)]
  refine Ev.pos (by omega) (Ev.pos (by omega) (Ev.bnd (spec_l1In_ev _ _ _) ?_))
  by_cases h : -200 ≤ l[i] ∧ l[i] ≤ 200
  ·rw [allIn_cons _ _ _ _ h]
   exact Ev.pos (decide_eq_true h) ih
  ·rw [allIn_cons_not _ _ _ _ h]
   exact Ev.neg (by rw [decide_eq_false h]; decide) (Ev.now _)
theorem spec_valid_ev (l : List Int) (hl : l.length ≤ 1048576) : Ev (fun k => spec_l16Valid.f k l) (idealB l) := spec_valid_l0 l hl l.length 0 (by omega)
theorem impl_ideal_ev (l : List Int) (hl : l.length ≤ 1048576) : Ev (fun k => impl_idealList.f k l) (idealB l) := by
 unfold impl_idealList.f idealB
 refine Ev.bnd (impl_within_ev _ _ _) ?_
 by_cases h : (1 : Int) ≤ (l.length : Int) ∧ (l.length : Int) ≤ 20
 ·rw [decide_eq_true h, Bool.and_true]
  exact Ev.pos rfl (Ev.bnd (impl_allWithin_ev l _ _ (by omega)) (Ev.now _))
 ·rw [decide_eq_false h, Bool.and_false]
  exact Ev.neg (by decide) (Ev.now _)
theorem idealB_of (l : List Int) (h : idealB l = true) : (∀ x ∈ l, -200 ≤ x ∧ x ≤ 200) ∧ 1 ≤ l.length ∧ l.length ≤ 20 := by
 unfold idealB at h
 rw [Bool.and_eq_true, decide_eq_true_eq] at h
 exact ⟨(allIn_iff l _ _).1 h.1, by omega, by omega⟩
/-! sumsof: SumsOf of both sides, for lists that are small -/
def sumsP (a b : List Int) (i : Nat) : List Int := (a.take i).flatMap fun x => b.map fun y => x + y
theorem sumsP_succ (a b : List Int) (i : Nat) (hi : i < a.length) : sumsP a b (i + 1) = sumsP a b i ++ b.map fun y => a[i] + y := by
 unfold sumsP
 rw [List.take_succ_eq_append_getElem hi, List.flatMap_append]
 simp
theorem sumsP_len (a b : List Int) (i : Nat) : (sumsP a b i).length ≤ i * b.length := by
 induction i with
 | zero => simp [sumsP]
 | succ i ih =>
  by_cases hi : i < a.length
  ·rw [sumsP_succ a b i hi, List.length_append, List.length_map, Nat.succ_mul]
   omega
  ·have e : sumsP a b (i + 1) = sumsP a b i := by unfold sumsP; rw [List.take_of_length_le (by omega), List.take_of_length_le (by omega)]
   rw [e, Nat.succ_mul]
   omega
theorem spec_sums_l1 (a b : List Int) (ha : ∀ x ∈ a, -200 ≤ x ∧ x ≤ 200) (hb : ∀ x ∈ b, -200 ≤ x ∧ x ≤ 200) (hal : a.length ≤ 20) (hbl : b.length ≤ 20) (i : Nat) (hi : i < a.length) {r : List Int}
  (hn : Ev (fun k => spec_SumsOf.l0 k a b (sumsP a b (i + 1)) ((i + 1 : Nat) : Int)) r) :
  ∀ d j, j + d = b.length → Ev (fun k => spec_SumsOf.l1 k a b (sumsP a b i ++ (b.take j).map fun y => a[i] + y) (i : Int) (j : Int)) r := by
 have hx := ha _ (List.getElem_mem hi)
 have hsl := sumsP_len a b i
 have hm : i * b.length ≤ 20 * 20 := Nat.mul_le_mul (by omega) hbl
 intro d
 induction d with
 | zero =>
  intro j hj
  rw [List.take_of_length_le (by omega), ← sumsP_succ a b i hi]
  refine Ev.one (fun k => by rw [spec_SumsOf.l1]) ?_
  rw [w64_succ i (by omega)]
  exact Ev.neg (by omega) hn
 | succ d ih =>
  intro j hj
  have hjl : j < b.length := by omega
  have hy := hb _ (List.getElem_mem hjl)
  have ih := ih (j + 1) (by omega)
  rw [List.take_succ_eq_append_getElem hjl, List.map_append, ← List.append_assoc, List.map_cons, List.map_nil] at ih
  refine Ev.one (fun k => by rw [spec_SumsOf.l1]) ?_
  rw [rd_at a i hi, rd_at b j hjl, w64_succ j (by omega), w64_of (x := a[i] + b[j]) (by omega) (by omega)]
  exact Ev.pos (by omega) (Ev.pos (by omega) (Ev.pos (by omega) (Ev.pos (by omega) (Ev.pos (by rw [List.length_append, List.length_map, List.length_take]; omega) ih))))
theorem impl_sums_l1 (a b : List Int) (ha : ∀ x ∈ a, -200 ≤ x ∧ x ≤ 200) (hb : ∀ x ∈ b, -200 ≤ x ∧ x ≤ 200) (hal : a.length ≤ 20) (hbl : b.length ≤ 20) (i : Nat) (hi : i < a.length) {r : List Int}
  (hn : Ev (fun k => impl_SumsOf.l0 k b (sumsP a b (i + 1)) a (a.length : Int) ((i + 1 : Nat) : Int)) r) :
  ∀ d j, j + d = b.length → Ev (fun k => impl_SumsOf.l1 k b (sumsP a b i ++ (b.take j).map fun y => a[i] + y) a[i] a (a.length : Int) (i : Int) b (b.length : Int) (j : Int)) r := by
 have hx := ha _ (List.getElem_mem hi)
 have hsl := sumsP_len a b i
 have hm : i * b.length ≤ 20 * 20 := Nat.mul_le_mul (by omega) hbl
 intro d
 induction d with
 | zero =>
  intro j hj
  rw [List.take_of_length_le (by omega), ← sumsP_succ a b i hi]
  refine Ev.one (fun k => by rw [impl_SumsOf.l1]) ?_
  rw [w64_succ i (by omega)]
  exact Ev.neg (by omega) hn
 | succ d ih =>
  intro j hj
  have hjl : j < b.length := by omega
  have hy := hb _ (List.getElem_mem hjl)
  have ih := ih (j + 1) (by omega)
  rw [List.take_succ_eq_append_getElem hjl, List.map_append, ← List.append_assoc, List.map_cons, List.map_nil] at ih
  refine Ev.one (fun k => by rw [impl_SumsOf.l1]) ?_
  rw [rd_at b j hjl, w64_succ j (by omega), w64_of (x := a[i] + b[j]) (by omega) (by omega)]
  exact Ev.pos (by omega) (Ev.pos (by omega) (Ev.pos (by omega) (Ev.pos (by rw [List.length_append, List.length_map, List.length_take]; omega) ih)))
theorem spec_l2All_l0 (l : List Int) (hl : l.length ≤ 300) (hr : ∀ x ∈ l, -200 ≤ x ∧ x ≤ 200) : ∀ d i, i + d = l.length → Ev (fun k => spec_l2All.l0 k l (i : Int)) true := by
 intro d
 induction d with
 | zero =>
  intro i hi
  refine Ev.one (fun k => by rw [spec_l2All.l0]) ?_
  rw [decide_eq_true (show (l.length : Int) ≤ 300 by omega)]
  exact Ev.neg (by omega) (Ev.now _)
 | succ d ih =>
  intro i hi
  have hil : i < l.length := by omega
  have hx := hr _ (List.getElem_mem hil)
  have ih := ih (i + 1) (by omega)
  refine Ev.one (fun k => by rw [spec_l2All.l0]) ?_
  rw [rd_at l i hil, w64_succ i (by omega)]
  exact Ev.pos (by omega) (Ev.pos (by omega) (Ev.bnd (spec_l2Small_ev _) (Ev.pos (decide_eq_true (by omega)) ih)))
theorem sumsof_more (a b : List Int) (ha : ∀ x ∈ a, -200 ≤ x ∧ x ≤ 200) (hb : ∀ x ∈ b, -200 ≤ x ∧ x ≤ 200) (hal : a.length ≤ 20) (hbl : b.length ≤ 20) : ∃ r, (r.length ≤ 400 ∧ ∀ z, z ∈ r ↔ ∃ x ∈ a, ∃ y ∈ b, x + y = z) ∧ Ev (fun k => spec_SumsOf.f k a b) r ∧ Ev (fun k => impl_SumsOf.f k a b) r := by
 have hsl := sumsP_len a b a.length
 have hm : a.length * b.length ≤ 20 * 20 := Nat.mul_le_mul hal hbl
 obtain ⟨r, r1, r2, r3⟩ := sort_both (sumsP a b a.length) (by omega)
 refine ⟨r, ⟨by omega, fun z => ?_⟩, ?_, ?_⟩
 ·rw [r1.2.1]
  unfold sumsP
  simp only [List.mem_flatMap, List.mem_map, List.take_length]
 ·unfold spec_SumsOf.f spec_l2All.f
  refine Ev.some (Ev.bnd (spec_l2All_l0 a (by omega) ha a.length 0 (by omega)) (Ev.pos rfl (Ev.bnd (spec_l2All_l0 b (by omega) hb b.length 0 (by omega)) (Ev.one (fun k => by rw [spec_SumsOf.j0]) ?_))))
  refine Ev.neg (by decide) ?_
  have key : ∀ d i, i + d = a.length → Ev (fun k => spec_SumsOf.l0 k a b (sumsP a b i) (i : Int)) r := by
   intro d
   induction d with
   | zero =>
    intro i hi
    obtain rfl : i = a.length := by omega
    refine Ev.one (fun k => by rw [spec_SumsOf.l0]) ?_
    exact Ev.neg (by omega) (Ev.bnd r2 (Ev.now _))
   | succ d ih =>
    intro i hi
    refine Ev.one (fun k => by rw [spec_SumsOf.l0]) ?_
    refine Ev.pos (by omega) ?_
    have := spec_sums_l1 a b ha hb hal hbl i (by omega) (ih (i + 1) (by omega)) b.length 0 (by omega)
    rw [List.take_zero, List.map_nil, List.append_nil] at this
    exact this
  exact key a.length 0 (by omega)
 ·unfold impl_SumsOf.f
  have h1 := impl_allWithin_ev a (-1000000) 1000000 (by omega)
  have h2 := impl_allWithin_ev b (-1000000) 1000000 (by omega)
  rw [(allIn_iff a _ _).2 (fun x hx => by have := ha x hx; omega)] at h1
  rw [(allIn_iff b _ _).2 (fun x hx => by have := hb x hx; omega)] at h2
  refine Ev.bnd h1 (Ev.pos rfl (Ev.bnd h2 (Ev.pos rfl (Ev.neg (by omega) ?_))))
  rw [decide_eq_false (show ¬ (b.length : Int) > 300 by omega)]
  refine Ev.one (fun k => by rw [impl_SumsOf.j0]) ?_
  refine Ev.neg (by decide) ?_
  have key : ∀ d i, i + d = a.length → Ev (fun k => impl_SumsOf.l0 k b (sumsP a b i) a (a.length : Int) (i : Int)) r := by
   intro d
   induction d with
   | zero =>
    intro i hi
    obtain rfl : i = a.length := by omega
    refine Ev.one (fun k => by rw [impl_SumsOf.l0]) ?_
    exact Ev.neg (by omega) (Ev.bnd r3 (Ev.now _))
   | succ d ih =>
    intro i hi
    refine Ev.one (fun k => by rw [impl_SumsOf.l0]) ?_
    rw [rd_at a i (by omega)]
    refine Ev.pos (by omega) (Ev.pos (by omega) (Ev.pos (by omega) ?_))
    have := impl_sums_l1 a b ha hb hal hbl i (by omega) (ih (i + 1) (by omega)) b.length 0 (by omega)
    rw [List.take_zero, List.map_nil, List.append_nil] at this
    exact this
  exact key a.length 0 (by omega)
theorem sumsof_both (a b : List Int) (ha : ∀ x ∈ a, -200 ≤ x ∧ x ≤ 200) (hb : ∀ x ∈ b, -200 ≤ x ∧ x ≤ 200) (hal : a.length ≤ 20) (hbl : b.length ≤ 20) : ∃ r, r.length ≤ 400 ∧ Ev (fun k => spec_SumsOf.f k a b) r ∧ Ev (fun k => impl_SumsOf.f k a b) r := by
 obtain ⟨r, r1, r2, r3⟩ := sumsof_more a b ha hb hal hbl
 exact ⟨r, r1.1, r2, r3⟩
/-! sifted: impl.sifted -/
theorem sifted_l0 (g : List Int) (P : Int → Option Bool) (q : Int → Bool) (hP : ∀ x, P x = some (q x)) (low : Int) (n : Nat) (hl0 : -2000 ≤ low ∧ low ≤ 2000) (hn : n ≤ 3000) {r : List Int}
  (hr : Ev (fun k => impl_MinimalIn.f k g (pick (fun i => q (low + (i : Int))) (fun i => low + (i : Int)) n)) r) :
  ∀ d i, i + d = n → Ev (fun k => impl_sifted.l0 k (low + (n : Int) - 1) P (pick (fun i => q (low + (i : Int))) (fun i => low + (i : Int)) i) (low + (i : Int)) g) r := by
 intro d
 induction d with
 | zero =>
  intro i hi
  obtain rfl : i = n := by omega
  refine Ev.one (fun k => by rw [impl_sifted.l0]) ?_
  exact Ev.neg (by omega) (Ev.bnd hr (Ev.now _))
 | succ d ih =>
  intro i hi
  have ih := ih (i + 1) (by omega)
  have hl := pick_len (fun i => q (low + (i : Int))) (fun i : Nat => low + (i : Int)) i
  refine Ev.one (fun k => by rw [impl_sifted.l0]) ?_
  rw [w64_of (x := low + (i : Int) + 1) (by omega) (by omega), show low + (i : Int) + 1 = low + ((i + 1 : Nat) : Int) from by omega]
  refine Ev.pos (by omega) (Ev.bnd (Ev.const (hP _)) ?_)
  cases hb : q (low + (i : Int)) with
  | true =>
   rw [pick_pos _ _ i hb] at ih
   exact Ev.pos rfl (Ev.pos (by omega) ih)
  | false =>
   rw [pick_neg _ _ i hb] at ih
   exact Ev.neg (by decide) ih
theorem pick_mem (q : Int → Bool) (low : Int) (n : Nat) (x : Int) : x ∈ pick (fun i => q (low + (i : Int))) (fun i => low + (i : Int)) n ↔ low ≤ x ∧ x < low + (n : Int) ∧ q x = true := by
 unfold pick
 rw [List.mem_map]
 constructor
 ·rintro ⟨i, hi, rfl⟩
  rw [List.mem_filter, List.mem_range] at hi
  exact ⟨by omega, by omega, hi.2⟩
 ·rintro ⟨h0, h1, h2⟩
  refine ⟨(x - low).toNat, ?_, by omega⟩
  rw [List.mem_filter, List.mem_range, show low + (((x - low).toNat : Nat) : Int) = x from by omega]
  exact ⟨by omega, h2⟩
theorem sifted_ev (g : List Int) (hlen : g.length ≤ 1048576) (hS : SG g) (P : Int → Option Bool) (q : Int → Bool) (hP : ∀ x, P x = some (q x)) (low high : Int) (hl0 : -1000 ≤ low ∧ low ≤ 1000) (hh : low - 1 ≤ high ∧ high ≤ 1000) :
  ∃ r, (asc r ∧ ∀ y, y ∈ r ↔ (low ≤ y ∧ y ≤ high ∧ q y = true) ∧ ∀ z, low ≤ z ∧ z ≤ high ∧ q z = true → y = z ∨ ¬ Sums g (y - z)) ∧ r.length ≤ 1048576 ∧ Ev (fun k => impl_sifted.f k g low high P) r := by
 obtain ⟨n, hn⟩ : ∃ n : Nat, high = low + (n : Int) - 1 := ⟨(high - low + 1).toNat, by omega⟩
 subst hn
 have hpl := pick_len (fun i => q (low + (i : Int))) (fun i : Nat => low + (i : Int)) n
 have hm := pick_mem q low n
 have hchar : ∀ l : List Int, (∀ y, y ∈ l ↔ low ≤ y ∧ y < low + (n : Int) ∧ q y = true) → ∀ y, y ∈ exL g true l ↔ (low ≤ y ∧ y ≤ low + (n : Int) - 1 ∧ q y = true) ∧ ∀ z, low ≤ z ∧ z ≤ low + (n : Int) - 1 ∧ q z = true → y = z ∨ ¬ Sums g (y - z) := fun l hl y => by
  unfold exL exB
  rw [List.mem_filter, List.all_eq_true, hl]
  constructor
  ·rintro ⟨h1, h2⟩
   refine ⟨⟨h1.1, by omega, h1.2.2⟩, fun z hz => ?_⟩
   have := h2 z ((hl z).2 ⟨hz.1, by omega, hz.2.2⟩)
   unfold exq at this
   rw [if_pos rfl, Bool.or_eq_true, decide_eq_true_eq, Bool.not_eq_true', ← Bool.not_eq_true, elB_iff] at this
   exact this
  ·rintro ⟨h1, h2⟩
   refine ⟨⟨h1.1, by omega, h1.2.2⟩, fun z hz => ?_⟩
   have hz := (hl z).1 hz
   have := h2 z ⟨hz.1, by omega, hz.2.2⟩
   unfold exq
   rw [if_pos rfl, Bool.or_eq_true, decide_eq_true_eq, Bool.not_eq_true', ← Bool.not_eq_true, elB_iff]
   exact this
 obtain ⟨r, r1, r3⟩ := impl_minimal_ev g (pick (fun i => q (low + (i : Int))) (fun i => low + (i : Int)) n) hlen (by omega)
 have hrm := r1.2.2 hS (fun x hx => by have := (hm x).1 hx; omega)
 refine ⟨r, ⟨r1.1, fun y => (hrm y).trans (hchar _ hm y)⟩, by omega, ?_⟩
 ·unfold impl_sifted.f
  have := sifted_l0 g P q hP low n (by omega) (by omega) r3 n 0 (by omega)
  rw [show low + ((0 : Nat) : Int) = low from by omega] at this
  exact this
/-! ascpick: what is picked in order ascends -/
theorem asc_pick (p : Nat → Bool) (n : Nat) : asc (pick p (fun n => (n : Int)) n) := by
 unfold asc pick
 rw [List.pairwise_map]
 refine List.Pairwise.imp (R := fun a b : Nat => a < b) (fun h => by omega) (List.Pairwise.filter _ ?_)
 exact List.pairwise_lt_range
/-! froblast: the last gap -/
theorem frob_last (g : List Int) (hS : SG g) : (gapL g = [] ∧ lastS (gapL g) = -1) ∨ (1 ≤ lastS (gapL g) ∧ lastS (gapL g) ≤ 199 ∧ ¬ Sums g (lastS (gapL g)) ∧ ∀ x, lastS (gapL g) < x → Sums g x) := by
 have hp : ∀ x ∈ g, 1 ≤ x := fun x hx => (hS.rng x hx).1
 unfold lastS
 by_cases h : (gapL g).length = 0
 ·exact .inl ⟨List.eq_nil_of_length_eq_zero h, by rw [if_pos h]⟩
 ·refine .inr ?_
  rw [if_neg h, rd_at _ _ (by omega)]
  have h1 := (gapL_mem g _).1 (List.getElem_mem (show (gapL g).length - 1 < (gapL g).length by omega))
  refine ⟨?_, by omega, h1.2.2, fun x hx => ?_⟩
  ·refine Classical.byContradiction fun hn => h1.2.2 ?_
   rw [show (gapL g)[(gapL g).length - 1] = 0 from by omega]
   exact Sums.zero g
  ·refine Classical.byContradiction fun hn => ?_
   have h2 : x < 200 := Classical.byContradiction fun h3 => hn (hS.ends x (by omega))
   have h3 := (gapL_mem g x).2 ⟨by omega, h2, hn⟩
   obtain ⟨j, hj, ej⟩ := List.getElem_of_mem h3
   have ha : asc (gapL g) := asc_pick _ _
   by_cases e : j = (gapL g).length - 1
   ·subst e; omega
   ·have := List.pairwise_iff_getElem.1 ha j ((gapL g).length - 1) hj (by omega) (by omega)
    omega
theorem cond_all (g : List Int) (hS : SG g) : ∀ x, lastS (gapL g) < x → Sums g x := by
 intro x hx
 rcases frob_last g hS with ⟨h0, h1⟩ | h
 ·refine Classical.byContradiction fun hn => ?_
  have h5 : x < 200 := Classical.byContradiction fun h6 => hn (hS.ends x (by omega))
  have := (gapL_mem g x).2 ⟨by omega, h5, hn⟩
  rw [h0] at this
  cases this
 ·exact h.2.2.2 x hx
/-! speccond: spec.ConductorOf -/
theorem spec_cond_ev (g : List Int) (hlen : g.length ≤ 1048576) (hS : SG g) (b2 : Ev (fun k => spec_IsSemigroup.f k g) true) : Ev (fun k => spec_ConductorOf.f k g) (lastS (gapL g) + 1) := by
 have hl := gapL_len g
 have hb := lastS_gaps true g
 rw [show gapsS true g = gapL g from if_pos rfl] at hb
 have e1 : wrap64 (lastS (gapL g) + 1) = lastS (gapL g) + 1 := w64_of (by omega) (by omega)
 have h1 : Ev (fun k => spec_Gaps.f k g) (gapL g) := by
  unfold spec_Gaps.f
  exact Ev.bnd b2 (Ev.pos rfl (Ev.bnd (spec_l4Gaps_ev g (fun x hx => (hS.rng x hx).1) hlen) (Ev.now _)))
 have h2 : Ev (fun k => spec_FrobeniusOf.f k g) (lastS (gapL g)) := by
  unfold spec_FrobeniusOf.f lastS
  by_cases h : (gapL g).length = 0
  ·rw [if_pos h]
   exact Ev.bnd h1 (Ev.pos (by omega) (Ev.now _))
  ·rw [if_neg h]
   have e2 : wrap64 (((gapL g).length : Int) - 1) = (((gapL g).length - 1 : Nat) : Int) := by rw [w64_of (by omega) (by omega)]; omega
   refine Ev.bnd h1 (Ev.neg (by omega) ?_)
   rw [e2]
   exact Ev.pos (by omega) (Ev.pos (by omega) (Ev.now _))
 unfold spec_ConductorOf.f
 refine Ev.bnd h2 ?_
 rw [e1]
 exact Ev.now _
/-! has15: spec.l15Has -/
theorem spec_l15Has_el (g : List Int) (hS : SG g) (n : Int) : Ev (fun k => spec_l15Has.f k g n) (elB g n) := by
 unfold spec_l15Has.f
 by_cases h : n = 0
 ·rw [show elB g n = true from (elB_iff g n).2 (h ▸ Sums.zero g)]
  exact Ev.pos h (Ev.now _)
 ·exact Ev.neg h (Ev.bnd (spec_l3Has_el g hS n) (Ev.now _))
/-! dualm: DualGens of both sides -/
/-- Whether the sums of x and of each number of l are elements. -/
noncomputable def dB (g l : List Int) (x : Int) : Bool := l.all fun y => elB g (wrap64 (x + y))
theorem all_drop (l : List Int) (p : Int → Bool) (i : Nat) (h : i < l.length) : (l.drop i).all p = (p l[i] && (l.drop (i + 1)).all p) := by rw [List.drop_eq_getElem_cons h, List.all_cons]
theorem spec_dual_l0 (g : List Int) (hS : SG g) (l : List Int) (x : Int) (hl : l.length ≤ 1048576) : ∀ d i, i + d = l.length → Ev (fun k => spec_l16Dual.l0 k l x (i : Int) g) ((l.drop i).all fun y => elB g (wrap64 (x + y))) := by
 intro d
 induction d with
 | zero =>
  intro i hi
  rw [List.drop_eq_nil_of_le (by omega)]
  refine Ev.one (fun k => by rw [spec_l16Dual.l0]) ?_
  exact Ev.neg (by omega) (Ev.now _)
 | succ d ih =>
  intro i hi
  have hil : i < l.length := by omega
  have ih := ih (i + 1) (by omega)
  rw [all_drop l _ i hil]
  refine Ev.one (fun k => by rw [spec_l16Dual.l0]) ?_
  rw [rd_at l i hil, w64_succ i (by omega)]
  refine Ev.pos (by omega) (Ev.pos (by omega) (Ev.bnd (spec_l15Has_el g hS _) ?_))
  cases hb : elB g (wrap64 (x + l[i])) with
  | true => exact Ev.pos rfl ih
  | false => exact Ev.neg (by decide) (Ev.now _)
theorem spec_dual_ev (g : List Int) (hS : SG g) (l : List Int) (x : Int) (hl : l.length ≤ 1048576) : Ev (fun k => spec_l16Dual.f k g l x) (dB g l x) := by
 unfold spec_l16Dual.f
 exact spec_dual_l0 g hS l x hl l.length 0 (by omega)
theorem impl_dual_l0 (g : List Int) (P : Int → Option Bool) (hP : ∀ d, P d = some (elB g d)) (l : List Int) (x : Int) (hl : l.length ≤ 1048576) : ∀ d i, i + d = l.length → ∀ k, d < k → impl_DualGens.l0 k P l x (i : Int) = some ((l.drop i).all fun y => elB g (wrap64 (x + y))) := by
 intro d
 induction d with
 | zero =>
  intro i hi k hk
  obtain ⟨k, rfl⟩ : ∃ m, k = m + 1 := ⟨k - 1, by omega⟩
  rw [List.drop_eq_nil_of_le (by omega), impl_DualGens.l0, if_neg (by omega)]
  rfl
 | succ d ih =>
  intro i hi k hk
  obtain ⟨k, rfl⟩ : ∃ m, k = m + 1 := ⟨k - 1, by omega⟩
  have hil : i < l.length := by omega
  have ih := ih (i + 1) (by omega) k (by omega)
  rw [all_drop l _ i hil, impl_DualGens.l0, if_pos (by omega), if_pos (by omega), if_pos (by omega), rd_at l i hil, w64_succ i (by omega), hP, Option.bind_some]
  cases hb : elB g (wrap64 (x + l[i])) with
  | true => rw [if_pos rfl, ih]; rfl
  | false => rw [if_neg (by decide)]; rfl
theorem impl_dual_p (g : List Int) (P : Int → Option Bool) (hP : ∀ d, P d = some (elB g d)) (l : List Int) (hl : l.length ≤ 1048576) (k : Nat) (hk : l.length < k) : impl_DualGens.p k P l = fun x => some (dB g l x) := by
 funext x
 exact impl_dual_l0 g P hP l x hl l.length 0 (by omega) k hk
theorem Ev.later {α : Type} {f h : Nat → Option α} {r : α} (n : Nat) (e : ∀ k, n < k → f k = h k) (hr : Ev h r) : Ev f r := by
 obtain ⟨K, hK⟩ := hr
 exact ⟨max K (n + 1), fun k hk => (e k (by omega)).trans (hK k (by omega))⟩
theorem spec_dg_l0 (g : List Int) (hS : SG g) (l : List Int) (hl : l.length ≤ 1048576) (a c : Int) (ha : -200 ≤ a ∧ a ≤ 200) (hc : 0 ≤ c ∧ c ≤ 200) (hcond : Ev (fun k => spec_ConductorOf.f k g) c) (n : Nat) (hn : (n : Int) = c + rd g 0) {r : List Int}
  (hr : Ev (fun k => spec_MinimalIn.f k g (pick (fun i => dB g l (-a + (i : Int))) (fun i => -a + (i : Int)) n)) r) :
  ∀ d i, i + d = n → Ev (fun k => spec_DualGens.l0 k l a (pick (fun i => dB g l (-a + (i : Int))) (fun i => -a + (i : Int)) i) (-a + (i : Int)) g) r := by
 have h1 := hS.len1
 have hg0 : 1 ≤ rd g 0 ∧ rd g 0 ≤ 60 := by
  have := hS.rng _ (List.getElem_mem (show 0 < g.length by omega))
  have e := rd_at g 0 (by omega)
  rw [show ((0 : Nat) : Int) = 0 from rfl] at e
  omega
 intro d
 induction d with
 | zero =>
  intro i hi
  obtain rfl : i = n := by omega
  refine Ev.one (fun k => by rw [spec_DualGens.l0]) ?_
  refine Ev.bnd hcond ?_
  rw [w64_of (x := c - a) (by omega) (by omega), w64_of (x := c - a + rd g 0) (by omega) (by omega)]
  exact Ev.pos (by omega) (Ev.neg (by omega) (Ev.bnd hr (Ev.now _)))
 | succ d ih =>
  intro i hi
  have ih := ih (i + 1) (by omega)
  have hpl := pick_len (fun i => dB g l (-a + (i : Int))) (fun i : Nat => -a + (i : Int)) i
  refine Ev.one (fun k => by rw [spec_DualGens.l0]) ?_
  refine Ev.bnd hcond ?_
  rw [w64_of (x := c - a) (by omega) (by omega), w64_of (x := c - a + rd g 0) (by omega) (by omega), w64_of (x := -a + (i : Int) + 1) (by omega) (by omega), show -a + (i : Int) + 1 = -a + ((i + 1 : Nat) : Int) from by omega]
  refine Ev.pos (by omega) (Ev.pos (by omega) (Ev.bnd (spec_dual_ev g hS l _ hl) ?_))
  cases hb : dB g l (-a + (i : Int)) with
  | true =>
   rw [pick_pos _ _ i hb] at ih
   exact Ev.pos rfl (Ev.pos (by omega) ih)
  | false =>
   rw [pick_neg _ _ i hb] at ih
   exact Ev.neg (by decide) ih
theorem ex_char (g l : List Int) (y : Int) : y ∈ exL g true l ↔ y ∈ l ∧ ∀ z ∈ l, y = z ∨ ¬ Sums g (y - z) := by
 unfold exL exB
 rw [List.mem_filter, List.all_eq_true]
 refine and_congr_right fun _ => forall_congr' fun z => forall_congr' fun _ => ?_
 unfold exq
 rw [if_pos rfl, Bool.or_eq_true, decide_eq_true_eq, Bool.not_eq_true', ← Bool.not_eq_true, elB_iff]
theorem dual_more (g l : List Int) (hlen : g.length ≤ 1048576) (hl : l.length ≤ 1048576) : ∃ r, (r.length ≤ 1048576 ∧ (r ≠ [] → SG g ∧ idealB l = true ∧ asc r ∧ ∃ a ∈ l, (∀ t ∈ l, a ≤ t) ∧ ∀ y, y ∈ r ↔ (-a ≤ y ∧ y ≤ 400 - a ∧ ∀ t ∈ l, Sums g (y + t)) ∧ ∀ z, -a ≤ z ∧ z ≤ 400 - a ∧ (∀ t ∈ l, Sums g (z + t)) → y = z ∨ ¬ Sums g (y - z))) ∧ Ev (fun k => spec_DualGens.f k g l) r ∧ Ev (fun k => impl_DualGens.f k g l) r := by
 obtain ⟨b, b1, b2, b3⟩ := sg_both g hlen
 have v1 := spec_valid_ev l hl
 have v2 := impl_ideal_ev l hl
 have out_ : Ev (fun k => spec_DualGens.j0 k l true g) [] := Ev.one (fun k => by rw [spec_DualGens.j0]) (Ev.pos rfl (Ev.now _))
 unfold spec_DualGens.f impl_DualGens.f
 cases b with
 | false => exact ⟨[], ⟨by simp, fun h => absurd rfl h⟩, Ev.bnd b2 (Ev.neg (by decide) out_), Ev.bnd b3 (Ev.neg (by decide) (Ev.now _))⟩
 | true =>
  have hS := b1.1 rfl
  have hp : ∀ x ∈ g, 1 ≤ x := fun x hx => (hS.rng x hx).1
  cases hb : idealB l with
  | false =>
   rw [hb] at v1 v2
   exact ⟨[], ⟨by simp, fun h => absurd rfl h⟩, Ev.bnd b2 (Ev.pos rfl (Ev.bnd v1 out_)), Ev.bnd b3 (Ev.pos rfl (Ev.bnd v2 (Ev.neg (by decide) (Ev.now _))))⟩
  | true =>
   rw [hb] at v1 v2
   obtain ⟨h1, h2, h3⟩ := idealB_of l hb
   obtain ⟨p, p1, p2⟩ := reach_any g hlen
   obtain ⟨q, q1, q2, q3⟩ := sort_both l hl
   have hcond := spec_cond_ev g hlen hS b2
   have hca := cond_all g hS
   have hcb := lastS_gaps true g
   rw [show gapsS true g = gapL g from if_pos rfl] at hcb
   generalize hc : lastS (gapL g) + 1 = c at hcond
   have hca : ∀ x, c ≤ x → Sums g x := fun x hx => hca x (by omega)
   have hql : 0 < q.length := by
    have := (q1.2.1 _).2 (List.getElem_mem (show 0 < l.length by omega))
    exact List.length_pos_of_mem this
   have e0 : rd q 0 = q[0] := rd_at q 0 hql
   have hal : q[0] ∈ l := (q1.2.1 _).1 (List.getElem_mem hql)
   have ham : ∀ y ∈ l, q[0] ≤ y := fun y hy => by
    obtain ⟨j, hj, ej⟩ := List.getElem_of_mem ((q1.2.1 y).2 hy)
    by_cases hj0 : j = 0
    ·subst hj0; omega
    ·have := List.pairwise_iff_getElem.1 q1.1 0 j hql hj (by omega)
     omega
   have har := h1 _ hal
   generalize q[0] = a at e0 hal ham har
   have hlen1 := hS.len1
   have hg : rd g 0 ∈ g := by
    have e := rd_at g 0 (by omega)
    rw [show ((0 : Nat) : Int) = 0 from rfl] at e
    rw [e]
    exact List.getElem_mem _
   have hg0 := hS.rng _ hg
   generalize hm : rd g 0 = m at hg hg0
   have hD : ∀ x : Int, -1000 ≤ x → x ≤ 1000 → (dB g l x = true ↔ ∀ y ∈ l, Sums g (x + y)) := fun x hx0 hx1 => by
    unfold dB
    rw [List.all_eq_true]
    refine forall_congr' fun y => forall_congr' fun hy => ?_
    have := h1 y hy
    rw [w64_of (by omega) (by omega), elB_iff]
   obtain ⟨r, r1, r2, r3⟩ := sifted_ev g hlen hS (fun x => some (dB g l x)) (dB g l) (fun _ => rfl) (-a) (400 - a) (by omega) (by omega)
   have e2 : Ev (fun k => impl_sifted.f k g (wrap64 (-(rd q 0))) (wrap64 (400 - rd q 0)) (impl_DualGens.p k p l)) r := by
    rw [e0, w64_of (x := -a) (by omega) (by omega), w64_of (x := 400 - a) (by omega) (by omega)]
    exact Ev.later l.length (fun k hk => by rw [impl_dual_p g p (p1 hS) l hl k hk]) r3
   obtain ⟨n, hn⟩ : ∃ n : Nat, (n : Int) = c + m := ⟨(c + m).toNat, by omega⟩
   have hpl := pick_len (fun i => dB g l (-a + (i : Int))) (fun i : Nat => -a + (i : Int)) n
   have hpm := pick_mem (dB g l) (-a) n
   obtain ⟨s, s1, s2, _⟩ := minimal_both g (pick (fun i => dB g l (-a + (i : Int))) (fun i => -a + (i : Int)) n) hlen (by omega)
   have hsm := s1.2.2.2.2 hS (fun x hx => by have := (hpm x).1 hx; omega)
   have e : s = r := asc_uniq s r s1.1 r1.1 (fun y => by
    rw [hsm, ex_char, hpm, r1.2]
    constructor
    ·rintro ⟨a1, a2⟩
     refine ⟨⟨a1.1, by omega, a1.2.2⟩, fun z hz => ?_⟩
     by_cases hzn : z < -a + (n : Int)
     ·exact a2 z ((hpm z).2 ⟨hz.1, hzn, hz.2.2⟩)
     ·refine .inr fun hs => ?_
      have := hs.nonneg hp
      omega
    ·rintro ⟨⟨a1, a2, a3⟩, a4⟩
     have hyn : y < -a + (n : Int) := Classical.byContradiction fun hyn => by
      have hd : dB g l (y - m) = true := (hD _ (by omega) (by omega)).2 fun t ht => hca _ (by have := ham t ht; omega)
      rcases a4 (y - m) ⟨by omega, by omega, hd⟩ with h | h
      ·omega
      ·exact h (by rw [show y - (y - m) = m from by omega]; exact Sums.one hg)
     refine ⟨⟨a1, hyn, a3⟩, fun z hz => ?_⟩
     have hz := (hpm z).1 hz
     exact a4 z ⟨hz.1, by omega, hz.2.2⟩)
   rw [e] at s2
   have hrn : r.length ≤ 1048576 := r2
   refine ⟨r, ⟨hrn, fun _ => ⟨hS, rfl, r1.1, a, hal, ham, fun y => ?_⟩⟩, Ev.bnd b2 (Ev.pos rfl (Ev.bnd v1 ?_)), Ev.bnd b3 (Ev.pos rfl (Ev.bnd v2 (Ev.pos rfl (Ev.bnd p2 (Ev.bnd q3 (Ev.pos (by omega) e2))))))⟩
   ·rw [r1.2]
    refine and_congr (and_congr_right fun a1 => and_congr_right fun a2 => hD y (by omega) (by omega)) (forall_congr' fun z => ⟨fun h hz => h ⟨hz.1, hz.2.1, (hD z (by omega) (by omega)).2 hz.2.2⟩, fun h hz => h ⟨hz.1, hz.2.1, (hD z (by omega) (by omega)).1 hz.2.2⟩⟩)
   refine Ev.one (fun k => by rw [spec_DualGens.j0]) ?_
   refine Ev.neg (by decide) (Ev.bnd q2 (Ev.pos (by omega) ?_))
   have := spec_dg_l0 g hS l hl a c har (by omega) hcond n (by omega) s2 n 0 (by omega)
   rw [show -a + ((0 : Nat) : Int) = -a from by omega] at this
   rw [e0, w64_of (x := -a) (by omega) (by omega)]
   exact this

theorem dual_both (g l : List Int) (hlen : g.length ≤ 1048576) (hl : l.length ≤ 1048576) : ∃ r, r.length ≤ 1048576 ∧ Ev (fun k => spec_DualGens.f k g l) r ∧ Ev (fun k => impl_DualGens.f k g l) r := by
 obtain ⟨r, r1, r2, r3⟩ := dual_more g l hlen hl
 exact ⟨r, r1.1, r2, r3⟩
theorem any_drop (l : List Int) (p : Int → Bool) (i : Nat) (h : i < l.length) : (l.drop i).any p = (p l[i] || (l.drop (i + 1)).any p) := by rw [List.drop_eq_getElem_cons h, List.any_cons]
theorem spec_in_l0 (g : List Int) (hS : SG g) (l : List Int) (x : Int) (hl : l.length ≤ 20) (hr : ∀ y ∈ l, -200 ≤ y ∧ y ≤ 200) (hx : -1000000 ≤ x ∧ x ≤ 1000000) : ∀ d i, i + d = l.length → Ev (fun k => spec_l16In.l0 k l x (i : Int) g) ((l.drop i).any fun y => elB g (x - y)) := by
 intro d
 induction d with
 | zero =>
  intro i hi
  rw [List.drop_eq_nil_of_le (by omega)]
  refine Ev.one (fun k => by rw [spec_l16In.l0]) ?_
  exact Ev.neg (by omega) (Ev.now _)
 | succ d ih =>
  intro i hi
  have hil : i < l.length := by omega
  have hy := hr _ (List.getElem_mem hil)
  have ih := ih (i + 1) (by omega)
  rw [any_drop l _ i hil]
  refine Ev.one (fun k => by rw [spec_l16In.l0]) ?_
  rw [rd_at l i hil, w64_succ i (by omega), w64_of (x := x - l[i]) (by omega) (by omega)]
  refine Ev.pos (by omega) (Ev.pos (by omega) (Ev.bnd (spec_l15Has_el g hS _) ?_))
  cases hb : elB g (x - l[i]) with
  | true => exact Ev.pos rfl (Ev.now _)
  | false => exact Ev.neg (by decide) ih
theorem impl_in_l0 (g : List Int) (hS : SG g) (P : Int → Option Bool) (hP : ∀ d, P d = some (elB g d)) (l : List Int) (x : Int) (hl : l.length ≤ 20) (hr : ∀ y ∈ l, -200 ≤ y ∧ y ≤ 200) (hx : -1000000 ≤ x ∧ x ≤ 1000000) : ∀ d i, i + d = l.length → Ev (fun k => impl_InIdeal.l0 k x P l (l.length : Int) (i : Int)) ((l.drop i).any fun y => elB g (x - y)) := by
 intro d
 induction d with
 | zero =>
  intro i hi
  rw [List.drop_eq_nil_of_le (by omega)]
  refine Ev.one (fun k => by rw [impl_InIdeal.l0]) ?_
  exact Ev.neg (by omega) (Ev.now _)
 | succ d ih =>
  intro i hi
  have hil : i < l.length := by omega
  have hy := hr _ (List.getElem_mem hil)
  have ih := ih (i + 1) (by omega)
  rw [any_drop l _ i hil]
  refine Ev.one (fun k => by rw [impl_InIdeal.l0]) ?_
  rw [rd_at l i hil, w64_succ i (by omega), w64_of (x := x - l[i]) (by omega) (by omega)]
  refine Ev.pos (by omega) (Ev.pos (by omega) (Ev.pos (by omega) (Ev.bnd (Ev.const (hP _)) ?_)))
  cases hb : elB g (x - l[i]) with
  | true => exact Ev.pos rfl (Ev.now _)
  | false => exact Ev.neg (by decide) ih
theorem any_el (g l : List Int) (x : Int) : (l.any fun y => elB g (x - y)) = true ↔ ∃ y ∈ l, Sums g (x - y) := by
 rw [List.any_eq_true]
 exact ⟨fun ⟨y, hy, h⟩ => ⟨y, hy, (elB_iff g _).1 h⟩, fun ⟨y, hy, h⟩ => ⟨y, hy, (elB_iff g _).2 h⟩⟩
theorem inideal_more (g l : List Int) (x : Int) (hlen : g.length ≤ 1048576) (hl : l.length ≤ 1048576) : ∃ r : Bool, (r = true ↔ SG g ∧ idealB l = true ∧ (-1000000 ≤ x ∧ x ≤ 1000000) ∧ ∃ y ∈ l, Sums g (x - y)) ∧ Ev (fun k => spec_InIdeal.f k g l x) r ∧ Ev (fun k => impl_InIdeal.f k g l x) r := by
 obtain ⟨b, b1, b2, b3⟩ := sg_both g hlen
 have v1 := spec_valid_ev l hl
 have v2 := impl_ideal_ev l hl
 have w1 := spec_l2Small_ev x
 have w2 := impl_within_ev x (-1000000) 1000000
 have out_ : Ev (fun k => impl_InIdeal.j0 k l x true g) false := Ev.one (fun k => by rw [impl_InIdeal.j0]) (Ev.pos rfl (Ev.now _))
 unfold spec_InIdeal.f impl_InIdeal.f
 cases b with
 | false => exact ⟨false, ⟨fun h => (by cases h), fun h => by have := b1.2 h.1; cases this⟩, Ev.bnd b2 (Ev.neg (by decide) (Ev.now _)), Ev.bnd b3 (Ev.neg (by decide) out_)⟩
 | true =>
  have hS := b1.1 rfl
  cases hb : idealB l with
  | false =>
   rw [hb] at v1 v2
   exact ⟨false, ⟨fun h => (by cases h), fun h => by cases h.2.1⟩, Ev.bnd b2 (Ev.pos rfl (Ev.bnd v1 (Ev.neg (by decide) (Ev.now _)))), Ev.bnd b3 (Ev.pos rfl (Ev.bnd v2 (Ev.neg (by decide) out_)))⟩
  | true =>
   rw [hb] at v1 v2
   obtain ⟨h1, h2, h3⟩ := idealB_of l hb
   by_cases hx : -1000000 ≤ x ∧ x ≤ 1000000
   ·rw [decide_eq_true hx] at w1 w2
    obtain ⟨p, p1, p2⟩ := reach_any g hlen
    refine ⟨l.any fun y => elB g (x - y), (any_el g l x).trans ⟨fun h => ⟨hS, rfl, hx, h⟩, fun h => h.2.2.2⟩, Ev.bnd b2 (Ev.pos rfl (Ev.bnd v1 (Ev.pos rfl (Ev.bnd w1 (Ev.pos rfl (Ev.bnd (a := l.any fun y => elB g (x - y)) ?_ (Ev.now _))))))), Ev.bnd b3 (Ev.pos rfl (Ev.bnd v2 (Ev.pos rfl (Ev.bnd w2 ?_))))⟩
    ·unfold spec_l16In.f
     exact spec_in_l0 g hS l x h3 h1 hx l.length 0 (by omega)
    ·refine Ev.one (fun k => by rw [impl_InIdeal.j0]) ?_
     exact Ev.neg (by decide) (Ev.bnd p2 (impl_in_l0 g hS p (p1 hS) l x h3 h1 hx l.length 0 (by omega)))
   ·rw [decide_eq_false hx] at w1 w2
    exact ⟨false, ⟨fun h => (by cases h), fun h => absurd h.2.2.1 hx⟩, Ev.bnd b2 (Ev.pos rfl (Ev.bnd v1 (Ev.pos rfl (Ev.bnd w1 (Ev.neg (by decide) (Ev.now _)))))), Ev.bnd b3 (Ev.pos rfl (Ev.bnd v2 (Ev.pos rfl (Ev.bnd w2 out_))))⟩
/-! idealgens2: IdealGens of both sides, and what it holds -/
theorem idealgens_more (g l : List Int) (hlen : g.length ≤ 1048576) (hl : l.length ≤ 1048576) : ∃ r, (r.length ≤ l.length ∧ (r ≠ [] → SG g ∧ idealB l = true ∧ ∀ y, y ∈ r ↔ y ∈ exL g true l)) ∧ Ev (fun k => spec_IdealGens.f k g l) r ∧ Ev (fun k => impl_IdealGens.f k g l) r := by
 obtain ⟨r, r1, r2, r3⟩ := minimal_both g l hlen hl
 obtain ⟨b, b1, b3⟩ := impl_IsSemigroup_ev g hlen
 have h1 := spec_valid_ev l hl
 have h2 := impl_ideal_ev l hl
 unfold spec_IdealGens.f impl_IdealGens.f
 cases hb : idealB l with
 | false =>
  rw [hb] at h1 h2
  refine ⟨[], ⟨by simp, fun h => absurd rfl h⟩, Ev.bnd h1 (Ev.neg (by decide) (Ev.now _)), Ev.bnd b3 ?_⟩
  cases b with
  | true => exact Ev.pos rfl (Ev.bnd h2 (Ev.neg (by decide) (Ev.now _)))
  | false => exact Ev.neg (by decide) (Ev.now _)
 | true =>
  rw [hb] at h1 h2
  cases b with
  | true => exact ⟨r, ⟨r1.2.2.1, fun _ => ⟨b1.1 rfl, rfl, r1.2.2.2.2 (b1.1 rfl) (fun x hx => by have := (idealB_of l hb).1 x hx; omega)⟩⟩, Ev.bnd h1 (Ev.pos rfl (Ev.bnd r2 (Ev.now _))), Ev.bnd b3 (Ev.pos rfl (Ev.bnd h2 (Ev.pos rfl (Ev.bnd r3 (Ev.now _)))))⟩
  | false =>
   have e : r = [] := r1.2.2.2.1 (fun hS => by have := b1.2 hS; cases this)
   rw [e] at r2
   exact ⟨[], ⟨by simp, fun h => absurd rfl h⟩, Ev.bnd h1 (Ev.pos rfl (Ev.bnd r2 (Ev.now _))), Ev.bnd b3 (Ev.neg (by decide) (Ev.now _))⟩
/-! idealsum2: IdealSum of both sides, in either order -/
theorem idealsum_more (g a b : List Int) (hlen : g.length ≤ 1048576) (ha : a.length ≤ 1048576) (hb : b.length ≤ 1048576) : ∃ r, (r.length ≤ 1048576 ∧ (r ≠ [] → SG g ∧ idealB a = true ∧ idealB b = true) ∧ (SG g → idealB a = true → idealB b = true → asc r ∧ ∀ y, y ∈ r ↔ (∃ u ∈ a, ∃ v ∈ b, u + v = y) ∧ ∀ u ∈ a, ∀ v ∈ b, y = u + v ∨ ¬ Sums g (y - (u + v)))) ∧ Ev (fun k => spec_IdealSum.f k g a b) r ∧ Ev (fun k => impl_IdealSum.f k g a b) r := by
 obtain ⟨c, c1, c3⟩ := impl_IsSemigroup_ev g hlen
 have a1 := spec_valid_ev a ha
 have a2 := impl_ideal_ev a ha
 have b1 := spec_valid_ev b hb
 have b2 := impl_ideal_ev b hb
 have o1 : Ev (fun k => spec_IdealSum.j0 k a b true g) [] := Ev.one (fun k => by rw [spec_IdealSum.j0]) (Ev.pos rfl (Ev.now _))
 have o2 : Ev (fun k => impl_IdealSum.j0 k a b true g) [] := Ev.one (fun k => by rw [impl_IdealSum.j0]) (Ev.pos rfl (Ev.now _))
 unfold spec_IdealSum.f impl_IdealSum.f
 cases ea : idealB a with
 | false =>
  rw [ea] at a1 a2
  refine ⟨[], ⟨by simp, fun h => absurd rfl h, fun _ h => by cases h⟩, Ev.bnd a1 (Ev.neg (by decide) o1), Ev.bnd c3 ?_⟩
  cases c with
  | true => exact Ev.pos rfl (Ev.bnd a2 (Ev.neg (by decide) o2))
  | false => exact Ev.neg (by decide) o2
 | true =>
  rw [ea] at a1 a2
  cases eb : idealB b with
  | false =>
   rw [eb] at b1 b2
   refine ⟨[], ⟨by simp, fun h => absurd rfl h, fun _ _ h => by cases h⟩, Ev.bnd a1 (Ev.pos rfl (Ev.bnd b1 o1)), Ev.bnd c3 ?_⟩
   cases c with
   | true => exact Ev.pos rfl (Ev.bnd a2 (Ev.pos rfl (Ev.bnd b2 o2)))
   | false => exact Ev.neg (by decide) o2
  | true =>
   rw [eb] at b1 b2
   obtain ⟨xa, la, la2⟩ := idealB_of a ea
   obtain ⟨xb, lb, lb2⟩ := idealB_of b eb
   obtain ⟨s, s1, s2, s3⟩ := sumsof_more a b xa xb la2 lb2
   obtain ⟨r, r1, r2, r3⟩ := minimal_both g s hlen (by have := s1.1; omega)
   have q1 : Ev (fun k => spec_IdealSum.j0 k a b (!true) g) r := Ev.one (fun k => by rw [spec_IdealSum.j0]) (Ev.neg (by decide) (Ev.bnd s2 (Ev.bnd r2 (Ev.now _))))
   have key : SG g → ∀ y, y ∈ r ↔ (∃ u ∈ a, ∃ v ∈ b, u + v = y) ∧ ∀ u ∈ a, ∀ v ∈ b, y = u + v ∨ ¬ Sums g (y - (u + v)) := fun hS y => by
    rw [r1.2.2.2.2 hS (fun x hx => by
     obtain ⟨u, hu, v, hv, e⟩ := (s1.2 x).1 hx
     have := xa u hu; have := xb v hv
     omega), exL_mem, s1.2]
    refine and_congr_right fun _ => ⟨fun h u hu v hv => ?_, fun h z hz => ?_⟩
    ·have := h (u + v) ((s1.2 _).2 ⟨u, hu, v, hv, rfl⟩)
     rwa [if_pos rfl] at this
    ·obtain ⟨u, hu, v, hv, e⟩ := (s1.2 z).1 hz
     subst e
     rw [if_pos rfl]
     exact h u hu v hv
   refine ⟨r, ⟨by have := s1.1; omega, fun h => ⟨Classical.byContradiction fun hn => h (r1.2.2.2.1 hn), rfl, rfl⟩, fun hS _ _ => ⟨r1.1, key hS⟩⟩, Ev.bnd a1 (Ev.pos rfl (Ev.bnd b1 q1)), Ev.bnd c3 ?_⟩
   cases c with
   | true =>
    refine Ev.pos rfl (Ev.bnd a2 (Ev.pos rfl (Ev.bnd b2 ?_)))
    exact Ev.one (fun k => by rw [impl_IdealSum.j0]) (Ev.neg (by decide) (Ev.bnd s3 (Ev.bnd r3 (Ev.now _))))
   | false =>
    have e : r = [] := r1.2.2.2.1 (fun hS => by have := c1.2 hS; cases this)
    rw [e]
    exact Ev.neg (by decide) o2
theorem idealsum_comm (g a b : List Int) (hlen : g.length ≤ 1048576) (ha : a.length ≤ 1048576) (hb : b.length ≤ 1048576) : ∃ r, r.length ≤ 1048576 ∧ Ev (fun k => spec_IdealSum.f k g a b) r ∧ Ev (fun k => impl_IdealSum.f k g a b) r ∧ Ev (fun k => impl_IdealSum.f k g b a) r := by
 obtain ⟨r, r1, r2, r3⟩ := idealsum_more g a b hlen ha hb
 obtain ⟨s, s1, _, s3⟩ := idealsum_more g b a hlen hb ha
 have e : s = r := by
  by_cases h : SG g ∧ idealB a = true ∧ idealB b = true
  ·have hr := r1.2.2 h.1 h.2.1 h.2.2
   have hs := s1.2.2 h.1 h.2.2 h.2.1
   refine asc_uniq s r hs.1 hr.1 (fun y => ?_)
   rw [hs.2, hr.2]
   refine and_congr ⟨fun ⟨u, hu, v, hv, e⟩ => ⟨v, hv, u, hu, by omega⟩, fun ⟨u, hu, v, hv, e⟩ => ⟨v, hv, u, hu, by omega⟩⟩ ⟨fun h u hu v hv => ?_, fun h u hu v hv => ?_⟩
   ·rw [Int.add_comm]; exact h v hv u hu
   ·rw [Int.add_comm]; exact h v hv u hu
  ·have e1 : r = [] := Classical.byContradiction fun hn => h (r1.2.1 hn)
   have e2 : s = [] := Classical.byContradiction fun hn => h ⟨(s1.2.1 hn).1, (s1.2.1 hn).2.2, (s1.2.1 hn).2.1⟩
   rw [e1, e2]
 subst e
 exact ⟨s, r1.1, r2, r3, s3⟩
/-! canonical2: CanonicalGens of both sides, and what it holds -/
theorem spec_can_l0 (f : Int) (l : List Int) (hl : l.length ≤ 1000) (hf : -1000 ≤ f ∧ f ≤ 1000) (hv : ∀ x ∈ l, -1000 ≤ x ∧ x ≤ 1000) {r : List Int} (hr : Ev (fun k => spec_SortList.f k (l.map fun x => f - x)) r) : ∀ d i, i + d = l.length → Ev (fun k => spec_CanonicalGens.l0 k f l ((l.take i).map fun x => f - x) (i : Int)) r := by
 intro d
 induction d with
 | zero =>
  intro i hi
  rw [List.take_of_length_le (by omega)]
  refine Ev.one (fun k => by rw [spec_CanonicalGens.l0]) ?_
  exact Ev.neg (by omega) (Ev.bnd hr (Ev.now _))
 | succ d ih =>
  intro i hi
  have hil : i < l.length := by omega
  have hx := hv _ (List.getElem_mem hil)
  have ih := ih (i + 1) (by omega)
  rw [List.take_succ_eq_append_getElem hil, List.map_append, List.map_cons, List.map_nil] at ih
  refine Ev.one (fun k => by rw [spec_CanonicalGens.l0]) ?_
  rw [rd_at l i hil, w64_succ i (by omega), w64_of (x := f - l[i]) (by omega) (by omega)]
  exact Ev.pos (by omega) (Ev.pos (by omega) (Ev.pos (by rw [List.length_map, List.length_take]; omega) ih))
theorem canonical_more (g : List Int) (hlen : g.length ≤ 1048576) : ∃ r, (r.length ≤ 1048576 ∧ (¬ SG g → r = []) ∧ (SG g → asc r ∧ ∀ y, y ∈ r ↔ (lastS (gapL g) - 200 ≤ y ∧ y ≤ lastS (gapL g) + 200 ∧ ¬ Sums g (lastS (gapL g) - y)) ∧ ∀ z, lastS (gapL g) - 200 ≤ z ∧ z ≤ lastS (gapL g) + 200 ∧ ¬ Sums g (lastS (gapL g) - z) → y = z ∨ ¬ Sums g (y - z))) ∧ Ev (fun k => spec_CanonicalGens.f k g) r ∧ Ev (fun k => impl_CanonicalGens.f k g) r := by
 obtain ⟨b, b1, b2, b3⟩ := sg_both g hlen
 unfold spec_CanonicalGens.f impl_CanonicalGens.f
 cases b with
 | false => exact ⟨[], ⟨by simp, fun _ => rfl, fun h => by have := b1.2 h; cases this⟩, Ev.bnd b2 (Ev.neg (by decide) (Ev.now _)), Ev.bnd b3 (Ev.neg (by decide) (Ev.now _))⟩
 | true =>
  have hS := b1.1 rfl
  have hp : ∀ x ∈ g, 1 ≤ x := fun x hx => (hS.rng x hx).1
  obtain ⟨c, c1, c2, c3⟩ := frob_both g hlen
  obtain rfl := bool_same b1 c1
  rw [show gapsS true g = gapL g from if_pos rfl] at c2 c3
  have hfl := frob_last g hS
  have hfb : -1 ≤ lastS (gapL g) ∧ lastS (gapL g) ≤ 199 := by rcases hfl with h | h <;> omega
  generalize hf : lastS (gapL g) = f at c2 c3 hfl hfb
  obtain ⟨d, d1, d0, _⟩ := gaps_both g hlen
  obtain rfl := bool_same b1 d1
  have d2 := spec_pf_ev g true d1 d0
  rw [show pfS true g = pfL g from if_pos rfl] at d2
  obtain ⟨p, p1, p2⟩ := reach_any g hlen
  have hP : ∀ x, impl_CanonicalGens.p p f x = some (!elB g (wrap64 (f - x))) := fun x => by
   unfold impl_CanonicalGens.p
   rw [p1 hS]
   rfl
  obtain ⟨r, r1, r2, r3⟩ := sifted_ev g hlen hS (impl_CanonicalGens.p p f) (fun x => !elB g (wrap64 (f - x))) hP (f - 200) (f + 200) (by omega) (by omega)
  have hq : ∀ x, f - 200 ≤ x → x ≤ f + 200 → ((fun x => !elB g (wrap64 (f - x))) x = true ↔ ¬ Sums g (f - x)) := fun x h0 h1 => by
   show (!elB g (wrap64 (f - x))) = true ↔ _
   rw [w64_of (by omega) (by omega), Bool.not_eq_true', ← Bool.not_eq_true, elB_iff]
  have e2 : Ev (fun k => impl_sifted.f k g (wrap64 (f - 200)) (wrap64 (f + 200)) (impl_CanonicalGens.p p f)) r := by
   rw [w64_of (x := f - 200) (by omega) (by omega), w64_of (x := f + 200) (by omega) (by omega)]
   exact r3
  have key : ∀ y, y ∈ r ↔ (f - 200 ≤ y ∧ y ≤ f + 200 ∧ ¬ Sums g (f - y)) ∧ ∀ z, f - 200 ≤ z ∧ z ≤ f + 200 ∧ ¬ Sums g (f - z) → y = z ∨ ¬ Sums g (y - z) := fun y => by
   rw [r1.2]
   exact and_congr (and_congr_right fun h0 => and_congr_right fun h1 => hq y h0 h1) (forall_congr' fun z => ⟨fun h hz => h ⟨hz.1, hz.2.1, (hq z hz.1 hz.2.1).2 hz.2.2⟩, fun h hz => h ⟨hz.1, hz.2.1, (hq z hz.1 hz.2.1).1 hz.2.2⟩⟩)
  refine ⟨r, ⟨r2, fun h => absurd hS h, fun _ => ⟨r1.1, key⟩⟩, Ev.bnd b2 (Ev.pos rfl (Ev.bnd c2 (Ev.bnd d2 ?_))), Ev.bnd b3 (Ev.pos rfl (Ev.bnd p2 (Ev.bnd c3 e2)))⟩
  rcases hfl with ⟨h0, h1⟩ | ⟨h1, h2, h3, h4⟩
  ·have hpf : pfL g = [] := by unfold pfL; rw [h0]; rfl
   have hall : ∀ x, 0 ≤ x → Sums g x := fun x hx => Classical.byContradiction fun hn => by
    have h5 : x < 200 := Classical.byContradiction fun h6 => hn (hS.ends x (by omega))
    have := (gapL_mem g x).2 ⟨hx, h5, hn⟩
    rw [h0] at this
    cases this
   have e : r = [0] := asc_uniq r [0] r1.1 (List.pairwise_singleton ..) (fun y => by
    rw [r1.2 y, List.mem_singleton]
    constructor
    ·rintro ⟨⟨a1, a2, a3⟩, a4⟩
     have a3 := (hq y a1 a2).1 a3
     have hy0 : 0 ≤ y := Classical.byContradiction fun hn => a3 (hall _ (by omega))
     have := a4 0 ⟨by omega, by omega, (hq 0 (by omega) (by omega)).2 (fun hs => by have := hs.nonneg hp; omega)⟩
     rcases this with h | h
     ·exact h
     ·exact absurd (hall _ (by omega)) h
    ·rintro rfl
     refine ⟨⟨by omega, by omega, (hq 0 (by omega) (by omega)).2 (fun hs => by have := hs.nonneg hp; omega)⟩, fun z hz => ?_⟩
     by_cases hz0 : 0 = z
     ·exact .inl hz0
     ·refine .inr (fun hs => ?_)
      have a1 := hs.nonneg hp
      have := (hq z hz.1 hz.2.1).1 hz.2.2
      exact this (hall _ (by omega)))
   rw [e, hpf]
   exact Ev.pos (by simp) (Ev.now _)
  ·have hfpf : f ∈ pfL g := (pf_iff g hS f).2 ⟨⟨by omega, by omega, h3⟩, fun y hy => h4 _ (by have := hp y hy; omega)⟩
   have hne : ¬ ((pfL g).length : Int) = 0 := fun h => by
    rw [List.eq_nil_of_length_eq_zero (show (pfL g).length = 0 by omega)] at hfpf
    cases hfpf
   have hpl : (pfL g).length ≤ 200 := Nat.le_trans (List.length_filter_le ..) (gapL_len g)
   obtain ⟨s, s1, s2⟩ := spec_SortList_ev ((pfL g).map fun x => f - x) (by rw [List.length_map]; omega)
   have e : s = r := asc_uniq s r s1.1 r1.1 (fun y => by
    rw [s1.2.1, r1.2, List.mem_map]
    constructor
    ·rintro ⟨x, hx, rfl⟩
     have hx := (pf_iff g hS x).1 hx
     have hxf : x ≤ f := Classical.byContradiction fun hn => hx.1.2.2 (h4 x (by omega))
     refine ⟨⟨by omega, by omega, (hq _ (by omega) (by omega)).2 (by rw [show f - (f - x) = x from by omega]; exact hx.1.2.2)⟩, fun z hz => ?_⟩
     by_cases hz0 : f - x = z
     ·exact .inl hz0
     ·refine .inr (fun hs => (hq z hz.1 hz.2.1).1 hz.2.2 ?_)
      have := pf_sums g x hx.2 hp _ hs (by omega)
      rwa [show x + (f - x - z) = f - z from by omega] at this
    ·rintro ⟨⟨a1, a2, a3⟩, a4⟩
     have a3 := (hq y a1 a2).1 a3
     refine ⟨f - y, (pf_iff g hS _).2 ⟨⟨?_, ?_, a3⟩, fun t ht => ?_⟩, by omega⟩
     ·refine Classical.byContradiction fun hn => ?_
      rcases a4 0 ⟨by omega, by omega, (hq 0 (by omega) (by omega)).2 (by rw [Int.sub_zero]; exact h3)⟩ with h | h
      ·omega
      ·exact h (h4 _ (by omega))
     ·refine Classical.byContradiction fun hn => a3 (h4 _ (by omega))
     ·refine Classical.byContradiction fun hn => ?_
      have ht1 := hp t ht
      have hle : f - y + t ≤ f := Classical.byContradiction fun h => hn (h4 _ (by omega))
      rcases a4 (y - t) ⟨by omega, by omega, (hq _ (by omega) (by omega)).2 (by rw [show f - (y - t) = f - y + t from by omega]; exact hn)⟩ with h | h
      ·omega
      ·exact h (by rw [show y - (y - t) = t from by omega]; exact Sums.one ht))
   rw [e] at s2
   refine Ev.neg hne ?_
   exact spec_can_l0 f (pfL g) (by omega) (by omega) (fun x hx => by have := (pf_iff g hS x).1 hx; omega) s2 (pfL g).length 0 (by omega)
/-! symm: spec.IsSymmetric -/
theorem spec_mirror_l0 (g : List Int) (hS : SG g) (f : Int) (hf : -1 ≤ f ∧ f ≤ 199) : ∀ (d : Nat) (i : Int), 0 ≤ i → i + (d : Int) = f + 1 → ∃ r, (r = true ↔ ∀ x, i ≤ x → x ≤ f → ¬ elB g x = elB g (f - x)) ∧ Ev (fun k => spec_l9Mirror.l0 k false f i g) r := by
 intro d
 induction d with
 | zero =>
  intro i hi0 hi
  refine ⟨true, ⟨fun _ x h1 h2 => by omega, fun _ => rfl⟩, ?_⟩
  refine Ev.one (fun k => by rw [spec_l9Mirror.l0]) ?_
  exact Ev.neg (by omega) (Ev.now _)
 | succ d ih =>
  intro i hi0 hi
  obtain ⟨r, r1, r2⟩ := ih (i + 1) (by omega) (by omega)
  have h1 := spec_l3Has_el g hS i
  have h2 := spec_l3Has_el g hS (wrap64 (f - i))
  rw [w64_of (x := f - i) (by omega) (by omega)] at h2
  by_cases he : elB g i = elB g (f - i)
  ·refine ⟨false, ⟨fun h => (by cases h), fun h => absurd he (h i (by omega) (by omega))⟩, ?_⟩
   refine Ev.one (fun k => by rw [spec_l9Mirror.l0]) ?_
   refine Ev.pos (by omega) (Ev.neg (by decide) (Ev.one (fun k => by rw [spec_l9Mirror.j1]) ?_))
   rw [w64_of (x := f - i) (by omega) (by omega)]
   refine Ev.neg (by decide) (Ev.bnd h1 (Ev.bnd h2 (Ev.pos (by rw [he]; simp) (Ev.now _))))
  ·refine ⟨r, r1.trans ⟨fun h x hx0 hx1 => ?_, fun h x hx0 hx1 => h x (by omega) hx1⟩, ?_⟩
   ·by_cases hx : x = i
    ·subst hx; exact he
    ·exact h x (by omega) hx1
   refine Ev.one (fun k => by rw [spec_l9Mirror.l0]) ?_
   refine Ev.pos (by omega) (Ev.neg (by decide) (Ev.one (fun k => by rw [spec_l9Mirror.j1]) ?_))
   rw [w64_of (x := f - i) (by omega) (by omega), w64_of (x := i + 1) (by omega) (by omega)]
   exact Ev.neg (by decide) (Ev.bnd h1 (Ev.bnd h2 (Ev.neg (by rw [beq_iff_eq]; exact he) r2)))
theorem spec_symmetric_ev (g : List Int) (hS : SG g) (f : Int) (hf : -1 ≤ f ∧ f ≤ 199) (b2 : Ev (fun k => spec_IsSemigroup.f k g) true) (c2 : Ev (fun k => spec_FrobeniusOf.f k g) f) : ∃ r, (r = true ↔ ∀ x, 0 ≤ x → x ≤ f → ¬ elB g x = elB g (f - x)) ∧ Ev (fun k => spec_IsSymmetric.f k g) r := by
 obtain ⟨n, hn⟩ : ∃ n : Nat, f + 1 = (n : Int) := ⟨(f + 1).toNat, by omega⟩
 obtain ⟨r, r1, r2⟩ := spec_mirror_l0 g hS f hf n 0 (by omega) (by omega)
 refine ⟨r, r1, ?_⟩
 unfold spec_IsSymmetric.f spec_l9Mirror.f
 exact Ev.bnd b2 (Ev.pos rfl (Ev.bnd (Ev.bnd c2 r2) (Ev.now _)))
/-! plaw: words on laws over bytes -/
theorem big_no (b : List Int) (h : b.length ≤ 1048576) : Ev (fun _ => laws_big.f b) false := by
 refine Ev.const ?_
 unfold laws_big.f
 rw [decide_eq_false (by omega)]
theorem big_yes (b : List Int) (h : ¬ b.length ≤ 1048576) : Ev (fun _ => laws_big.f b) true := by
 refine Ev.const ?_
 unfold laws_big.f
 rw [decide_eq_true (by omega)]
theorem sameInts_l0 (l : List Int) (hl : l.length ≤ 35184372088832) : ∀ (d i : Nat), i + d = l.length → Ev (fun k => laws_sameInts.l0 k l l (i : Int)) true := by
 intro d
 induction d with
 | zero =>
  intro i hi
  refine Ev.one (fun k => by rw [laws_sameInts.l0]) ?_
  exact Ev.neg (by omega) (Ev.now _)
 | succ d ih =>
  intro i hi
  refine Ev.one (fun k => by rw [laws_sameInts.l0]) ?_
  refine Ev.pos (by omega) (Ev.pos (by omega) (Ev.pos (by omega) (Ev.pos rfl ?_)))
  rw [w64_succ i (by omega)]
  exact ih (i + 1) (by omega)
theorem sameInts_ev (l : List Int) (hl : l.length ≤ 35184372088832) : Ev (fun k => laws_sameInts.f k l l) true := by
 unfold laws_sameInts.f
 exact Ev.pos rfl (sameInts_l0 l hl l.length 0 (by omega))
/-! draw: the cursor of the draws, what it picks, the drawn semigroups -/
theorem i64_and255 (n : Int) : Go.bits .and .i64 n 255 = n % 256 := by
 have h1 : (BitVec.ofInt 64 255).toNat = 2 ^ 8 - 1 := by decide
 have key : (BitVec.ofInt 64 n &&& BitVec.ofInt 64 255).toNat = (n % ((2 ^ 64 : Nat) : Int)).toNat % 2 ^ 8 := by
  rw [BitVec.toNat_and, BitVec.toNat_ofInt, h1, Nat.and_two_pow_sub_one_eq_mod]
 show IntKind.i64.wrap ((BitVec.ofInt 64 n &&& BitVec.ofInt 64 255).toNat : Nat) = n % 256
 rw [key, IntKind.wrap_i64]
 omega
/-- The cursor stands inside the bytes. -/
def CurOk (b : List Int) (i : Int) : Prop := b.length ≤ 1048576 ∧ 0 ≤ i ∧ i ≤ (b.length : Int)
theorem l1Byte_ok (b : List Int) (i h : Int) (ok : CurOk b i) : ∃ x i' h', spec_l1Byte.f b i h = some (x, i', h') ∧ (0 ≤ x ∧ x ≤ 255) ∧ CurOk b i' := by
 obtain ⟨o1, o2, o3⟩ := ok
 unfold spec_l1Byte.f
 by_cases c : i < (b.length : Int)
 ·rw [if_pos c, if_pos o2]
  refine ⟨_, _, _, rfl, ?_, o1, ?_⟩
  ·rw [i64_and255]; omega
  ·rw [w64_of (by omega) (by omega)]; omega
 ·rw [if_neg c]
  refine ⟨_, _, _, rfl, ?_, o1, o2, o3⟩
  rw [i64_and255]; omega
theorem tmod_in (x n : Int) (h0 : 0 ≤ x) (hn : 1 ≤ n) : 0 ≤ Int.tmod x n ∧ Int.tmod x n < n :=
 ⟨Int.tmod_nonneg n h0, by have := Int.tmod_lt_of_pos x (show 0 < n by omega); exact this⟩
theorem l1Below_ok (b : List Int) (i h n : Int) (ok : CurOk b i) : ∃ x i' h', spec_l1Below.f b i h n = some (x, i', h') ∧ (0 ≤ x ∧ (1 ≤ n → x < n) ∧ (n ≤ 0 → x = 0)) ∧ CurOk b i' := by
 unfold spec_l1Below.f
 by_cases c : n ≤ 0
 ·rw [if_pos c]
  exact ⟨_, _, _, rfl, ⟨by omega, by omega, fun _ => rfl⟩, ok⟩
 rw [if_neg c]
 obtain ⟨x, i1, h1, e1, b1, k1⟩ := l1Byte_ok b i h ok
 rw [e1]
 by_cases c2 : n ≤ 256
 ·rw [if_pos c2]
  simp only [Option.bind_some]
  rw [if_neg (by omega)]
  exact ⟨_, _, _, rfl, ⟨(tmod_in x n b1.1 (by omega)).1, fun _ => (tmod_in x n b1.1 (by omega)).2, by omega⟩, k1⟩
 ·rw [if_neg c2]
  obtain ⟨y, i2, h2, e2, b2, k2⟩ := l1Byte_ok b i1 h1 k1
  obtain ⟨z, i3, h3, e3, b3, k3⟩ := l1Byte_ok b i2 h2 k2
  obtain ⟨u, i4, h4, e4, b4, k4⟩ := l1Byte_ok b i3 h3 k3
  simp only [Option.bind_some, e2, e3, e4]
  rw [if_neg (by omega)]
  have hv : 0 ≤ wrap64 ((wrap64 ((wrap64 ((wrap64 (x * 16777216)) + (wrap64 (y * 65536)))) + (wrap64 (z * 256)))) + u) := by
   rw [w64_of (x := x * 16777216) (by omega) (by omega), w64_of (x := y * 65536) (by omega) (by omega), w64_of (x := z * 256) (by omega) (by omega), w64_of (x := x * 16777216 + y * 65536) (by omega) (by omega), w64_of (x := x * 16777216 + y * 65536 + z * 256) (by omega) (by omega), w64_of (by omega) (by omega)]
   omega
  exact ⟨_, _, _, rfl, ⟨(tmod_in _ n hv (by omega)).1, fun _ => (tmod_in _ n hv (by omega)).2, by omega⟩, k4⟩
theorem l1Once_ok (b : List Int) (i h n : Int) (ok : CurOk b i) : ∃ x i' h', spec_l1Once.f b i h n = some (x, i', h') ∧ CurOk b i' := by
 unfold spec_l1Once.f
 obtain ⟨x, i1, h1, e1, _, k1⟩ := l1Below_ok b i h n ok
 rw [e1]
 exact ⟨_, _, _, rfl, k1⟩
theorem l1PickInt_ok (b : List Int) (i h : Int) (l : List Int) (ok : CurOk b i) (hl : 1 ≤ l.length) : ∃ x i' h', spec_l1PickInt.f b i h l = some (x, i', h') ∧ x ∈ l ∧ CurOk b i' := by
 unfold spec_l1PickInt.f
 obtain ⟨x, i1, h1, e1, b1, k1⟩ := l1Below_ok b i h (l.length : Int) ok
 have b2 := b1.2.1 (by omega)
 rw [e1]
 simp only [Option.bind_some]
 rw [if_pos b1.1, if_pos b2]
 refine ⟨_, _, _, rfl, ?_, k1⟩
 obtain ⟨m, rfl⟩ : ∃ m : Nat, x = (m : Int) := ⟨x.toNat, by omega⟩
 rw [rd_at l m (by omega)]
 exact List.getElem_mem _
theorem l1New_l0 (b : List Int) (hb : b.length ≤ 1048576) : ∀ (d i : Nat) (h : Int), i + d = 4001 → ∃ h', Ev (fun k => spec_l1New.l0 k b h (i : Int)) (b, 0, h') := by
 intro d
 induction d with
 | zero =>
  intro i h hi
  refine ⟨h, Ev.one (fun k => by rw [spec_l1New.l0]) ?_⟩
  by_cases c : (i : Int) < (b.length : Int)
  ·exact Ev.pos c (Ev.neg (by omega) (Ev.now _))
  ·exact Ev.neg c (Ev.now _)
 | succ d ih =>
  intro i h hi
  by_cases c : (i : Int) < (b.length : Int)
  ·by_cases c2 : (i : Int) < 4000
   ·obtain ⟨h', e⟩ := ih (i + 1) (Go.bits .and .i64 (wrap64 ((wrap64 ((wrap64 (h * 131)) + (wrap64 (rd b (i : Int))))) + 7)) 1073741823) (by omega)
    refine ⟨h', Ev.one (fun k => by rw [spec_l1New.l0]) ?_⟩
    refine Ev.pos c (Ev.pos c2 (Ev.pos (by omega) ?_))
    rw [w64_succ i (by omega)]
    exact e
   ·refine ⟨h, Ev.one (fun k => by rw [spec_l1New.l0]) ?_⟩
    exact Ev.pos c (Ev.neg c2 (Ev.now _))
  ·refine ⟨h, Ev.one (fun k => by rw [spec_l1New.l0]) ?_⟩
   exact Ev.neg c (Ev.now _)
theorem l1New_ok (b : List Int) (hb : b.length ≤ 1048576) : ∃ h, Ev (fun k => spec_l1New.f k b) (b, 0, h) ∧ CurOk b 0 := by
 obtain ⟨h', e⟩ := l1New_l0 b hb 4001 0 (wrap64 (26583 + (b.length : Int))) (by omega)
 exact ⟨h', e, hb, by omega, by omega⟩
/-! drawsg: the drawn semigroups -/
def sB (g : List Int) : Nat → Int → Bool
 | 0, n => decide (n = 0)
 | f + 1, n => decide (n = 0) || g.any fun x => decide (x ≤ n) && sB g f (n - x)
theorem sB_sound (g : List Int) : ∀ (f : Nat) (n : Int), sB g f n = true → Sums g n := by
 intro f
 induction f with
 | zero => intro n h; rw [sB, decide_eq_true_eq] at h; rw [h]; exact Sums.zero g
 | succ f ih =>
  intro n h
  rw [sB, Bool.or_eq_true, decide_eq_true_eq, List.any_eq_true] at h
  rcases h with h | ⟨x, hx, h⟩
  ·rw [h]; exact Sums.zero g
  ·rw [Bool.and_eq_true] at h
   have := Sums.add hx (ih _ h.2)
   rwa [show n - x + x = n from by omega] at this
theorem sB_all (g : List Int) (hp : ∀ x ∈ g, 1 ≤ x) : ∀ (f : Nat) (n : Int), n ≤ (f : Int) → Sums g n → sB g f n = true := by
 intro f
 induction f with
 | zero => intro n h hs; have := hs.nonneg hp; rw [sB, decide_eq_true_eq]; omega
 | succ f ih =>
  intro n h hs
  rw [sB, Bool.or_eq_true, decide_eq_true_eq, List.any_eq_true]
  by_cases h0 : n = 0
  ·exact .inl h0
  ·obtain ⟨x, hx, hxn, hc⟩ := hs.cut hp h0
   have := hp x hx
   exact .inr ⟨x, hx, by rw [Bool.and_eq_true, decide_eq_true_eq]; exact ⟨hxn, ih _ (by omega) hc⟩⟩
theorem SG_of (g : List Int) (a : Nat) (w : List Int) (ha : 1 ≤ a) (hm : (a : Int) ∈ g) (h1 : 1 ≤ g.length ∧ g.length ≤ 12) (h2 : ∀ x ∈ g, 1 ≤ x ∧ x ≤ 60) (h3 : asc g) (h4 : gcdL g = 1)
  (h5 : ∀ k, k < g.length → k = 0 ∨ (g.getD k 0 ≤ 60 ∧ sB (g.take k) 60 (g.getD k 0) = false))
  (h6 : ∀ r : Nat, r < a → ∃ m ∈ w, m ≤ 200 ∧ m % (a : Int) = (r : Int) ∧ sB g 60 m = true) : SG g := by
 refine ⟨h1.1, h1.2, h2, h3, h4, fun k hk => ?_, fun n hn => ?_⟩
 ·rcases h5 k hk with h | h
  ·exact .inl h
  ·refine .inr fun hs => ?_
   have := sB_all (g.take k) (fun x hx => (h2 x (List.mem_of_mem_take hx)).1) 60 _ h.1 hs
   rw [h.2] at this
   cases this
 ·obtain ⟨m, _, m1, m2, m3⟩ := h6 (n % (a : Int)).toNat (by have := Int.emod_nonneg n (show (a : Int) ≠ 0 by omega); have := Int.emod_lt_of_pos n (show (0 : Int) < a by omega); omega)
  have e0 := Int.emod_nonneg n (show (a : Int) ≠ 0 by omega)
  have e1 : m % (a : Int) = n % (a : Int) := by omega
  have e2 : (n - m) % (a : Int) = 0 := Int.emod_eq_emod_iff_emod_sub_eq_zero.1 e1.symm
  obtain ⟨q, hq⟩ := Int.dvd_of_emod_eq_zero e2
  have hq0 : 0 ≤ q := Classical.byContradiction fun hn' => by
   have : (a : Int) * q ≤ (a : Int) * (-1) := Int.mul_le_mul_of_nonneg_left (by omega) (by omega)
   omega
  obtain ⟨c, rfl⟩ : ∃ c : Nat, q = (c : Int) := ⟨q.toNat, by omega⟩
  have := (sB_sound g 60 m m3).both (Sums.times hm c)
  rwa [show m + (c : Int) * (a : Int) = n from by rw [Int.mul_comm]; omega] at this
def eight : List (List Int) := [[1], [3, 5], [4, 6, 9], [3, 4, 5], [6, 9, 20], [5, 7, 9, 11], [2, 3], [4, 5, 11]]
theorem eight_SG : ∀ g ∈ eight, SG g := by
 intro g hg
 have a1 : ∀ l : List Int, l.Pairwise (· < ·) → asc l := fun _ h => h
 simp only [eight, List.mem_cons, List.not_mem_nil, or_false] at hg
 rcases hg with rfl | rfl | rfl | rfl | rfl | rfl | rfl | rfl
 ·exact SG_of _ 1 [0] (by decide) (by decide) (by decide) (by decide) (a1 _ (by decide)) (by decide) (by decide) (by decide)
 ·exact SG_of _ 3 [0, 10, 5] (by decide) (by decide) (by decide) (by decide) (a1 _ (by decide)) (by decide) (by decide +kernel) (by decide +kernel)
 ·exact SG_of _ 4 [0, 9, 6, 15] (by decide) (by decide) (by decide) (by decide) (a1 _ (by decide)) (by decide) (by decide +kernel) (by decide +kernel)
 ·exact SG_of _ 3 [0, 4, 5] (by decide) (by decide) (by decide) (by decide) (a1 _ (by decide)) (by decide) (by decide +kernel) (by decide +kernel)
 ·exact SG_of _ 6 [0, 49, 20, 9, 40, 29] (by decide) (by decide) (by decide) (by decide) (a1 _ (by decide)) (by decide) (by decide +kernel) (by decide +kernel)
 ·exact SG_of _ 5 [0, 11, 7, 18, 9] (by decide) (by decide) (by decide) (by decide) (a1 _ (by decide)) (by decide) (by decide +kernel) (by decide +kernel)
 ·exact SG_of _ 2 [0, 3] (by decide) (by decide) (by decide) (by decide) (a1 _ (by decide)) (by decide) (by decide +kernel) (by decide +kernel)
 ·exact SG_of _ 4 [0, 5, 10, 11] (by decide) (by decide) (by decide) (by decide) (a1 _ (by decide)) (by decide) (by decide +kernel) (by decide +kernel)
/-- What spec.FromGens gives. -/
theorem spec_FromGens_ev (l : List Int) (hl : l.length ≤ 1048576) : ∃ r : List Int × Bool, ((r.2 = true → SG r.1) ∧ (r.2 = false → r.1 = []) ∧ (SG l → r = (l, true))) ∧ Ev (fun k => spec_FromGens.f k l) r := by
 have u1 := spec_l3Gens_ev l hl
 unfold spec_FromGens.f
 cases hb : (allIn l 1 60 && decide ((1 : Int) ≤ (l.length : Int) ∧ (l.length : Int) ≤ 20)) with
 | false =>
  rw [hb] at u1
  refine ⟨([], false), ⟨by simp, by simp, fun h => ?_⟩, Ev.bnd u1 (Ev.neg (by decide) (Ev.now _))⟩
  rw [(allIn_iff l 1 60).2 h.rng, Bool.true_and, decide_eq_false_iff_not] at hb
  have := h.len1; have := h.len2
  omega
 | true =>
  rw [hb] at u1
  rw [Bool.and_eq_true, decide_eq_true_eq] at hb
  have hr := (allIn_iff l 1 60).1 hb.1
  obtain ⟨s, s1, s2⟩ := spec_l3Minimal_ev l hl (fun x hx => by have := hr x hx; omega)
  have hml := minL_len s
  obtain ⟨c, c1, c2⟩ := spec_IsSemigroup_ev (minL s) (by omega)
  refine ⟨if c = true then (minL s, true) else ([], false), ⟨?_, ?_, fun h => ?_⟩, Ev.bnd u1 (Ev.pos rfl (Ev.bnd s2 (Ev.bnd c2 ?_)))⟩
  ·cases c with
   | true => exact fun _ => c1.1 rfl
   | false => intro h; cases h
  ·cases c with
   | true => intro h; cases h
   | false => exact fun _ => rfl
  ·obtain rfl : s = l := asc_uniq s l s1.1 h.up s1.2.1
   have e := (minL_iff s).2 h.free
   rw [e] at c1 ⊢
   rw [if_pos (c1.2 h)]
  ·cases c with
   | true => exact Ev.pos rfl (Ev.now _)
   | false => exact Ev.neg (by decide) (Ev.now _)
theorem l3List_ok (b : List Int) (i h : Int) (ok : CurOk b i) : ∃ x i' h', spec_l3List.f b i h = some (x, i', h') ∧ SG x ∧ CurOk b i' := by
 unfold spec_l3List.f
 obtain ⟨x, i1, h1, e1, b1, k1⟩ := l1Below_ok b i h 8 ok
 have b2 := b1.2.1 (by omega)
 rw [e1]
 simp only [Option.bind_some]
 have key : ∀ g ∈ eight, ∃ x i' h', (some (g, i1, h1) : Option (List Int × Int × Int)) = some (x, i', h') ∧ SG x ∧ CurOk b i' := fun g hg => ⟨_, _, _, rfl, eight_SG g hg, k1⟩
 by_cases c0 : x = 0
 ·rw [if_pos c0]; exact key _ (by decide)
 rw [if_neg c0]
 by_cases c1 : x = 1
 ·rw [if_pos c1]; exact key _ (by decide)
 rw [if_neg c1]
 by_cases c2 : x = 2
 ·rw [if_pos c2]; exact key _ (by decide)
 rw [if_neg c2]
 by_cases c3 : x = 3
 ·rw [if_pos c3]; exact key _ (by decide)
 rw [if_neg c3]
 by_cases c4 : x = 4
 ·rw [if_pos c4]; exact key _ (by decide)
 rw [if_neg c4]
 by_cases c5 : x = 5
 ·rw [if_pos c5]; exact key _ (by decide)
 rw [if_neg c5]
 by_cases c6 : x = 6
 ·rw [if_pos c6]; exact key _ (by decide)
 ·rw [if_neg c6]; exact key _ (by decide)
theorem l3Fall_ok (b : List Int) (i h : Int) (ok : CurOk b i) : ∃ x i' h', SG x ∧ CurOk b i' ∧ Ev (fun k => (spec_l3List.f b i h).bind fun bt => (spec_FromGens.f k bt.1).bind fun bu => (some (bu.1, bt.2.1, bt.2.2))) (x, i', h') := by
 obtain ⟨x, i1, h1, e1, b1, k1⟩ := l3List_ok b i h ok
 obtain ⟨r, r1, r2⟩ := spec_FromGens_ev x (by have := b1.len2; omega)
 obtain rfl := r1.2.2 b1
 have f1 : Ev (fun _ : Nat => spec_l3List.f b i h) (x, i1, h1) := Ev.const e1
 exact ⟨x, i1, h1, b1, k1, Ev.bnd f1 (Ev.bnd r2 (Ev.now _))⟩
theorem l3Draw_l1 (b : List Int) (x5 : Int) (next : ∀ i h, CurOk b i → ∃ x i' h', SG x ∧ CurOk b i' ∧ Ev (fun k => spec_l3Draw.l0 k (wrap64 (x5 + 1)) b i h) (x, i', h')) (x7 : Int) (h7 : x7 ≤ 4) :
  ∀ (d j : Nat) (l : List Int) (i h : Int), j + d = 4 → l.length = j + 1 → (∀ x ∈ l.take 1, 0 ≤ x ∧ x ≤ 100) → CurOk b i → ∃ x i' h', SG x ∧ CurOk b i' ∧ Ev (fun k => spec_l3Draw.l1 k x5 l x7 (j : Int) b i h) (x, i', h') := by
 intro d
 induction d with
 | zero =>
  intro j l i h hj hl h0 ok
  obtain ⟨r, r1, r2⟩ := spec_FromGens_ev l (by omega)
  cases hr : r.2 with
  | true =>
   refine ⟨r.1, i, h, r1.1 hr, ok, Ev.one (fun k => by rw [spec_l3Draw.l1]) (Ev.neg (by omega) (Ev.bnd r2 (Ev.pos hr (Ev.now _))))⟩
  | false =>
   obtain ⟨x, i', h', n1, n2, n3⟩ := next i h ok
   exact ⟨x, i', h', n1, n2, Ev.one (fun k => by rw [spec_l3Draw.l1]) (Ev.neg (by omega) (Ev.bnd r2 (Ev.neg (show ¬ r.2 = true by rw [hr]; decide) n3)))⟩
 | succ d ih =>
  intro j l i h hj hl h0 ok
  by_cases c : (j : Int) < x7
  ·obtain ⟨y, i1, h1, e1, b1, k1⟩ := l1Below_ok b i h 12 ok
   have e1' : Ev (fun _ : Nat => spec_l1Below.f b i h 12) (y, i1, h1) := Ev.const e1
   obtain ⟨x, i', h', n1, n2, n3⟩ := ih (j + 1) (l ++ [wrap64 ((wrap64 ((rd l 0) + 1)) + y)]) i1 h1 (by omega) (by simp; omega) (by rw [List.take_append_of_le_length (by omega)]; exact h0) k1
   refine ⟨x, i', h', n1, n2, ?_⟩
   refine Ev.one (fun k => by rw [spec_l3Draw.l1]) ?_
   refine Ev.pos c (Ev.pos (by omega) (Ev.bnd e1' ?_))
   rw [w64_succ j (by omega)]
   exact Ev.pos (show l.length < 17592186044416 by omega) n3
  ·obtain ⟨r, r1, r2⟩ := spec_FromGens_ev l (by omega)
   cases hr : r.2 with
   | true =>
    refine ⟨r.1, i, h, r1.1 hr, ok, Ev.one (fun k => by rw [spec_l3Draw.l1]) (Ev.neg c (Ev.bnd r2 (Ev.pos hr (Ev.now _))))⟩
   | false =>
    obtain ⟨x, i', h', n1, n2, n3⟩ := next i h ok
    exact ⟨x, i', h', n1, n2, Ev.one (fun k => by rw [spec_l3Draw.l1]) (Ev.neg c (Ev.bnd r2 (Ev.neg (show ¬ r.2 = true by rw [hr]; decide) n3)))⟩
theorem l3Draw_l0 (b : List Int) : ∀ (d q : Nat) (i h : Int), q + d = 4 → CurOk b i → ∃ x i' h', SG x ∧ CurOk b i' ∧ Ev (fun k => spec_l3Draw.l0 k (q : Int) b i h) (x, i', h') := by
 intro d
 induction d with
 | zero =>
  intro q i h hq ok
  obtain ⟨x, i', h', n1, n2, n3⟩ := l3Fall_ok b i h ok
  exact ⟨x, i', h', n1, n2, Ev.one (fun k => by rw [spec_l3Draw.l0]) (Ev.neg (by omega) n3)⟩
 | succ d ih =>
  intro q i h hq ok
  obtain ⟨y, i1, h1, e1, b1, k1⟩ := l1Below_ok b i h 8 ok
  obtain ⟨z, i2, h2, e2, b2, k2⟩ := l1Below_ok b i1 h1 4 k1
  have f1 : Ev (fun _ : Nat => spec_l1Below.f b i h 8) (y, i1, h1) := Ev.const e1
  have f2 : Ev (fun _ : Nat => spec_l1Below.f b i1 h1 4) (z, i2, h2) := Ev.const e2
  have y8 := b1.2.1 (by omega)
  have z4 := b2.2.1 (by omega)
  have h7 : wrap64 (1 + z) ≤ 4 := by rw [w64_of (by omega) (by omega)]; omega
  obtain ⟨x, i', h', n1, n2, n3⟩ := l3Draw_l1 b (q : Int) (fun i h ok => by rw [w64_succ q (by omega)]; exact ih (q + 1) i h (by omega) ok) (wrap64 (1 + z)) h7 4 0 [wrap64 (2 + y)] i2 h2 (by omega) rfl (by
   intro x hx
   rw [List.mem_singleton.1 hx, w64_of (by omega) (by omega)]
   omega) k2
  exact ⟨x, i', h', n1, n2, Ev.one (fun k => by rw [spec_l3Draw.l0]) (Ev.pos (by omega) (Ev.bnd f1 (Ev.bnd f2 n3)))⟩
theorem l3Draw_ok (b : List Int) (i h : Int) (ok : CurOk b i) : ∃ x i' h', SG x ∧ CurOk b i' ∧ Ev (fun k => spec_l3Draw.f k b i h) (x, i', h') := by
 unfold spec_l3Draw.f
 obtain ⟨y, i1, h1, e1, k1⟩ := l1Once_ok b i h 4 ok
 have f1 : Ev (fun _ : Nat => spec_l1Once.f b i h 4) (y, i1, h1) := Ev.const e1
 cases y with
 | true =>
  obtain ⟨x, i', h', n1, n2, n3⟩ := l3Fall_ok b i1 h1 k1
  exact ⟨x, i', h', n1, n2, Ev.bnd f1 (Ev.pos rfl n3)⟩
 | false =>
  obtain ⟨x, i', h', n1, n2, n3⟩ := l3Draw_l0 b 4 0 i1 h1 (by omega) k1
  exact ⟨x, i', h', n1, n2, Ev.bnd f1 (Ev.neg (show ¬ false = true by decide) n3)⟩
theorem l3Bent_ok (b : List Int) (i h : Int) (ok : CurOk b i) : ∃ x i' h', x.length ≤ 13 ∧ CurOk b i' ∧ Ev (fun k => spec_l3Bent.f k b i h) (x, i', h') := by
 unfold spec_l3Bent.f
 obtain ⟨g, i1, h1, hS, k1, e1⟩ := l3Draw_ok b i h ok
 have n1 := hS.len1; have n2 := hS.len2
 obtain ⟨y, i2, h2, e2, b2, k2⟩ := l1Below_ok b i1 h1 12 k1
 have f2 : Ev (fun _ : Nat => spec_l1Below.f b i1 h1 12) (y, i2, h2) := Ev.const e2
 by_cases c0 : y = 0
 ·obtain ⟨v, i3, h3, e3, _, k3⟩ := l1PickInt_ok b i2 h2 [0, 61, 12, (-3), 60] k2 (by decide)
  have f3 : Ev (fun _ : Nat => spec_l1PickInt.f b i2 h2 [0, 61, 12, (-3), 60]) (v, i3, h3) := Ev.const e3
  exact ⟨g ++ [v], i3, h3, by simp; omega, k3, Ev.bnd e1 (Ev.bnd f2 (Ev.pos c0 (Ev.bnd f3 (Ev.pos (by show g.length < _; omega) (Ev.now _)))))⟩
 by_cases c1 : y = 1
 ·exact ⟨g.drop 1, i2, h2, by simp; omega, k2, Ev.bnd e1 (Ev.bnd f2 (Ev.neg c0 (Ev.pos c1 (Ev.pos (by show 1 ≤ (g.length : Int); omega) (Ev.now _)))))⟩
 by_cases c2 : y = 2
 ·obtain ⟨v, i3, h3, e3, _, k3⟩ := l1PickInt_ok b i2 h2 [0, 59, 4] k2 (by decide)
  have f3 : Ev (fun _ : Nat => spec_l1PickInt.f b i2 h2 [0, 59, 4]) (v, i3, h3) := Ev.const e3
  exact ⟨[v, 60], i3, h3, by simp, k3, Ev.bnd e1 (Ev.bnd f2 (Ev.neg c0 (Ev.neg c1 (Ev.pos c2 (Ev.bnd f3 (Ev.now _))))))⟩
 ·exact ⟨g, i2, h2, by omega, k2, Ev.bnd e1 (Ev.bnd f2 (Ev.neg c0 (Ev.neg c1 (Ev.neg c2 (Ev.now _)))))⟩
/-! draw16: drawn semigroups with lists, and how great their numbers are -/
theorem l3Bent_rng (b : List Int) (i h : Int) (ok : CurOk b i) : ∃ x i' h', (x.length ≤ 13 ∧ ∀ v ∈ x, -1000000 ≤ v ∧ v ≤ 1000000) ∧ CurOk b i' ∧ Ev (fun k => spec_l3Bent.f k b i h) (x, i', h') := by
 unfold spec_l3Bent.f
 obtain ⟨g, i1, h1, hS, k1, e1⟩ := l3Draw_ok b i h ok
 have n1 := hS.len1; have n2 := hS.len2
 have hr : ∀ v ∈ g, -1000000 ≤ v ∧ v ≤ 1000000 := fun v hv => by have := hS.rng v hv; omega
 obtain ⟨y, i2, h2, e2, b2, k2⟩ := l1Below_ok b i1 h1 12 k1
 have f2 : Ev (fun _ : Nat => spec_l1Below.f b i1 h1 12) (y, i2, h2) := Ev.const e2
 by_cases c0 : y = 0
 ·obtain ⟨v, i3, h3, e3, hv, k3⟩ := l1PickInt_ok b i2 h2 [0, 61, 12, (-3), 60] k2 (by decide)
  have f3 : Ev (fun _ : Nat => spec_l1PickInt.f b i2 h2 [0, 61, 12, (-3), 60]) (v, i3, h3) := Ev.const e3
  refine ⟨g ++ [v], i3, h3, ⟨by simp; omega, fun u hu => ?_⟩, k3, Ev.bnd e1 (Ev.bnd f2 (Ev.pos c0 (Ev.bnd f3 (Ev.pos (by show g.length < _; omega) (Ev.now _)))))⟩
  rcases List.mem_append.1 hu with h | h
  ·exact hr u h
  ·rw [List.mem_singleton.1 h]
   simp only [List.mem_cons, List.not_mem_nil, or_false] at hv
   omega
 by_cases c1 : y = 1
 ·exact ⟨g.drop 1, i2, h2, ⟨by simp; omega, fun u hu => hr u (List.mem_of_mem_drop hu)⟩, k2, Ev.bnd e1 (Ev.bnd f2 (Ev.neg c0 (Ev.pos c1 (Ev.pos (by show 1 ≤ (g.length : Int); omega) (Ev.now _)))))⟩
 by_cases c2 : y = 2
 ·obtain ⟨v, i3, h3, e3, hv, k3⟩ := l1PickInt_ok b i2 h2 [0, 59, 4] k2 (by decide)
  have f3 : Ev (fun _ : Nat => spec_l1PickInt.f b i2 h2 [0, 59, 4]) (v, i3, h3) := Ev.const e3
  refine ⟨[v, 60], i3, h3, ⟨by simp, fun u hu => ?_⟩, k3, Ev.bnd e1 (Ev.bnd f2 (Ev.neg c0 (Ev.neg c1 (Ev.pos c2 (Ev.bnd f3 (Ev.now _))))))⟩
  simp only [List.mem_cons, List.not_mem_nil, or_false] at hv hu
  omega
 ·exact ⟨g, i2, h2, ⟨by omega, hr⟩, k2, Ev.bnd e1 (Ev.bnd f2 (Ev.neg c0 (Ev.neg c1 (Ev.neg c2 (Ev.now _)))))⟩
theorem l16Draw_l0 (b : List Int) (x4 : Int) (h4 : x4 ≤ 4) : ∀ (d q : Nat) (l : List Int) (i h : Int), q + d = 4 → l.length = q → (∀ v ∈ l, -1000000 ≤ v ∧ v ≤ 1000000) → CurOk b i → ∃ x i' h', (x.length ≤ 5 ∧ ∀ v ∈ x, -1000000 ≤ v ∧ v ≤ 1000000) ∧ CurOk b i' ∧ Ev (fun k => spec_l16Draw.l0 k l x4 (q : Int) b i h) (x, i', h') := by
 have fin : ∀ (l : List Int) (i h : Int), l.length ≤ 4 → (∀ v ∈ l, -1000000 ≤ v ∧ v ≤ 1000000) → CurOk b i → ∃ x i' h', (x.length ≤ 5 ∧ ∀ v ∈ x, -1000000 ≤ v ∧ v ≤ 1000000) ∧ CurOk b i' ∧ Ev (fun _ : Nat => ((spec_l1Below.f b i h 16).bind fun bt1675 => (if bt1675.1 = 0 then (some ((([] : List Int)), bt1675.2.1, bt1675.2.2)) else (if bt1675.1 = 1 then ((spec_l1PickInt.f b bt1675.2.1 bt1675.2.2 (([200, 201, (-200), (-201)] : List Int))).bind fun bt1684 => (if l.length < 17592186044416 then (some ((l ++ [bt1684.1]), bt1684.2.1, bt1684.2.2)) else (none))) else (some (l, bt1675.2.1, bt1675.2.2)))))) (x, i', h') := fun l i h hl hv ok => by
  obtain ⟨y, i2, h2, e2, _, k2⟩ := l1Below_ok b i h 16 ok
  have f2 : Ev (fun _ : Nat => spec_l1Below.f b i h 16) (y, i2, h2) := Ev.const e2
  by_cases c0 : y = 0
  ·exact ⟨[], i2, h2, ⟨by simp, by simp⟩, k2, Ev.bnd f2 (Ev.pos c0 (Ev.now _))⟩
  by_cases c1 : y = 1
  ·obtain ⟨v, i3, h3, e3, hw, k3⟩ := l1PickInt_ok b i2 h2 [200, 201, (-200), (-201)] k2 (by decide)
   have f3 : Ev (fun _ : Nat => spec_l1PickInt.f b i2 h2 [200, 201, (-200), (-201)]) (v, i3, h3) := Ev.const e3
   refine ⟨l ++ [v], i3, h3, ⟨by simp; omega, fun u hu => ?_⟩, k3, Ev.bnd f2 (Ev.neg c0 (Ev.pos c1 (Ev.bnd f3 (Ev.pos (show l.length < 17592186044416 by omega) (Ev.now _)))))⟩
   rcases List.mem_append.1 hu with h | h
   ·exact hv u h
   ·rw [List.mem_singleton.1 h]
    simp only [List.mem_cons, List.not_mem_nil, or_false] at hw
    omega
  ·exact ⟨l, i2, h2, ⟨by omega, hv⟩, k2, Ev.bnd f2 (Ev.neg c0 (Ev.neg c1 (Ev.now _)))⟩
 intro d
 induction d with
 | zero =>
  intro q l i h hq hl hv ok
  obtain ⟨x, i', h', n1, n2, n3⟩ := fin l i h (by omega) hv ok
  refine ⟨x, i', h', n1, n2, Ev.one (fun k => by rw [spec_l16Draw.l0]) ?_⟩
  exact Ev.neg (by omega) n3
 | succ d ih =>
  intro q l i h hq hl hv ok
  by_cases c : (q : Int) < x4
  ·obtain ⟨y, i1, h1, e1, b1, k1⟩ := l1Below_ok b i h 24 ok
   have f1 : Ev (fun _ : Nat => spec_l1Below.f b i h 24) (y, i1, h1) := Ev.const e1
   have hy := b1.2.1 (by omega)
   obtain ⟨x, i', h', n1, n2, n3⟩ := ih (q + 1) (l ++ [wrap64 (y - 6)]) i1 h1 (by omega) (by simp; omega) (fun u hu => by
    rcases List.mem_append.1 hu with h | h
    ·exact hv u h
    ·rw [List.mem_singleton.1 h, w64_of (by omega) (by omega)]; omega) k1
   refine ⟨x, i', h', n1, n2, ?_⟩
   refine Ev.one (fun k => by rw [spec_l16Draw.l0]) ?_
   refine Ev.pos c (Ev.bnd f1 ?_)
   rw [w64_succ q (by omega)]
   exact Ev.pos (show l.length < 17592186044416 by omega) n3
  ·obtain ⟨x, i', h', n1, n2, n3⟩ := fin l i h (by omega) hv ok
   refine ⟨x, i', h', n1, n2, Ev.one (fun k => by rw [spec_l16Draw.l0]) ?_⟩
   exact Ev.neg c n3
theorem l16Draw_ok (b : List Int) (i h : Int) (ok : CurOk b i) : ∃ x i' h', (x.length ≤ 5 ∧ ∀ v ∈ x, -1000000 ≤ v ∧ v ≤ 1000000) ∧ CurOk b i' ∧ Ev (fun k => spec_l16Draw.f k b i h) (x, i', h') := by
 unfold spec_l16Draw.f
 obtain ⟨y, i1, h1, e1, b1, k1⟩ := l1Below_ok b i h 4 ok
 have f1 : Ev (fun _ : Nat => spec_l1Below.f b i h 4) (y, i1, h1) := Ev.const e1
 have hy := b1.2.1 (by omega)
 obtain ⟨x, i', h', n1, n2, n3⟩ := l16Draw_l0 b (wrap64 (1 + y)) (by rw [w64_of (by omega) (by omega)]; omega) 4 0 [] i1 h1 (by omega) rfl (by simp) k1
 exact ⟨x, i', h', n1, n2, Ev.bnd f1 n3⟩
theorem drawInIdeal_ok (b : List Int) (hb : b.length ≤ 1048576) : ∃ g l x, (g.length ≤ 13 ∧ ∀ v ∈ g, -1000000 ≤ v ∧ v ≤ 1000000) ∧ (l.length ≤ 5 ∧ ∀ v ∈ l, -1000000 ≤ v ∧ v ≤ 1000000) ∧ Ev (fun k => spec_DrawInIdeal.f k b) (g, l, x) := by
 unfold spec_DrawInIdeal.f
 obtain ⟨h0, e0, k0⟩ := l1New_ok b hb
 obtain ⟨g, i1, h1, hg, k1, e1⟩ := l3Bent_rng b 0 h0 k0
 obtain ⟨l, i2, h2, hl, k2, e2⟩ := l16Draw_ok b i1 h1 k1
 obtain ⟨x, i3, h3, e3, _, k3⟩ := l1Below_ok b i2 h2 50 k2
 obtain ⟨y, i4, h4, e4, _, k4⟩ := l1Below_ok b i3 h3 50 k3
 obtain ⟨v, i5, h5, e5, _, _⟩ := l1PickInt_ok b i4 h4 [wrap64 (x - 10), wrap64 (y - 10), 1000001] k4 (by simp)
 have f3 : Ev (fun _ : Nat => spec_l1Below.f b i2 h2 50) (x, i3, h3) := Ev.const e3
 have f4 : Ev (fun _ : Nat => spec_l1Below.f b i3 h3 50) (y, i4, h4) := Ev.const e4
 have f5 : Ev (fun _ : Nat => spec_l1PickInt.f b i4 h4 [wrap64 (x - 10), wrap64 (y - 10), 1000001]) (v, i5, h5) := Ev.const e5
 exact ⟨g, l, v, hg, hl, Ev.bnd e0 (Ev.bnd e1 (Ev.bnd e2 (Ev.bnd f3 (Ev.bnd f4 (Ev.bnd f5 (Ev.now _))))))⟩
/-! draw17: drawn semigroups with two lists -/
theorem drawIdealSum_ok (b : List Int) (hb : b.length ≤ 1048576) : ∃ g l m, g.length ≤ 13 ∧ l.length ≤ 5 ∧ m.length ≤ 5 ∧ Ev (fun k => spec_DrawIdealSum.f k b) (g, l, m) := by
 unfold spec_DrawIdealSum.f
 obtain ⟨h0, e0, k0⟩ := l1New_ok b hb
 obtain ⟨g, i1, h1, hg, k1, e1⟩ := l3Bent_ok b 0 h0 k0
 obtain ⟨l, i2, h2, hl, k2, e2⟩ := l16Draw_ok b i1 h1 k1
 obtain ⟨m, i3, h3, hm, k3, e3⟩ := l16Draw_ok b i2 h2 k2
 exact ⟨g, l, m, hg, hl.1, hm.1, Ev.bnd e0 (Ev.bnd e1 (Ev.bnd e2 (Ev.bnd e3 (Ev.now _))))⟩
theorem drawCanonical_ok (b : List Int) (hb : b.length ≤ 1048576) : ∃ g, g.length ≤ 13 ∧ Ev (fun k => spec_DrawCanonicalGens.f k b) g := by
 unfold spec_DrawCanonicalGens.f
 obtain ⟨h0, e0, k0⟩ := l1New_ok b hb
 obtain ⟨g, i1, h1, hg, k1, e1⟩ := l3Bent_ok b 0 h0 k0
 exact ⟨g, hg, Ev.bnd e0 (Ev.bnd e1 (Ev.now _))⟩
/-! idealmath: least numbers of a set, plain -/
theorem min_under (g : List Int) (hp : ∀ x ∈ g, 1 ≤ x) (D : Int → Prop) (low : Int) (hlow : ∀ x, D x → low ≤ x) : ∀ (n : Nat) (x : Int), D x → x ≤ low + (n : Int) → ∃ z, (D z ∧ ∀ w, D w → z = w ∨ ¬ Sums g (z - w)) ∧ Sums g (x - z) := by
 intro n
 induction n using Nat.strongRecOn with
 | ind n ih =>
  intro x hx hn
  by_cases h : ∀ w, D w → x = w ∨ ¬ Sums g (x - w)
  ·exact ⟨x, ⟨hx, h⟩, by rw [Int.sub_self]; exact Sums.zero g⟩
  ·have h : ∃ w, D w ∧ x ≠ w ∧ Sums g (x - w) := Classical.byContradiction fun hc => h fun w hw => by
    by_cases e : x = w
    ·exact .inl e
    ·exact .inr fun hs => hc ⟨w, hw, e, hs⟩
   obtain ⟨w, hw, hne, hs⟩ := h
   have h0 := hs.nonneg hp
   have h1 := hlow w hw
   obtain ⟨z, hz, hzs⟩ := ih (w - low).toNat (by omega) w hw (by omega)
   refine ⟨z, hz, ?_⟩
   have := hs.both hzs
   rwa [show x - w + (w - z) = x - z from by omega] at this
theorem asc_one (k : List Int) (hk : asc k) (h0 : (0 : Int) ∈ k) : (((k.length : Int) == 1) = true) ↔ ∀ z ∈ k, z = 0 := by
 rw [beq_iff_eq]
 constructor
 ·intro h z hz
  match k, h with
  | [a], _ =>
   rw [List.mem_singleton] at h0 hz
   omega
 ·intro h
  have := asc_uniq k [0] hk (List.pairwise_singleton ..) (fun y => ⟨fun hy => by rw [h y hy]; exact List.mem_singleton.2 rfl, fun hy => by rw [List.mem_singleton.1 hy]; exact h0⟩)
  rw [this]
  rfl
end Go.Proofs.YtkfplkdchkmgbaaGreat.Pure
