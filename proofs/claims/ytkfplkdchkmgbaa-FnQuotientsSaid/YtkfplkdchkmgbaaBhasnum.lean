/- Plain lemmas (hasnum, ascpick, gapgens, fromboth, froms, spechas2, eqsg, plaw, draw, drawsg): no program, no memory. -/
import Derived.Test.YtkfplkdchkmgbaaC0
import Derived.Test.YtkfplkdchkmgbaaC1
import Derived.Test.YtkfplkdchkmgbaaC10
import Derived.Test.YtkfplkdchkmgbaaC14
import Derived.Test.YtkfplkdchkmgbaaC15
import Derived.Test.YtkfplkdchkmgbaaC17
import Derived.Test.YtkfplkdchkmgbaaC19
import Derived.Test.YtkfplkdchkmgbaaC4
import Derived.Test.YtkfplkdchkmgbaaC5
import Derived.Test.YtkfplkdchkmgbaaC6
import Derived.Test.YtkfplkdchkmgbaaC7
import Derived.Test.YtkfplkdchkmgbaaBbase
namespace Go.Proofs.Ytkfplkdchkmgbaa.Pure
open Go.RowKit Go.Proofs.Ytkfplkdchkmgbaa.C Go.Proofs.YtkfplkdchkmgbaaW.PrintWords Go.Proofs.YtkfplkdchkmgbaaW.PrintLast Go.Proofs.YtkfplkdchkmgbaaW.PrintMore
set_option linter.unusedVariables false
set_option linter.unusedSimpArgs false
/-! hasnum: spec.HasNumber -/
theorem spec_HasNumber_l0 (l : List Int) (x : Int) (hl : l.length ≤ 100000000000) : ∀ (d i : Nat), i + d = l.length → ∃ b, (b = true ↔ x ∈ l.drop i) ∧ Ev (fun k => spec_HasNumber.l0 k l x (i : Int)) b := by
  intro d
  induction d with
  | zero =>
    intro i hi
    rw [List.drop_eq_nil_of_le (by omega)]
    refine ⟨false, by simp, Ev.one (fun k => by rw [spec_HasNumber.l0]) ?_⟩
    exact Ev.neg (by omega) (Ev.now _)
  | succ d ih =>
    intro i hi
    rw [List.drop_eq_getElem_cons (show i < l.length by omega)]
    by_cases h : l[i] = x
    · refine ⟨true, ⟨fun _ => by rw [h]; exact List.mem_cons_self .., fun _ => rfl⟩, Ev.one (fun k => by rw [spec_HasNumber.l0]) ?_⟩
      rw [rd_at l i (by omega)]
      exact Ev.pos (by omega) (Ev.pos (by omega) (Ev.pos h (Ev.now _)))
    · obtain ⟨b, b1, b2⟩ := ih (i + 1) (by omega)
      refine ⟨b, ?_, Ev.one (fun k => by rw [spec_HasNumber.l0]) ?_⟩
      · rw [b1, List.mem_cons]
        exact ⟨fun e => .inr e, fun e => e.resolve_left (fun e2 => h e2.symm)⟩
      · rw [rd_at l i (by omega), w64_succ i (by omega)]
        exact Ev.pos (by omega) (Ev.pos (by omega) (Ev.neg h b2))
theorem spec_HasNumber_ev (l : List Int) (x : Int) (hl : l.length ≤ 100000000000) : ∃ b, (b = true ↔ x ∈ l) ∧ Ev (fun k => spec_HasNumber.f k l x) b := by
  unfold spec_HasNumber.f
  exact spec_HasNumber_l0 l x hl l.length 0 (by omega)
/-! ascpick: what is picked in order ascends -/
theorem asc_pick (p : Nat → Bool) (n : Nat) : asc (pick p (fun n => (n : Int)) n) := by
  unfold asc pick
  rw [List.pairwise_map]
  refine List.Pairwise.imp (R := fun a b : Nat => a < b) (fun h => by omega) (List.Pairwise.filter _ ?_)
  exact List.pairwise_lt_range
/-! gapgens: the generators that FromGaps finds -/
/-- A number beside the list that is no sum of two such numbers. -/
def irr (l : List Int) (n : Int) : Prop := 1 ≤ n ∧ n ∉ l ∧ ¬ ∃ a b : Int, 1 ≤ a ∧ 1 ≤ b ∧ a + b = n ∧ a ∉ l ∧ b ∉ l
noncomputable def irrB (l : List Int) (n : Nat) : Bool := @decide (irr l (n : Int)) (Classical.propDecidable _)
theorem irrB_iff (l : List Int) (n : Nat) : irrB l n = true ↔ irr l (n : Int) := by unfold irrB; exact @decide_eq_true_iff (irr l (n : Int)) (Classical.propDecidable _)
theorem irrB_not (l : List Int) (n : Nat) (h : ¬ irr l (n : Int)) : irrB l n = false := by
  cases hb : irrB l n with
  | false => rfl
  | true => exact absurd ((irrB_iff l n).1 hb) h
noncomputable def genL (l : List Int) (n : Nat) : List Int := pick (irrB l) (fun n => (n : Int)) n
theorem genL_len (l : List Int) (n : Nat) : (genL l n).length ≤ n := pick_len _ _ _
theorem genL_mem (l : List Int) (n : Nat) (x : Int) : x ∈ genL l n ↔ irr l x ∧ x < (n : Int) := by
  unfold genL pick
  rw [List.mem_map]
  constructor
  · rintro ⟨m, hm, rfl⟩
    rw [List.mem_filter, List.mem_range, irrB_iff] at hm
    exact ⟨hm.2, by omega⟩
  · rintro ⟨h1, h2⟩
    have h0 := h1.1
    refine ⟨x.toNat, ?_, by omega⟩
    rw [List.mem_filter, List.mem_range, irrB_iff, show ((x.toNat : Nat) : Int) = x from by omega]
    exact ⟨by omega, h1⟩
theorem genL_pos (l : List Int) (n : Nat) : ∀ x ∈ genL l n, 1 ≤ x := fun x hx => ((genL_mem l n x).1 hx).1.1
theorem genL_pos1 (l : List Int) (n : Nat) (h : irr l (n : Int)) : genL l (n + 1) = genL l n ++ [(n : Int)] := pick_pos _ _ n ((irrB_iff l n).2 h)
theorem genL_neg1 (l : List Int) (n : Nat) (h : ¬ irr l (n : Int)) : genL l (n + 1) = genL l n := pick_neg _ _ n (irrB_not l n h)
theorem genL_one (l : List Int) : genL l 1 = [] := by
  rw [genL_neg1 l 0 (fun h => by have := h.1; omega)]
  rfl
/-- No clash: the numbers beside the list are closed under addition. -/
theorem closed_of (l : List Int) (hc : ¬ clP l 1) (a b : Int) (ha : 1 ≤ a) (hb : 1 ≤ b) (h1 : a ∉ l) (h2 : b ∉ l) : a + b ∉ l := by
  intro h
  rcases Int.le_total a b with e | e
  · exact hc ⟨a, by omega, b, by omega, h1, h2, h⟩
  · exact hc ⟨b, by omega, a, by omega, h2, h1, by rwa [Int.add_comm]⟩
theorem sums_out (l : List Int) (hc : ¬ clP l 1) (n : Nat) (m : Int) (h : Sums (genL l n) m) : m = 0 ∨ (1 ≤ m ∧ m ∉ l) := by
  refine Sums.ind (P := fun m => m = 0 ∨ (1 ≤ m ∧ m ∉ l)) (.inl rfl) (fun x k hx _ hk => ?_) h
  have hi := ((genL_mem l n x).1 hx).1
  rcases hk with e | ⟨e1, e2⟩
  · subst e
    rw [Int.zero_add]
    exact .inr ⟨hi.1, hi.2.1⟩
  · have := hi.1
    exact .inr ⟨by omega, closed_of l hc k x e1 hi.1 e2 hi.2.1⟩
theorem sums_in (l : List Int) (n : Nat) : ∀ (q m : Nat), m ≤ q → m < n → 1 ≤ m → (m : Int) ∉ l → Sums (genL l n) (m : Int) := by
  intro q
  induction q with
  | zero => intro m h1 _ h2 _; omega
  | succ q ih =>
    intro m h1 h2 h3 h4
    by_cases hi : irr l (m : Int)
    · exact Sums.one ((genL_mem l n _).2 ⟨hi, by omega⟩)
    · have : ∃ a b : Int, 1 ≤ a ∧ 1 ≤ b ∧ a + b = (m : Int) ∧ a ∉ l ∧ b ∉ l := Classical.byContradiction fun e => hi ⟨by omega, h4, e⟩
      obtain ⟨a, b, a1, b1, e, ha, hb⟩ := this
      have sa := ih a.toNat (by omega) (by omega) (by omega) (by rwa [show ((a.toNat : Nat) : Int) = a from by omega])
      have sb := ih b.toNat (by omega) (by omega) (by omega) (by rwa [show ((b.toNat : Nat) : Int) = b from by omega])
      rw [show ((a.toNat : Nat) : Int) = a from by omega] at sa
      rw [show ((b.toNat : Nat) : Int) = b from by omega] at sb
      rw [← e]
      exact Sums.both sa sb
/-- A number beside the list is a sum of the smaller generators exactly if it is not itself one. -/
theorem sums_self (l : List Int) (hc : ¬ clP l 1) (n : Nat) (h1 : 1 ≤ n) (hn : (n : Int) ∉ l) : Sums (genL l n) (n : Int) ↔ ¬ irr l (n : Int) := by
  constructor
  · intro h hi
    obtain ⟨x, hx, hx2, hs⟩ := Sums.cut (genL_pos l n) h (by omega)
    have hm := (genL_mem l n x).1 hx
    rcases sums_out l hc n _ hs with e | ⟨e1, e2⟩
    · omega
    · exact hi.2.2 ⟨x, (n : Int) - x, hm.1.1, e1, by omega, hm.1.2.1, e2⟩
  · intro hi
    have : ∃ a b : Int, 1 ≤ a ∧ 1 ≤ b ∧ a + b = (n : Int) ∧ a ∉ l ∧ b ∉ l := Classical.byContradiction fun e => hi ⟨by omega, hn, e⟩
    obtain ⟨a, b, a1, b1, e, ha, hb⟩ := this
    have sa := sums_in l n n a.toNat (by omega) (by omega) (by omega) (by rwa [show ((a.toNat : Nat) : Int) = a from by omega])
    have sb := sums_in l n n b.toNat (by omega) (by omega) (by omega) (by rwa [show ((b.toNat : Nat) : Int) = b from by omega])
    rw [show ((a.toNat : Nat) : Int) = a from by omega] at sa
    rw [show ((b.toNat : Nat) : Int) = b from by omega] at sb
    rw [← e]
    exact Sums.both sa sb
/-- Past twice the greatest number no generator comes. -/
theorem genL_far (l : List Int) (most : Nat) (hm : ∀ x ∈ l, x ≤ (most : Int)) : ∀ d : Nat, genL l (2 * most + 3 + d) = genL l (2 * most + 3) := by
  intro d
  induction d with
  | zero => rfl
  | succ d ih =>
    rw [← ih]
    refine genL_neg1 l (2 * most + 3 + d) (fun h => h.2.2 ⟨(most : Int) + 1, ((2 * most + 3 + d : Nat) : Int) - ((most : Int) + 1), by omega, by omega, by omega, fun e => ?_, fun e => ?_⟩)
    · have := hm _ e; omega
    · have := hm _ e; omega
theorem gapL_gens (l : List Int) (ok : okL l) (hc : ¬ clP l 1) (n : Nat) (hn : 200 ≤ n) : gapL (genL l n) = l := by
  refine asc_uniq _ _ (asc_pick _ _) ok.1 (fun x => ?_)
  rw [gapL_mem]
  constructor
  · rintro ⟨h0, h1, h2⟩
    by_cases hx : x ∈ l
    · exact hx
    · exfalso
      by_cases e : x = 0
      · subst e; exact h2 (Sums.zero _)
      · have := sums_in l n n x.toNat (by omega) (by omega) (by omega) (by rwa [show ((x.toNat : Nat) : Int) = x from by omega])
        rw [show ((x.toNat : Nat) : Int) = x from by omega] at this
        exact h2 this
  · intro hx
    have := ok.2 x hx
    refine ⟨by omega, by omega, fun h => ?_⟩
    rcases sums_out l hc n x h with e | ⟨_, e⟩
    · omega
    · exact e hx
theorem spec_FromGaps_l0 (l : List Int) (hl : l.length ≤ 1048576) (hc : ¬ clP l 1) (most : Nat) (hm : most ≤ 199) (b : Bool) (hb : b = true ↔ SG (genL l (2 * most + 3))) :
    ∀ (d i : Nat), i + d = 2 * most + 3 → 1 ≤ i → Ev (fun k => spec_FromGaps.l0 k l (genL l i) (most : Int) (i : Int)) (if b = true then (genL l (2 * most + 3), true) else ([], false)) := by
  have e0 : wrap64 (wrap64 (2 * (most : Int)) + 2) = ((2 * most + 2 : Nat) : Int) := by
    rw [w64_of (x := 2 * (most : Int)) (by omega) (by omega), w64_of (by omega) (by omega)]; omega
  intro d
  induction d with
  | zero =>
    intro i hi h1
    obtain rfl : i = 2 * most + 3 := by omega
    have hgl := genL_len l (2 * most + 3)
    obtain ⟨c, c1, c2⟩ := spec_IsSemigroup_ev (genL l (2 * most + 3)) (by omega)
    have e : c = b := bool_same c1 hb
    subst e
    refine Ev.one (fun k => by rw [spec_FromGaps.l0]) ?_
    rw [e0]
    refine Ev.neg (by omega) (Ev.bnd c2 ?_)
    cases c with
    | false => exact Ev.neg (by decide) (Ev.now _)
    | true => exact Ev.pos rfl (Ev.now _)
  | succ d ih =>
    intro i hi h1
    have ih := ih (i + 1) (by omega) (by omega)
    have hgl := genL_len l i
    obtain ⟨c, c1, c2⟩ := spec_HasNumber_ev l (i : Int) (by omega)
    refine Ev.one (fun k => by rw [spec_FromGaps.l0]) ?_
    rw [e0, w64_succ i (by omega)]
    refine Ev.pos (by omega) (Ev.bnd c2 ?_)
    cases c with
    | true =>
      rw [genL_neg1 l i (fun h => h.2.1 (c1.1 rfl))] at ih
      exact Ev.pos rfl ih
    | false =>
      have hn : (i : Int) ∉ l := fun h => by have := c1.2 h; cases this
      have hs := sums_self l hc i h1 hn
      refine Ev.neg (by decide) ?_
      by_cases h0 : (genL l i).length = 0
      · refine Ev.neg (by omega) (Ev.pos (by omega) ?_)
        rw [genL_pos1 l i ?_] at ih
        · exact ih
        · refine Classical.byContradiction fun h => ?_
          obtain ⟨x, hx, _⟩ := Sums.cut (genL_pos l i) (hs.2 h) (by omega)
          rw [List.length_eq_zero_iff] at h0
          rw [h0] at hx
          simp at hx
      · refine Ev.pos (by omega) (Ev.bnd (spec_tbl_ev (genL l i) i (genL_pos l i) (by omega) (by omega)) ?_)
        rw [rdOf_tblL _ (i + 1) i (by omega), tblL_length]
        refine Ev.pos (by omega) (Ev.pos (by omega) ?_)
        by_cases h : irr l (i : Int)
        · rw [genL_pos1 l i h] at ih
          refine Ev.neg (fun e => ?_) (Ev.pos (by omega) ih)
          exact hs.1 ((elB_iff _ _).1 e) h
        · rw [genL_neg1 l i h] at ih
          exact Ev.pos ((elB_iff _ _).2 (hs.2 h)) ih
/-- What FromGaps answers. -/
noncomputable def fromS (l : List Int) (b : Bool) : List Int × Bool := if b = true then (genL l 401, true) else ([], false)
theorem fromS_len (l : List Int) (b : Bool) : (fromS l b).1.length ≤ 401 := by
  unfold fromS
  split
  · exact genL_len l 401
  · simp
/-- Whether the numbers beside a list are a semigroup. -/
def gapsOk (l : List Int) : Prop := okL l ∧ ¬ clP l 1 ∧ SG (genL l 401)
/-! fromboth: FromGaps of both sides -/
theorem impl_FromGaps_t (l gs : List Int) (n : Nat) (hn : n ≤ 400) (r : List Int × Bool) (h : Ev (fun k => impl_FromGaps.l1 k l (mk l 401) ((n + 1 : Nat) : Int) gs) r) (a : Nat) :
    Ev (fun k => impl_FromGaps.l2 k l (mk l 401) (n : Int) true (a : Int) gs) r := by
  refine Ev.one (fun k => by rw [impl_FromGaps.l2]) ?_
  rw [w64_succ n (by omega)]
  by_cases e : wrap64 (2 * (a : Int)) ≤ (n : Int)
  · exact Ev.pos e (Ev.pos rfl h)
  · exact Ev.neg e (Ev.pos rfl h)
theorem no_pair (l : List Int) (n a : Nat) (h1 : 1 ≤ n) (hn : (n : Int) ∉ l) (h2 : n < 2 * a) (hs : ∀ q : Nat, 1 ≤ q → q < a → (q : Int) ∈ l ∨ (n : Int) - (q : Int) ∈ l) : irr l (n : Int) := by
  refine ⟨by omega, hn, ?_⟩
  rintro ⟨x, y, hx, hy, e, hxl, hyl⟩
  rcases Int.le_total x y with o | o
  · have := hs x.toNat (by omega) (by omega)
    rw [show ((x.toNat : Nat) : Int) = x from by omega, show (n : Int) - x = y from by omega] at this
    exact this.elim hxl hyl
  · have := hs y.toNat (by omega) (by omega)
    rw [show ((y.toNat : Nat) : Int) = y from by omega, show (n : Int) - y = x from by omega] at this
    exact this.elim hyl hxl
theorem impl_FromGaps_l2 (l : List Int) (n : Nat) (h1 : 1 ≤ n) (hn : n ≤ 400) (hnl : (n : Int) ∉ l) (r : List Int × Bool) (h : Ev (fun k => impl_FromGaps.l1 k l (mk l 401) ((n + 1 : Nat) : Int) (genL l (n + 1))) r) :
    ∀ (d a : Nat), n < 2 * a + 2 * d → 1 ≤ a → a ≤ 401 → (∀ q : Nat, 1 ≤ q → q < a → (q : Int) ∈ l ∨ (n : Int) - (q : Int) ∈ l) →
    Ev (fun k => impl_FromGaps.l2 k l (mk l 401) (n : Int) false (a : Int) (genL l n)) r := by
  have hgl := genL_len l n
  have hml := mk_len l 401
  have last : ∀ a : Nat, n < 2 * a → a ≤ 401 → (∀ q : Nat, 1 ≤ q → q < a → (q : Int) ∈ l ∨ (n : Int) - (q : Int) ∈ l) → Ev (fun k => impl_FromGaps.l2 k l (mk l 401) (n : Int) false (a : Int) (genL l n)) r := by
    intro a h2 h3 hs
    have hi := no_pair l n a h1 hnl h2 hs
    rw [genL_pos1 l n hi] at h
    refine Ev.one (fun k => by rw [impl_FromGaps.l2]) ?_
    rw [w64_succ n (by omega), w64_of (x := 2 * (a : Int)) (by omega) (by omega)]
    exact Ev.neg (by omega) (Ev.neg (by decide) (Ev.pos (by omega) h))
  intro d
  induction d with
  | zero =>
    intro a h2 h3 h4 hs
    exact last a (by omega) h4 hs
  | succ d ih =>
    intro a h2 h3 h4 hs
    by_cases hq : n < 2 * a
    · exact last a hq h4 hs
    have e1 : (n : Int) - (a : Int) = ((n - a : Nat) : Int) := by omega
    have step : ((a : Int) ∈ l ∨ (n : Int) - (a : Int) ∈ l) → Ev (fun k => impl_FromGaps.l2 k l (mk l 401) (n : Int) false ((a + 1 : Nat) : Int) (genL l n)) r := by
      intro hp
      refine ih (a + 1) (by omega) (by omega) (by omega) (fun q q1 q2 => ?_)
      by_cases e : q = a
      · subst e; exact hp
      · exact hs q q1 (by omega)
    refine Ev.one (fun k => by rw [impl_FromGaps.l2]) ?_
    rw [w64_succ a (by omega), w64_of (x := 2 * (a : Int)) (by omega) (by omega), mk_at l 401 a (by omega), w64_of (x := (n : Int) - (a : Int)) (by omega) (by omega), e1, mk_at l 401 (n - a) (by omega), ← e1]
    refine Ev.pos (by omega) (Ev.neg (by decide) (Ev.pos (by omega) (Ev.pos (by omega) ?_)))
    by_cases hA : (a : Int) ∈ l
    · rw [decide_eq_true hA]
      exact Ev.pos rfl (step (.inl hA))
    · rw [decide_eq_false hA]
      refine Ev.neg (by decide) (Ev.pos (by omega) (Ev.pos (by omega) ?_))
      by_cases hB : (n : Int) - (a : Int) ∈ l
      · rw [decide_eq_true hB]
        exact step (.inr hB)
      · rw [decide_eq_false hB]
        have hi : ¬ irr l (n : Int) := fun hi => hi.2.2 ⟨(a : Int), (n : Int) - (a : Int), by omega, by omega, by omega, hA, hB⟩
        rw [genL_neg1 l n hi] at h
        exact impl_FromGaps_t l _ n hn r h (a + 1)
theorem impl_FromGaps_l1 (l : List Int) (ok : okL l) (hc : ¬ clP l 1) (b : Bool) (hb : b = true ↔ SG (genL l 401)) :
    ∀ (d i : Nat), i + d = 401 → 1 ≤ i → Ev (fun k => impl_FromGaps.l1 k l (mk l 401) (i : Int) (genL l i)) (fromS l b) := by
  have hml := mk_len l 401
  intro d
  induction d with
  | zero =>
    intro i hi h1
    obtain rfl : i = 401 := by omega
    have hgl := genL_len l 401
    obtain ⟨c, c1, _, c2⟩ := sg_both (genL l 401) (by omega)
    have e : c = b := bool_same c1 hb
    subst e
    refine Ev.one (fun k => by rw [impl_FromGaps.l1]) ?_
    rw [hml]
    refine Ev.neg (by omega) (Ev.bnd c2 ?_)
    unfold fromS
    cases c with
    | false => exact Ev.neg (by decide) (Ev.now _)
    | true =>
      obtain ⟨c', d1, d2⟩ := impl_gaps_ev (genL l 401) (by omega)
      have e' : c' = true := d1.2 (hb.1 rfl)
      subst e'
      have eg : gapsS true (genL l 401) = l := by
        unfold gapsS
        rw [if_pos rfl]
        exact gapL_gens l ok hc 401 (by omega)
      rw [eg] at d2
      have hll : l.length ≤ 1048576 := by
        have := gapsS_len true (genL l 401)
        rw [eg] at this
        omega
      obtain ⟨q, q1, q2⟩ := equal_ev l l hll
      have eq : q = true := q1.2 rfl
      subst eq
      exact Ev.pos rfl (Ev.bnd d2 (Ev.bnd q2 (Ev.pos rfl (Ev.now _))))
  | succ d ih =>
    intro i hi h1
    have ih := ih (i + 1) (by omega) (by omega)
    refine Ev.one (fun k => by rw [impl_FromGaps.l1]) ?_
    rw [hml, mk_at l 401 i (by omega)]
    refine Ev.pos (by omega) (Ev.pos (by omega) ?_)
    by_cases hn : (i : Int) ∈ l
    · rw [decide_eq_true hn]
      rw [genL_neg1 l i (fun e => e.2.1 hn)] at ih
      exact impl_FromGaps_t l _ i (by omega) _ ih 1
    · rw [decide_eq_false hn]
      exact impl_FromGaps_l2 l i h1 (by omega) hn _ ih i 1 (by omega) (by omega) (by omega) (fun q q1 q2 => by omega)
theorem impl_FromGaps_l0 (l : List Int) (hl : l.length ≤ 1048576) (ok : okL l) (hc : ¬ clP l 1) (b : Bool) (hb : b = true ↔ SG (genL l 401)) :
    ∀ (d i : Nat), i + d = l.length → Ev (fun k => impl_FromGaps.l0 k l (mk (l.take i) 401) l (l.length : Int) (i : Int)) (fromS l b) := by
  intro d
  induction d with
  | zero =>
    intro i hi
    refine Ev.one (fun k => by rw [impl_FromGaps.l0]) ?_
    rw [List.take_of_length_le (by omega)]
    have h := impl_FromGaps_l1 l ok hc b hb 400 1 (by omega) (by omega)
    rw [genL_one] at h
    exact Ev.neg (by omega) h
  | succ d ih =>
    intro i hi
    have ih := ih (i + 1) (by omega)
    have a1 := ok.2 _ (List.getElem_mem (show i < l.length by omega))
    refine Ev.one (fun k => by rw [impl_FromGaps.l0]) ?_
    rw [rd_at l i (by omega), mk_next l 401 i (by omega) (by omega), w64_succ i (by omega), mk_len]
    exact Ev.pos (by omega) (Ev.pos (by omega) (Ev.pos (by omega) (Ev.pos (by omega) (Ev.pos (by omega) ih))))
theorem from_both (l : List Int) (hl : l.length ≤ 1048576) : ∃ b, (b = true ↔ okL l ∧ ¬ clP l 1 ∧ SG (genL l 401)) ∧ Ev (fun k => spec_FromGaps.f k l) (fromS l b) ∧ Ev (fun k => impl_FromGaps.f k l) (fromS l b) := by
  obtain ⟨r, r1, r2⟩ := spec_GapClash_ev l hl
  obtain ⟨s, s1, s2⟩ := impl_GapClash_ev l hl
  obtain ⟨c, c1, c2⟩ := spec_l8Gaps_ev l hl
  obtain ⟨e, e1, e2⟩ := impl_gapList_ev l hl
  obtain rfl : c = e := bool_same c1 e1
  have rs : r.2.2 = s.2.2 := bool_same r1 s1
  have outS : Ev (fun k => spec_FromGaps.j0 k l true) (fromS l false) := by
    refine Ev.one (fun k => by rw [spec_FromGaps.j0]) ?_
    exact Ev.pos rfl (Ev.now _)
  have outI : Ev (fun k => impl_FromGaps.j0 k l true) (fromS l false) := by
    refine Ev.one (fun k => by rw [impl_FromGaps.j0]) ?_
    exact Ev.pos rfl (Ev.now _)
  unfold spec_FromGaps.f impl_FromGaps.f
  cases hcl : r.2.2 with
  | true =>
    have ho := r1.1 hcl
    have hs : s.2.2 = true := by rw [← rs]; exact hcl
    refine ⟨false, ⟨(fun e => by cases e), fun e => absurd ho.2 e.2.1⟩, Ev.bnd r2 (Ev.bnd c2 (Ev.pos (c1.2 ho.1) ?_)), Ev.bnd s2 (Ev.pos hs outI)⟩
    rw [hcl]
    exact outS
  | false =>
    have hs : s.2.2 = false := by rw [← rs]; exact hcl
    cases hc : c with
    | false =>
      rw [hc] at c1 c2 e2
      refine ⟨false, ⟨(fun e => by cases e), fun e => c1.2 e.1⟩, Ev.bnd r2 (Ev.bnd c2 (Ev.neg (by decide) outS)), Ev.bnd s2 (Ev.neg (by rw [hs]; decide) (Ev.bnd e2 outI))⟩
    | true =>
      rw [hc] at c1 c2 e2
      have ok := c1.1 rfl
      have ncl : ¬ clP l 1 := fun h => by have := r1.2 ⟨ok, h⟩; rw [hcl] at this; cases this
      have hgl := genL_len l 401
      obtain ⟨b, b1, _, _⟩ := sg_both (genL l 401) (by omega)
      refine ⟨b, by rw [b1]; exact ⟨fun h => ⟨ok, ncl, h⟩, fun h => h.2.2⟩, Ev.bnd r2 (Ev.bnd c2 (Ev.pos rfl ?_)), Ev.bnd s2 (Ev.neg (by rw [hs]; decide) (Ev.bnd e2 ?_))⟩
      · rw [hcl]
        refine Ev.one (fun k => by rw [spec_FromGaps.j0]) ?_
        have far : ∀ most : Nat, most ≤ 199 → (∀ x ∈ l, x ≤ (most : Int)) → Ev (fun k => spec_FromGaps.j1 k l [] (most : Int)) (fromS l b) := by
          intro most hm hx
          have eg : genL l 401 = genL l (2 * most + 3) := by
            have := genL_far l most hx (401 - (2 * most + 3))
            rw [show 2 * most + 3 + (401 - (2 * most + 3)) = 401 from by omega] at this
            exact this
          refine Ev.one (fun k => by rw [spec_FromGaps.j1]) ?_
          have h := spec_FromGaps_l0 l hl ncl most hm b (by rw [b1, eg]) (2 * most + 2) 1 (by omega) (by omega)
          rw [genL_one] at h
          unfold fromS
          rw [eg]
          exact h
        refine Ev.neg (by decide) (Ev.some ?_)
        by_cases h0 : l.length = 0
        · refine Ev.neg (by omega) (far 0 (by omega) (fun x hx => ?_))
          rw [List.length_eq_zero_iff] at h0
          rw [h0] at hx
          simp at hx
        · obtain ⟨most, m1, m2, m3, m4⟩ := okL_top l ok (by omega)
          have e1 : wrap64 ((l.length : Int) - 1) = ((l.length - 1 : Nat) : Int) := by rw [w64_of (by omega) (by omega)]; omega
          rw [e1, m1]
          exact Ev.pos (by omega) (Ev.pos (by omega) (Ev.pos (by omega) (far most m3 m4)))
      · refine Ev.one (fun k => by rw [impl_FromGaps.j0]) ?_
        have h := impl_FromGaps_l0 l hl ok ncl b b1 l.length 0 (by omega)
        rw [List.take_zero, mk_nil] at h
        exact Ev.neg (by decide) (Ev.pos (by omega) h)
/-! froms: what is known of an answer of FromGaps -/
theorem fromS_facts (l : List Int) (q : Bool) (hq : q = true ↔ okL l ∧ ¬ clP l 1 ∧ SG (genL l 401)) : (fromS l q).2 = q ∧ (q = true → SG (fromS l q).1 ∧ gapL (fromS l q).1 = l) ∧ (q = false → (fromS l q).1 = []) := by
  unfold fromS
  cases q with
  | true =>
    have h := hq.1 rfl
    exact ⟨rfl, fun _ => ⟨h.2.2, gapL_gens l h.1 h.2.1 401 (by omega)⟩, fun h => by cases h⟩
  | false => exact ⟨rfl, (fun h => by cases h), fun _ => rfl⟩
/-- From the gaps to the sums. -/
theorem sums_gaps {g l : List Int} (hS : SG g) (h : gapL g = l) (n : Int) (h0 : 0 ≤ n) : Sums g n ↔ n ∉ l := by
  subst h
  rw [gapL_mem]
  constructor
  · exact fun h e => e.2.2 h
  · intro h
    refine Classical.byContradiction fun hn => ?_
    by_cases h2 : n < 200
    · exact h ⟨h0, h2, hn⟩
    · exact hn (hS.ends n (by omega))
/-! spechas2: spec.Contains -/
theorem spec_Contains_ev (g : List Int) (hlen : g.length ≤ 1048576) (n : Int) : ∃ b, (b = true ↔ SG g ∧ Sums g n) ∧ Ev (fun k => spec_Contains.f k g n) b := by
  obtain ⟨b, b1, b2⟩ := spec_IsSemigroup_ev g hlen
  unfold spec_Contains.f
  cases b with
  | false => exact ⟨false, ⟨(fun e => by cases e), fun e => by have := b1.2 e.1; cases this⟩, Ev.bnd b2 (Ev.neg (by decide) (Ev.now _))⟩
  | true =>
    have hS := b1.1 rfl
    obtain ⟨c, c1, c2⟩ := spec_l3Has_ev g hS n
    exact ⟨c, ⟨fun e => ⟨hS, (c1.1 e).1⟩, fun e => c1.2 ⟨e.2, by omega⟩⟩, Ev.bnd b2 (Ev.pos rfl (Ev.bnd c2 (Ev.now _)))⟩
/-! eqsg: spec.EqualSemigroup -/
theorem equalSg_ev (a b : List Int) (hl : a.length ≤ 1048576) : ∃ r, (r = true ↔ a = b) ∧ Ev (fun k => spec_EqualSemigroup.f k a b) r := by
  obtain ⟨r, r1, r2⟩ := spec_l2Same_ev a b hl
  exact ⟨r, r1, Ev.bnd r2 (Ev.now _)⟩
theorem equalSg_same (a : List Int) (hl : a.length ≤ 1048576) : Ev (fun k => spec_EqualSemigroup.f k a a) true := by
  obtain ⟨r, r1, r2⟩ := equalSg_ev a a hl
  rwa [r1.2 rfl] at r2
/-! plaw: words on laws over bytes -/
theorem big_no (b : List Int) (h : b.length ≤ 1048576) : Ev (fun _ => laws_big.f b) false := by
  refine Ev.const ?_
  unfold laws_big.f
  rw [decide_eq_false (by omega)]
theorem big_yes (b : List Int) (h : ¬ b.length ≤ 1048576) : Ev (fun _ => laws_big.f b) true := by
  refine Ev.const ?_
  unfold laws_big.f
  rw [decide_eq_true (by omega)]
theorem sameInts_l0 (l : List Int) (hl : l.length ≤ 35184372088832) : ∀ (d i : Nat), i + d = l.length → Ev (fun k => laws_sameInts.l0 k l l (i : Int)) true := by
  intro d
  induction d with
  | zero =>
    intro i hi
    refine Ev.one (fun k => by rw [laws_sameInts.l0]) ?_
    exact Ev.neg (by omega) (Ev.now _)
  | succ d ih =>
    intro i hi
    refine Ev.one (fun k => by rw [laws_sameInts.l0]) ?_
    refine Ev.pos (by omega) (Ev.pos (by omega) (Ev.pos (by omega) (Ev.pos rfl ?_)))
    rw [w64_succ i (by omega)]
    exact ih (i + 1) (by omega)
theorem sameInts_ev (l : List Int) (hl : l.length ≤ 35184372088832) : Ev (fun k => laws_sameInts.f k l l) true := by
  unfold laws_sameInts.f
  exact Ev.pos rfl (sameInts_l0 l hl l.length 0 (by omega))
/-! draw: the cursor of the draws, what it picks, the drawn semigroups -/
theorem i64_and255 (n : Int) : Go.bits .and .i64 n 255 = n % 256 := by
  have h1 : (BitVec.ofInt 64 255).toNat = 2 ^ 8 - 1 := by decide
  have key : (BitVec.ofInt 64 n &&& BitVec.ofInt 64 255).toNat = (n % ((2 ^ 64 : Nat) : Int)).toNat % 2 ^ 8 := by
    rw [BitVec.toNat_and, BitVec.toNat_ofInt, h1, Nat.and_two_pow_sub_one_eq_mod]
  show IntKind.i64.wrap ((BitVec.ofInt 64 n &&& BitVec.ofInt 64 255).toNat : Nat) = n % 256
  rw [key, IntKind.wrap_i64]
  omega
/-- The cursor stands inside the bytes. -/
def CurOk (b : List Int) (i : Int) : Prop := b.length ≤ 1048576 ∧ 0 ≤ i ∧ i ≤ (b.length : Int)
theorem l1Byte_ok (b : List Int) (i h : Int) (ok : CurOk b i) : ∃ x i' h', spec_l1Byte.f b i h = some (x, i', h') ∧ (0 ≤ x ∧ x ≤ 255) ∧ CurOk b i' := by
  obtain ⟨o1, o2, o3⟩ := ok
  unfold spec_l1Byte.f
  by_cases c : i < (b.length : Int)
  · rw [if_pos c, if_pos o2]
    refine ⟨_, _, _, rfl, ?_, o1, ?_⟩
    · rw [i64_and255]; omega
    · rw [w64_of (by omega) (by omega)]; omega
  · rw [if_neg c]
    refine ⟨_, _, _, rfl, ?_, o1, o2, o3⟩
    rw [i64_and255]; omega
theorem tmod_in (x n : Int) (h0 : 0 ≤ x) (hn : 1 ≤ n) : 0 ≤ Int.tmod x n ∧ Int.tmod x n < n :=
  ⟨Int.tmod_nonneg n h0, by have := Int.tmod_lt_of_pos x (show 0 < n by omega); exact this⟩
theorem l1Below_ok (b : List Int) (i h n : Int) (ok : CurOk b i) : ∃ x i' h', spec_l1Below.f b i h n = some (x, i', h') ∧ (0 ≤ x ∧ (1 ≤ n → x < n) ∧ (n ≤ 0 → x = 0)) ∧ CurOk b i' := by
  unfold spec_l1Below.f
  by_cases c : n ≤ 0
  · rw [if_pos c]
    exact ⟨_, _, _, rfl, ⟨by omega, by omega, fun _ => rfl⟩, ok⟩
  rw [if_neg c]
  obtain ⟨x, i1, h1, e1, b1, k1⟩ := l1Byte_ok b i h ok
  rw [e1]
  by_cases c2 : n ≤ 256
  · rw [if_pos c2]
    simp only [Option.bind_some]
    rw [if_neg (by omega)]
    exact ⟨_, _, _, rfl, ⟨(tmod_in x n b1.1 (by omega)).1, fun _ => (tmod_in x n b1.1 (by omega)).2, by omega⟩, k1⟩
  · rw [if_neg c2]
    obtain ⟨y, i2, h2, e2, b2, k2⟩ := l1Byte_ok b i1 h1 k1
    obtain ⟨z, i3, h3, e3, b3, k3⟩ := l1Byte_ok b i2 h2 k2
    obtain ⟨u, i4, h4, e4, b4, k4⟩ := l1Byte_ok b i3 h3 k3
    simp only [Option.bind_some, e2, e3, e4]
    rw [if_neg (by omega)]
    have hv : 0 ≤ wrap64 ((wrap64 ((wrap64 ((wrap64 (x * 16777216)) + (wrap64 (y * 65536)))) + (wrap64 (z * 256)))) + u) := by
      rw [w64_of (x := x * 16777216) (by omega) (by omega), w64_of (x := y * 65536) (by omega) (by omega), w64_of (x := z * 256) (by omega) (by omega), w64_of (x := x * 16777216 + y * 65536) (by omega) (by omega), w64_of (x := x * 16777216 + y * 65536 + z * 256) (by omega) (by omega), w64_of (by omega) (by omega)]
      omega
    exact ⟨_, _, _, rfl, ⟨(tmod_in _ n hv (by omega)).1, fun _ => (tmod_in _ n hv (by omega)).2, by omega⟩, k4⟩
theorem l1Once_ok (b : List Int) (i h n : Int) (ok : CurOk b i) : ∃ x i' h', spec_l1Once.f b i h n = some (x, i', h') ∧ CurOk b i' := by
  unfold spec_l1Once.f
  obtain ⟨x, i1, h1, e1, _, k1⟩ := l1Below_ok b i h n ok
  rw [e1]
  exact ⟨_, _, _, rfl, k1⟩
theorem l1PickInt_ok (b : List Int) (i h : Int) (l : List Int) (ok : CurOk b i) (hl : 1 ≤ l.length) : ∃ x i' h', spec_l1PickInt.f b i h l = some (x, i', h') ∧ x ∈ l ∧ CurOk b i' := by
  unfold spec_l1PickInt.f
  obtain ⟨x, i1, h1, e1, b1, k1⟩ := l1Below_ok b i h (l.length : Int) ok
  have b2 := b1.2.1 (by omega)
  rw [e1]
  simp only [Option.bind_some]
  rw [if_pos b1.1, if_pos b2]
  refine ⟨_, _, _, rfl, ?_, k1⟩
  obtain ⟨m, rfl⟩ : ∃ m : Nat, x = (m : Int) := ⟨x.toNat, by omega⟩
  rw [rd_at l m (by omega)]
  exact List.getElem_mem _
theorem l1New_l0 (b : List Int) (hb : b.length ≤ 1048576) : ∀ (d i : Nat) (h : Int), i + d = 4001 → ∃ h', Ev (fun k => spec_l1New.l0 k b h (i : Int)) (b, 0, h') := by
  intro d
  induction d with
  | zero =>
    intro i h hi
    refine ⟨h, Ev.one (fun k => by rw [spec_l1New.l0]) ?_⟩
    by_cases c : (i : Int) < (b.length : Int)
    · exact Ev.pos c (Ev.neg (by omega) (Ev.now _))
    · exact Ev.neg c (Ev.now _)
  | succ d ih =>
    intro i h hi
    by_cases c : (i : Int) < (b.length : Int)
    · by_cases c2 : (i : Int) < 4000
      · obtain ⟨h', e⟩ := ih (i + 1) (Go.bits .and .i64 (wrap64 ((wrap64 ((wrap64 (h * 131)) + (wrap64 (rd b (i : Int))))) + 7)) 1073741823) (by omega)
        refine ⟨h', Ev.one (fun k => by rw [spec_l1New.l0]) ?_⟩
        refine Ev.pos c (Ev.pos c2 (Ev.pos (by omega) ?_))
        rw [w64_succ i (by omega)]
        exact e
      · refine ⟨h, Ev.one (fun k => by rw [spec_l1New.l0]) ?_⟩
        exact Ev.pos c (Ev.neg c2 (Ev.now _))
    · refine ⟨h, Ev.one (fun k => by rw [spec_l1New.l0]) ?_⟩
      exact Ev.neg c (Ev.now _)
theorem l1New_ok (b : List Int) (hb : b.length ≤ 1048576) : ∃ h, Ev (fun k => spec_l1New.f k b) (b, 0, h) ∧ CurOk b 0 := by
  obtain ⟨h', e⟩ := l1New_l0 b hb 4001 0 (wrap64 (26583 + (b.length : Int))) (by omega)
  exact ⟨h', e, hb, by omega, by omega⟩
/-! drawsg: the drawn semigroups -/
def sB (g : List Int) : Nat → Int → Bool
  | 0, n => decide (n = 0)
  | f + 1, n => decide (n = 0) || g.any fun x => decide (x ≤ n) && sB g f (n - x)
theorem sB_sound (g : List Int) : ∀ (f : Nat) (n : Int), sB g f n = true → Sums g n := by
  intro f
  induction f with
  | zero => intro n h; rw [sB, decide_eq_true_eq] at h; rw [h]; exact Sums.zero g
  | succ f ih =>
    intro n h
    rw [sB, Bool.or_eq_true, decide_eq_true_eq, List.any_eq_true] at h
    rcases h with h | ⟨x, hx, h⟩
    · rw [h]; exact Sums.zero g
    · rw [Bool.and_eq_true] at h
      have := Sums.add hx (ih _ h.2)
      rwa [show n - x + x = n from by omega] at this
theorem sB_all (g : List Int) (hp : ∀ x ∈ g, 1 ≤ x) : ∀ (f : Nat) (n : Int), n ≤ (f : Int) → Sums g n → sB g f n = true := by
  intro f
  induction f with
  | zero => intro n h hs; have := hs.nonneg hp; rw [sB, decide_eq_true_eq]; omega
  | succ f ih =>
    intro n h hs
    rw [sB, Bool.or_eq_true, decide_eq_true_eq, List.any_eq_true]
    by_cases h0 : n = 0
    · exact .inl h0
    · obtain ⟨x, hx, hxn, hc⟩ := hs.cut hp h0
      have := hp x hx
      exact .inr ⟨x, hx, by rw [Bool.and_eq_true, decide_eq_true_eq]; exact ⟨hxn, ih _ (by omega) hc⟩⟩
theorem SG_of (g : List Int) (a : Nat) (w : List Int) (ha : 1 ≤ a) (hm : (a : Int) ∈ g) (h1 : 1 ≤ g.length ∧ g.length ≤ 12) (h2 : ∀ x ∈ g, 1 ≤ x ∧ x ≤ 60) (h3 : asc g) (h4 : gcdL g = 1)
    (h5 : ∀ k, k < g.length → k = 0 ∨ (g.getD k 0 ≤ 60 ∧ sB (g.take k) 60 (g.getD k 0) = false))
    (h6 : ∀ r : Nat, r < a → ∃ m ∈ w, m ≤ 200 ∧ m % (a : Int) = (r : Int) ∧ sB g 60 m = true) : SG g := by
  refine ⟨h1.1, h1.2, h2, h3, h4, fun k hk => ?_, fun n hn => ?_⟩
  · rcases h5 k hk with h | h
    · exact .inl h
    · refine .inr fun hs => ?_
      have := sB_all (g.take k) (fun x hx => (h2 x (List.mem_of_mem_take hx)).1) 60 _ h.1 hs
      rw [h.2] at this
      cases this
  · obtain ⟨m, _, m1, m2, m3⟩ := h6 (n % (a : Int)).toNat (by have := Int.emod_nonneg n (show (a : Int) ≠ 0 by omega); have := Int.emod_lt_of_pos n (show (0 : Int) < a by omega); omega)
    have e0 := Int.emod_nonneg n (show (a : Int) ≠ 0 by omega)
    have e1 : m % (a : Int) = n % (a : Int) := by omega
    have e2 : (n - m) % (a : Int) = 0 := Int.emod_eq_emod_iff_emod_sub_eq_zero.1 e1.symm
    obtain ⟨q, hq⟩ := Int.dvd_of_emod_eq_zero e2
    have hq0 : 0 ≤ q := Classical.byContradiction fun hn' => by
      have : (a : Int) * q ≤ (a : Int) * (-1) := Int.mul_le_mul_of_nonneg_left (by omega) (by omega)
      omega
    obtain ⟨c, rfl⟩ : ∃ c : Nat, q = (c : Int) := ⟨q.toNat, by omega⟩
    have := (sB_sound g 60 m m3).both (Sums.times hm c)
    rwa [show m + (c : Int) * (a : Int) = n from by rw [Int.mul_comm]; omega] at this
def eight : List (List Int) := [[1], [3, 5], [4, 6, 9], [3, 4, 5], [6, 9, 20], [5, 7, 9, 11], [2, 3], [4, 5, 11]]
theorem eight_SG : ∀ g ∈ eight, SG g := by
  intro g hg
  have a1 : ∀ l : List Int, l.Pairwise (· < ·) → asc l := fun _ h => h
  simp only [eight, List.mem_cons, List.not_mem_nil, or_false] at hg
  rcases hg with rfl | rfl | rfl | rfl | rfl | rfl | rfl | rfl
  · exact SG_of _ 1 [0] (by decide) (by decide) (by decide) (by decide) (a1 _ (by decide)) (by decide) (by decide) (by decide)
  · exact SG_of _ 3 [0, 10, 5] (by decide) (by decide) (by decide) (by decide) (a1 _ (by decide)) (by decide) (by decide +kernel) (by decide +kernel)
  · exact SG_of _ 4 [0, 9, 6, 15] (by decide) (by decide) (by decide) (by decide) (a1 _ (by decide)) (by decide) (by decide +kernel) (by decide +kernel)
  · exact SG_of _ 3 [0, 4, 5] (by decide) (by decide) (by decide) (by decide) (a1 _ (by decide)) (by decide) (by decide +kernel) (by decide +kernel)
  · exact SG_of _ 6 [0, 49, 20, 9, 40, 29] (by decide) (by decide) (by decide) (by decide) (a1 _ (by decide)) (by decide) (by decide +kernel) (by decide +kernel)
  · exact SG_of _ 5 [0, 11, 7, 18, 9] (by decide) (by decide) (by decide) (by decide) (a1 _ (by decide)) (by decide) (by decide +kernel) (by decide +kernel)
  · exact SG_of _ 2 [0, 3] (by decide) (by decide) (by decide) (by decide) (a1 _ (by decide)) (by decide) (by decide +kernel) (by decide +kernel)
  · exact SG_of _ 4 [0, 5, 10, 11] (by decide) (by decide) (by decide) (by decide) (a1 _ (by decide)) (by decide) (by decide +kernel) (by decide +kernel)
/-- What spec.FromGens gives. -/
theorem spec_FromGens_ev (l : List Int) (hl : l.length ≤ 1048576) : ∃ r : List Int × Bool, ((r.2 = true → SG r.1) ∧ (r.2 = false → r.1 = []) ∧ (SG l → r = (l, true))) ∧ Ev (fun k => spec_FromGens.f k l) r := by
  have u1 := spec_l3Gens_ev l hl
  unfold spec_FromGens.f
  cases hb : (allIn l 1 60 && decide ((1 : Int) ≤ (l.length : Int) ∧ (l.length : Int) ≤ 20)) with
  | false =>
    rw [hb] at u1
    refine ⟨([], false), ⟨by simp, by simp, fun h => ?_⟩, Ev.bnd u1 (Ev.neg (by decide) (Ev.now _))⟩
    rw [(allIn_iff l 1 60).2 h.rng, Bool.true_and, decide_eq_false_iff_not] at hb
    have := h.len1; have := h.len2
    omega
  | true =>
    rw [hb] at u1
    rw [Bool.and_eq_true, decide_eq_true_eq] at hb
    have hr := (allIn_iff l 1 60).1 hb.1
    obtain ⟨s, s1, s2⟩ := spec_l3Minimal_ev l hl (fun x hx => by have := hr x hx; omega)
    have hml := minL_len s
    obtain ⟨c, c1, c2⟩ := spec_IsSemigroup_ev (minL s) (by omega)
    refine ⟨if c = true then (minL s, true) else ([], false), ⟨?_, ?_, fun h => ?_⟩, Ev.bnd u1 (Ev.pos rfl (Ev.bnd s2 (Ev.bnd c2 ?_)))⟩
    · cases c with
      | true => exact fun _ => c1.1 rfl
      | false => intro h; cases h
    · cases c with
      | true => intro h; cases h
      | false => exact fun _ => rfl
    · obtain rfl : s = l := asc_uniq s l s1.1 h.up s1.2.1
      have e := (minL_iff s).2 h.free
      rw [e] at c1 ⊢
      rw [if_pos (c1.2 h)]
    · cases c with
      | true => exact Ev.pos rfl (Ev.now _)
      | false => exact Ev.neg (by decide) (Ev.now _)
theorem l3List_ok (b : List Int) (i h : Int) (ok : CurOk b i) : ∃ x i' h', spec_l3List.f b i h = some (x, i', h') ∧ SG x ∧ CurOk b i' := by
  unfold spec_l3List.f
  obtain ⟨x, i1, h1, e1, b1, k1⟩ := l1Below_ok b i h 8 ok
  have b2 := b1.2.1 (by omega)
  rw [e1]
  simp only [Option.bind_some]
  have key : ∀ g ∈ eight, ∃ x i' h', (some (g, i1, h1) : Option (List Int × Int × Int)) = some (x, i', h') ∧ SG x ∧ CurOk b i' := fun g hg => ⟨_, _, _, rfl, eight_SG g hg, k1⟩
  by_cases c0 : x = 0
  · rw [if_pos c0]; exact key _ (by decide)
  rw [if_neg c0]
  by_cases c1 : x = 1
  · rw [if_pos c1]; exact key _ (by decide)
  rw [if_neg c1]
  by_cases c2 : x = 2
  · rw [if_pos c2]; exact key _ (by decide)
  rw [if_neg c2]
  by_cases c3 : x = 3
  · rw [if_pos c3]; exact key _ (by decide)
  rw [if_neg c3]
  by_cases c4 : x = 4
  · rw [if_pos c4]; exact key _ (by decide)
  rw [if_neg c4]
  by_cases c5 : x = 5
  · rw [if_pos c5]; exact key _ (by decide)
  rw [if_neg c5]
  by_cases c6 : x = 6
  · rw [if_pos c6]; exact key _ (by decide)
  · rw [if_neg c6]; exact key _ (by decide)
theorem l3Fall_ok (b : List Int) (i h : Int) (ok : CurOk b i) : ∃ x i' h', SG x ∧ CurOk b i' ∧ Ev (fun k => (spec_l3List.f b i h).bind fun bt => (spec_FromGens.f k bt.1).bind fun bu => (some (bu.1, bt.2.1, bt.2.2))) (x, i', h') := by
  obtain ⟨x, i1, h1, e1, b1, k1⟩ := l3List_ok b i h ok
  obtain ⟨r, r1, r2⟩ := spec_FromGens_ev x (by have := b1.len2; omega)
  obtain rfl := r1.2.2 b1
  have f1 : Ev (fun _ : Nat => spec_l3List.f b i h) (x, i1, h1) := Ev.const e1
  exact ⟨x, i1, h1, b1, k1, Ev.bnd f1 (Ev.bnd r2 (Ev.now _))⟩
theorem l3Draw_l1 (b : List Int) (x5 : Int) (next : ∀ i h, CurOk b i → ∃ x i' h', SG x ∧ CurOk b i' ∧ Ev (fun k => spec_l3Draw.l0 k (wrap64 (x5 + 1)) b i h) (x, i', h')) (x7 : Int) (h7 : x7 ≤ 4) :
    ∀ (d j : Nat) (l : List Int) (i h : Int), j + d = 4 → l.length = j + 1 → (∀ x ∈ l.take 1, 0 ≤ x ∧ x ≤ 100) → CurOk b i → ∃ x i' h', SG x ∧ CurOk b i' ∧ Ev (fun k => spec_l3Draw.l1 k x5 l x7 (j : Int) b i h) (x, i', h') := by
  intro d
  induction d with
  | zero =>
    intro j l i h hj hl h0 ok
    obtain ⟨r, r1, r2⟩ := spec_FromGens_ev l (by omega)
    cases hr : r.2 with
    | true =>
      refine ⟨r.1, i, h, r1.1 hr, ok, Ev.one (fun k => by rw [spec_l3Draw.l1]) (Ev.neg (by omega) (Ev.bnd r2 (Ev.pos hr (Ev.now _))))⟩
    | false =>
      obtain ⟨x, i', h', n1, n2, n3⟩ := next i h ok
      exact ⟨x, i', h', n1, n2, Ev.one (fun k => by rw [spec_l3Draw.l1]) (Ev.neg (by omega) (Ev.bnd r2 (Ev.neg (show ¬ r.2 = true by rw [hr]; decide) n3)))⟩
  | succ d ih =>
    intro j l i h hj hl h0 ok
    by_cases c : (j : Int) < x7
    · obtain ⟨y, i1, h1, e1, b1, k1⟩ := l1Below_ok b i h 12 ok
      have e1' : Ev (fun _ : Nat => spec_l1Below.f b i h 12) (y, i1, h1) := Ev.const e1
      obtain ⟨x, i', h', n1, n2, n3⟩ := ih (j + 1) (l ++ [wrap64 ((wrap64 ((rd l 0) + 1)) + y)]) i1 h1 (by omega) (by simp; omega) (by rw [List.take_append_of_le_length (by omega)]; exact h0) k1
      refine ⟨x, i', h', n1, n2, ?_⟩
      refine Ev.one (fun k => by rw [spec_l3Draw.l1]) ?_
      refine Ev.pos c (Ev.pos (by omega) (Ev.bnd e1' ?_))
      rw [w64_succ j (by omega)]
      exact Ev.pos (show l.length < 17592186044416 by omega) n3
    · obtain ⟨r, r1, r2⟩ := spec_FromGens_ev l (by omega)
      cases hr : r.2 with
      | true =>
        refine ⟨r.1, i, h, r1.1 hr, ok, Ev.one (fun k => by rw [spec_l3Draw.l1]) (Ev.neg c (Ev.bnd r2 (Ev.pos hr (Ev.now _))))⟩
      | false =>
        obtain ⟨x, i', h', n1, n2, n3⟩ := next i h ok
        exact ⟨x, i', h', n1, n2, Ev.one (fun k => by rw [spec_l3Draw.l1]) (Ev.neg c (Ev.bnd r2 (Ev.neg (show ¬ r.2 = true by rw [hr]; decide) n3)))⟩
theorem l3Draw_l0 (b : List Int) : ∀ (d q : Nat) (i h : Int), q + d = 4 → CurOk b i → ∃ x i' h', SG x ∧ CurOk b i' ∧ Ev (fun k => spec_l3Draw.l0 k (q : Int) b i h) (x, i', h') := by
  intro d
  induction d with
  | zero =>
    intro q i h hq ok
    obtain ⟨x, i', h', n1, n2, n3⟩ := l3Fall_ok b i h ok
    exact ⟨x, i', h', n1, n2, Ev.one (fun k => by rw [spec_l3Draw.l0]) (Ev.neg (by omega) n3)⟩
  | succ d ih =>
    intro q i h hq ok
    obtain ⟨y, i1, h1, e1, b1, k1⟩ := l1Below_ok b i h 8 ok
    obtain ⟨z, i2, h2, e2, b2, k2⟩ := l1Below_ok b i1 h1 4 k1
    have f1 : Ev (fun _ : Nat => spec_l1Below.f b i h 8) (y, i1, h1) := Ev.const e1
    have f2 : Ev (fun _ : Nat => spec_l1Below.f b i1 h1 4) (z, i2, h2) := Ev.const e2
    have y8 := b1.2.1 (by omega)
    have z4 := b2.2.1 (by omega)
    have h7 : wrap64 (1 + z) ≤ 4 := by rw [w64_of (by omega) (by omega)]; omega
    obtain ⟨x, i', h', n1, n2, n3⟩ := l3Draw_l1 b (q : Int) (fun i h ok => by rw [w64_succ q (by omega)]; exact ih (q + 1) i h (by omega) ok) (wrap64 (1 + z)) h7 4 0 [wrap64 (2 + y)] i2 h2 (by omega) rfl (by
      intro x hx
      rw [List.mem_singleton.1 hx, w64_of (by omega) (by omega)]
      omega) k2
    exact ⟨x, i', h', n1, n2, Ev.one (fun k => by rw [spec_l3Draw.l0]) (Ev.pos (by omega) (Ev.bnd f1 (Ev.bnd f2 n3)))⟩
theorem l3Draw_ok (b : List Int) (i h : Int) (ok : CurOk b i) : ∃ x i' h', SG x ∧ CurOk b i' ∧ Ev (fun k => spec_l3Draw.f k b i h) (x, i', h') := by
  unfold spec_l3Draw.f
  obtain ⟨y, i1, h1, e1, k1⟩ := l1Once_ok b i h 4 ok
  have f1 : Ev (fun _ : Nat => spec_l1Once.f b i h 4) (y, i1, h1) := Ev.const e1
  cases y with
  | true =>
    obtain ⟨x, i', h', n1, n2, n3⟩ := l3Fall_ok b i1 h1 k1
    exact ⟨x, i', h', n1, n2, Ev.bnd f1 (Ev.pos rfl n3)⟩
  | false =>
    obtain ⟨x, i', h', n1, n2, n3⟩ := l3Draw_l0 b 4 0 i1 h1 (by omega) k1
    exact ⟨x, i', h', n1, n2, Ev.bnd f1 (Ev.neg (show ¬ false = true by decide) n3)⟩
theorem l3Bent_ok (b : List Int) (i h : Int) (ok : CurOk b i) : ∃ x i' h', x.length ≤ 13 ∧ CurOk b i' ∧ Ev (fun k => spec_l3Bent.f k b i h) (x, i', h') := by
  unfold spec_l3Bent.f
  obtain ⟨g, i1, h1, hS, k1, e1⟩ := l3Draw_ok b i h ok
  have n1 := hS.len1; have n2 := hS.len2
  obtain ⟨y, i2, h2, e2, b2, k2⟩ := l1Below_ok b i1 h1 12 k1
  have f2 : Ev (fun _ : Nat => spec_l1Below.f b i1 h1 12) (y, i2, h2) := Ev.const e2
  by_cases c0 : y = 0
  · obtain ⟨v, i3, h3, e3, _, k3⟩ := l1PickInt_ok b i2 h2 [0, 61, 12, (-3), 60] k2 (by decide)
    have f3 : Ev (fun _ : Nat => spec_l1PickInt.f b i2 h2 [0, 61, 12, (-3), 60]) (v, i3, h3) := Ev.const e3
    exact ⟨g ++ [v], i3, h3, by simp; omega, k3, Ev.bnd e1 (Ev.bnd f2 (Ev.pos c0 (Ev.bnd f3 (Ev.pos (by show g.length < _; omega) (Ev.now _)))))⟩
  by_cases c1 : y = 1
  · exact ⟨g.drop 1, i2, h2, by simp; omega, k2, Ev.bnd e1 (Ev.bnd f2 (Ev.neg c0 (Ev.pos c1 (Ev.pos (by show 1 ≤ (g.length : Int); omega) (Ev.now _)))))⟩
  by_cases c2 : y = 2
  · obtain ⟨v, i3, h3, e3, _, k3⟩ := l1PickInt_ok b i2 h2 [0, 59, 4] k2 (by decide)
    have f3 : Ev (fun _ : Nat => spec_l1PickInt.f b i2 h2 [0, 59, 4]) (v, i3, h3) := Ev.const e3
    exact ⟨[v, 60], i3, h3, by simp, k3, Ev.bnd e1 (Ev.bnd f2 (Ev.neg c0 (Ev.neg c1 (Ev.pos c2 (Ev.bnd f3 (Ev.now _))))))⟩
  · exact ⟨g, i2, h2, by omega, k2, Ev.bnd e1 (Ev.bnd f2 (Ev.neg c0 (Ev.neg c1 (Ev.neg c2 (Ev.now _)))))⟩
end Go.Proofs.Ytkfplkdchkmgbaa.Pure
