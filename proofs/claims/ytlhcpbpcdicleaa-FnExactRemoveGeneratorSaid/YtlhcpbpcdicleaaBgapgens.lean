/- Plain lemmas (gapgens): no program, no memory. -/
import Derived.Test.YtlhcpbpcdicleaaC0
import Derived.Test.YtlhcpbpcdicleaaC4
import Derived.Test.YtlhcpbpcdicleaaBsums
import Derived.Test.YtlhcpbpcdicleaaBasc
import Derived.Test.YtlhcpbpcdicleaaBsortspec
import Derived.Test.YtlhcpbpcdicleaaBissg
import Derived.Test.YtlhcpbpcdicleaaBshell
import Derived.Test.YtlhcpbpcdicleaaBelems
import Derived.Test.YtlhcpbpcdicleaaBgaps
import Derived.Test.YtlhcpbpcdicleaaBfromgaps
import Derived.Test.YtlhcpbpcdicleaaBhasnum
import Derived.Test.YtlhcpbpcdicleaaBbase
namespace Go.Proofs.Ytlhcpbpcdicleaa.Pure
open Go.RowKit Go.Proofs.Ytlhcpbpcdicleaa.C Go.Proofs.YtlhcpbpcdicleaaW.PrintWords Go.Proofs.YtlhcpbpcdicleaaW.PrintLast Go.Proofs.YtlhcpbpcdicleaaW.PrintMore
set_option linter.unusedVariables false
set_option linter.unusedSimpArgs false
/-! gapgens: the generators that FromGaps finds -/
/-- A number beside the list that is no sum of two such numbers. -/
def irr (l : List Int) (n : Int) : Prop := 1 ≤ n ∧ n ∉ l ∧ ¬ ∃ a b : Int, 1 ≤ a ∧ 1 ≤ b ∧ a + b = n ∧ a ∉ l ∧ b ∉ l
noncomputable def irrB (l : List Int) (n : Nat) : Bool := @decide (irr l (n : Int)) (Classical.propDecidable _)
theorem irrB_iff (l : List Int) (n : Nat) : irrB l n = true ↔ irr l (n : Int) := by unfold irrB; exact @decide_eq_true_iff (irr l (n : Int)) (Classical.propDecidable _)
theorem irrB_not (l : List Int) (n : Nat) (h : ¬ irr l (n : Int)) : irrB l n = false := by
  cases hb : irrB l n with
  | false => rfl
  | true => exact absurd ((irrB_iff l n).1 hb) h
noncomputable def genL (l : List Int) (n : Nat) : List Int := pick (irrB l) (fun n => (n : Int)) n
theorem genL_len (l : List Int) (n : Nat) : (genL l n).length ≤ n := pick_len _ _ _
theorem genL_mem (l : List Int) (n : Nat) (x : Int) : x ∈ genL l n ↔ irr l x ∧ x < (n : Int) := by
  unfold genL pick
  rw [List.mem_map]
  constructor
  · rintro ⟨m, hm, rfl⟩
    rw [List.mem_filter, List.mem_range, irrB_iff] at hm
    exact ⟨hm.2, by omega⟩
  · rintro ⟨h1, h2⟩
    have h0 := h1.1
    refine ⟨x.toNat, ?_, by omega⟩
    rw [List.mem_filter, List.mem_range, irrB_iff, show ((x.toNat : Nat) : Int) = x from by omega]
    exact ⟨by omega, h1⟩
theorem genL_pos (l : List Int) (n : Nat) : ∀ x ∈ genL l n, 1 ≤ x := fun x hx => ((genL_mem l n x).1 hx).1.1
theorem genL_pos1 (l : List Int) (n : Nat) (h : irr l (n : Int)) : genL l (n + 1) = genL l n ++ [(n : Int)] := pick_pos _ _ n ((irrB_iff l n).2 h)
theorem genL_neg1 (l : List Int) (n : Nat) (h : ¬ irr l (n : Int)) : genL l (n + 1) = genL l n := pick_neg _ _ n (irrB_not l n h)
theorem genL_one (l : List Int) : genL l 1 = [] := by
  rw [genL_neg1 l 0 (fun h => by have := h.1; omega)]
  rfl
/-- No clash: the numbers beside the list are closed under addition. -/
theorem closed_of (l : List Int) (hc : ¬ clP l 1) (a b : Int) (ha : 1 ≤ a) (hb : 1 ≤ b) (h1 : a ∉ l) (h2 : b ∉ l) : a + b ∉ l := by
  intro h
  rcases Int.le_total a b with e | e
  · exact hc ⟨a, by omega, b, by omega, h1, h2, h⟩
  · exact hc ⟨b, by omega, a, by omega, h2, h1, by rwa [Int.add_comm]⟩
theorem sums_out (l : List Int) (hc : ¬ clP l 1) (n : Nat) (m : Int) (h : Sums (genL l n) m) : m = 0 ∨ (1 ≤ m ∧ m ∉ l) := by
  refine Sums.ind (P := fun m => m = 0 ∨ (1 ≤ m ∧ m ∉ l)) (.inl rfl) (fun x k hx _ hk => ?_) h
  have hi := ((genL_mem l n x).1 hx).1
  rcases hk with e | ⟨e1, e2⟩
  · subst e
    rw [Int.zero_add]
    exact .inr ⟨hi.1, hi.2.1⟩
  · have := hi.1
    exact .inr ⟨by omega, closed_of l hc k x e1 hi.1 e2 hi.2.1⟩
theorem sums_in (l : List Int) (n : Nat) : ∀ (q m : Nat), m ≤ q → m < n → 1 ≤ m → (m : Int) ∉ l → Sums (genL l n) (m : Int) := by
  intro q
  induction q with
  | zero => intro m h1 _ h2 _; omega
  | succ q ih =>
    intro m h1 h2 h3 h4
    by_cases hi : irr l (m : Int)
    · exact Sums.one ((genL_mem l n _).2 ⟨hi, by omega⟩)
    · have : ∃ a b : Int, 1 ≤ a ∧ 1 ≤ b ∧ a + b = (m : Int) ∧ a ∉ l ∧ b ∉ l := Classical.byContradiction fun e => hi ⟨by omega, h4, e⟩
      obtain ⟨a, b, a1, b1, e, ha, hb⟩ := this
      have sa := ih a.toNat (by omega) (by omega) (by omega) (by rwa [show ((a.toNat : Nat) : Int) = a from by omega])
      have sb := ih b.toNat (by omega) (by omega) (by omega) (by rwa [show ((b.toNat : Nat) : Int) = b from by omega])
      rw [show ((a.toNat : Nat) : Int) = a from by omega] at sa
      rw [show ((b.toNat : Nat) : Int) = b from by omega] at sb
      rw [← e]
      exact Sums.both sa sb
/-- A number beside the list is a sum of the smaller generators exactly if it is not itself one. -/
theorem sums_self (l : List Int) (hc : ¬ clP l 1) (n : Nat) (h1 : 1 ≤ n) (hn : (n : Int) ∉ l) : Sums (genL l n) (n : Int) ↔ ¬ irr l (n : Int) := by
  constructor
  · intro h hi
    obtain ⟨x, hx, hx2, hs⟩ := Sums.cut (genL_pos l n) h (by omega)
    have hm := (genL_mem l n x).1 hx
    rcases sums_out l hc n _ hs with e | ⟨e1, e2⟩
    · omega
    · exact hi.2.2 ⟨x, (n : Int) - x, hm.1.1, e1, by omega, hm.1.2.1, e2⟩
  · intro hi
    have : ∃ a b : Int, 1 ≤ a ∧ 1 ≤ b ∧ a + b = (n : Int) ∧ a ∉ l ∧ b ∉ l := Classical.byContradiction fun e => hi ⟨by omega, hn, e⟩
    obtain ⟨a, b, a1, b1, e, ha, hb⟩ := this
    have sa := sums_in l n n a.toNat (by omega) (by omega) (by omega) (by rwa [show ((a.toNat : Nat) : Int) = a from by omega])
    have sb := sums_in l n n b.toNat (by omega) (by omega) (by omega) (by rwa [show ((b.toNat : Nat) : Int) = b from by omega])
    rw [show ((a.toNat : Nat) : Int) = a from by omega] at sa
    rw [show ((b.toNat : Nat) : Int) = b from by omega] at sb
    rw [← e]
    exact Sums.both sa sb
/-- Past twice the greatest number no generator comes. -/
theorem genL_far (l : List Int) (most : Nat) (hm : ∀ x ∈ l, x ≤ (most : Int)) : ∀ d : Nat, genL l (2 * most + 3 + d) = genL l (2 * most + 3) := by
  intro d
  induction d with
  | zero => rfl
  | succ d ih =>
    rw [← ih]
    refine genL_neg1 l (2 * most + 3 + d) (fun h => h.2.2 ⟨(most : Int) + 1, ((2 * most + 3 + d : Nat) : Int) - ((most : Int) + 1), by omega, by omega, by omega, fun e => ?_, fun e => ?_⟩)
    · have := hm _ e; omega
    · have := hm _ e; omega
theorem asc_pick (p : Nat → Bool) (n : Nat) : asc (pick p (fun n => (n : Int)) n) := by
  unfold asc pick
  rw [List.pairwise_map]
  refine List.Pairwise.imp (R := fun a b : Nat => a < b) (fun h => by omega) (List.Pairwise.filter _ ?_)
  exact List.pairwise_lt_range
theorem gapL_gens (l : List Int) (ok : okL l) (hc : ¬ clP l 1) (n : Nat) (hn : 200 ≤ n) : gapL (genL l n) = l := by
  refine asc_uniq _ _ (asc_pick _ _) ok.1 (fun x => ?_)
  rw [gapL_mem]
  constructor
  · rintro ⟨h0, h1, h2⟩
    by_cases hx : x ∈ l
    · exact hx
    · exfalso
      by_cases e : x = 0
      · subst e; exact h2 (Sums.zero _)
      · have := sums_in l n n x.toNat (by omega) (by omega) (by omega) (by rwa [show ((x.toNat : Nat) : Int) = x from by omega])
        rw [show ((x.toNat : Nat) : Int) = x from by omega] at this
        exact h2 this
  · intro hx
    have := ok.2 x hx
    refine ⟨by omega, by omega, fun h => ?_⟩
    rcases sums_out l hc n x h with e | ⟨_, e⟩
    · omega
    · exact e hx
theorem spec_FromGaps_l0 (l : List Int) (hl : l.length ≤ 1048576) (hc : ¬ clP l 1) (most : Nat) (hm : most ≤ 199) (b : Bool) (hb : b = true ↔ SG (genL l (2 * most + 3))) :
    ∀ (d i : Nat), i + d = 2 * most + 3 → 1 ≤ i → Ev (fun k => spec_FromGaps.l0 k l (genL l i) (most : Int) (i : Int)) (if b = true then (genL l (2 * most + 3), true) else ([], false)) := by
  have e0 : wrap64 (wrap64 (2 * (most : Int)) + 2) = ((2 * most + 2 : Nat) : Int) := by
    rw [w64_of (x := 2 * (most : Int)) (by omega) (by omega), w64_of (by omega) (by omega)]; omega
  intro d
  induction d with
  | zero =>
    intro i hi h1
    obtain rfl : i = 2 * most + 3 := by omega
    have hgl := genL_len l (2 * most + 3)
    obtain ⟨c, c1, c2⟩ := spec_IsSemigroup_ev (genL l (2 * most + 3)) (by omega)
    have e : c = b := bool_same c1 hb
    subst e
    refine Ev.one (fun k => by rw [spec_FromGaps.l0]) ?_
    rw [e0]
    refine Ev.neg (by omega) (Ev.bnd c2 ?_)
    cases c with
    | false => exact Ev.neg (by decide) (Ev.now _)
    | true => exact Ev.pos rfl (Ev.now _)
  | succ d ih =>
    intro i hi h1
    have ih := ih (i + 1) (by omega) (by omega)
    have hgl := genL_len l i
    obtain ⟨c, c1, c2⟩ := spec_HasNumber_ev l (i : Int) (by omega)
    refine Ev.one (fun k => by rw [spec_FromGaps.l0]) ?_
    rw [e0, w64_succ i (by omega)]
    refine Ev.pos (by omega) (Ev.bnd c2 ?_)
    cases c with
    | true =>
      rw [genL_neg1 l i (fun h => h.2.1 (c1.1 rfl))] at ih
      exact Ev.pos rfl ih
    | false =>
      have hn : (i : Int) ∉ l := fun h => by have := c1.2 h; cases this
      have hs := sums_self l hc i h1 hn
      refine Ev.neg (by decide) ?_
      by_cases h0 : (genL l i).length = 0
      · refine Ev.neg (by omega) (Ev.pos (by omega) ?_)
        rw [genL_pos1 l i ?_] at ih
        · exact ih
        · refine Classical.byContradiction fun h => ?_
          obtain ⟨x, hx, _⟩ := Sums.cut (genL_pos l i) (hs.2 h) (by omega)
          rw [List.length_eq_zero_iff] at h0
          rw [h0] at hx
          simp at hx
      · refine Ev.pos (by omega) (Ev.bnd (spec_tbl_ev (genL l i) i (genL_pos l i) (by omega) (by omega)) ?_)
        rw [rdOf_tblL _ (i + 1) i (by omega), tblL_length]
        refine Ev.pos (by omega) (Ev.pos (by omega) ?_)
        by_cases h : irr l (i : Int)
        · rw [genL_pos1 l i h] at ih
          refine Ev.neg (fun e => ?_) (Ev.pos (by omega) ih)
          exact hs.1 ((elB_iff _ _).1 e) h
        · rw [genL_neg1 l i h] at ih
          exact Ev.pos ((elB_iff _ _).2 (hs.2 h)) ih
/-- What FromGaps answers. -/
noncomputable def fromS (l : List Int) (b : Bool) : List Int × Bool := if b = true then (genL l 401, true) else ([], false)
theorem fromS_len (l : List Int) (b : Bool) : (fromS l b).1.length ≤ 401 := by
  unfold fromS
  split
  · exact genL_len l 401
  · simp
/-- Whether the numbers beside a list are a semigroup. -/
def gapsOk (l : List Int) : Prop := okL l ∧ ¬ clP l 1 ∧ SG (genL l 401)
end Go.Proofs.Ytlhcpbpcdicleaa.Pure
