/- For all lists the program's DistanceOf returns what the reference's returns; no condition besides the row's own. -/
import Derived.Test.YtfpjjjdiieplkaaPFnExactDistanceOfx2
namespace Go.Proofs.Ytfpjjjdiieplkaa.Pure
open Go.RowKit Go.Proofs.Ytfpjjjdiieplkaa.PFnExactDistanceOf Go.Proofs.YtfpjjjdiieplkaaW.PrintWords Go.Proofs.YtfpjjjdiieplkaaW.PrintLast Go.Proofs.YtfpjjjdiieplkaaW.PrintMore
set_option linter.unusedVariables false
set_option linter.unusedSimpArgs false

/-! base: words on rounds and on lists of numbers -/
theorem Ev.pos {α : Type} {c : Prop} [Decidable c] {a b : Nat → Option α} {r : α} (h : c) (e : Ev a r) : Ev (fun k => if c then a k else b k) r :=
  Ev.congr (fun _ => if_pos h) e
theorem Ev.neg {α : Type} {c : Prop} [Decidable c] {a b : Nat → Option α} {r : α} (h : ¬ c) (e : Ev b r) : Ev (fun k => if c then a k else b k) r :=
  Ev.congr (fun _ => if_neg h) e
theorem Ev.some {α β : Type} {x : α} {f : Nat → α → Option β} {r : β} (k : Ev (fun n => f n x) r) : Ev (fun n => (some x).bind (f n)) r := k
theorem Ev.bnd {α β : Type} {g : Nat → Option α} {f : Nat → α → Option β} {a : α} {r : β} (h : Ev g a) (k : Ev (fun n => f n a) r) : Ev (fun n => (g n).bind fun t => f n t) r := Ev.bind h k
/-- One round of a loop. -/
theorem Ev.one {α : Type} {g f : Nat → Option α} {r : α} (h : ∀ k, g (k + 1) = f k) (k : Ev f r) : Ev g r := Ev.step h k
theorem Ev.const {α : Type} {x : Option α} {a : α} (h : x = Option.some a) : Ev (fun _ => x) a := Ev.congr (fun _ => h) (Ev.now a)
theorem Ev.uniq {α : Type} {g : Nat → Option α} {a b : α} (h : Ev g a) (k : Ev g b) : a = b := by
  obtain ⟨K, h⟩ := h
  obtain ⟨K', k⟩ := k
  have h1 := h (max K K') (by omega)
  have h2 := k (max K K') (by omega)
  exact Option.some.inj (h1.symm.trans h2)
theorem rd_at (xs : List Int) (i : Nat) (h : i < xs.length) : rd xs (i : Int) = xs[i] := by
  unfold rd
  rw [Int.toNat_natCast, List.getD_eq_getElem?_getD, List.getElem?_eq_getElem h, Option.getD_some]
theorem w64_of {x : Int} (h0 : -9223372036854775808 ≤ x) (h1 : x < 9223372036854775808) : wrap64 x = x := by
  unfold wrap64
  omega
theorem w64_succ (i : Nat) (h : i < 4611686018427387904) : wrap64 ((i : Int) + 1) = ((i + 1 : Nat) : Int) := by
  rw [w64_of (by omega) (by omega)]
  omega
theorem wf64 {x : Int} (h : (Lit.int .i64 x).wf = true) : -9223372036854775808 ≤ x ∧ x ≤ 9223372036854775807 := by
  simp only [Lit.wf, IntKind.min, IntKind.max, IntKind.signed, IntKind.bits, Bool.and_eq_true, decide_eq_true_eq, if_true] at h
  omega

/-! laws0: toIntS, eqIntS, markIntS, heldIntS -/
theorem toIntS_l0 (l : List Int) (hl : l.length ≤ 35184372088832) : ∀ (d i : Nat) (xs : List Int), i + d = l.length → xs.length = l.length → (∀ j, j < i → xs[j]? = l[j]?) →
    Ev (fun k => laws_toIntS.l0 k l xs (i : Int)) l := by
  intro d
  induction d with
  | zero =>
    intro i xs hi hx hj
    have e : xs = l := by
      apply List.ext_getElem? ; intro j
      by_cases h : j < i
      · exact hj j h
      · rw [List.getElem?_eq_none (by omega), List.getElem?_eq_none (by omega)]
    subst e
    refine Ev.one (fun k => by rw [laws_toIntS.l0]) ?_
    exact Ev.neg (by omega) (Ev.now _)
  | succ d ih =>
    intro i xs hi hx hj
    refine Ev.one (fun k => by rw [laws_toIntS.l0]) ?_
    refine Ev.pos (by omega) (Ev.pos (by omega) (Ev.pos (by omega) ?_))
    rw [w64_succ i (by omega), rd_at l i (by omega), Int.toNat_natCast]
    refine ih (i + 1) _ (by omega) (by rw [List.length_set]; exact hx) (fun j hj' => ?_)
    by_cases e : j = i
    · subst e
      rw [List.getElem?_set_self (by omega), List.getElem?_eq_getElem (by omega)]
    · rw [List.getElem?_set_ne (by omega)]
      exact hj j (by omega)
theorem toIntS_ev (l : List Int) (hl : l.length ≤ 35184372088832) : Ev (fun k => laws_toIntS.f k l) l := by
  unfold laws_toIntS.f
  refine Ev.pos (by omega) (Ev.pos (by omega) ?_)
  exact toIntS_l0 l hl l.length 0 _ (by omega) (by rw [List.length_replicate]; omega) (fun j h => by omega)
theorem eqIntS_l0 (l : List Int) (hl : l.length ≤ 35184372088832) : ∀ (d i : Nat), i + d = l.length → Ev (fun k => laws_eqIntS.l0 k l l (i : Int)) true := by
  intro d
  induction d with
  | zero =>
    intro i hi
    refine Ev.one (fun k => by rw [laws_eqIntS.l0]) ?_
    exact Ev.neg (by omega) (Ev.now _)
  | succ d ih =>
    intro i hi
    refine Ev.one (fun k => by rw [laws_eqIntS.l0]) ?_
    refine Ev.pos (by omega) (Ev.pos (by omega) (Ev.pos (by omega) (Ev.pos rfl ?_)))
    rw [w64_succ i (by omega)]
    exact ih (i + 1) (by omega)
theorem eqIntS_ev (l : List Int) (hl : l.length ≤ 35184372088832) : Ev (fun k => laws_eqIntS.f k l l) true := by
  unfold laws_eqIntS.f
  exact Ev.pos rfl (eqIntS_l0 l hl l.length 0 (by omega))

/-! within: l1In, within, allWithin -/
theorem spec_l1In_eq (a b c : Int) : spec_l1In.f a b c = some (decide (b ≤ a ∧ a ≤ c)) := by
  unfold spec_l1In.f
  by_cases h : a ≥ b
  · rw [if_pos h]
    by_cases h2 : a ≤ c
    · rw [decide_eq_true h2, decide_eq_true ⟨h, h2⟩]
    · rw [decide_eq_false h2, decide_eq_false (fun h3 => h2 h3.2)]
  · rw [if_neg h, decide_eq_false (fun h3 => h h3.1)]
theorem impl_within_eq (a b c : Int) : impl_within.f a b c = some (decide (b ≤ a ∧ a ≤ c)) := by
  unfold impl_within.f
  by_cases h : a ≥ b
  · rw [if_pos h]
    by_cases h2 : a ≤ c
    · rw [decide_eq_true h2, decide_eq_true ⟨h, h2⟩]
    · rw [decide_eq_false h2, decide_eq_false (fun h3 => h2 h3.2)]
  · rw [if_neg h, decide_eq_false (fun h3 => h h3.1)]
theorem spec_l1In_ev (a b c : Int) : Ev (fun _ => spec_l1In.f a b c) (decide (b ≤ a ∧ a ≤ c)) := Ev.const (spec_l1In_eq a b c)
theorem impl_within_ev (a b c : Int) : Ev (fun _ => impl_within.f a b c) (decide (b ≤ a ∧ a ≤ c)) := Ev.const (impl_within_eq a b c)

/-! allWithin -/
def allIn (l : List Int) (a b : Int) : Bool := l.all fun x => decide (a ≤ x ∧ x ≤ b)
theorem allIn_iff (l : List Int) (a b : Int) : allIn l a b = true ↔ ∀ x ∈ l, a ≤ x ∧ x ≤ b := by
  unfold allIn
  rw [List.all_eq_true]
  exact ⟨fun h x hx => by simpa using h x hx, fun h x hx => by simpa using h x hx⟩
theorem allIn_cons (x : Int) (l : List Int) (a b : Int) (h : a ≤ x ∧ x ≤ b) : allIn (x :: l) a b = allIn l a b := by
  simp only [allIn, List.all_cons, decide_eq_true h, Bool.true_and]
theorem allIn_cons_not (x : Int) (l : List Int) (a b : Int) (h : ¬ (a ≤ x ∧ x ≤ b)) : allIn (x :: l) a b = false := by
  simp only [allIn, List.all_cons, decide_eq_false h, Bool.false_and]
theorem impl_allWithin_l0 (l : List Int) (a b : Int) (hl : l.length ≤ 35184372088832) : ∀ (d i : Nat), i + d = l.length → Ev (fun k => impl_allWithin.l0 k a b l (l.length : Int) (i : Int)) (allIn (l.drop i) a b) := by
  intro d
  induction d with
  | zero =>
    intro i hi
    rw [List.drop_eq_nil_of_le (by omega)]
    refine Ev.one (fun k => by rw [impl_allWithin.l0]) ?_
    exact Ev.neg (by omega) (Ev.now _)
  | succ d ih =>
    intro i hi
    rw [List.drop_eq_getElem_cons (show i < l.length by omega)]
    refine Ev.one (fun k => by rw [impl_allWithin.l0]) ?_
    refine Ev.pos (by omega) (Ev.pos (by omega) (Ev.pos (by omega) ?_))
    rw [rd_at l i (by omega), impl_within_eq]
    simp only [Option.bind_some]
    by_cases h : a ≤ l[i] ∧ l[i] ≤ b
    · refine Ev.pos (decide_eq_true h) ?_
      rw [w64_succ i (by omega)]
      rw [allIn_cons _ _ _ _ h]
      exact ih (i + 1) (by omega)
    · refine Ev.neg (by rw [decide_eq_false h]; decide) ?_
      rw [allIn_cons_not _ _ _ _ h]
      exact Ev.now _
theorem impl_allWithin_ev (l : List Int) (a b : Int) (hl : l.length ≤ 35184372088832) : Ev (fun k => impl_allWithin.f k l a b) (allIn l a b) := by
  unfold impl_allWithin.f
  exact impl_allWithin_l0 l a b hl l.length 0 (by omega)

/-! apart: distances of lists -/
/-- What is left of the one list if the lesser one of each two numbers is taken away. -/
def exc : List Int → List Int → Int
  | x :: a, y :: b => (x - min x y) + exc a b
  | _, _ => 0
theorem exc_cons (x : Int) (a : List Int) (y : Int) (b : List Int) : exc (x :: a) (y :: b) = (x - min x y) + exc a b := rfl
theorem exc_nil (b : List Int) : exc [] b = 0 := by cases b <;> rfl
theorem exc_bounds : ∀ (a b : List Int), (∀ x ∈ a, 0 ≤ x ∧ x ≤ 1000000) → (∀ x ∈ b, 0 ≤ x ∧ x ≤ 1000000) → 0 ≤ exc a b ∧ exc a b ≤ 1000000 * (a.length : Int) := by
  intro a
  induction a with
  | nil => intro b _ _; rw [exc_nil]; simp
  | cons x a ih =>
    intro b ha hb
    cases b with
    | nil => exact ⟨by show (0 : Int) ≤ 0; omega, by show (0 : Int) ≤ _; omega⟩
    | cons y b =>
      have h1 := ih b (fun z hz => ha z (List.mem_cons_of_mem _ hz)) (fun z hz => hb z (List.mem_cons_of_mem _ hz))
      have h2 := ha x (List.mem_cons_self ..)
      have h3 := hb y (List.mem_cons_self ..)
      rw [exc_cons, List.length_cons]
      omega
/-- The distance of two lists of one length. -/
def dst (a b : List Int) : Int := max (exc a b) (exc b a)
theorem impl_apart_l0 (a b : List Int) (h : a.length = b.length) (hl : a.length ≤ 1048576) (ha : ∀ x ∈ a, 0 ≤ x ∧ x ≤ 1000000) (hb : ∀ x ∈ b, 0 ≤ x ∧ x ≤ 1000000) :
    ∀ (d i : Nat) (x y : Int), i + d = a.length → 0 ≤ x → x ≤ 1000000 * (i : Int) → 0 ≤ y → y ≤ 1000000 * (i : Int) →
      Ev (fun k => impl_apart.l0 k a b x y (a.length : Int) (i : Int)) (max (x + exc (a.drop i) (b.drop i)) (y + exc (b.drop i) (a.drop i))) := by
  intro d
  induction d with
  | zero =>
    intro i x y hi h0 h1 h2 h3
    rw [List.drop_eq_nil_of_le (show a.length ≤ i by omega), List.drop_eq_nil_of_le (show b.length ≤ i by omega), exc_nil]
    refine Ev.one (fun k => by rw [impl_apart.l0]) (Ev.neg (by omega) ?_)
    have e : mx x y = max (x + 0) (y + 0) := by unfold mx; omega
    rw [e]
    exact Ev.now _
  | succ d ih =>
    intro i x y hi h0 h1 h2 h3
    rw [List.drop_eq_getElem_cons (show i < a.length by omega), List.drop_eq_getElem_cons (show i < b.length by omega), exc_cons, exc_cons]
    have ga := ha a[i] (List.getElem_mem _)
    have gb := hb b[i] (List.getElem_mem _)
    refine Ev.one (fun k => by rw [impl_apart.l0]) (Ev.pos (by omega) (Ev.pos (by omega) (Ev.pos (by omega) (Ev.pos (by omega) ?_))))
    have em : mn a[i] b[i] = min a[i] b[i] := by unfold mn; omega
    rw [rd_at a i (by omega), rd_at b i (by omega), em, w64_of (x := a[i] - min a[i] b[i]) (by omega) (by omega), w64_of (x := b[i] - min a[i] b[i]) (by omega) (by omega),
      w64_of (x := x + (a[i] - min a[i] b[i])) (by omega) (by omega), w64_of (x := y + (b[i] - min a[i] b[i])) (by omega) (by omega), w64_succ i (by omega)]
    have g := ih (i + 1) (x + (a[i] - min a[i] b[i])) (y + (b[i] - min a[i] b[i])) (by omega) (by omega) (by omega) (by omega) (by omega)
    have e : max (x + (a[i] - min a[i] b[i]) + exc (a.drop (i + 1)) (b.drop (i + 1))) (y + (b[i] - min a[i] b[i]) + exc (b.drop (i + 1)) (a.drop (i + 1))) = max (x + (a[i] - min a[i] b[i] + exc (a.drop (i + 1)) (b.drop (i + 1)))) (y + (b[i] - min b[i] a[i] + exc (b.drop (i + 1)) (a.drop (i + 1)))) := by
      rw [Int.min_comm b[i] a[i]]
      congr 1 <;> (generalize min a[i] b[i] = m; omega)
    rw [← e]
    exact g
theorem impl_apart_ev (a b : List Int) (h : a.length = b.length) (hl : a.length ≤ 1048576) (ha : ∀ x ∈ a, 0 ≤ x ∧ x ≤ 1000000) (hb : ∀ x ∈ b, 0 ≤ x ∧ x ≤ 1000000) :
    Ev (fun k => impl_apart.f k a b) (dst a b) := by
  unfold impl_apart.f
  have g := impl_apart_l0 a b h hl ha hb a.length 0 0 0 (by omega) (by omega) (by omega) (by omega) (by omega)
  rw [Int.zero_add, Int.zero_add] at g
  exact g

/-! spec.DistanceOf -/
theorem spec_l1Min_eq (a b : Int) : spec_l1Min.f a b = some (min a b) := by
  unfold spec_l1Min.f
  by_cases h : a < b
  · rw [if_pos h]; congr 1; omega
  · rw [if_neg h]; congr 1; omega
theorem spec_l1Max_eq (a b : Int) : spec_l1Max.f a b = some (max a b) := by
  unfold spec_l1Max.f
  by_cases h : a > b
  · rw [if_pos h]; congr 1; omega
  · rw [if_neg h]; congr 1; omega
theorem spec_dist_l0 (a b : List Int) (h : a.length = b.length) (hl : a.length ≤ 1048576) :
    ∀ (d i : Nat) (x y : Int), i + d = a.length → 0 ≤ x → x ≤ 1000000 * (i : Int) → 0 ≤ y → y ≤ 1000000 * (i : Int) →
      Ev (fun k => spec_DistanceOf.l0 k a b x y (i : Int)) (if allIn (a.drop i) 0 1000000 = true ∧ allIn (b.drop i) 0 1000000 = true then max (x + exc (a.drop i) (b.drop i)) (y + exc (b.drop i) (a.drop i)) else -1) := by
  intro d
  induction d with
  | zero =>
    intro i x y hi h0 h1 h2 h3
    rw [List.drop_eq_nil_of_le (show a.length ≤ i by omega), List.drop_eq_nil_of_le (show b.length ≤ i by omega), exc_nil, if_pos ⟨rfl, rfl⟩, Int.add_zero, Int.add_zero]
    refine Ev.one (fun k => by rw [spec_DistanceOf.l0]) (Ev.neg (by omega) ?_)
    simp only [spec_l1Max_eq, Option.bind_some]
    exact Ev.now _
  | succ d ih =>
    intro i x y hi h0 h1 h2 h3
    rw [List.drop_eq_getElem_cons (show i < a.length by omega), List.drop_eq_getElem_cons (show i < b.length by omega), exc_cons, exc_cons]
    refine Ev.one (fun k => by rw [spec_DistanceOf.l0]) (Ev.pos (by omega) (Ev.pos (by omega) ?_))
    simp only [rd_at a i (by omega), rd_at b i (by omega), spec_l1In_eq, spec_l1Min_eq, Option.bind_some]
    by_cases ga : 0 ≤ a[i] ∧ a[i] ≤ 1000000
    · by_cases gb : 0 ≤ b[i] ∧ b[i] ≤ 1000000
      · refine Ev.pos (decide_eq_true ga) (Ev.pos (by omega) (Ev.pos (decide_eq_true gb) ?_))
        rw [w64_of (x := x + a[i]) (by omega) (by omega), w64_of (x := y + b[i]) (by omega) (by omega), w64_of (x := x + a[i] - min a[i] b[i]) (by omega) (by omega), w64_of (x := y + b[i] - min a[i] b[i]) (by omega) (by omega), w64_succ i (by omega)]
        have g := ih (i + 1) (x + a[i] - min a[i] b[i]) (y + b[i] - min a[i] b[i]) (by omega) (by omega) (by omega) (by omega) (by omega)
        have e3 : max (x + a[i] - min a[i] b[i] + exc (a.drop (i + 1)) (b.drop (i + 1))) (y + b[i] - min a[i] b[i] + exc (b.drop (i + 1)) (a.drop (i + 1))) = max (x + (a[i] - min a[i] b[i] + exc (a.drop (i + 1)) (b.drop (i + 1)))) (y + (b[i] - min b[i] a[i] + exc (b.drop (i + 1)) (a.drop (i + 1)))) := by
          rw [Int.min_comm b[i] a[i]]
          congr 1 <;> (generalize min a[i] b[i] = m; omega)
        rw [allIn_cons _ _ _ _ ga, allIn_cons _ _ _ _ gb, ← e3]
        exact g
      · rw [if_neg (by rw [allIn_cons_not _ _ _ _ gb]; simp)]
        exact Ev.pos (decide_eq_true ga) (Ev.pos (by omega) (Ev.neg (by rw [decide_eq_false gb]; decide) (Ev.now _)))
    · rw [if_neg (by rw [allIn_cons_not _ _ _ _ ga]; simp)]
      exact Ev.neg (by rw [decide_eq_false ga]; decide) (Ev.now _)
theorem spec_dist_ev (a b : List Int) (hl : a.length ≤ 1048576) :
    Ev (fun k => spec_DistanceOf.f k a b) (if a.length = b.length ∧ allIn a 0 1000000 = true ∧ allIn b 0 1000000 = true then dst a b else -1) := by
  unfold spec_DistanceOf.f
  by_cases h : a.length = b.length
  · have g := spec_dist_l0 a b h hl a.length 0 0 0 (by omega) (by omega) (by omega) (by omega) (by omega)
    rw [Int.zero_add, Int.zero_add] at g
    refine Ev.pos (by omega) ?_
    simp only [h, true_and]
    exact g
  · rw [if_neg (fun g => h g.1)]
    exact Ev.neg (by omega) (Ev.now _)

theorem impl_dist_ev (a b : List Int) (hl : a.length ≤ 1048576) (hl' : b.length ≤ 1048576) :
    Ev (fun k => impl_DistanceOf.f k a b) (if a.length = b.length ∧ allIn a 0 1000000 = true ∧ allIn b 0 1000000 = true then dst a b else -1) := by
  unfold impl_DistanceOf.f
  by_cases h : a.length = b.length
  · refine Ev.pos (by omega) (Ev.bnd (impl_allWithin_ev a 0 1000000 (by omega)) ?_)
    by_cases ga : allIn a 0 1000000 = true
    · refine Ev.pos ga (Ev.bnd (impl_allWithin_ev b 0 1000000 (by omega)) ?_)
      by_cases gb : allIn b 0 1000000 = true
      · rw [if_pos ⟨h, ga, gb⟩]
        exact Ev.pos gb (Ev.bnd (impl_apart_ev a b h hl ((allIn_iff _ _ _).1 ga) ((allIn_iff _ _ _).1 gb)) (Ev.now _))
      · rw [if_neg (fun g => gb g.2.2)]
        exact Ev.neg gb (Ev.now _)
    · rw [if_neg (fun g => ga g.2.1)]
      exact Ev.neg ga (Ev.now _)
  · rw [if_neg (fun g => h g.1)]
    exact Ev.neg (by omega) (Ev.now _)
theorem FnExactDistanceOf (a b : List Int) (hm : a.length ≤ maxLen) (hw : ∀ x ∈ a, (Lit.int .i64 x).wf = true) (hm' : b.length ≤ maxLen) (hw' : ∀ x ∈ b, (Lit.int .i64 x).wf = true) : ∃ k, laws_FnExactDistanceOf.f k a b = some true := by
  apply Ev.rounds
  unfold laws_FnExactDistanceOf.f
  by_cases hl : (a.length : Int) > 1048576
  · exact Ev.pos hl (Ev.now _)
  by_cases hl' : (b.length : Int) > 1048576
  · exact Ev.neg hl (Ev.pos hl' (Ev.now _))
  have h1 := spec_dist_ev a b (by omega)
  have h2 := impl_dist_ev a b (by omega) (by omega)
  have ht := toIntS_ev a (by omega)
  have he := eqIntS_ev a (by omega)
  have ht' := toIntS_ev b (by omega)
  have he' := eqIntS_ev b (by omega)
  exact Ev.neg hl (Ev.neg hl' (Ev.bnd ht (Ev.bnd ht' (Ev.bnd h1 (Ev.bnd ht (Ev.bnd ht' (Ev.bnd h2 (Ev.pos rfl (Ev.bnd ht (Ev.bnd he (Ev.pos rfl (Ev.bnd ht' (Ev.bnd he' (Ev.pos rfl (Ev.now _)))))))))))))))

end Go.Proofs.Ytfpjjjdiieplkaa.Pure
