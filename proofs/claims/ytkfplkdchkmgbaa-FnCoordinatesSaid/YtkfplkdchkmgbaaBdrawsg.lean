/- Plain lemmas (drawsg): no program, no memory. -/
import Derived.Test.YtkfplkdchkmgbaaC0
import Derived.Test.YtkfplkdchkmgbaaC1
import Derived.Test.YtkfplkdchkmgbaaC3
import Derived.Test.YtkfplkdchkmgbaaC4
import Derived.Test.YtkfplkdchkmgbaaC5
import Derived.Test.YtkfplkdchkmgbaaBbase
import Derived.Test.YtkfplkdchkmgbaaBfromi
namespace Go.Proofs.Ytkfplkdchkmgbaa.Pure
open Go.RowKit Go.Proofs.Ytkfplkdchkmgbaa.C Go.Proofs.YtkfplkdchkmgbaaW.PrintWords Go.Proofs.YtkfplkdchkmgbaaW.PrintLast Go.Proofs.YtkfplkdchkmgbaaW.PrintMore
set_option linter.unusedVariables false
set_option linter.unusedSimpArgs false
/-! drawsg: the drawn semigroups -/
def sB (g : List Int) : Nat → Int → Bool
 | 0, n => decide (n = 0)
 | f + 1, n => decide (n = 0) || g.any fun x => decide (x ≤ n) && sB g f (n - x)
theorem sB_sound (g : List Int) : ∀ (f : Nat) (n : Int), sB g f n = true → Sums g n := by
 intro f
 induction f with
 | zero => intro n h; rw [sB, decide_eq_true_eq] at h; rw [h]; exact Sums.zero g
 | succ f ih =>
  intro n h
  rw [sB, Bool.or_eq_true, decide_eq_true_eq, List.any_eq_true] at h
  rcases h with h | ⟨x, hx, h⟩
  ·rw [h]; exact Sums.zero g
  ·rw [Bool.and_eq_true] at h
   have := Sums.add hx (ih _ h.2)
   rwa [show n - x + x = n from by omega] at this
theorem sB_all (g : List Int) (hp : ∀ x ∈ g, 1 ≤ x) : ∀ (f : Nat) (n : Int), n ≤ (f : Int) → Sums g n → sB g f n = true := by
 intro f
 induction f with
 | zero => intro n h hs; have := hs.nonneg hp; rw [sB, decide_eq_true_eq]; omega
 | succ f ih =>
  intro n h hs
  rw [sB, Bool.or_eq_true, decide_eq_true_eq, List.any_eq_true]
  by_cases h0 : n = 0
  ·exact .inl h0
  ·obtain ⟨x, hx, hxn, hc⟩ := hs.cut hp h0
   have := hp x hx
   exact .inr ⟨x, hx, by rw [Bool.and_eq_true, decide_eq_true_eq]; exact ⟨hxn, ih _ (by omega) hc⟩⟩
theorem SG_of (g : List Int) (a : Nat) (w : List Int) (ha : 1 ≤ a) (hm : (a : Int) ∈ g) (h1 : 1 ≤ g.length ∧ g.length ≤ 12) (h2 : ∀ x ∈ g, 1 ≤ x ∧ x ≤ 60) (h3 : asc g) (h4 : gcdL g = 1)
  (h5 : ∀ k, k < g.length → k = 0 ∨ (g.getD k 0 ≤ 60 ∧ sB (g.take k) 60 (g.getD k 0) = false))
  (h6 : ∀ r : Nat, r < a → ∃ m ∈ w, m ≤ 200 ∧ m % (a : Int) = (r : Int) ∧ sB g 60 m = true) : SG g := by
 refine ⟨h1.1, h1.2, h2, h3, h4, fun k hk => ?_, fun n hn => ?_⟩
 ·rcases h5 k hk with h | h
  ·exact .inl h
  ·refine .inr fun hs => ?_
   have := sB_all (g.take k) (fun x hx => (h2 x (List.mem_of_mem_take hx)).1) 60 _ h.1 hs
   rw [h.2] at this
   cases this
 ·obtain ⟨m, _, m1, m2, m3⟩ := h6 (n % (a : Int)).toNat (by have := Int.emod_nonneg n (show (a : Int) ≠ 0 by omega); have := Int.emod_lt_of_pos n (show (0 : Int) < a by omega); omega)
  have e0 := Int.emod_nonneg n (show (a : Int) ≠ 0 by omega)
  have e1 : m % (a : Int) = n % (a : Int) := by omega
  have e2 : (n - m) % (a : Int) = 0 := Int.emod_eq_emod_iff_emod_sub_eq_zero.1 e1.symm
  obtain ⟨q, hq⟩ := Int.dvd_of_emod_eq_zero e2
  have hq0 : 0 ≤ q := Classical.byContradiction fun hn' => by
   have : (a : Int) * q ≤ (a : Int) * (-1) := Int.mul_le_mul_of_nonneg_left (by omega) (by omega)
   omega
  obtain ⟨c, rfl⟩ : ∃ c : Nat, q = (c : Int) := ⟨q.toNat, by omega⟩
  have := (sB_sound g 60 m m3).both (Sums.times hm c)
  rwa [show m + (c : Int) * (a : Int) = n from by rw [Int.mul_comm]; omega] at this
def eight : List (List Int) := [[1], [3, 5], [4, 6, 9], [3, 4, 5], [6, 9, 20], [5, 7, 9, 11], [2, 3], [4, 5, 11]]
theorem eight_SG : ∀ g ∈ eight, SG g := by
 intro g hg
 have a1 : ∀ l : List Int, l.Pairwise (· < ·) → asc l := fun _ h => h
 simp only [eight, List.mem_cons, List.not_mem_nil, or_false] at hg
 rcases hg with rfl | rfl | rfl | rfl | rfl | rfl | rfl | rfl
 ·exact SG_of _ 1 [0] (by decide) (by decide) (by decide) (by decide) (a1 _ (by decide)) (by decide) (by decide) (by decide)
 ·exact SG_of _ 3 [0, 10, 5] (by decide) (by decide) (by decide) (by decide) (a1 _ (by decide)) (by decide) (by decide +kernel) (by decide +kernel)
 ·exact SG_of _ 4 [0, 9, 6, 15] (by decide) (by decide) (by decide) (by decide) (a1 _ (by decide)) (by decide) (by decide +kernel) (by decide +kernel)
 ·exact SG_of _ 3 [0, 4, 5] (by decide) (by decide) (by decide) (by decide) (a1 _ (by decide)) (by decide) (by decide +kernel) (by decide +kernel)
 ·exact SG_of _ 6 [0, 49, 20, 9, 40, 29] (by decide) (by decide) (by decide) (by decide) (a1 _ (by decide)) (by decide) (by decide +kernel) (by decide +kernel)
 ·exact SG_of _ 5 [0, 11, 7, 18, 9] (by decide) (by decide) (by decide) (by decide) (a1 _ (by decide)) (by decide) (by decide +kernel) (by decide +kernel)
 ·exact SG_of _ 2 [0, 3] (by decide) (by decide) (by decide) (by decide) (a1 _ (by decide)) (by decide) (by decide +kernel) (by decide +kernel)
 ·exact SG_of _ 4 [0, 5, 10, 11] (by decide) (by decide) (by decide) (by decide) (a1 _ (by decide)) (by decide) (by decide +kernel) (by decide +kernel)
/-- What spec.FromGens gives. -/
theorem spec_FromGens_ev (l : List Int) (hl : l.length ≤ 1048576) : ∃ r : List Int × Bool, ((r.2 = true → SG r.1) ∧ (r.2 = false → r.1 = []) ∧ (SG l → r = (l, true))) ∧ Ev (fun k => spec_FromGens.f k l) r := by
 have u1 := spec_l3Gens_ev l hl
 unfold spec_FromGens.f
 cases hb : (allIn l 1 60 && decide ((1 : Int) ≤ (l.length : Int) ∧ (l.length : Int) ≤ 20)) with
 | false =>
  rw [hb] at u1
  refine ⟨([], false), ⟨by simp, by simp, fun h => ?_⟩, Ev.bnd u1 (Ev.neg (by decide) (Ev.now _))⟩
  rw [(allIn_iff l 1 60).2 h.rng, Bool.true_and, decide_eq_false_iff_not] at hb
  have := h.len1; have := h.len2
  omega
 | true =>
  rw [hb] at u1
  rw [Bool.and_eq_true, decide_eq_true_eq] at hb
  have hr := (allIn_iff l 1 60).1 hb.1
  obtain ⟨s, s1, s2⟩ := spec_l3Minimal_ev l hl (fun x hx => by have := hr x hx; omega)
  have hml := minL_len s
  obtain ⟨c, c1, c2⟩ := spec_IsSemigroup_ev (minL s) (by omega)
  refine ⟨if c = true then (minL s, true) else ([], false), ⟨?_, ?_, fun h => ?_⟩, Ev.bnd u1 (Ev.pos rfl (Ev.bnd s2 (Ev.bnd c2 ?_)))⟩
  ·cases c with
   | true => exact fun _ => c1.1 rfl
   | false => intro h; cases h
  ·cases c with
   | true => intro h; cases h
   | false => exact fun _ => rfl
  ·obtain rfl : s = l := asc_uniq s l s1.1 h.up s1.2.1
   have e := (minL_iff s).2 h.free
   rw [e] at c1 ⊢
   rw [if_pos (c1.2 h)]
  ·cases c with
   | true => exact Ev.pos rfl (Ev.now _)
   | false => exact Ev.neg (by decide) (Ev.now _)
theorem l3List_ok (b : List Int) (i h : Int) (ok : CurOk b i) : ∃ x i' h', spec_l3List.f b i h = some (x, i', h') ∧ SG x ∧ CurOk b i' := by
 unfold spec_l3List.f
 obtain ⟨x, i1, h1, e1, b1, k1⟩ := l1Below_ok b i h 8 ok
 have b2 := b1.2.1 (by omega)
 rw [e1]
 simp only [Option.bind_some]
 have key : ∀ g ∈ eight, ∃ x i' h', (some (g, i1, h1) : Option (List Int × Int × Int)) = some (x, i', h') ∧ SG x ∧ CurOk b i' := fun g hg => ⟨_, _, _, rfl, eight_SG g hg, k1⟩
 by_cases c0 : x = 0
 ·rw [if_pos c0]; exact key _ (by decide)
 rw [if_neg c0]
 by_cases c1 : x = 1
 ·rw [if_pos c1]; exact key _ (by decide)
 rw [if_neg c1]
 by_cases c2 : x = 2
 ·rw [if_pos c2]; exact key _ (by decide)
 rw [if_neg c2]
 by_cases c3 : x = 3
 ·rw [if_pos c3]; exact key _ (by decide)
 rw [if_neg c3]
 by_cases c4 : x = 4
 ·rw [if_pos c4]; exact key _ (by decide)
 rw [if_neg c4]
 by_cases c5 : x = 5
 ·rw [if_pos c5]; exact key _ (by decide)
 rw [if_neg c5]
 by_cases c6 : x = 6
 ·rw [if_pos c6]; exact key _ (by decide)
 ·rw [if_neg c6]; exact key _ (by decide)
theorem l3Fall_ok (b : List Int) (i h : Int) (ok : CurOk b i) : ∃ x i' h', SG x ∧ CurOk b i' ∧ Ev (fun k => (spec_l3List.f b i h).bind fun bt => (spec_FromGens.f k bt.1).bind fun bu => (some (bu.1, bt.2.1, bt.2.2))) (x, i', h') := by
 obtain ⟨x, i1, h1, e1, b1, k1⟩ := l3List_ok b i h ok
 obtain ⟨r, r1, r2⟩ := spec_FromGens_ev x (by have := b1.len2; omega)
 obtain rfl := r1.2.2 b1
 have f1 : Ev (fun _ : Nat => spec_l3List.f b i h) (x, i1, h1) := Ev.const e1
 exact ⟨x, i1, h1, b1, k1, Ev.bnd f1 (Ev.bnd r2 (Ev.now _))⟩
theorem l3Draw_l1 (b : List Int) (x5 : Int) (next : ∀ i h, CurOk b i → ∃ x i' h', SG x ∧ CurOk b i' ∧ Ev (fun k => spec_l3Draw.l0 k (wrap64 (x5 + 1)) b i h) (x, i', h')) (x7 : Int) (h7 : x7 ≤ 4) :
  ∀ (d j : Nat) (l : List Int) (i h : Int), j + d = 4 → l.length = j + 1 → (∀ x ∈ l.take 1, 0 ≤ x ∧ x ≤ 100) → CurOk b i → ∃ x i' h', SG x ∧ CurOk b i' ∧ Ev (fun k => spec_l3Draw.l1 k x5 l x7 (j : Int) b i h) (x, i', h') := by
 intro d
 induction d with
 | zero =>
  intro j l i h hj hl h0 ok
  obtain ⟨r, r1, r2⟩ := spec_FromGens_ev l (by omega)
  cases hr : r.2 with
  | true =>
   refine ⟨r.1, i, h, r1.1 hr, ok, Ev.one (fun k => by rw [spec_l3Draw.l1]) (Ev.neg (by omega) (Ev.bnd r2 (Ev.pos hr (Ev.now _))))⟩
  | false =>
   obtain ⟨x, i', h', n1, n2, n3⟩ := next i h ok
   exact ⟨x, i', h', n1, n2, Ev.one (fun k => by rw [spec_l3Draw.l1]) (Ev.neg (by omega) (Ev.bnd r2 (Ev.neg (show ¬ r.2 = true by rw [hr]; decide) n3)))⟩
 | succ d ih =>
  intro j l i h hj hl h0 ok
  by_cases c : (j : Int) < x7
  ·obtain ⟨y, i1, h1, e1, b1, k1⟩ := l1Below_ok b i h 12 ok
   have e1' : Ev (fun _ : Nat => spec_l1Below.f b i h 12) (y, i1, h1) := Ev.const e1
   obtain ⟨x, i', h', n1, n2, n3⟩ := ih (j + 1) (l ++ [wrap64 ((wrap64 ((rd l 0) + 1)) + y)]) i1 h1 (by omega) (by simp; omega) (by rw [List.take_append_of_le_length (by omega)]; exact h0) k1
   refine ⟨x, i', h', n1, n2, ?_⟩
   refine Ev.one (fun k => by rw [spec_l3Draw.l1]) ?_
   refine Ev.pos c (Ev.pos (by omega) (Ev.bnd e1' ?_))
   rw [w64_succ j (by omega)]
   exact Ev.pos (show l.length < 17592186044416 by omega) n3
  ·obtain ⟨r, r1, r2⟩ := spec_FromGens_ev l (by omega)
   cases hr : r.2 with
   | true =>
    refine ⟨r.1, i, h, r1.1 hr, ok, Ev.one (fun k => by rw [spec_l3Draw.l1]) (Ev.neg c (Ev.bnd r2 (Ev.pos hr (Ev.now _))))⟩
   | false =>
    obtain ⟨x, i', h', n1, n2, n3⟩ := next i h ok
    exact ⟨x, i', h', n1, n2, Ev.one (fun k => by rw [spec_l3Draw.l1]) (Ev.neg c (Ev.bnd r2 (Ev.neg (show ¬ r.2 = true by rw [hr]; decide) n3)))⟩
theorem l3Draw_l0 (b : List Int) : ∀ (d q : Nat) (i h : Int), q + d = 4 → CurOk b i → ∃ x i' h', SG x ∧ CurOk b i' ∧ Ev (fun k => spec_l3Draw.l0 k (q : Int) b i h) (x, i', h') := by
 intro d
 induction d with
 | zero =>
  intro q i h hq ok
  obtain ⟨x, i', h', n1, n2, n3⟩ := l3Fall_ok b i h ok
  exact ⟨x, i', h', n1, n2, Ev.one (fun k => by rw [spec_l3Draw.l0]) (Ev.neg (by omega) n3)⟩
 | succ d ih =>
  intro q i h hq ok
  obtain ⟨y, i1, h1, e1, b1, k1⟩ := l1Below_ok b i h 8 ok
  obtain ⟨z, i2, h2, e2, b2, k2⟩ := l1Below_ok b i1 h1 4 k1
  have f1 : Ev (fun _ : Nat => spec_l1Below.f b i h 8) (y, i1, h1) := Ev.const e1
  have f2 : Ev (fun _ : Nat => spec_l1Below.f b i1 h1 4) (z, i2, h2) := Ev.const e2
  have y8 := b1.2.1 (by omega)
  have z4 := b2.2.1 (by omega)
  have h7 : wrap64 (1 + z) ≤ 4 := by rw [w64_of (by omega) (by omega)]; omega
  obtain ⟨x, i', h', n1, n2, n3⟩ := l3Draw_l1 b (q : Int) (fun i h ok => by rw [w64_succ q (by omega)]; exact ih (q + 1) i h (by omega) ok) (wrap64 (1 + z)) h7 4 0 [wrap64 (2 + y)] i2 h2 (by omega) rfl (by
   intro x hx
   rw [List.mem_singleton.1 hx, w64_of (by omega) (by omega)]
   omega) k2
  exact ⟨x, i', h', n1, n2, Ev.one (fun k => by rw [spec_l3Draw.l0]) (Ev.pos (by omega) (Ev.bnd f1 (Ev.bnd f2 n3)))⟩
theorem l3Draw_ok (b : List Int) (i h : Int) (ok : CurOk b i) : ∃ x i' h', SG x ∧ CurOk b i' ∧ Ev (fun k => spec_l3Draw.f k b i h) (x, i', h') := by
 unfold spec_l3Draw.f
 obtain ⟨y, i1, h1, e1, k1⟩ := l1Once_ok b i h 4 ok
 have f1 : Ev (fun _ : Nat => spec_l1Once.f b i h 4) (y, i1, h1) := Ev.const e1
 cases y with
 | true =>
  obtain ⟨x, i', h', n1, n2, n3⟩ := l3Fall_ok b i1 h1 k1
  exact ⟨x, i', h', n1, n2, Ev.bnd f1 (Ev.pos rfl n3)⟩
 | false =>
  obtain ⟨x, i', h', n1, n2, n3⟩ := l3Draw_l0 b 4 0 i1 h1 (by omega) k1
  exact ⟨x, i', h', n1, n2, Ev.bnd f1 (Ev.neg (show ¬ false = true by decide) n3)⟩
theorem l3Bent_ok (b : List Int) (i h : Int) (ok : CurOk b i) : ∃ x i' h', x.length ≤ 13 ∧ CurOk b i' ∧ Ev (fun k => spec_l3Bent.f k b i h) (x, i', h') := by
 unfold spec_l3Bent.f
 obtain ⟨g, i1, h1, hS, k1, e1⟩ := l3Draw_ok b i h ok
 have n1 := hS.len1; have n2 := hS.len2
 obtain ⟨y, i2, h2, e2, b2, k2⟩ := l1Below_ok b i1 h1 12 k1
 have f2 : Ev (fun _ : Nat => spec_l1Below.f b i1 h1 12) (y, i2, h2) := Ev.const e2
 by_cases c0 : y = 0
 ·obtain ⟨v, i3, h3, e3, _, k3⟩ := l1PickInt_ok b i2 h2 [0, 61, 12, (-3), 60] k2 (by decide)
  have f3 : Ev (fun _ : Nat => spec_l1PickInt.f b i2 h2 [0, 61, 12, (-3), 60]) (v, i3, h3) := Ev.const e3
  exact ⟨g ++ [v], i3, h3, by simp; omega, k3, Ev.bnd e1 (Ev.bnd f2 (Ev.pos c0 (Ev.bnd f3 (Ev.pos (by show g.length < _; omega) (Ev.now _)))))⟩
 by_cases c1 : y = 1
 ·exact ⟨g.drop 1, i2, h2, by simp; omega, k2, Ev.bnd e1 (Ev.bnd f2 (Ev.neg c0 (Ev.pos c1 (Ev.pos (by show 1 ≤ (g.length : Int); omega) (Ev.now _)))))⟩
 by_cases c2 : y = 2
 ·obtain ⟨v, i3, h3, e3, _, k3⟩ := l1PickInt_ok b i2 h2 [0, 59, 4] k2 (by decide)
  have f3 : Ev (fun _ : Nat => spec_l1PickInt.f b i2 h2 [0, 59, 4]) (v, i3, h3) := Ev.const e3
  exact ⟨[v, 60], i3, h3, by simp, k3, Ev.bnd e1 (Ev.bnd f2 (Ev.neg c0 (Ev.neg c1 (Ev.pos c2 (Ev.bnd f3 (Ev.now _))))))⟩
 ·exact ⟨g, i2, h2, by omega, k2, Ev.bnd e1 (Ev.bnd f2 (Ev.neg c0 (Ev.neg c1 (Ev.neg c2 (Ev.now _)))))⟩
end Go.Proofs.Ytkfplkdchkmgbaa.Pure
