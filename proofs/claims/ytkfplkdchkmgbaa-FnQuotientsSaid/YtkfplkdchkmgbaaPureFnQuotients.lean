/- For every code of bytes the law FnQuotients answers true: the program's quotients and scaled elements are the reference's, and a number is in a quotient exactly if its product is in the semigroup; no condition besides the row's own. -/
import Derived.Test.YtkfplkdchkmgbaaC0
import Derived.Test.YtkfplkdchkmgbaaC1
import Derived.Test.YtkfplkdchkmgbaaC24
import Derived.Test.YtkfplkdchkmgbaaC26
import Derived.Test.YtkfplkdchkmgbaaBbase
import Derived.Test.YtkfplkdchkmgbaaBhasnum
import Derived.Test.YtkfplkdchkmgbaaBreach0
namespace Go.Proofs.Ytkfplkdchkmgbaa.Pure
open Go.RowKit Go.Proofs.Ytkfplkdchkmgbaa.C Go.Proofs.YtkfplkdchkmgbaaW.PrintWords Go.Proofs.YtkfplkdchkmgbaaW.PrintLast Go.Proofs.YtkfplkdchkmgbaaW.PrintMore
set_option linter.unusedVariables false
set_option linter.unusedSimpArgs false
theorem drawQuotient_ok (b : List Int) (hb : b.length ≤ 1048576) : ∃ g d, g.length ≤ 13 ∧ Ev (fun k => spec_DrawQuotientOf.f k b) (g, d) := by
  unfold spec_DrawQuotientOf.f
  obtain ⟨h0, e0, k0⟩ := l1New_ok b hb
  obtain ⟨g, i1, h1, hg, k1, e1⟩ := l3Bent_ok b 0 h0 k0
  obtain ⟨v, i2, h2, e2, _, _⟩ := l1PickInt_ok b i1 h1 [1, 2, 2, 3, 3, 5, 20, 0, 21] k1 (by decide)
  have f2 : Ev (fun _ : Nat => spec_l1PickInt.f b i1 h1 [1, 2, 2, 3, 3, 5, 20, 0, 21]) (v, i2, h2) := Ev.const e2
  exact ⟨g, v, hg, Ev.bnd e0 (Ev.bnd e1 (Ev.bnd f2 (Ev.now _)))⟩
theorem drawScaled_ok (b : List Int) (hb : b.length ≤ 1048576) : ∃ g d n, g.length ≤ 13 ∧ Ev (fun k => spec_DrawScaledElements.f k b) (g, d, n) := by
  unfold spec_DrawScaledElements.f
  obtain ⟨g, d, hg, e⟩ := drawQuotient_ok b hb
  obtain ⟨h0, e0, k0⟩ := l1New_ok b hb
  obtain ⟨x, i1, h1, e1, _, k1⟩ := l1Below_ok b 0 h0 30 k0
  obtain ⟨y, i2, h2, e2, _, k2⟩ := l1Below_ok b i1 h1 30 k1
  obtain ⟨v, i3, h3, e3, _, _⟩ := l1PickInt_ok b i2 h2 [x, y, 200, 201, (-1)] k2 (by simp)
  have f1 : Ev (fun _ : Nat => spec_l1Below.f b 0 h0 30) (x, i1, h1) := Ev.const e1
  have f2 : Ev (fun _ : Nat => spec_l1Below.f b i1 h1 30) (y, i2, h2) := Ev.const e2
  have f3 : Ev (fun _ : Nat => spec_l1PickInt.f b i2 h2 [x, y, 200, 201, (-1)]) (v, i3, h3) := Ev.const e3
  exact ⟨g, d, v, hg, Ev.bnd e (Ev.bnd e0 (Ev.bnd f1 (Ev.bnd f2 (Ev.bnd f3 (Ev.now _)))))⟩
theorem quotients_l1 (g r : List Int) (ok : Bool) (hl : g.length ≤ 13) (hr : r.length ≤ 401) (hin : ok = true → SG r ∧ ∀ x ∈ g, x ≤ 60 ∧ Sums r x) : ∀ (d i : Nat), i + d = g.length → Ev (fun k => laws_FnQuotients.l1 k ok (i : Int) g r) true := by
  have fin : ∀ x13 : Int, Ev (fun k => laws_FnQuotients.j4 k ok x13 false g r) true := fun x13 => by
    refine Ev.one (fun k => by rw [laws_FnQuotients.j4]) ?_
    exact Ev.neg (by decide) (Ev.now _)
  intro d
  induction d with
  | zero =>
    intro i hi
    refine Ev.one (fun k => by rw [laws_FnQuotients.l1]) ?_
    exact Ev.neg (by omega) (fin _)
  | succ d ih =>
    intro i hi
    refine Ev.one (fun k => by rw [laws_FnQuotients.l1]) ?_
    refine Ev.pos (by omega) ?_
    cases ok with
    | false => exact fin _
    | true =>
      obtain ⟨hS, hx⟩ := hin rfl
      have hx := hx _ (List.getElem_mem (show i < g.length by omega))
      refine Ev.one (fun k => by rw [laws_FnQuotients.j4]) ?_
      obtain ⟨b, b1, b2⟩ := impl_Contains_ev r (by omega) (g[i]'(by omega)) (by omega)
      rw [b1.2 ⟨hS, hx.2⟩] at b2
      rw [rd_at g i (by omega), w64_succ i (by omega)]
      exact Ev.pos rfl (Ev.pos (by omega) (Ev.pos (by omega) (Ev.bnd b2 (Ev.pos rfl (ih (i + 1) (by omega))))))
theorem quotients_l0 (g r : List Int) (d : Int) (ok : Bool) (hl : g.length ≤ 13) (hr : r.length ≤ 401) (hin : ok = true → SG g ∧ SG r ∧ (1 ≤ d ∧ d ≤ 20) ∧ ∀ n : Nat, n ≤ 199 → (Sums r (n : Int) ↔ Sums g (d * (n : Int)))) :
    ∀ (e i : Nat), i + e = 41 → Ev (fun k => laws_FnQuotients.l0 k d ok (i : Int) g r) true := by
  have h1 := quotients_l1 g r ok hl hr (fun h => by
    obtain ⟨h1, h2, h3, h4⟩ := hin h
    refine ⟨h2, fun x hx => ?_⟩
    have hx1 := h1.rng x hx
    obtain ⟨m, rfl⟩ : ∃ m : Nat, x = (m : Int) := ⟨x.toNat, by omega⟩
    refine ⟨hx1.2, (h4 m (by omega)).2 ?_⟩
    obtain ⟨c, rfl⟩ : ∃ c : Nat, d = (c : Int) := ⟨d.toNat, by omega⟩
    exact Sums.times hx c) g.length 0 (by omega)
  have fin : ∀ x12 : Int, Ev (fun k => laws_FnQuotients.j2 k d ok x12 false g r) true := fun x12 => by
    refine Ev.one (fun k => by rw [laws_FnQuotients.j2]) ?_
    exact Ev.neg (by decide) h1
  intro e
  induction e with
  | zero =>
    intro i hi
    refine Ev.one (fun k => by rw [laws_FnQuotients.l0]) ?_
    exact Ev.neg (by omega) (fin _)
  | succ e ih =>
    intro i hi
    refine Ev.one (fun k => by rw [laws_FnQuotients.l0]) ?_
    refine Ev.pos (by omega) ?_
    cases ok with
    | false => exact fin _
    | true =>
      obtain ⟨k1, k2, k3, k4⟩ := hin rfl
      have hm := quo_mul d i k3 (by omega)
      refine Ev.one (fun k => by rw [laws_FnQuotients.j2]) ?_
      obtain ⟨b, b1, b2⟩ := impl_Contains_ev r (by omega) (i : Int) (by omega)
      obtain ⟨c, c1, c2⟩ := spec_Contains_ev g (by omega) (d * (i : Int))
      have ebc : b = c := by
        refine bool_same b1 (c1.trans ?_)
        exact ⟨fun h => ⟨k2, (k4 i (by omega)).2 h.2⟩, fun h => ⟨k1, (k4 i (by omega)).1 h.2⟩⟩
      subst ebc
      rw [Int.mul_comm (i : Int) d, w64_of (x := d * (i : Int)) (by omega) (by omega), w64_succ i (by omega)]
      exact Ev.pos rfl (Ev.bnd b2 (Ev.bnd c2 (Ev.neg (by simp) (ih (i + 1) (by omega)))))
theorem FnQuotients (b : List Int) (hm_b : b.length ≤ maxLen) (hw_b : ∀ x ∈ b, (Lit.int .u8 x).wf = true) : ∃ k, laws_FnQuotients.f k b = some true := by
  apply Ev.rounds
  unfold laws_FnQuotients.f
  by_cases hb : b.length ≤ 1048576
  rotate_left
  · exact Ev.bnd (big_yes b hb) (Ev.pos rfl (Ev.now _))
  obtain ⟨g, d, hg, e1⟩ := drawQuotient_ok b hb
  obtain ⟨r, ⟨r1, r2⟩, r3, r4⟩ := quotient_more g d (by omega)
  obtain ⟨a, e, n, ha, e2⟩ := drawScaled_ok b hb
  obtain ⟨u, hu, u1, u2⟩ := scaled_both a (by omega) e n
  refine Ev.bnd (big_no b hb) (Ev.neg (by decide) (Ev.bnd e1 (Ev.bnd r4 (Ev.bnd r3 (Ev.bnd e2 (Ev.neg (by simp) (Ev.bnd (equalSg_same r.1 (by omega)) (Ev.pos rfl (Ev.bnd u2 (Ev.bnd u1 (Ev.bnd (sameInts_ev u (by omega)) ?_)))))))))))
  refine Ev.one (fun k => by rw [laws_FnQuotients.j0]) ?_
  exact Ev.neg (by decide) (quotients_l0 g r.1 d r.2 hg r1 r2 41 0 (by omega))
end Go.Proofs.Ytkfplkdchkmgbaa.Pure
