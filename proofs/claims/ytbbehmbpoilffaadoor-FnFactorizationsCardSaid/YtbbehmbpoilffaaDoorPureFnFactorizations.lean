/- All factorizations are found, each once: the law answers true for every input; no condition besides the row's own. -/
import Derived.Test.YtbbehmbpoilffaaDoorC0
import Derived.Test.YtbbehmbpoilffaaDoorC11
import Derived.Test.YtbbehmbpoilffaaDoorC15
import Derived.Test.YtbbehmbpoilffaaDoorC7
import Derived.Test.YtbbehmbpoilffaaDoorBbase
import Derived.Test.YtbbehmbpoilffaaDoorBfacount
namespace Go.Proofs.YtbbehmbpoilffaaDoor.Pure
open Go.RowKit Go.Proofs.YtbbehmbpoilffaaDoor.C Go.Proofs.YtbbehmbpoilffaaDoorW.PrintWords Go.Proofs.YtbbehmbpoilffaaDoorW.PrintLast Go.Proofs.YtbbehmbpoilffaaDoorW.PrintMore
set_option linter.unusedVariables false
set_option linter.unusedSimpArgs false
theorem fac_row (b : Bool) (g : List Int) (b1 : b = true ↔ SG g) (n : Int) (z : List Int) (hz : z ∈ facS b g n) : SG g ∧ b = true ∧ (0 ≤ n ∧ n ≤ 100) ∧ z.length = g.length ∧ (∀ x ∈ z, 0 ≤ x ∧ x ≤ 100) ∧ dot z g = n := by
 unfold facS at hz
 by_cases hh : b = true ∧ (0 ≤ n ∧ n ≤ 100)
 ·rw [if_pos hh] at hz
  have hS := b1.1 hh.1
  obtain ⟨m, rfl⟩ : ∃ m : Nat, n = (m : Int) := ⟨n.toNat, by omega⟩
  obtain ⟨h1, h2, h3⟩ := (facL_mem g m z (fun x hx => (hS.rng x hx).1)).1 hz
  refine ⟨hS, hh.1, hh.2, h1, fun x hx => ⟨h2 x hx, ?_⟩, h3⟩
  have := dot_ge z g h1 h2 (fun x hx => (hS.rng x hx).1) x hx
  omega
 ·rw [if_neg hh] at hz; cases hz
theorem fnfac_l0 (b : Bool) (g : List Int) (hg : g.length ≤ 13) (b1 : b = true ↔ SG g) (n : Int) : ∀ (d i : Nat), i + d = (facS b g n).length → Ev (fun k => laws_FnFactorizations.l0 k n (facS b g n) (i : Int) g) true := by
 obtain ⟨s1, s2⟩ := facS_small b g b1.1 n
 have hne : (facS b g n).Pairwise (· ≠ ·) := by
  unfold facS
  split
  ·exact facL_ne g n
  ·exact List.Pairwise.nil
 intro d
 induction d with
 | zero =>
  intro i hi
  refine Ev.one (fun k => by rw [laws_FnFactorizations.l0]) ?_
  refine Ev.neg (by omega) ?_
  by_cases c0 : n < 0
  ·exact Ev.pos c0 (Ev.now _)
  by_cases c1 : n > 100
  ·exact Ev.neg c0 (Ev.pos c1 (Ev.now _))
  refine Ev.neg c0 (Ev.neg c1 ?_)
  obtain ⟨c, d1, d2, _⟩ := sg_both g (by omega)
  obtain rfl := bool_same b1 d1
  refine Ev.bnd d2 ?_
  cases b with
  | false => exact Ev.neg (by decide) (Ev.now _)
  | true =>
   refine Ev.pos rfl ?_
   have hS := b1.1 rfl
   obtain ⟨m, rfl⟩ : ∃ m : Nat, n = (m : Int) := ⟨n.toNat, by omega⟩
   have e : facS true g (m : Int) = facL g (m : Int) := by unfold facS; rw [if_pos ⟨rfl, by omega, by omega⟩]
   rw [e]
   refine Ev.bnd (cnt_val g hS m (by omega)) (Ev.pos rfl ?_)
   have hsome := facL_some g (fun x hx => (hS.rng x hx).1) m
   by_cases h0 : (m : Int) = 0
   ·refine Ev.pos h0 ?_
    have hp := hsome.2 (by rw [h0]; exact Sums.zero g)
    rw [decide_eq_true (show ((facL g (m : Int)).length : Int) > 0 by omega)]
    exact Ev.now _
   ·refine Ev.neg h0 ?_
    obtain ⟨q, q1, q2⟩ := spec_Contains_ev g (by omega) (m : Int)
    refine Ev.bnd q2 ?_
    cases q with
    | true =>
     have hp := hsome.2 (q1.1 rfl).2
     rw [decide_eq_true (show ((facL g (m : Int)).length : Int) > 0 by omega)]
     exact Ev.now _
    | false =>
     have hp : ¬ 0 < (facL g (m : Int)).length := fun h => by have := q1.2 ⟨hS, hsome.1 h⟩; cases this
     rw [decide_eq_false (show ¬ ((facL g (m : Int)).length : Int) > 0 by omega)]
     exact Ev.now _
 | succ d ih =>
  intro i hi
  have hil : i < (facS b g n).length := by omega
  obtain ⟨hS, hb, hn, r1, r2, r3⟩ := fac_row b g b1 n _ (List.getElem_mem hil)
  have h12 := hS.len2
  obtain ⟨c, d1, _, d2⟩ := isfac_both g n (facS b g n)[i] (by omega) (by omega)
  obtain rfl := bool_same b1 d1
  have ev : (decide (0 ≤ n) && (valS b g (facS b g n)[i] == n)) = true := by
   unfold valS
   rw [if_pos ⟨hb, r1, (allIn_iff _ _ _).2 (fun x hx => by have := r2 x hx; omega)⟩, r3, decide_eq_true hn.1]
   simp
  rw [ev] at d2
  have w := worth_ev (facS b g n)[i] g r1 h12 hS.rng (fun x hx => by have := r2 x hx; omega)
  rw [r3] at w
  have nxt := ih (i + 1) (by omega)
  refine Ev.one (fun k => by rw [laws_FnFactorizations.l0]) ?_
  rw [rd_L2_at _ i hil, w64_succ i (by omega)]
  refine Ev.pos (by omega) (Ev.pos (by omega) (Ev.bnd d2 (Ev.pos rfl (Ev.bnd w (Ev.pos rfl ?_)))))
  by_cases h0 : i = 0
  ·exact Ev.neg (by omega) nxt
  ·obtain ⟨j, rfl⟩ : ∃ j, i = j + 1 := ⟨i - 1, by omega⟩
   have e1 : wrap64 (((j + 1 : Nat) : Int) - 1) = (j : Int) := by rw [w64_of (by omega) (by omega)]; omega
   obtain ⟨_, _, _, p1, _, _⟩ := fac_row b g b1 n _ (List.getElem_mem (show j < (facS b g n).length by omega))
   have hd := List.pairwise_iff_getElem.1 hne j (j + 1) (by omega) hil (by omega)
   rw [e1, rd_L2_at _ j (by omega)]
   exact Ev.pos (by omega) (Ev.pos (by omega) (Ev.pos (by omega) (Ev.bnd (sameInts_ne _ _ (by omega) (by omega) hd) (Ev.neg (by decide) nxt))))
theorem FnFactorizations (b : List Int) (hm_b : b.length ≤ maxLen) (hw_b : ∀ x ∈ b, (Lit.int .u8 x).wf = true) : ∃ k, laws_FnFactorizations.f k b = some true := by
 apply Ev.rounds
 unfold laws_FnFactorizations.f
 by_cases hb : b.length ≤ 1048576
 rotate_left
 ·exact Ev.bnd (big_yes b hb) (Ev.pos rfl (Ev.now _))
 obtain ⟨g, n, hg, e1⟩ := l11Case_ok b hb
 obtain ⟨a, m, ha, e2⟩ := drawCount_ok b hb
 obtain ⟨c, u, z, hc, hz, e3⟩ := l11List_ok b hb
 have f1 : Ev (fun k => spec_DrawFactorizations.f k b) (g, n) := by unfold spec_DrawFactorizations.f; exact Ev.bnd e1 (Ev.now _)
 have f3 : Ev (fun k => spec_DrawIsFactorization.f k b) (c, u, z) := by unfold spec_DrawIsFactorization.f; exact Ev.bnd e3 (Ev.now _)
 have f4 : Ev (fun k => spec_DrawValueOf.f k b) (c, z) := by unfold spec_DrawValueOf.f; exact Ev.bnd e3 (Ev.now _)
 obtain ⟨w, w1, w2, w3⟩ := fac_both g (by omega) n
 obtain ⟨s1, s2⟩ := facS_small w g w1.1 n
 obtain ⟨r, r1, r2⟩ := count_f a m (by omega)
 obtain ⟨v, _, v1, v2⟩ := isfac_both c u z (by omega) (by omega)
 obtain ⟨v', _, v3, v4⟩ := value_both c z (by omega) (by omega)
 obtain ⟨t, t1, t2⟩ := ftext_both c z (by omega) (by omega)
 have hbb : ∀ q : Bool, (q != q) = false := fun q => by cases q <;> rfl
 have hl : (t.toList != t.toList) = false := by simp
 refine Ev.bnd (big_no b hb) (Ev.neg (by decide) (Ev.bnd f1 (Ev.bnd w3 (Ev.bnd e2 (Ev.bnd f3 (Ev.bnd f4 (Ev.bnd w2 (Ev.bnd (sameLists_ev _ s1 s2) (Ev.pos rfl (Ev.bnd r2 (Ev.bnd r1 (Ev.pos rfl (Ev.bnd v2 (Ev.bnd v1 (Ev.neg (by rw [hbb]; decide) (Ev.bnd v4 (Ev.bnd v3 (Ev.pos rfl (Ev.bnd t2 (Ev.bnd t1 ?_))))))))))))))))))))
 rw [hl]
 refine Ev.one (fun k => by rw [laws_FnFactorizations.j0]) ?_
 exact Ev.neg (by decide) (fnfac_l0 w g hg w1 n (facS w g n).length 0 (by omega))
end Go.Proofs.YtbbehmbpoilffaaDoor.Pure
