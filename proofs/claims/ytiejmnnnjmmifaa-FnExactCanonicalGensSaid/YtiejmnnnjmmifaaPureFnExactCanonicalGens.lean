/- For every semigroup value the program's CanonicalGens returns what the reference's returns; no condition besides the row's own. -/
import Derived.Test.YtiejmnnnjmmifaaC0
import Derived.Test.YtiejmnnnjmmifaaC2
import Derived.Test.YtiejmnnnjmmifaaC5
import Derived.Test.YtiejmnnnjmmifaaC7
import Derived.Test.YtiejmnnnjmmifaaC8
import Derived.Test.YtiejmnnnjmmifaaBbase
import Derived.Test.YtiejmnnnjmmifaaBlaws0
import Derived.Test.YtiejmnnnjmmifaaBlaws1
import Derived.Test.YtiejmnnnjmmifaaBsz
import Derived.Test.YtiejmnnnjmmifaaBwithin
import Derived.Test.YtiejmnnnjmmifaaBallwithin
import Derived.Test.YtiejmnnnjmmifaaBsums
import Derived.Test.YtiejmnnnjmmifaaBtable
import Derived.Test.YtiejmnnnjmmifaaBgcd
import Derived.Test.YtiejmnnnjmmifaaBasc
import Derived.Test.YtiejmnnnjmmifaaBleasts
import Derived.Test.YtiejmnnnjmmifaaBsortspec
import Derived.Test.YtiejmnnnjmmifaaBisort
import Derived.Test.YtiejmnnnjmmifaaBminimal
import Derived.Test.YtiejmnnnjmmifaaBissg
import Derived.Test.YtiejmnnnjmmifaaBshell
import Derived.Test.YtiejmnnnjmmifaaBleastle
import Derived.Test.YtiejmnnnjmmifaaBsemig
import Derived.Test.YtiejmnnnjmmifaaBmarksg
import Derived.Test.YtiejmnnnjmmifaaBelems
import Derived.Test.YtiejmnnnjmmifaaBgaps
import Derived.Test.YtiejmnnnjmmifaaBspecgaps
import Derived.Test.YtiejmnnnjmmifaaBgapsboth
import Derived.Test.YtiejmnnnjmmifaaBhasnum
import Derived.Test.YtiejmnnnjmmifaaBfrob
import Derived.Test.YtiejmnnnjmmifaaBpfro0
import Derived.Test.YtiejmnnnjmmifaaBreach0
import Derived.Test.YtiejmnnnjmmifaaBexi
import Derived.Test.YtiejmnnnjmmifaaBmini
import Derived.Test.YtiejmnnnjmmifaaBsifted
import Derived.Test.YtiejmnnnjmmifaaBascpick
namespace Go.Proofs.Ytiejmnnnjmmifaa.Pure
open Go.RowKit Go.Proofs.Ytiejmnnnjmmifaa.C Go.Proofs.YtiejmnnnjmmifaaW.PrintWords Go.Proofs.YtiejmnnnjmmifaaW.PrintLast Go.Proofs.YtiejmnnnjmmifaaW.PrintMore
set_option linter.unusedVariables false
set_option linter.unusedSimpArgs false
theorem frob_last (g : List Int) (hS : SG g) : (gapL g = [] ∧ lastS (gapL g) = -1) ∨ (1 ≤ lastS (gapL g) ∧ lastS (gapL g) ≤ 199 ∧ ¬ Sums g (lastS (gapL g)) ∧ ∀ x, lastS (gapL g) < x → Sums g x) := by
  have hp : ∀ x ∈ g, 1 ≤ x := fun x hx => (hS.rng x hx).1
  unfold lastS
  by_cases h : (gapL g).length = 0
  · exact .inl ⟨List.eq_nil_of_length_eq_zero h, by rw [if_pos h]⟩
  · refine .inr ?_
    rw [if_neg h, rd_at _ _ (by omega)]
    have h1 := (gapL_mem g _).1 (List.getElem_mem (show (gapL g).length - 1 < (gapL g).length by omega))
    refine ⟨?_, by omega, h1.2.2, fun x hx => ?_⟩
    · refine Classical.byContradiction fun hn => h1.2.2 ?_
      rw [show (gapL g)[(gapL g).length - 1] = 0 from by omega]
      exact Sums.zero g
    · refine Classical.byContradiction fun hn => ?_
      have h2 : x < 200 := Classical.byContradiction fun h3 => hn (hS.ends x (by omega))
      have h3 := (gapL_mem g x).2 ⟨by omega, h2, hn⟩
      obtain ⟨j, hj, ej⟩ := List.getElem_of_mem h3
      have ha : asc (gapL g) := asc_pick _ _
      by_cases e : j = (gapL g).length - 1
      · subst e; omega
      · have := List.pairwise_iff_getElem.1 ha j ((gapL g).length - 1) hj (by omega) (by omega)
        omega
theorem spec_can_l0 (f : Int) (l : List Int) (hl : l.length ≤ 1000) (hf : -1000 ≤ f ∧ f ≤ 1000) (hv : ∀ x ∈ l, -1000 ≤ x ∧ x ≤ 1000) {r : List Int} (hr : Ev (fun k => spec_SortList.f k (l.map fun x => f - x)) r) : ∀ d i, i + d = l.length → Ev (fun k => spec_CanonicalGens.l0 k f l ((l.take i).map fun x => f - x) (i : Int)) r := by
  intro d
  induction d with
  | zero =>
    intro i hi
    rw [List.take_of_length_le (by omega)]
    refine Ev.one (fun k => by rw [spec_CanonicalGens.l0]) ?_
    exact Ev.neg (by omega) (Ev.bnd hr (Ev.now _))
  | succ d ih =>
    intro i hi
    have hil : i < l.length := by omega
    have hx := hv _ (List.getElem_mem hil)
    have ih := ih (i + 1) (by omega)
    rw [List.take_succ_eq_append_getElem hil, List.map_append, List.map_cons, List.map_nil] at ih
    refine Ev.one (fun k => by rw [spec_CanonicalGens.l0]) ?_
    rw [rd_at l i hil, w64_succ i (by omega), w64_of (x := f - l[i]) (by omega) (by omega)]
    exact Ev.pos (by omega) (Ev.pos (by omega) (Ev.pos (by rw [List.length_map, List.length_take]; omega) ih))
theorem pf_iff (g : List Int) (hS : SG g) (x : Int) : x ∈ pfL g ↔ (0 ≤ x ∧ x < 200 ∧ ¬ Sums g x) ∧ ∀ y ∈ g, Sums g (x + y) := by
  unfold pfL pfB
  rw [List.mem_filter, gapL_mem, List.all_eq_true]
  exact ⟨fun h => ⟨h.1, fun y hy => (elB_iff g _).1 (h.2 y hy)⟩, fun h => ⟨h.1, fun y hy => (elB_iff g _).2 (h.2 y hy)⟩⟩
theorem pf_sums (g : List Int) (x : Int) (h : ∀ y ∈ g, Sums g (x + y)) (hp : ∀ y ∈ g, 1 ≤ y) (s : Int) (hs : Sums g s) (h0 : s ≠ 0) : Sums g (x + s) := by
  obtain ⟨y, hy, _, hc⟩ := hs.cut hp h0
  have := Sums.both (h y hy) hc
  rwa [show x + y + (s - y) = x + s from by omega] at this
theorem canonical_both (g : List Int) (hlen : g.length ≤ 1048576) : ∃ r, r.length ≤ 1048576 ∧ Ev (fun k => spec_CanonicalGens.f k g) r ∧ Ev (fun k => impl_CanonicalGens.f k g) r := by
  obtain ⟨b, b1, b2, b3⟩ := sg_both g hlen
  unfold spec_CanonicalGens.f impl_CanonicalGens.f
  cases b with
  | false => exact ⟨[], by simp, Ev.bnd b2 (Ev.neg (by decide) (Ev.now _)), Ev.bnd b3 (Ev.neg (by decide) (Ev.now _))⟩
  | true =>
    have hS := b1.1 rfl
    have hp : ∀ x ∈ g, 1 ≤ x := fun x hx => (hS.rng x hx).1
    obtain ⟨c, c1, c2, c3⟩ := frob_both g hlen
    obtain rfl := bool_same b1 c1
    rw [show gapsS true g = gapL g from if_pos rfl] at c2 c3
    have hfl := frob_last g hS
    have hfb : -1 ≤ lastS (gapL g) ∧ lastS (gapL g) ≤ 199 := by rcases hfl with h | h <;> omega
    generalize hf : lastS (gapL g) = f at c2 c3 hfl hfb
    obtain ⟨d, d1, d0, _⟩ := gaps_both g hlen
    obtain rfl := bool_same b1 d1
    have d2 := spec_pf_ev g true d1 d0
    rw [show pfS true g = pfL g from if_pos rfl] at d2
    obtain ⟨p, p1, p2⟩ := reach_any g hlen
    have hP : ∀ x, impl_CanonicalGens.p p f x = some (!elB g (wrap64 (f - x))) := fun x => by
      unfold impl_CanonicalGens.p
      rw [p1 hS]
      rfl
    obtain ⟨r, r1, r2, r3⟩ := sifted_ev g hlen hS (impl_CanonicalGens.p p f) (fun x => !elB g (wrap64 (f - x))) hP (f - 200) (f + 200) (by omega) (by omega)
    have hq : ∀ x, f - 200 ≤ x → x ≤ f + 200 → ((fun x => !elB g (wrap64 (f - x))) x = true ↔ ¬ Sums g (f - x)) := fun x h0 h1 => by
      show (!elB g (wrap64 (f - x))) = true ↔ _
      rw [w64_of (by omega) (by omega), Bool.not_eq_true', ← Bool.not_eq_true, elB_iff]
    have e2 : Ev (fun k => impl_sifted.f k g (wrap64 (f - 200)) (wrap64 (f + 200)) (impl_CanonicalGens.p p f)) r := by
      rw [w64_of (x := f - 200) (by omega) (by omega), w64_of (x := f + 200) (by omega) (by omega)]
      exact r3
    refine ⟨r, r2, Ev.bnd b2 (Ev.pos rfl (Ev.bnd c2 (Ev.bnd d2 ?_))), Ev.bnd b3 (Ev.pos rfl (Ev.bnd p2 (Ev.bnd c3 e2)))⟩
    rcases hfl with ⟨h0, h1⟩ | ⟨h1, h2, h3, h4⟩
    · have hpf : pfL g = [] := by unfold pfL; rw [h0]; rfl
      have hall : ∀ x, 0 ≤ x → Sums g x := fun x hx => Classical.byContradiction fun hn => by
        have h5 : x < 200 := Classical.byContradiction fun h6 => hn (hS.ends x (by omega))
        have := (gapL_mem g x).2 ⟨hx, h5, hn⟩
        rw [h0] at this
        cases this
      have e : r = [0] := asc_uniq r [0] r1.1 (List.pairwise_singleton ..) (fun y => by
        rw [r1.2 y, List.mem_singleton]
        constructor
        · rintro ⟨⟨a1, a2, a3⟩, a4⟩
          have a3 := (hq y a1 a2).1 a3
          have hy0 : 0 ≤ y := Classical.byContradiction fun hn => a3 (hall _ (by omega))
          have := a4 0 ⟨by omega, by omega, (hq 0 (by omega) (by omega)).2 (fun hs => by have := hs.nonneg hp; omega)⟩
          rcases this with h | h
          · exact h
          · exact absurd (hall _ (by omega)) h
        · rintro rfl
          refine ⟨⟨by omega, by omega, (hq 0 (by omega) (by omega)).2 (fun hs => by have := hs.nonneg hp; omega)⟩, fun z hz => ?_⟩
          by_cases hz0 : 0 = z
          · exact .inl hz0
          · refine .inr (fun hs => ?_)
            have a1 := hs.nonneg hp
            have := (hq z hz.1 hz.2.1).1 hz.2.2
            exact this (hall _ (by omega)))
      rw [e, hpf]
      exact Ev.pos (by simp) (Ev.now _)
    · have hfpf : f ∈ pfL g := (pf_iff g hS f).2 ⟨⟨by omega, by omega, h3⟩, fun y hy => h4 _ (by have := hp y hy; omega)⟩
      have hne : ¬ ((pfL g).length : Int) = 0 := fun h => by
        rw [List.eq_nil_of_length_eq_zero (show (pfL g).length = 0 by omega)] at hfpf
        cases hfpf
      have hpl : (pfL g).length ≤ 200 := Nat.le_trans (List.length_filter_le ..) (gapL_len g)
      obtain ⟨s, s1, s2⟩ := spec_SortList_ev ((pfL g).map fun x => f - x) (by rw [List.length_map]; omega)
      have e : s = r := asc_uniq s r s1.1 r1.1 (fun y => by
        rw [s1.2.1, r1.2, List.mem_map]
        constructor
        · rintro ⟨x, hx, rfl⟩
          have hx := (pf_iff g hS x).1 hx
          have hxf : x ≤ f := Classical.byContradiction fun hn => hx.1.2.2 (h4 x (by omega))
          refine ⟨⟨by omega, by omega, (hq _ (by omega) (by omega)).2 (by rw [show f - (f - x) = x from by omega]; exact hx.1.2.2)⟩, fun z hz => ?_⟩
          by_cases hz0 : f - x = z
          · exact .inl hz0
          · refine .inr (fun hs => (hq z hz.1 hz.2.1).1 hz.2.2 ?_)
            have := pf_sums g x hx.2 hp _ hs (by omega)
            rwa [show x + (f - x - z) = f - z from by omega] at this
        · rintro ⟨⟨a1, a2, a3⟩, a4⟩
          have a3 := (hq y a1 a2).1 a3
          refine ⟨f - y, (pf_iff g hS _).2 ⟨⟨?_, ?_, a3⟩, fun t ht => ?_⟩, by omega⟩
          · refine Classical.byContradiction fun hn => ?_
            rcases a4 0 ⟨by omega, by omega, (hq 0 (by omega) (by omega)).2 (by rw [Int.sub_zero]; exact h3)⟩ with h | h
            · omega
            · exact h (h4 _ (by omega))
          · refine Classical.byContradiction fun hn => a3 (h4 _ (by omega))
          · refine Classical.byContradiction fun hn => ?_
            have ht1 := hp t ht
            have hle : f - y + t ≤ f := Classical.byContradiction fun h => hn (h4 _ (by omega))
            rcases a4 (y - t) ⟨by omega, by omega, (hq _ (by omega) (by omega)).2 (by rw [show f - (y - t) = f - y + t from by omega]; exact hn)⟩ with h | h
            · omega
            · exact h (by rw [show y - (y - t) = t from by omega]; exact Sums.one ht))
      rw [e] at s2
      refine Ev.neg hne ?_
      exact spec_can_l0 f (pfL g) (by omega) (by omega) (fun x hx => by have := (pf_iff g hS x).1 hx; omega) s2 (pfL g).length 0 (by omega)
theorem FnExactCanonicalGens (g : List Int) (hm_g : g.length ≤ maxLen) (hw_g : ∀ x ∈ g, (Lit.int .i64 x).wf = true) : ∃ k, laws_FnExactCanonicalGens.f k g = some true := by
  apply Ev.rounds
  unfold laws_FnExactCanonicalGens.f
  by_cases hl_g : (g.length : Int) ≤ 1048576
  rotate_left
  · exact Ev.bnd (szSemigroup_out g hm_g hl_g) (Ev.pos (by omega) (Ev.now _))
  refine Ev.bnd (szSemigroup_in g hm_g hl_g) (Ev.neg (by omega) ?_)
  have ht_g := toSemigroup_ev g (by omega)
  have he_g := eqSemigroup_ev g (by omega)
  obtain ⟨r, hr, h1, h2⟩ := canonical_both g (by omega)
  have hr : r.length ≤ 1048576 := Nat.le_trans hr (by decide)
  have her := eqIntS_ev r (by omega)
  have hmr := markIntS_ev r 1 (by omega) (by omega) (by omega)
  have hhr := heldIntS_ev r 1 (by omega) (by omega) (by omega)
  have hmk_g := markSemigroup_ev g (1) (by omega) (by omega) (by omega)
  repeat (first | exact Ev.now _ | (refine Ev.bnd (by assumption) ?_; try dsimp only) | refine Ev.pos (by first | with_reducible rfl | omega) ?_ | refine Ev.neg (by first | omega | decide | (simp; done)) ?_ | (refine Ev.one (fun k => by rw [laws_FnExactCanonicalGens.j0]) ?_) | (refine Ev.one (fun k => by rw [laws_FnExactCanonicalGens.j1]) ?_) | (refine Ev.one (fun k => by rw [laws_FnExactCanonicalGens.j2]) ?_))
end Go.Proofs.Ytiejmnnnjmmifaa.Pure
