/- Plain lemmas (fromgens): no program, no memory. -/
import Derived.Test.YtlfdipnhlmjiaaaC0
import Derived.Test.YtlfdipnhlmjiaaaC5
import Derived.Test.YtlfdipnhlmjiaaaC6
import Derived.Test.YtlfdipnhlmjiaaaC8
import Derived.Test.YtlfdipnhlmjiaaaBallwithin
import Derived.Test.YtlfdipnhlmjiaaaBsums
import Derived.Test.YtlfdipnhlmjiaaaBsortspec
import Derived.Test.YtlfdipnhlmjiaaaBisort
import Derived.Test.YtlfdipnhlmjiaaaBminimal
import Derived.Test.YtlfdipnhlmjiaaaBissg
import Derived.Test.YtlfdipnhlmjiaaaBshell
import Derived.Test.YtlfdipnhlmjiaaaBelems
import Derived.Test.YtlfdipnhlmjiaaaBbase
namespace Go.Proofs.Ytlfdipnhlmjiaaa.Pure
open Go.RowKit Go.Proofs.Ytlfdipnhlmjiaaa.C Go.Proofs.YtlfdipnhlmjiaaaW.PrintWords Go.Proofs.YtlfdipnhlmjiaaaW.PrintLast Go.Proofs.YtlfdipnhlmjiaaaW.PrintMore
set_option linter.unusedVariables false
set_option linter.unusedSimpArgs false
/-! fromgens: FromGens of both sides -/
theorem Sums.trans {g g' : List Int} {n : Int} (h : ∀ x ∈ g, Sums g' x) (hs : Sums g n) : Sums g' n :=
  Sums.ind (P := fun n => Sums g' n) (Sums.zero _) (fun x n hx _ hn => Sums.both hn (h x hx)) hs
noncomputable def minP (s : List Int) (i : Nat) : List Int := pick (keptB s) (fun k => s.getD k 0) i
theorem minP_all (s : List Int) : minP s s.length = minL s := rfl
theorem minP_mem (s : List Int) (i : Nat) (hi : i ≤ s.length) (x : Int) (h : x ∈ minP s i) : x ∈ s := by
  unfold minP pick at h
  rw [List.mem_map] at h
  obtain ⟨k, hk, rfl⟩ := h
  rw [List.mem_filter, List.mem_range] at hk
  rw [getD_at s k (by omega)]
  exact List.getElem_mem _
theorem minP_sums (s : List Int) : ∀ i, i ≤ s.length → ∀ x ∈ s.take i, Sums (minP s i) x := by
  intro i
  induction i with
  | zero => intro _ x hx; simp at hx
  | succ i ih =>
    intro hi x hx
    have ih := ih (by omega)
    rw [List.take_succ_eq_append_getElem (by omega), List.mem_append, List.mem_singleton] at hx
    cases hb : keptB s i with
    | true =>
      unfold minP at ih ⊢
      rw [pick_pos _ _ i hb]
      rcases hx with hx | hx
      · exact Sums.mono (fun y hy => List.mem_append_left _ hy) (ih x hx)
      · subst hx
        rw [getD_at s i (by omega)]
        exact Sums.one (by simp)
    | false =>
      unfold minP at ih ⊢
      rw [pick_neg _ _ i hb]
      rcases hx with hx | hx
      · exact ih x hx
      · subst hx
        have hn : ¬ kept s i := fun h => by rw [(keptB_iff s i).2 h] at hb; cases hb
        unfold kept at hn
        rw [getD_at s i (by omega)] at hn
        exact Sums.trans ih (Classical.byContradiction fun h => hn (.inr h))
theorem impl_FromGens_l0 (s : List Int) (hr : ∀ x ∈ s, 1 ≤ x ∧ x ≤ 60) (hl : s.length ≤ 20) {r : List Int × Bool}
    (hn : Ev (fun k => (impl_IsSemigroup.f k (minL s)).bind fun t => if t = true then some (minL s, true) else some (([] : List Int), false)) r) :
    ∀ d i, i + d = s.length → Ev (fun k => impl_FromGens.l0 k s (s.length : Int) (i : Int) (minP s i)) r := by
  intro d
  induction d with
  | zero =>
    intro i hi
    obtain rfl : i = s.length := by omega
    refine Ev.one (fun k => by rw [impl_FromGens.l0]) ?_
    rw [minP_all]
    exact Ev.neg (by omega) hn
  | succ d ih =>
    intro i hi
    have hil : i < s.length := by omega
    have ih := ih (i + 1) (by omega)
    have hpl : (minP s i).length ≤ i := pick_len _ _ _
    have hsi := hr s[i] (List.getElem_mem hil)
    have hps : ∀ n, Sums (minP s i) n ↔ Sums (s.take i) n := fun n => ⟨fun h => Sums.trans (fun x hx => by
      unfold minP pick at hx
      rw [List.mem_map] at hx
      obtain ⟨k, hk, rfl⟩ := hx
      rw [List.mem_filter, List.mem_range] at hk
      refine Sums.one ?_
      rw [getD_at s k (by omega)]
      exact List.mem_take_iff_getElem.2 ⟨k, by omega, rfl⟩) h, Sums.trans (minP_sums s i (by omega))⟩
    refine Ev.one (fun k => by rw [impl_FromGens.l0]) ?_
    rw [rd_at s i hil, w64_succ i (by omega)]
    refine Ev.pos (by omega) (Ev.pos (by omega) (Ev.pos (by omega) ?_))
    by_cases h0 : (minP s i).length = 0
    · have hi0 : i = 0 := by
        refine Classical.byContradiction fun hne => ?_
        have h1 := minP_sums s i (by omega) (s[0]'(by omega)) (List.mem_take_iff_getElem.2 ⟨0, by omega, rfl⟩)
        rw [List.eq_nil_of_length_eq_zero h0] at h1
        obtain ⟨l, hl, e⟩ := h1
        cases l with
        | nil => have := hr (s[0]'(by omega)) (List.getElem_mem _); simp at e; omega
        | cons y l => exact absurd (hl y (List.mem_cons_self ..)) (by simp)
      have hk : keptB s i = true := (keptB_iff s i).2 (.inl hi0)
      unfold minP at ih ⊢
      rw [pick_pos _ _ i hk, getD_at s i hil] at ih
      exact Ev.pos (by unfold minP at h0; omega) (Ev.pos (by unfold minP at hpl; omega) ih)
    · obtain ⟨b, b1, b2⟩ := impl_Generates_ev (minP s i) s[i] (by omega) (by omega) (fun x hx => hr x (minP_mem s i (by omega) x hx)) (by omega) (by omega)
      refine Ev.neg (by omega) (Ev.bnd b2 ?_)
      have hi0 : i ≠ 0 := fun e => h0 (by subst e; omega)
      cases b with
      | true =>
        have hk : keptB s i = false := by
          cases hb : keptB s i with
          | false => rfl
          | true =>
            rcases (keptB_iff s i).1 hb with h | h
            · exact absurd h hi0
            · rw [getD_at s i hil] at h
              exact absurd ((hps _).1 (b1.1 rfl)) h
        unfold minP at ih ⊢
        rw [pick_neg _ _ i hk] at ih
        exact Ev.pos rfl ih
      | false =>
        have hk : keptB s i = true := (keptB_iff s i).2 (.inr (by
          rw [getD_at s i hil]
          exact fun h => by have := b1.2 ((hps _).2 h); cases this))
        unfold minP at ih hpl ⊢
        rw [pick_pos _ _ i hk, getD_at s i hil] at ih
        exact Ev.neg (by decide) (Ev.pos (by omega) ih)
theorem fromgens_both (l : List Int) (hl : l.length ≤ 1048576) : ∃ r : List Int × Bool, r.1.length ≤ 1048576 ∧ Ev (fun k => spec_FromGens.f k l) r ∧ Ev (fun k => impl_FromGens.f k l) r := by
  have u1 := spec_l3Gens_ev l hl
  have u2 := impl_usable_ev l hl
  unfold spec_FromGens.f impl_FromGens.f
  cases hb : (allIn l 1 60 && decide ((1 : Int) ≤ (l.length : Int) ∧ (l.length : Int) ≤ 20)) with
  | false =>
    rw [hb] at u1 u2
    exact ⟨([], false), by simp, Ev.bnd u1 (Ev.neg (by decide) (Ev.now _)), Ev.bnd u2 (Ev.neg (by decide) (Ev.now _))⟩
  | true =>
    rw [hb] at u1 u2
    rw [Bool.and_eq_true, decide_eq_true_eq] at hb
    have hr := (allIn_iff l 1 60).1 hb.1
    obtain ⟨s, s1, s2, s3⟩ := sort_both l hl
    obtain ⟨s', t1, t2⟩ := spec_l3Minimal_ev l hl (fun x hx => by have := hr x hx; omega)
    obtain rfl := asc_uniq s s' s1.1 t1.1 (fun x => (s1.2.1 x).trans (t1.2.1 x).symm)
    have hml := minL_len s
    obtain ⟨c, _, c2, c3⟩ := sg_both (minL s) (by omega)
    refine ⟨if c = true then (minL s, true) else ([], false), ?_, ?_, ?_⟩
    · split
      · exact Nat.le_trans hml (by omega)
      · simp
    · refine Ev.bnd u1 (Ev.pos rfl (Ev.bnd t2 (Ev.bnd c2 ?_)))
      cases c with
      | true => exact Ev.pos rfl (Ev.now _)
      | false => exact Ev.neg (by decide) (Ev.now _)
    · refine Ev.bnd u2 (Ev.pos rfl (Ev.bnd s3 ?_))
      refine impl_FromGens_l0 s (fun x hx => hr x ((s1.2.1 x).1 hx)) (by omega) ?_ s.length 0 (by omega)
      refine Ev.bnd c3 ?_
      cases c with
      | true => exact Ev.pos rfl (Ev.now _)
      | false => exact Ev.neg (by decide) (Ev.now _)
end Go.Proofs.Ytlfdipnhlmjiaaa.Pure
