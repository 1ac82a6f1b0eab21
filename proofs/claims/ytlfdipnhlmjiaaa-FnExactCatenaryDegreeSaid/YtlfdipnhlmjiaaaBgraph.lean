/- Plain lemmas (graph): no program, no memory. -/
import Derived.Test.YtlfdipnhlmjiaaaC0
import Derived.Test.YtlfdipnhlmjiaaaC11
import Derived.Test.YtlfdipnhlmjiaaaC12
import Derived.Test.YtlfdipnhlmjiaaaBtable
import Derived.Test.YtlfdipnhlmjiaaaBleasts
import Derived.Test.YtlfdipnhlmjiaaaBbase
namespace Go.Proofs.Ytlfdipnhlmjiaaa.Pure
open Go.RowKit Go.Proofs.Ytlfdipnhlmjiaaa.C Go.Proofs.YtlfdipnhlmjiaaaW.PrintWords Go.Proofs.YtlfdipnhlmjiaaaW.PrintLast Go.Proofs.YtlfdipnhlmjiaaaW.PrintMore
set_option linter.unusedVariables false
set_option linter.unusedSimpArgs false
/-! graph: which places are connected by steps of at most a distance; the least distance by which all are -/
/-- Place k belongs to every set that has s and with a place all that are at most d apart from it. -/
def Conn (D : Nat → Nat → Int) (N : Nat) (d : Int) (s k : Nat) : Prop := ∀ P : Nat → Prop, P s → (∀ i j, i < N → j < N → P i → D i j ≤ d → P j) → P k
theorem Conn.refl (D : Nat → Nat → Int) (N : Nat) (d : Int) (s : Nat) : Conn D N d s s := fun _ h _ => h
theorem Conn.step {D : Nat → Nat → Int} {N : Nat} {d : Int} {s i j : Nat} (h : Conn D N d s i) (hi : i < N) (hj : j < N) (hd : D i j ≤ d) : Conn D N d s j := fun P h0 hP => hP i j hi hj (h P h0 hP) hd
theorem Conn.mono {D : Nat → Nat → Int} {N : Nat} {d e : Int} {s k : Nat} (hde : d ≤ e) (h : Conn D N d s k) : Conn D N e s k := fun P h0 hP => h P h0 (fun i j hi hj hp hd => hP i j hi hj hp (Int.le_trans hd hde))
/-- The least distance by which all places are connected with the first one. -/
def LeastD (D : Nat → Nat → Int) (N : Nat) (m : Int) : Prop := (∀ k, k < N → Conn D N m 0 k) ∧ ∀ d, 0 ≤ d → (∀ k, k < N → Conn D N d 0 k) → m ≤ d
theorem LeastD.uniq {D : Nat → Nat → Int} {N : Nat} {m e : Int} (h : LeastD D N m) (k : LeastD D N e) (hm : 0 ≤ m) (he : 0 ≤ e) : m = e := by
  have h1 := h.2 e he k.1
  have h2 := k.2 m hm h.1
  omega
def totB (f : Bool → Nat) (xs : List Bool) : Nat := (xs.map f).sum
theorem totB_set (f : Bool → Nat) (v : Bool) : ∀ (xs : List Bool) (i : Nat), i < xs.length → totB f (xs.set i v) + f (xs.getD i false) = totB f xs + f v
  | [], _, h => by simp at h
  | x :: xs, 0, _ => by
    show totB f (v :: xs) + f x = totB f (x :: xs) + f v
    unfold totB
    rw [List.map_cons, List.map_cons, List.sum_cons, List.sum_cons]
    omega
  | x :: xs, i + 1, h => by
    have ih := totB_set f v xs i (by simpa using h)
    show totB f (x :: xs.set i v) + f (xs.getD i false) = totB f (x :: xs) + f v
    unfold totB at ih ⊢
    rw [List.map_cons, List.map_cons, List.sum_cons, List.sum_cons]
    omega
def out1 (b : Bool) : Nat := if b = true then 0 else 1
theorem totB_zero : ∀ (xs : List Bool), totB out1 xs = 0 → ∀ i, i < xs.length → xs.getD i false = true
  | [], _, _, h => by simp at h
  | x :: xs, h, i, hi => by
    unfold totB at h
    rw [List.map_cons, List.sum_cons] at h
    cases i with
    | zero =>
      cases x with
      | true => rfl
      | false => simp [out1] at h
    | succ i => exact totB_zero xs (by unfold totB; omega) i (by simpa using hi)
theorem totB_pos : ∀ (xs : List Bool), 0 < totB out1 xs → ∃ i, i < xs.length ∧ xs.getD i false = false
  | [], h => by simp [totB] at h
  | x :: xs, h => by
    cases x with
    | false => exact ⟨0, by simp, rfl⟩
    | true =>
      have h2 : 0 < totB out1 xs := by
        unfold totB at h ⊢
        rw [List.map_cons, List.sum_cons] at h
        simpa [out1] using h
      obtain ⟨i, h3, h4⟩ := totB_pos xs h2
      exact ⟨i + 1, by simpa using h3, h4⟩
section
variable (D : Nat → Nat → Int) (N : Nat) (all : List (List Int)) (hN : all.length = N) (hNb : N ≤ 100000000000) (hD0 : ∀ i j, i < N → j < N → 0 ≤ D i j) (hD1 : ∀ i j, i < N → j < N → D i j ≤ 1000000000000)
include hN hNb hD0 hD1
/-- What is known of the two tables between two rounds. -/
structure Prim (far : List Int) (vis : List Bool) (most : Int) : Prop where
  lf : far.length = N
  lv : vis.length = N
  first : vis.getD 0 false = true
  low : ∀ i, i < N → vis.getD i false = false → ∀ v, v < N → vis.getD v false = true → rd far (i : Int) ≤ D v i
  hit : ∀ i, i < N → vis.getD i false = false → ∃ v, v < N ∧ vis.getD v false = true ∧ rd far (i : Int) = D v i
  m0 : 0 ≤ most
  m1 : most ≤ 1000000000000
  conn : ∀ v, v < N → vis.getD v false = true → Conn D N most 0 v
  least : ∀ d, 0 ≤ d → (∀ k, k < N → Conn D N d 0 k) → most ≤ d
variable (hA : ∀ i j, i < N → j < N → Ev (fun k => impl_apart.f k (rd_L2 all (i : Int)) (rd_L2 all (j : Int))) (D i j))
include hA
omit hD0 hD1 in
theorem chained_l3 (vis : List Bool) (most : Int) (b : Nat) (hb : b < N) (x40 x41 : Int) (res : Int)
    (old : List Int) (hold : old.length = N)
    (next : ∀ far : List Int, far.length = N → (∀ i, i < N → rd far (i : Int) = min (rd old (i : Int)) (D b i)) → Ev (fun k => impl_chained.l1 k all far vis most x40 (wrap64 (x41 + 1))) res) :
    ∀ (d j : Nat) (far : List Int), j + d = N → far.length = N → (∀ i, i < N → rd far (i : Int) = if i < j then min (rd old (i : Int)) (D b i) else rd old (i : Int)) →
      Ev (fun k => impl_chained.l3 k all far vis most (b : Int) x40 x41 (N : Int) (j : Int)) res := by
  intro d
  induction d with
  | zero =>
    intro j far hj hf hr
    refine Ev.one (fun k => by rw [impl_chained.l3]) ?_
    exact Ev.neg (by omega) (next far hf (fun i hi => by rw [hr i hi, if_pos (by omega)]))
  | succ d ih =>
    intro j far hj hf hr
    have hjr := hr j (by omega)
    rw [if_neg (by omega)] at hjr
    refine Ev.one (fun k => by rw [impl_chained.l3]) ?_
    refine Ev.pos (by omega) (Ev.pos (by omega) (Ev.pos (by omega) (Ev.pos (by omega) (Ev.pos (by omega) (Ev.pos (by omega) (Ev.bnd (hA b j hb (by omega)) ?_))))))
    rw [w64_succ j (by omega), Int.toNat_natCast, hjr, show mn (rd old (j : Int)) (D b j) = min (rd old (j : Int)) (D b j) from by unfold mn; omega]
    refine ih (j + 1) _ (by omega) (by rw [List.length_set]; exact hf) (fun i hi => ?_)
    by_cases e : i = j
    · subst e
      rw [rd_set_eq _ _ _ (by omega), if_pos (by omega)]
    · rw [rd_set_ne _ _ _ _ (fun q => e q.symm), hr i hi]
      by_cases c : i < j
      · rw [if_pos c, if_pos (by omega)]
      · rw [if_neg c, if_neg (by omega)]
omit hA hD0 hD1 in
theorem chained_l2 (far : List Int) (vis : List Bool) (hf : far.length = N) (hv : vis.length = N) (most x40 x41 : Int) (res : Int)
    (some1 : ∃ i, i < N ∧ vis.getD i false = false)
    (next : ∀ b : Nat, b < N → vis.getD b false = false → (∀ i, i < N → vis.getD i false = false → rd far (b : Int) ≤ rd far (i : Int)) →
      Ev (fun k => impl_chained.l3 k all far (vis.set b true) (mx most (rd far (b : Int))) (b : Int) x40 x41 (N : Int) 0) res) :
    ∀ (d j : Nat) (best : Int), j + d = N → (best = -1 ∧ (∀ i, i < j → vis.getD i false = true) ∨ ∃ b : Nat, best = (b : Int) ∧ b < j ∧ vis.getD b false = false ∧ ∀ i, i < j → vis.getD i false = false → rd far (b : Int) ≤ rd far (i : Int)) →
      Ev (fun k => impl_chained.l2 k all far vis most best x40 x41 (N : Int) (j : Int)) res := by
  intro d
  induction d with
  | zero =>
    intro j best hj hb
    rcases hb with ⟨_, h⟩ | ⟨b, rfl, hbj, hbv, hmin⟩
    · obtain ⟨i, hi, hiv⟩ := some1
      have := h i (by omega)
      rw [hiv] at this
      cases this
    · refine Ev.one (fun k => by rw [impl_chained.l2]) ?_
      rw [hN, Int.toNat_natCast]
      exact Ev.neg (by omega) (Ev.pos (by omega) (Ev.pos (by omega) (Ev.pos (by omega) (next b (by omega) hbv (fun i hi => hmin i (by omega))))))
  | succ d ih =>
    intro j best hj hb
    refine Ev.one (fun k => by rw [impl_chained.l2]) ?_
    rw [rdOf_at, w64_succ j (by omega)]
    refine Ev.pos (by omega) (Ev.pos (by omega) (Ev.pos (by omega) ?_))
    cases hvj : vis.getD j false with
    | true =>
      refine Ev.pos rfl (ih (j + 1) best (by omega) ?_)
      rcases hb with ⟨h0, h⟩ | ⟨b, rfl, hbj, hbv, hmin⟩
      · refine .inl ⟨h0, fun i hi => ?_⟩
        by_cases e : i = j
        · subst e; exact hvj
        · exact h i (by omega)
      · refine .inr ⟨b, rfl, by omega, hbv, fun i hi hiv => ?_⟩
        by_cases e : i = j
        · subst e; rw [hvj] at hiv; cases hiv
        · exact hmin i (by omega) hiv
    | false =>
      refine Ev.neg (by decide) ?_
      rcases hb with ⟨h0, h⟩ | ⟨b, rfl, hbj, hbv, hmin⟩
      · refine Ev.pos (by omega) (ih (j + 1) (j : Int) (by omega) (.inr ⟨j, rfl, by omega, hvj, fun i hi hiv => ?_⟩))
        by_cases e : i = j
        · subst e; omega
        · rw [h i (by omega)] at hiv; cases hiv
      · refine Ev.neg (by omega) (Ev.pos (by omega) (Ev.pos (by omega) (Ev.pos (by omega) ?_)))
        by_cases c : rd far (j : Int) < rd far (b : Int)
        · refine Ev.pos c (ih (j + 1) (j : Int) (by omega) (.inr ⟨j, rfl, by omega, hvj, fun i hi hiv => ?_⟩))
          by_cases e : i = j
          · subst e; omega
          · have := hmin i (by omega) hiv; omega
        · refine Ev.neg c (ih (j + 1) (b : Int) (by omega) (.inr ⟨b, rfl, by omega, hbv, fun i hi hiv => ?_⟩))
          by_cases e : i = j
          · subst e; omega
          · exact hmin i (by omega) hiv
theorem chained_l1 : ∀ (u c : Nat) (far : List Int) (vis : List Bool) (most : Int), c + u + 1 = N → totB out1 vis = u → Prim D N far vis most →
    ∃ m, LeastD D N m ∧ 0 ≤ m ∧ m ≤ 1000000000000 ∧ Ev (fun k => impl_chained.l1 k all far vis most ((N - 1 : Nat) : Int) (c : Int)) m := by
  intro u
  induction u with
  | zero =>
    intro c far vis most hc hu hP
    have hall := totB_zero vis hu
    refine ⟨most, ⟨fun k hk => hP.conn k hk (hall k (by rw [hP.lv]; exact hk)), hP.least⟩, hP.m0, hP.m1, Ev.one (fun k => by rw [impl_chained.l1]) ?_⟩
    exact Ev.neg (by omega) (Ev.now _)
  | succ u ih =>
    intro c far vis most hc hu hP
    obtain ⟨i0, hi0, hv0⟩ := totB_pos vis (by omega)
    rw [hP.lv] at hi0
    have step : ∀ b, b < N → vis.getD b false = false → (∀ i, i < N → vis.getD i false = false → rd far (b : Int) ≤ rd far (i : Int)) →
        ∃ m, LeastD D N m ∧ 0 ≤ m ∧ m ≤ 1000000000000 ∧ Ev (fun k => impl_chained.l3 k all far (vis.set b true) (mx most (rd far (b : Int))) (b : Int) ((N - 1 : Nat) : Int) (c : Int) (N : Int) 0) m := by
      intro b hb hbv hbm
      obtain ⟨v, hv, hvv, hve⟩ := hP.hit b hb hbv
      have hd0 := hD0 v b hv hb
      have hd1 := hD1 v b hv hb
      have hm0 := hP.m0
      have hm1 := hP.m1
      have hlv := hP.lv
      have hlf := hP.lf
      have emx : mx most (rd far (b : Int)) = max most (rd far (b : Int)) := by unfold mx; omega
      have hvb : (vis.set b true).getD b false = true := getD_set_eq _ _ _ _ (by omega)
      have hvo : ∀ i, i ≠ b → (vis.set b true).getD i false = vis.getD i false := fun i hi => getD_set_ne _ _ _ _ _ (fun q => hi q.symm)
      -- the table behind this round
      have hnl : ((List.range N).map fun i : Nat => min (rd far (i : Int)) (D b i)).length = N := by simp
      have hnr : ∀ i, i < N → rd ((List.range N).map fun i : Nat => min (rd far (i : Int)) (D b i)) (i : Int) = min (rd far (i : Int)) (D b i) := fun i hi => by
        rw [rd_at _ i (by rw [hnl]; exact hi), List.getElem_map, List.getElem_range]
      have huniq : ∀ f : List Int, f.length = N → (∀ i, i < N → rd f (i : Int) = min (rd far (i : Int)) (D b i)) → f = (List.range N).map fun i : Nat => min (rd far (i : Int)) (D b i) := by
        intro f hf hr
        apply List.ext_getElem
        · rw [hf, hnl]
        · intro i h1 h2
          have a1 := hr i (by omega)
          have a2 := hnr i (by omega)
          rw [rd_at _ i h1] at a1
          rw [rd_at _ i h2] at a2
          rw [a1, a2]
      generalize ((List.range N).map fun i : Nat => min (rd far (i : Int)) (D b i)) = far2 at hnl hnr huniq
      have hP2 : Prim D N far2 (vis.set b true) (max most (rd far (b : Int))) := by
        refine ⟨hnl, by rw [List.length_set]; exact hlv, ?_, ?_, ?_, by omega, by omega, ?_, ?_⟩
        · by_cases e : 0 = b
          · rw [← e] at hvb ⊢; exact hvb
          · rw [hvo 0 e]; exact hP.first
        · intro i hi hiv w hw hwv
          have hib : i ≠ b := fun e => by subst e; rw [hvb] at hiv; cases hiv
          rw [hvo i hib] at hiv
          rw [hnr i hi]
          by_cases e : w = b
          · subst e; omega
          · rw [hvo w e] at hwv
            have := hP.low i hi hiv w hw hwv
            omega
        · intro i hi hiv
          have hib : i ≠ b := fun e => by subst e; rw [hvb] at hiv; cases hiv
          rw [hvo i hib] at hiv
          rw [hnr i hi]
          by_cases c : rd far (i : Int) ≤ D b i
          · obtain ⟨w, hw, hwv, he⟩ := hP.hit i hi hiv
            refine ⟨w, hw, ?_, by omega⟩
            by_cases e : w = b
            · subst e; exact hvb
            · rw [hvo w e]; exact hwv
          · exact ⟨b, hb, hvb, by omega⟩
        · intro w hw hwv
          by_cases e : w = b
          · subst e
            exact ((hP.conn v hv hvv).mono (by omega)).step hv hb (by omega)
          · rw [hvo w e] at hwv
            exact (hP.conn w hw hwv).mono (by omega)
        · intro d hd hc
          have h1 := hP.least d hd hc
          by_cases c : rd far (b : Int) ≤ d
          · omega
          · have hb2 := hc b hb (fun k => k < N → vis.getD k false = true) (fun _ => hP.first) (fun i j hi hj hp hij hj2 => by
              cases hvj : vis.getD j false with
              | true => rfl
              | false =>
                have h2 := hP.low j hj hvj i hi (hp hi)
                have h3 := hbm j hj hvj
                omega) hb
            rw [hbv] at hb2
            cases hb2
      have hu2 : totB out1 (vis.set b true) = u := by
        have h := totB_set out1 true vis b (by omega)
        rw [hbv] at h
        have e1 : out1 false = 1 := rfl
        have e2 : out1 true = 0 := rfl
        omega
      obtain ⟨m, m1, m2, m3, m4⟩ := ih (c + 1) far2 (vis.set b true) (max most (rd far (b : Int))) (by omega) hu2 hP2
      refine ⟨m, m1, m2, m3, ?_⟩
      rw [emx]
      exact chained_l3 D N all hN hNb hA (vis.set b true) (max most (rd far (b : Int))) b hb ((N - 1 : Nat) : Int) (c : Int) m far hlf (fun f hf hr => by
        rw [huniq f hf hr, w64_succ c (by omega)]
        exact m4) N 0 far (by omega) hlf (fun i hi => by rw [if_neg (by omega)])
    -- the best place is there
    obtain ⟨b, hb, hbv, hbm⟩ : ∃ b, b < N ∧ vis.getD b false = false ∧ ∀ i, i < N → vis.getD i false = false → rd far (b : Int) ≤ rd far (i : Int) := by
      have key : ∀ j, j ≤ N → (∀ i, i < j → vis.getD i false = true) ∨ ∃ b, b < j ∧ vis.getD b false = false ∧ ∀ i, i < j → vis.getD i false = false → rd far (b : Int) ≤ rd far (i : Int) := by
        intro j
        induction j with
        | zero => intro _; exact .inl (fun i hi => by omega)
        | succ j ihj =>
          intro hj
          rcases ihj (by omega) with h | ⟨b, h1, h2, h3⟩
          · cases hvj : vis.getD j false with
            | true => exact .inl (fun i hi => by
                by_cases e : i = j
                · subst e; exact hvj
                · exact h i (by omega))
            | false => exact .inr ⟨j, by omega, hvj, fun i hi hiv => by
                by_cases e : i = j
                · subst e; omega
                · rw [h i (by omega)] at hiv; cases hiv⟩
          · by_cases c2 : vis.getD j false = false ∧ rd far (j : Int) < rd far (b : Int)
            · exact .inr ⟨j, by omega, c2.1, fun i hi hiv => by
                by_cases e : i = j
                · subst e; omega
                · have := h3 i (by omega) hiv; omega⟩
            · exact .inr ⟨b, by omega, h2, fun i hi hiv => by
                by_cases e : i = j
                · subst e
                  by_cases c3 : rd far (i : Int) < rd far (b : Int)
                  · exact absurd ⟨hiv, c3⟩ c2
                  · omega
                · exact h3 i (by omega) hiv⟩
      rcases key N (Nat.le_refl _) with h | h
      · rw [h i0 hi0] at hv0; cases hv0
      · exact h
    obtain ⟨m, m1, m2, m3, _⟩ := step b hb hbv hbm
    refine ⟨m, m1, m2, m3, Ev.one (fun k => by rw [impl_chained.l1]) ?_⟩
    rw [hN]
    refine Ev.pos (by omega) (chained_l2 N all hN hNb far vis hP.lf hP.lv most _ _ m ⟨i0, hi0, hv0⟩ (fun b2 hb2 hbv2 hbm2 => ?_) N 0 (-1) (by omega) (.inl ⟨rfl, fun i hi => by omega⟩))
    obtain ⟨e, e1, e2, e3, e4⟩ := step b2 hb2 hbv2 hbm2
    rw [m1.uniq e1 m2 e2]
    exact e4
theorem chained_l0 (hN2 : 2 ≤ N) : ∀ (d j : Nat) (far : List Int), j + d = N → far.length = N → (∀ i, i < j → rd far (i : Int) = D 0 i) →
    ∃ m, LeastD D N m ∧ 0 ≤ m ∧ m ≤ 1000000000000 ∧ Ev (fun k => impl_chained.l0 k all far (List.replicate N false) (N : Int) (j : Int)) m := by
  intro d
  induction d with
  | zero =>
    intro j far hj hf hr
    have hrl : (List.replicate N false).length = N := List.length_replicate
    have hg : ∀ i, (List.replicate N false).getD i false = false := fun i => by
      rw [List.getD_eq_getElem?_getD, List.getElem?_replicate]
      split <;> rfl
    have h0 : ((List.replicate N false).set 0 true).getD 0 false = true := getD_set_eq _ _ _ _ (by omega)
    have hoth : ∀ i, i ≠ 0 → ((List.replicate N false).set 0 true).getD i false = false := fun i hi => by
      rw [getD_set_ne _ _ _ _ _ (fun q => hi q.symm)]
      exact hg i
    have only : ∀ v, ((List.replicate N false).set 0 true).getD v false = true → v = 0 := fun v hv => by
      by_cases e : v = 0
      · exact e
      · rw [hoth v e] at hv; cases hv
    have hP : Prim D N far ((List.replicate N false).set 0 true) 0 := by
      refine ⟨hf, by rw [List.length_set, hrl], h0, ?_, ?_, by omega, by omega, ?_, fun d hd _ => hd⟩
      · intro i hi _ v hv hvv
        obtain rfl := only v hvv
        rw [hr i (by omega)]
        omega
      · intro i hi _
        exact ⟨0, by omega, h0, hr i (by omega)⟩
      · intro v hv hvv
        obtain rfl := only v hvv
        exact Conn.refl D N 0 0
    have hu : totB out1 ((List.replicate N false).set 0 true) = N - 1 := by
      have h := totB_set out1 true (List.replicate N false) 0 (by omega)
      rw [hg 0] at h
      have e1 : out1 false = 1 := rfl
      have e2 : out1 true = 0 := rfl
      have e3 : totB out1 (List.replicate N false) = N := by
        unfold totB
        rw [List.map_replicate]
        simp [out1]
      omega
    obtain ⟨m, m1, m2, m3, m4⟩ := chained_l1 D N all hN hNb hD0 hD1 hA (N - 1) 0 far _ 0 (by omega) hu hP
    refine ⟨m, m1, m2, m3, Ev.one (fun k => by rw [impl_chained.l0]) ?_⟩
    rw [hN, show wrap64 ((N : Int) - 1) = ((N - 1 : Nat) : Int) from by rw [w64_of (by omega) (by omega)]; omega]
    exact Ev.neg (by omega) (Ev.pos (by omega) m4)
  | succ d ih =>
    intro j far hj hf hr
    obtain ⟨m, m1, m2, m3, m4⟩ := ih (j + 1) (far.set j (D 0 j)) (by omega) (by rw [List.length_set]; exact hf) (fun i hi => by
      by_cases e : i = j
      · subst e; exact rd_set_eq _ _ _ (by omega)
      · rw [rd_set_ne _ _ _ _ (fun q => e q.symm)]; exact hr i (by omega))
    refine ⟨m, m1, m2, m3, Ev.one (fun k => by rw [impl_chained.l0]) ?_⟩
    rw [w64_succ j (by omega), Int.toNat_natCast]
    have h := hA 0 j (by omega) (by omega)
    exact Ev.pos (by omega) (Ev.pos (by omega) (Ev.pos (by omega) (Ev.pos (by omega) (Ev.bnd h (Ev.pos (by omega) m4)))))
theorem chained_ev : ∃ m, (2 ≤ N → LeastD D N m) ∧ (N < 2 → m = 0) ∧ 0 ≤ m ∧ m ≤ 1000000000000 ∧ Ev (fun k => impl_chained.f k all) m := by
  unfold impl_chained.f
  by_cases h : N < 2
  · exact ⟨0, fun e => by omega, fun _ => rfl, by omega, by omega, Ev.pos (by omega) (Ev.now _)⟩
  · obtain ⟨m, m1, m2, m3, m4⟩ := chained_l0 D N all hN hNb hD0 hD1 hA (by omega) N 0 (List.replicate N 0) (by omega) List.length_replicate (fun i hi => by omega)
    refine ⟨m, fun _ => m1, fun e => absurd e h, m2, m3, ?_⟩
    rw [hN, Int.toNat_natCast]
    exact Ev.neg (by omega) (Ev.pos (by omega) (Ev.pos (by omega) (Ev.pos (by omega) m4)))
end
end Go.Proofs.Ytlfdipnhlmjiaaa.Pure
