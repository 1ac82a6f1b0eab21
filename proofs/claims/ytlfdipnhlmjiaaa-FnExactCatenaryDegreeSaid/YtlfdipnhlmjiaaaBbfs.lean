/- Plain lemmas (bfs): no program, no memory. -/
import Derived.Test.YtlfdipnhlmjiaaaC0
import Derived.Test.YtlfdipnhlmjiaaaC10
import Derived.Test.YtlfdipnhlmjiaaaC5
import Derived.Test.YtlfdipnhlmjiaaaC9
import Derived.Test.YtlfdipnhlmjiaaaBleasts
import Derived.Test.YtlfdipnhlmjiaaaBgraph
import Derived.Test.YtlfdipnhlmjiaaaBbase
namespace Go.Proofs.Ytlfdipnhlmjiaaa.Pure
open Go.RowKit Go.Proofs.Ytlfdipnhlmjiaaa.C Go.Proofs.YtlfdipnhlmjiaaaW.PrintWords Go.Proofs.YtlfdipnhlmjiaaaW.PrintLast Go.Proofs.YtlfdipnhlmjiaaaW.PrintMore
set_option linter.unusedVariables false
set_option linter.unusedSimpArgs false
/-! bfs: spec.l13Far, spec.l13Degree -/
theorem rd_app (q : List Int) (x : Int) (i : Nat) (h : i < q.length) : rd (q ++ [x]) (i : Int) = rd q (i : Int) := by
  rw [rd_at _ i (by rw [List.length_append]; omega), rd_at _ i h, List.getElem_append_left h]
theorem spec_HasNumber_l0 (l : List Int) (x : Int) (hl : l.length ≤ 100000000000) : ∀ (d i : Nat), i + d = l.length → ∃ b, (b = true ↔ x ∈ l.drop i) ∧ Ev (fun k => spec_HasNumber.l0 k l x (i : Int)) b := by
  intro d
  induction d with
  | zero =>
    intro i hi
    rw [List.drop_eq_nil_of_le (by omega)]
    refine ⟨false, by simp, Ev.one (fun k => by rw [spec_HasNumber.l0]) ?_⟩
    exact Ev.neg (by omega) (Ev.now _)
  | succ d ih =>
    intro i hi
    rw [List.drop_eq_getElem_cons (show i < l.length by omega)]
    by_cases h : l[i] = x
    · refine ⟨true, ⟨fun _ => by rw [h]; exact List.mem_cons_self .., fun _ => rfl⟩, Ev.one (fun k => by rw [spec_HasNumber.l0]) ?_⟩
      rw [rd_at l i (by omega)]
      exact Ev.pos (by omega) (Ev.pos (by omega) (Ev.pos h (Ev.now _)))
    · obtain ⟨b, b1, b2⟩ := ih (i + 1) (by omega)
      refine ⟨b, ?_, Ev.one (fun k => by rw [spec_HasNumber.l0]) ?_⟩
      · rw [b1, List.mem_cons]
        exact ⟨fun e => .inr e, fun e => e.resolve_left (fun e2 => h e2.symm)⟩
      · rw [rd_at l i (by omega), w64_succ i (by omega)]
        exact Ev.pos (by omega) (Ev.pos (by omega) (Ev.neg h b2))
theorem spec_HasNumber_ev (l : List Int) (x : Int) (hl : l.length ≤ 100000000000) : ∃ b, (b = true ↔ x ∈ l) ∧ Ev (fun k => spec_HasNumber.f k l x) b := by
  unfold spec_HasNumber.f
  exact spec_HasNumber_l0 l x hl l.length 0 (by omega)
section
variable (D : Nat → Nat → Int) (N : Nat) (all : List (List Int)) (hN : all.length = N) (hNb : N ≤ 100000000000)
variable (hA : ∀ i j, i < N → j < N → Ev (fun k => spec_DistanceOf.f k (rd_L2 all (i : Int)) (rd_L2 all (j : Int))) (D i j))
/-- The search while it goes on: far and the queue. -/
structure Bfs (d : Int) (s : Nat) (far : List Int) (q : List Int) : Prop where
  lf : far.length = N
  s0 : 0 ≤ rd far (s : Int)
  inq : ∀ i : Nat, i < q.length → ∃ p : Nat, rd q (i : Int) = (p : Int) ∧ p < N ∧ 0 ≤ rd far (p : Int)
  full : ∀ k : Nat, k < N → 0 ≤ rd far (k : Int) → ∃ i : Nat, i < q.length ∧ rd q (i : Int) = (k : Int)
  neg : ∀ k : Nat, k < N → rd far (k : Int) < 0 → rd far (k : Int) = -1
  room : q.length + tot neg1 far = N
  low : ∀ k : Nat, k < N → rd far (k : Int) < (q.length : Int)
  sound : ∀ k : Nat, k < N → 0 ≤ rd far (k : Int) → Conn D N d s k
theorem Bfs.step {d : Int} {s : Nat} {far q : List Int} (h : Bfs D N d s far q) (hs : s < N) {p j : Nat} (hp : p < N) (hj : j < N) (hpf : 0 ≤ rd far (p : Int)) (hjf : rd far (j : Int) < 0) (hd : D p j ≤ d) :
    Bfs D N d s (far.set j (rd far (p : Int) + 1)) (q ++ [(j : Int)]) := by
  have hlf := h.lf
  have hnew : rd (far.set j (rd far (p : Int) + 1)) (j : Int) = rd far (p : Int) + 1 := rd_set_eq _ _ _ (by omega)
  have hold : ∀ k : Nat, k ≠ j → rd (far.set j (rd far (p : Int) + 1)) (k : Int) = rd far (k : Int) := fun k hk => rd_set_ne _ _ _ _ (fun e => hk e.symm)
  have hql : (q ++ [(j : Int)]).length = q.length + 1 := by rw [List.length_append]; rfl
  refine ⟨by rw [List.length_set]; exact hlf, ?_, ?_, ?_, ?_, ?_, ?_, ?_⟩
  · rw [hold s (fun e => by subst e; have := h.s0; omega)]
    exact h.s0
  · intro i hi
    rw [hql] at hi
    by_cases e : i = q.length
    · subst e
      refine ⟨j, ?_, hj, by rw [hnew]; omega⟩
      rw [rd_at _ q.length (by rw [hql]; omega), List.getElem_append_right (Nat.le_refl _)]
      simp
    · obtain ⟨x, h1, h2, h3⟩ := h.inq i (by omega)
      refine ⟨x, by rw [rd_app q _ i (by omega)]; exact h1, h2, ?_⟩
      rw [hold x (fun e => by subst e; omega)]
      exact h3
  · intro k hk hkf
    by_cases e : k = j
    · subst e
      refine ⟨q.length, by rw [hql]; omega, ?_⟩
      rw [rd_at _ q.length (by rw [hql]; omega), List.getElem_append_right (Nat.le_refl _)]
      simp
    · rw [hold k e] at hkf
      obtain ⟨i, h1, h2⟩ := h.full k hk hkf
      exact ⟨i, by rw [hql]; omega, by rw [rd_app q _ i h1]; exact h2⟩
  · intro k hk hkf
    by_cases e : k = j
    · subst e; rw [hnew] at hkf; omega
    · rw [hold k e] at hkf ⊢
      exact h.neg k hk hkf
  · have ht := tot_set neg1 (rd far (p : Int) + 1) far j (by omega)
    have e1 : neg1 (rd far (j : Int)) = 1 := by unfold neg1; rw [if_pos hjf]
    have e2 : neg1 (rd far (p : Int) + 1) = 0 := by unfold neg1; rw [if_neg (by omega)]
    have := h.room
    rw [hql]
    omega
  · intro k hk
    rw [hql]
    by_cases e : k = j
    · subst e; rw [hnew]; have := h.low p hp; omega
    · rw [hold k e]; have := h.low k hk; omega
  · intro k hk hkf
    by_cases e : k = j
    · subst e; exact (h.sound p hp hpf).step hp hj hd
    · rw [hold k e] at hkf; exact h.sound k hk hkf
/-- What has been looked at: the first places of the queue. -/
def Seen (d : Int) (far q : List Int) (at' : Nat) : Prop := ∀ i : Nat, i < at' → ∀ p : Nat, rd q (i : Int) = (p : Int) → ∀ j : Nat, j < N → D p j ≤ d → 0 ≤ rd far (j : Int)
/-- What the search tells. -/
def FarR (d : Int) (s : Nat) (far : List Int) : Prop := far.length = N ∧ ∀ k : Nat, k < N → (rd far (k : Int) = -1 ∧ ¬ Conn D N d s k) ∨ (0 ≤ rd far (k : Int) ∧ Conn D N d s k)
include hN hNb hA
theorem far_l2 (d : Int) (s p c : Nat) (hs : s < N) (hp : p < N)
    (next : ∀ far q, Bfs D N d s far q → c < q.length → Seen D N d far q (c + 1) → ∃ r, FarR D N d s r ∧ Ev (fun k => spec_l13Far.l1 k all d far q ((c + 1 : Nat) : Int)) r) :
    ∀ (e j : Nat) (far q : List Int), j + e = N → Bfs D N d s far q → c < q.length → rd q (c : Int) = (p : Int) → 0 ≤ rd far (p : Int) → Seen D N d far q c → (∀ i : Nat, i < j → D p i ≤ d → 0 ≤ rd far (i : Int)) →
      ∃ r, FarR D N d s r ∧ Ev (fun k => spec_l13Far.l2 k all d far q (c : Int) (j : Int)) r := by
  intro e
  induction e with
  | zero =>
    intro j far q hj hB hc hq hpf hS hrow
    obtain ⟨r, r1, r2⟩ := next far q hB hc (fun i hi x hx y hy hd => by
      by_cases e : i = c
      · subst e
        obtain rfl : x = p := by omega
        exact hrow y (by omega) hd
      · exact hS i (by omega) x hx y hy hd)
    have hr := hB.room
    refine ⟨r, r1, Ev.one (fun k => by rw [spec_l13Far.l2]) ?_⟩
    rw [w64_succ c (by omega)]
    exact Ev.neg (by omega) r2
  | succ e ih =>
    intro j far q hj hB hc hq hpf hS hrow
    have hr := hB.room
    have hlf := hB.lf
    have hjN : j < N := by omega
    by_cases hjf : rd far (j : Int) < 0
    · by_cases hd : D p j ≤ d
      · have hlow := hB.low p hp
        have hB2 := hB.step D N hs hp hjN hpf hjf hd
        have hold : ∀ k : Nat, k ≠ j → rd (far.set j (rd far (p : Int) + 1)) (k : Int) = rd far (k : Int) := fun k hk => rd_set_ne _ _ _ _ (fun e => hk e.symm)
        have hmono : ∀ k : Nat, 0 ≤ rd far (k : Int) → 0 ≤ rd (far.set j (rd far (p : Int) + 1)) (k : Int) := fun k hk => by
          by_cases e : k = j
          · subst e; omega
          · rw [hold k e]; exact hk
        obtain ⟨r, r1, r2⟩ := ih (j + 1) (far.set j (rd far (p : Int) + 1)) (q ++ [(j : Int)]) (by omega) hB2 (by rw [List.length_append]; omega) (by rw [rd_app q _ c hc]; exact hq) (hmono p hpf)
          (fun i hi x hx y hy hdd => hmono y (hS i hi x (by rwa [rd_app q _ i (by omega)] at hx) y hy hdd))
          (fun i hi hdd => by
            by_cases e : i = j
            · subst e; rw [rd_set_eq _ _ _ (by omega)]; omega
            · exact hmono i (hrow i (by omega) hdd))
        refine ⟨r, r1, Ev.one (fun k => by rw [spec_l13Far.l2]) ?_⟩
        rw [hq, w64_of (x := rd far (p : Int) + 1) (by omega) (by omega), w64_succ j (by omega), Int.toNat_natCast]
        exact Ev.pos (by omega) (Ev.pos (by omega) (Ev.pos (by omega) (Ev.pos hjf (Ev.pos (by omega) (Ev.pos (by omega) (Ev.pos (by omega) (Ev.pos (by omega) (Ev.bnd (hA p j hp hjN) (Ev.pos hd (Ev.pos (by omega) (Ev.pos (by omega) r2)))))))))))
      · obtain ⟨r, r1, r2⟩ := ih (j + 1) far q (by omega) hB hc hq hpf hS (fun i hi hdd => by
          by_cases e : i = j
          · subst e; exact absurd hdd hd
          · exact hrow i (by omega) hdd)
        refine ⟨r, r1, Ev.one (fun k => by rw [spec_l13Far.l2]) ?_⟩
        rw [hq, w64_succ j (by omega)]
        exact Ev.pos (by omega) (Ev.pos (by omega) (Ev.pos (by omega) (Ev.pos hjf (Ev.pos (by omega) (Ev.pos (by omega) (Ev.pos (by omega) (Ev.pos (by omega) (Ev.bnd (hA p j hp hjN) (Ev.neg hd r2)))))))))
    · obtain ⟨r, r1, r2⟩ := ih (j + 1) far q (by omega) hB hc hq hpf hS (fun i hi hdd => by
        by_cases e : i = j
        · subst e; omega
        · exact hrow i (by omega) hdd)
      refine ⟨r, r1, Ev.one (fun k => by rw [spec_l13Far.l2]) ?_⟩
      rw [w64_succ j (by omega)]
      exact Ev.pos (by omega) (Ev.pos (by omega) (Ev.pos (by omega) (Ev.neg hjf r2)))
theorem far_l1 (d : Int) (s : Nat) (hs : s < N) : ∀ (e c : Nat) (far q : List Int), c + e = N → Bfs D N d s far q → c ≤ q.length → Seen D N d far q c →
    ∃ r, FarR D N d s r ∧ Ev (fun k => spec_l13Far.l1 k all d far q (c : Int)) r := by
  have stop : ∀ (c : Nat) (far q : List Int), Bfs D N d s far q → c = q.length → Seen D N d far q c → ∃ r, FarR D N d s r ∧ Ev (fun k => spec_l13Far.l1 k all d far q (c : Int)) r := by
    intro c far q hB hc hS
    refine ⟨far, ⟨hB.lf, fun k hk => ?_⟩, Ev.one (fun k => by rw [spec_l13Far.l1]) ?_⟩
    · by_cases hkf : rd far (k : Int) < 0
      · refine .inl ⟨hB.neg k hk hkf, fun hC => ?_⟩
        have := hC (fun i => i < N → 0 ≤ rd far (i : Int)) (fun _ => hB.s0) (fun i j hi hj hpi hd _ => by
          obtain ⟨x, h1, h2⟩ := hB.full i hi (hpi hi)
          exact hS x (by omega) i h2 j hj hd) hk
        omega
      · exact .inr ⟨by omega, hB.sound k hk (by omega)⟩
    · exact Ev.neg (by omega) (Ev.now _)
  intro e
  induction e with
  | zero =>
    intro c far q hc hB hcq hS
    have := hB.room
    exact stop c far q hB (by omega) hS
  | succ e ih =>
    intro c far q hc hB hcq hS
    by_cases h : c = q.length
    · exact stop c far q hB h hS
    · obtain ⟨p, h1, h2, h3⟩ := hB.inq c (by omega)
      obtain ⟨r, r1, r2⟩ := far_l2 D N all hN hNb hA d s p c hs h2 (fun far q hB hc2 hS => ih (c + 1) far q (by omega) hB (by omega) hS) N 0 far q (by omega) hB (by omega) h1 h3 hS (fun i hi => by omega)
      refine ⟨r, r1, Ev.one (fun k => by rw [spec_l13Far.l1]) ?_⟩
      exact Ev.pos (by omega) r2
theorem far_ev (d : Int) (s : Nat) (hs : s < N) : ∃ r, FarR D N d s r ∧ Ev (fun k => spec_l13Far.f k all (s : Int) d) r := by
  have hlen : ∀ m : Nat, ((List.range m).map fun k : Nat => if k = s then (0 : Int) else -1).length = m := fun m => by simp
  have hat : ∀ m k : Nat, k < m → rd ((List.range m).map fun k : Nat => if k = s then (0 : Int) else -1) (k : Int) = if k = s then 0 else -1 := fun m k hk => by
    rw [rd_at _ k (by rw [hlen]; exact hk), List.getElem_map, List.getElem_range]
  have hB : Bfs D N d s ((List.range N).map fun k : Nat => if k = s then (0 : Int) else -1) [(s : Int)] := by
    refine ⟨hlen N, by rw [hat N s hs, if_pos rfl]; omega, ?_, ?_, ?_, ?_, ?_, ?_⟩
    · intro i hi
      obtain rfl : i = 0 := by simp at hi; omega
      exact ⟨s, rfl, hs, by rw [hat N s hs, if_pos rfl]; omega⟩
    · intro k hk hkf
      rw [hat N k hk] at hkf
      by_cases e : k = s
      · subst e; exact ⟨0, by simp, rfl⟩
      · rw [if_neg e] at hkf; omega
    · intro k hk hkf
      rw [hat N k hk] at hkf ⊢
      by_cases e : k = s
      · rw [if_pos e] at hkf; omega
      · rw [if_neg e]
    · have h0 : (List.range N).map (fun k : Nat => if k = s then (0 : Int) else -1) = (List.replicate N (-1)).set s 0 := by
        apply List.ext_getElem
        · simp
        · intro i h1 h2
          rw [List.getElem_map, List.getElem_range, List.getElem_set, List.getElem_replicate]
          by_cases e : i = s
          · subst e; simp
          · rw [if_neg e, if_neg (fun q => e q.symm)]
      rw [h0]
      have ht := tot_set neg1 0 (List.replicate N (-1)) s (by rw [List.length_replicate]; exact hs)
      have e1 : neg1 (rd (List.replicate N (-1)) (s : Int)) = 1 := by rw [rd_at _ s (by rw [List.length_replicate]; exact hs), List.getElem_replicate]; rfl
      have e2 : neg1 0 = 0 := rfl
      have e3 : tot neg1 (List.replicate N (-1)) = N := by
        unfold tot
        rw [List.map_replicate]
        simp [neg1]
      rw [List.length_singleton]
      omega
    · intro k hk
      rw [hat N k hk]
      by_cases e : k = s
      · rw [if_pos e]; simp
      · rw [if_neg e]; simp
    · intro k hk hkf
      rw [hat N k hk] at hkf
      by_cases e : k = s
      · subst e; exact Conn.refl D N d k
      · rw [if_neg e] at hkf; omega
  obtain ⟨r, r1, r2⟩ := far_l1 D N all hN hNb hA d s hs N 0 _ _ (by omega) hB (by simp) (fun i hi => by omega)
  refine ⟨r, r1, ?_⟩
  unfold spec_l13Far.f
  have loop : ∀ (e j : Nat), j + e = N → Ev (fun k => spec_l13Far.l0 k all (s : Int) d ((List.range j).map fun k : Nat => if k = s then (0 : Int) else -1) (j : Int)) r := by
    intro e
    induction e with
    | zero =>
      intro j hj
      obtain rfl : j = N := by omega
      refine Ev.one (fun k => by rw [spec_l13Far.l0]) ?_
      exact Ev.neg (by omega) r2
    | succ e ih =>
      intro j hj
      have ih := ih (j + 1) (by omega)
      rw [List.range_succ, List.map_append, List.map_cons, List.map_nil] at ih
      refine Ev.one (fun k => by rw [spec_l13Far.l0]) ?_
      rw [w64_succ j (by omega)]
      refine Ev.pos (by omega) (Ev.bnd (a := if ((j : Int) == (s : Int)) = true then 1 else 0) (Ev.const (by unfold spec_l1Bit.f; split <;> rfl)) (Ev.pos (by rw [hlen]; omega) ?_))
      have e1 : wrap64 ((if ((j : Int) == (s : Int)) = true then 1 else 0) - 1) = if j = s then 0 else -1 := by
        by_cases e : j = s
        · subst e; rw [if_pos (by simp), if_pos rfl]; exact w64_of (by omega) (by omega)
        · rw [if_neg (by rw [beq_iff_eq]; omega), if_neg e]; exact w64_of (by omega) (by omega)
      rw [e1]
      exact ih
  exact loop N 0 (by omega)
theorem degree_l0 (hN1 : 1 ≤ N) (m : Int) (hm : LeastD D N m) (hm1 : m ≤ 1000000000000) : ∀ (e d : Nat), (d : Int) + (e : Int) = m → Ev (fun k => spec_l13Degree.l0 k all (d : Int)) m := by
  intro e
  induction e with
  | zero =>
    intro d hd
    obtain ⟨r, r1, r2⟩ := far_ev D N all hN hNb hA (d : Int) 0 (by omega)
    obtain ⟨b, b1, b2⟩ := spec_HasNumber_ev r (-1) (by rw [r1.1]; exact hNb)
    have hb : b = false := by
      cases hb : b with
      | false => rfl
      | true =>
        obtain ⟨i, hi, he⟩ := List.getElem_of_mem (b1.1 hb)
        have := r1.1
        rcases r1.2 i (by omega) with ⟨_, h⟩ | ⟨h, _⟩
        · exact absurd ((hm.1 i (by omega)).mono (by omega)) h
        · rw [rd_at _ i hi, he] at h; omega
    rw [hb] at b2
    have e1 : (d : Int) = m := by omega
    refine Ev.one (fun k => by rw [spec_l13Degree.l0]) ?_
    rw [← e1]
    exact Ev.neg (by omega) (Ev.bnd r2 (Ev.bnd b2 (Ev.neg (by decide) (Ev.now _))))
  | succ e ih =>
    intro d hd
    obtain ⟨r, r1, r2⟩ := far_ev D N all hN hNb hA (d : Int) 0 (by omega)
    obtain ⟨b, b1, b2⟩ := spec_HasNumber_ev r (-1) (by rw [r1.1]; exact hNb)
    have hb : b = true := by
      cases hb : b with
      | true => rfl
      | false =>
        have hall : ∀ k, k < N → Conn D N (d : Int) 0 k := fun k hk => by
          rcases r1.2 k hk with ⟨h, _⟩ | ⟨_, h⟩
          · have hkr : k < r.length := by rw [r1.1]; exact hk
            rw [rd_at _ k hkr] at h
            have : (-1 : Int) ∈ r := by rw [← h]; exact List.getElem_mem hkr
            rw [b1.2 this] at hb
            cases hb
          · exact h
        have := hm.2 (d : Int) (by omega) hall
        omega
    rw [hb] at b2
    have ih := ih (d + 1) (by omega)
    refine Ev.one (fun k => by rw [spec_l13Degree.l0]) ?_
    rw [w64_succ d (by omega)]
    exact Ev.neg (by omega) (Ev.bnd r2 (Ev.bnd b2 (Ev.pos rfl ih)))
end
end Go.Proofs.Ytlfdipnhlmjiaaa.Pure
