/- Plain lemmas (apery): no program, no memory. -/
import Derived.Test.YtiejmnnnjmmifaaC0
import Derived.Test.YtiejmnnnjmmifaaC15
import Derived.Test.YtiejmnnnjmmifaaBwithin
import Derived.Test.YtiejmnnnjmmifaaBsums
import Derived.Test.YtiejmnnnjmmifaaBgcd
import Derived.Test.YtiejmnnnjmmifaaBissg
import Derived.Test.YtiejmnnnjmmifaaBshell
import Derived.Test.YtiejmnnnjmmifaaBhas
import Derived.Test.YtiejmnnnjmmifaaBelems
import Derived.Test.YtiejmnnnjmmifaaBreach
import Derived.Test.YtiejmnnnjmmifaaBbase
namespace Go.Proofs.Ytiejmnnnjmmifaa.Pure
open Go.RowKit Go.Proofs.Ytiejmnnnjmmifaa.C Go.Proofs.YtiejmnnnjmmifaaW.PrintWords Go.Proofs.YtiejmnnnjmmifaaW.PrintLast Go.Proofs.YtiejmnnnjmmifaaW.PrintMore
set_option linter.unusedVariables false
set_option linter.unusedSimpArgs false
/-! apery: AperySet of both sides -/
def isAp (g : List Int) (n r m : Nat) : Prop := (m % n = r ∧ Sums g (m : Int)) ∧ ∀ m', m' < m → ¬ (m' % n = r ∧ Sums g (m' : Int))
theorem least_nat (P : Nat → Prop) : ∀ b, P b → ∃ m, m ≤ b ∧ P m ∧ ∀ m', m' < m → ¬ P m' := by
  intro b
  induction b using Nat.strongRecOn with
  | ind b ih =>
    intro h
    by_cases hb : ∃ c, c < b ∧ P c
    · obtain ⟨c, hc, hp⟩ := hb
      obtain ⟨m, m1, m2⟩ := ih c hc hp
      exact ⟨m, by omega, m2⟩
    · exact ⟨b, Nat.le_refl _, h, fun m' hm hp => hb ⟨m', hm, hp⟩⟩
theorem ap_exists (g : List Int) (hS : SG g) (n r : Nat) (hn : 1 ≤ n ∧ n ≤ 60) (hr : r < n) : ∃ m, m ≤ 199 + n ∧ isAp g n r m := by
  have h1 := Nat.div_add_mod (200 - r + (n - 1)) n
  have h2 := Nat.mod_lt (200 - r + (n - 1)) (show 0 < n by omega)
  generalize hq : (200 - r + (n - 1)) / n = q at h1
  generalize hz : n * q = z at h1
  have hm : (r + z) % n = r := by rw [← hz, Nat.add_mul_mod_self_left, Nat.mod_eq_of_lt hr]
  obtain ⟨m, m1, m2⟩ := least_nat (fun m => m % n = r ∧ Sums g (m : Int)) (r + z) ⟨hm, hS.ends _ (by omega)⟩
  exact ⟨m, by omega, m2⟩
theorem spec_ap_l1 (g : List Int) (n r m : Nat) (hn : 1 ≤ n ∧ n ≤ 60) (hm : m ≤ 199 + n) (ha : isAp g n r m) (out : List Int) (ho : out.length ≤ 60) {R : List Int}
    (hk : Ev (fun k => spec_l6Apery.l0 k (n : Int) (tblL g 261) (out ++ [(m : Int)]) ((r + 1 : Nat) : Int)) R) (hr : r < n) :
    ∀ d t, t + d = m / n → Ev (fun k => spec_l6Apery.l1 k (n : Int) (tblL g 261) out (r : Int) ((n * t + r : Nat) : Int)) R := by
  have h1 := Nat.div_add_mod m n
  rw [ha.1.1] at h1
  have ht := tblL_length g 261
  intro d
  induction d with
  | zero =>
    intro t h
    obtain rfl : t = m / n := by omega
    rw [h1]
    refine Ev.one (fun k => by rw [spec_l6Apery.l1]) ?_
    rw [rdOf_tblL g 261 m (by omega), (elB_iff g _).2 ha.1.2, w64_succ r (by omega)]
    exact Ev.pos (by omega) (Ev.pos (by omega) (Ev.pos rfl (Ev.pos (by omega) hk)))
  | succ d ih =>
    intro t h
    have hlt : n * t + r < m := by
      have : n * (t + 1) ≤ n * (m / n) := Nat.mul_le_mul_left n (by omega)
      rw [Nat.mul_succ] at this
      omega
    have hnot : elB g ((n * t + r : Nat) : Int) = false := by
      cases hb : elB g ((n * t + r : Nat) : Int) with
      | false => rfl
      | true => exact absurd ⟨by rw [Nat.mul_add_mod, Nat.mod_eq_of_lt hr], (elB_iff g _).1 hb⟩ (ha.2 _ hlt)
    have ih := ih (t + 1) (by omega)
    rw [show n * (t + 1) + r = n * t + r + n from by rw [Nat.mul_succ]; omega] at ih
    refine Ev.one (fun k => by rw [spec_l6Apery.l1]) ?_
    rw [rdOf_tblL g 261 (n * t + r) (by omega), hnot, w64_of (x := ((n * t + r : Nat) : Int) + (n : Int)) (by omega) (by omega), show ((n * t + r : Nat) : Int) + (n : Int) = ((n * t + r + n : Nat) : Int) from by omega]
    exact Ev.pos (by omega) (Ev.pos (by omega) (Ev.neg (by decide) ih))
theorem set_mid (a b : List Int) (x v : Int) : (a ++ x :: b).set a.length v = a ++ v :: b := by simp
theorem rd_mid (a b : List Int) (x : Int) : rd (a ++ x :: b) (a.length : Int) = x := by
  rw [rd_at _ _ (by simp)]
  simp
theorem impl_ap_l1 (g : List Int) (n r m : Nat) (hn : 1 ≤ n ∧ n ≤ 60) (hm : m ≤ 199 + n) (ha : isAp g n r m) (out rest : List Int) (ho : out.length = r) {R : List Int}
    (hk : Ev (fun k => impl_AperySet.l0 k (n : Int) (out ++ (m : Int) :: rest) (tblL g (200 + n + 1)) (n : Int) ((r + 1 : Nat) : Int)) R) (hr : r < n) :
    ∀ d c, c + d = m → Ev (fun k => impl_AperySet.l1 k (n : Int) (out ++ (c : Int) :: rest) (tblL g (200 + n + 1)) (r : Int) (n : Int) (r : Int)) R := by
  have ht := tblL_length g (200 + n + 1)
  subst ho
  intro d
  induction d with
  | zero =>
    intro c h
    obtain rfl : c = m := by omega
    refine Ev.one (fun k => by rw [impl_AperySet.l1]) ?_
    rw [rd_mid, rdOf_tblL g (200 + n + 1) c (by omega), (elB_iff g _).2 ha.1.2, tmod_nat c n, ha.1.1, w64_succ out.length (by omega)]
    exact Ev.pos (by omega) (Ev.pos (by rw [List.length_append, List.length_cons]; omega) (Ev.pos (by omega) (Ev.pos (by omega) (Ev.pos rfl (Ev.neg (by omega) (Ev.pos rfl hk))))))
  | succ d ih =>
    intro c h
    have ih := ih (c + 1) (by omega)
    have hnot := ha.2 c (by omega)
    refine Ev.one (fun k => by rw [impl_AperySet.l1]) ?_
    rw [rd_mid, rdOf_tblL g (200 + n + 1) c (by omega), tmod_nat c n, w64_succ c (by omega), Int.toNat_natCast, set_mid]
    refine Ev.pos (by omega) (Ev.pos (by rw [List.length_append, List.length_cons]; omega) (Ev.pos (by omega) (Ev.pos (by omega) ?_)))
    cases hb : elB g (c : Int) with
    | false => exact Ev.neg (by decide) ih
    | true => exact Ev.pos rfl (Ev.neg (by omega) (Ev.neg (fun e => hnot ⟨by omega, (elB_iff g _).1 hb⟩) ih))
theorem spec_Contains_ev (g : List Int) (hlen : g.length ≤ 1048576) (n : Int) : ∃ b, (b = true ↔ SG g ∧ Sums g n) ∧ Ev (fun k => spec_Contains.f k g n) b := by
  obtain ⟨b, b1, b2⟩ := spec_IsSemigroup_ev g hlen
  unfold spec_Contains.f
  cases b with
  | false => exact ⟨false, ⟨(fun e => by cases e), fun e => by have := b1.2 e.1; cases this⟩, Ev.bnd b2 (Ev.neg (by decide) (Ev.now _))⟩
  | true =>
    have hS := b1.1 rfl
    exact ⟨elB g n, ⟨fun e => ⟨hS, (elB_iff g n).1 e⟩, fun e => (elB_iff g n).2 e.2⟩, Ev.bnd b2 (Ev.pos rfl (Ev.bnd (spec_l3Has_el g hS n) (Ev.now _)))⟩
theorem apery_both (g : List Int) (hlen : g.length ≤ 1048576) (n : Int) (hn64 : n ≤ 9223372036854775807) : ∃ r, (r.length ≤ 60 ∧ (∀ x ∈ r, 0 ≤ x ∧ x ≤ 259) ∧ (r ≠ [] → 1 ≤ n ∧ n ≤ 60)) ∧ Ev (fun k => spec_AperySet.f k g n) r ∧ Ev (fun k => impl_AperySet.f k g n) r := by
  obtain ⟨b, b1, b2⟩ := spec_Contains_ev g hlen n
  obtain ⟨c, c1, c2⟩ := impl_Contains_ev g hlen n hn64
  obtain rfl := bool_same b1 c1
  have w1 := spec_l1In_ev n 1 60
  have w2 := impl_within_ev n 1 60
  have out_ : Ev (fun k => impl_AperySet.j0 k n true g) [] := Ev.one (fun k => by rw [impl_AperySet.j0]) (Ev.pos rfl (Ev.now _))
  unfold spec_AperySet.f impl_AperySet.f
  by_cases hn : 1 ≤ n ∧ n ≤ 60
  rotate_left
  · rw [decide_eq_false hn] at w1 w2
    refine ⟨[], ⟨by simp, by simp, by simp⟩, Ev.bnd b2 ?_, Ev.bnd w2 (Ev.neg (by decide) out_)⟩
    cases b with
    | true => exact Ev.pos rfl (Ev.bnd w1 (Ev.neg (by decide) (Ev.now _)))
    | false => exact Ev.neg (by decide) (Ev.now _)
  rw [decide_eq_true hn] at w1 w2
  cases b with
  | false => exact ⟨[], ⟨by simp, by simp, by simp⟩, Ev.bnd b2 (Ev.neg (by decide) (Ev.now _)), Ev.bnd w2 (Ev.pos rfl (Ev.bnd c2 out_))⟩
  | true =>
    have hS := (b1.1 rfl).1
    obtain ⟨q, rfl⟩ : ∃ q : Nat, n = (q : Int) := ⟨n.toNat, by omega⟩
    have hq : 1 ≤ q ∧ q ≤ 60 := by omega
    have hex : ∀ r : Nat, ∃ m, r < q → m ≤ 199 + q ∧ isAp g q r m := fun r => by
      by_cases hr : r < q
      · obtain ⟨m, hm⟩ := ap_exists g hS q r hq hr
        exact ⟨m, fun _ => hm⟩
      · exact ⟨0, fun h => absurd h hr⟩
    obtain ⟨A, hA⟩ := Classical.axiomOfChoice hex
    refine ⟨(List.range q).map fun r => (A r : Int), ⟨by simp; omega, fun x hx => ?_, fun _ => hn⟩, ?_, ?_⟩
    · obtain ⟨r, hr, rfl⟩ := List.mem_map.1 hx
      rw [List.mem_range] at hr
      have := (hA r hr).1
      omega
    · refine Ev.bnd b2 (Ev.pos rfl (Ev.bnd w1 (Ev.pos rfl (Ev.bnd (a := (List.range q).map fun r => (A r : Int)) ?_ (Ev.now _)))))
      unfold spec_l6Apery.f
      refine Ev.bnd (spec_tbl_ev g 260 (fun x hx => (hS.rng x hx).1) hlen (by omega)) ?_
      have key : ∀ d r, r + d = q → Ev (fun k => spec_l6Apery.l0 k (q : Int) (tblL g 261) ((List.range r).map fun r => (A r : Int)) (r : Int)) ((List.range q).map fun r => (A r : Int)) := by
        intro d
        induction d with
        | zero =>
          intro r hr
          obtain rfl : r = q := by omega
          refine Ev.one (fun k => by rw [spec_l6Apery.l0]) ?_
          exact Ev.neg (by omega) (Ev.now _)
        | succ d ih =>
          intro r hr
          have ih := ih (r + 1) (by omega)
          rw [List.range_succ, List.map_append] at ih
          refine Ev.one (fun k => by rw [spec_l6Apery.l0]) ?_
          refine Ev.pos (by omega) ?_
          have := spec_ap_l1 g q r (A r) hq (hA r (by omega)).1 (hA r (by omega)).2 ((List.range r).map fun r => (A r : Int)) (by simp; omega) ih (by omega) (A r / q) 0 (by omega)
          rw [Nat.mul_zero, Nat.zero_add] at this
          exact this
      exact key q 0 (by omega)
    · refine Ev.bnd w2 (Ev.pos rfl (Ev.bnd c2 (Ev.one (fun k => by rw [impl_AperySet.j0]) ?_)))
      rw [Int.toNat_natCast, w64_of (x := 200 + (q : Int)) (by omega) (by omega), show (200 : Int) + (q : Int) = ((200 + q : Nat) : Int) from by omega]
      refine Ev.neg (by decide) (Ev.pos (by omega) (Ev.pos (by omega) (Ev.some (Ev.bnd (impl_table_ev g hS (200 + q) (by omega)) ?_))))
      rw [List.length_replicate]
      have key : ∀ d r, r + d = q → Ev (fun k => impl_AperySet.l0 k (q : Int) (((List.range r).map fun r => (A r : Int)) ++ List.replicate d 0) (tblL g (200 + q + 1)) (q : Int) (r : Int)) ((List.range q).map fun r => (A r : Int)) := by
        intro d
        induction d with
        | zero =>
          intro r hr
          obtain rfl : r = q := by omega
          refine Ev.one (fun k => by rw [impl_AperySet.l0]) ?_
          rw [List.replicate_zero, List.append_nil]
          exact Ev.neg (by omega) (Ev.now _)
        | succ d ih =>
          intro r hr
          have ih := ih (r + 1) (by omega)
          rw [List.range_succ, List.map_append, List.append_assoc] at ih
          refine Ev.one (fun k => by rw [impl_AperySet.l0]) ?_
          refine Ev.pos (by omega) ?_
          rw [List.replicate_succ]
          exact impl_ap_l1 g q r (A r) hq (hA r (by omega)).1 (hA r (by omega)).2 ((List.range r).map fun r => (A r : Int)) (List.replicate d 0) (by simp) ih (by omega) (A r) 0 (by omega)
      exact key q 0 (by omega)
end Go.Proofs.Ytiejmnnnjmmifaa.Pure
