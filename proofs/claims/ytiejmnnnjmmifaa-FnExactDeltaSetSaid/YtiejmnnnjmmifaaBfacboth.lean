/- Plain lemmas (facboth): no program, no memory. -/
import Derived.Test.YtiejmnnnjmmifaaC0
import Derived.Test.YtiejmnnnjmmifaaC7
import Derived.Test.YtiejmnnnjmmifaaC8
import Derived.Test.YtiejmnnnjmmifaaBwithin
import Derived.Test.YtiejmnnnjmmifaaBgcd
import Derived.Test.YtiejmnnnjmmifaaBissg
import Derived.Test.YtiejmnnnjmmifaaBshell
import Derived.Test.YtiejmnnnjmmifaaBfactor
import Derived.Test.YtiejmnnnjmmifaaBpigeon
import Derived.Test.YtiejmnnnjmmifaaBbase
namespace Go.Proofs.Ytiejmnnnjmmifaa.Pure
open Go.RowKit Go.Proofs.Ytiejmnnnjmmifaa.C Go.Proofs.YtiejmnnnjmmifaaW.PrintWords Go.Proofs.YtiejmnnnjmmifaaW.PrintLast Go.Proofs.YtiejmnnnjmmifaaW.PrintMore
set_option linter.unusedVariables false
set_option linter.unusedSimpArgs false
/-! facboth: spec.Factorizations and impl.Factorizations -/
theorem rd_L2_at (xs : List (List Int)) (i : Nat) (h : i < xs.length) : rd_L2 xs (i : Int) = xs[i] := by
  unfold rd_L2
  rw [Int.toNat_natCast, List.getD_eq_getElem?_getD, List.getElem?_eq_getElem h, Option.getD_some]
theorem tdiv_nat (a b : Nat) : Int.tdiv (a : Int) (b : Int) = ((a / b : Nat) : Int) := by
  rw [Int.tdiv_eq_ediv_of_nonneg (by omega)]
  simp
/-- What is left of n behind q times a. -/
theorem left_nat (n q a : Nat) (hk2 : q * a ≤ n) (hn : n ≤ 100) : (n : Int) - (q : Int) * (a : Int) = ((n - q * a : Nat) : Int) ∧ wrap64 ((q : Int) * (a : Int)) = (q : Int) * (a : Int) ∧ wrap64 ((n : Int) - (q : Int) * (a : Int)) = ((n - q * a : Nat) : Int) ∧ n - q * a ≤ 100 := by
  generalize hx : q * a = x at hk2
  have e0 : (q : Int) * (a : Int) = (x : Int) := by rw [← hx, Int.natCast_mul]
  rw [e0]
  have e : (n : Int) - (x : Int) = ((n - x : Nat) : Int) := by omega
  exact ⟨e, w64_of (by omega) (by omega), by rw [e]; exact w64_of (by omega) (by omega), by omega⟩
theorem w64_pred (q : Nat) (h : q ≤ 1000000000000) : wrap64 (((q + 1 : Nat) : Int) - 1) = (q : Int) := by
  rw [w64_of (by omega) (by omega)]
  omega
theorem w64_pred0 : wrap64 (((0 : Nat) : Int) - 1) = -1 := w64_of (by omega) (by omega)
theorem len_left {α : Type} (a b : List α) (c : Nat) (h : (a ++ b).length ≤ c) : a.length ≤ c := by
  rw [List.length_append] at h
  omega
theorem downF_zero (F : Int → List (List Int)) : downF F 0 = F ((0 : Nat) : Int) := rfl
theorem fac_prefix (F : Int → List (List Int)) (acc : List (List Int)) (q : Nat) : (acc ++ F ((q + 1 : Nat) : Int)) ++ downF F q = acc ++ downF F (q + 1) := by rw [List.append_assoc]; rfl
section
variable (g : List Int) (hS : SG g)
include hS
theorem impl_factored_ev : ∀ (gs : List Int), (∀ x ∈ gs, x ∈ g) → gs.length ≤ g.length → ∀ n : Nat, n ≤ 100 → Ev (fun k => impl_factored.f k gs (n : Int)) (facL gs (n : Int))
  | [], _, _, n, hn => by
    refine Ev.one (fun k => by rw [impl_factored.f]) ?_
    unfold facL
    refine Ev.pos rfl ?_
    by_cases h : (n : Int) = 0
    · simp only [if_pos h]; exact Ev.now _
    · simp only [if_neg h]; exact Ev.now _
  | x :: gs, hs, hl, n, hn => by
    have ih := fun m hm => impl_factored_ev gs (fun y hy => hs y (List.mem_cons_of_mem _ hy)) (by simp at hl; omega) m hm
    have hx := hS.rng x (hs x (List.mem_cons_self ..))
    have hl12 := hS.len2
    have hlg : gs.length ≤ 12 := by simp at hl; omega
    obtain ⟨a, rfl⟩ : ∃ a : Nat, x = (a : Int) := ⟨x.toNat, by omega⟩
    have hd : ((n : Int) / (a : Int)).toNat = n / a := by rw [← Int.natCast_ediv, Int.toNat_natCast]
    have hroom := facL_room g hS ((a : Int) :: gs) hs hl n hn
    have e0 : rd ((a : Int) :: gs) 0 = (a : Int) := rfl
    have hdn : n / a ≤ n := Nat.div_le_self n a
    have hdw : wrap64 ((n / a : Nat) : Int) = ((n / a : Nat) : Int) := by
      generalize n / a = x at hdn
      exact w64_of (by omega) (by omega)
    refine Ev.one (fun k => by rw [impl_factored.f]) ?_
    rw [e0, tdiv_nat, hdw]
    refine Ev.neg (by rw [List.length_cons]; omega) (Ev.pos (by rw [List.length_cons]; omega) (Ev.neg (by omega) ?_))
    have hfull : facL ((a : Int) :: gs) (n : Int) = downF (fun k => (facL gs ((n : Int) - k * (a : Int))).map fun l => k :: l) (n / a) := by rw [← hd]; rfl
    rw [hfull] at hroom ⊢
    -- the loop over the numbers of the first generator, from the greatest one on
    have loop : ∀ (q : Nat) (acc : List (List Int)), q ≤ n / a → (acc ++ downF (fun k => (facL gs ((n : Int) - k * (a : Int))).map fun l => k :: l) q).length ≤ 100000000000 →
        Ev (fun k => impl_factored.l0 k ((a : Int) :: gs) (n : Int) acc (q : Int)) (acc ++ downF (fun k => (facL gs ((n : Int) - k * (a : Int))).map fun l => k :: l) q) := by
      intro q
      -- one round: then 'rest'
      have round : ∀ (q : Nat) (acc : List (List Int)) (res : List (List Int)), q ≤ n / a → (acc ++ (facL gs ((n : Int) - (q : Int) * (a : Int))).map fun l => (q : Int) :: l).length ≤ 100000000000 →
          Ev (fun k => impl_factored.l0 k ((a : Int) :: gs) (n : Int) (acc ++ (facL gs ((n : Int) - (q : Int) * (a : Int))).map fun l => (q : Int) :: l) (wrap64 ((q : Int) - 1))) res →
          Ev (fun k => impl_factored.l0 k ((a : Int) :: gs) (n : Int) acc (q : Int)) res := by
        intro q acc res hq hlen hrest
        have hk2 : q * a ≤ n := Nat.le_trans (Nat.mul_le_mul_right a hq) (Nat.div_mul_le_self n a)
        obtain ⟨e, e1, e2, hle⟩ := left_nat n q a hk2 hn
        rw [e] at hlen hrest
        have hmem := facL_mem gs (n - q * a)
        have ih := ih (n - q * a) hle
        generalize facL gs ((n - q * a : Nat) : Int) = sub at hlen hrest ih hmem
        have hsl : ∀ l ∈ sub, l.length = gs.length := fun l hl => ((hmem l (fun y hy => (hS.rng y (hs y (List.mem_cons_of_mem _ hy))).1)).1 hl).1
        rw [List.length_append, List.length_map] at hlen
        refine Ev.one (fun k => by rw [impl_factored.l0]) ?_
        rw [e0, e1, e2, show List.drop 1 ((a : Int) :: gs) = gs from rfl]
        refine Ev.pos (by omega) (Ev.pos (by rw [List.length_cons]; omega) (Ev.pos (by rw [List.length_cons]; omega) (Ev.bnd ih ?_)))
        have inner : ∀ (d i : Nat), i + d = sub.length → Ev (fun k => impl_factored.l1 k ((a : Int) :: gs) (n : Int) (acc ++ (sub.take i).map fun l => (q : Int) :: l) (q : Int) sub (sub.length : Int) (i : Int)) res := by
          intro d
          induction d with
          | zero =>
            intro i hi
            rw [List.take_of_length_le (by omega)]
            refine Ev.one (fun k => by rw [impl_factored.l1]) ?_
            exact Ev.neg (by omega) hrest
          | succ d ihd =>
            intro i hi
            have hil : i < sub.length := by omega
            have ihd := ihd (i + 1) (by omega)
            rw [List.take_succ_eq_append_getElem hil, List.map_append, List.map_cons, List.map_nil, ← List.append_assoc] at ihd
            refine Ev.one (fun k => by rw [impl_factored.l1]) ?_
            rw [rd_L2_at sub i hil, w64_succ i (by omega)]
            have := hsl sub[i] (List.getElem_mem hil)
            exact Ev.pos (by omega) (Ev.pos (by omega) (Ev.pos (by omega) (Ev.some (Ev.pos (by rw [List.length_singleton]; omega) (Ev.pos (by rw [List.length_append, List.length_map, List.length_take]; omega) ihd)))))
        have h := inner sub.length 0 (by omega)
        rw [List.take_zero, List.map_nil, List.append_nil] at h
        exact h
      induction q with
      | zero =>
        intro acc hq hlen
        rw [downF_zero] at hlen ⊢
        refine round 0 acc _ hq hlen ?_
        rw [w64_pred0]
        refine Ev.one (fun k => by rw [impl_factored.l0]) ?_
        exact Ev.neg (by decide) (Ev.now _)
      | succ q ihq =>
        intro acc hq hlen
        rw [← fac_prefix] at hlen ⊢
        refine round (q + 1) acc _ hq (len_left _ _ _ hlen) ?_
        rw [w64_pred q (Nat.le_trans (Nat.le_of_succ_le hq) (Nat.le_trans hdn (Nat.le_trans hn (by decide))))]
        exact ihq _ (Nat.le_of_succ_le hq) hlen
    have h := loop (n / a) [] (Nat.le_refl _) (by rw [List.nil_append]; exact hroom)
    rw [List.nil_append] at h
    exact h
theorem spec_l11Find_ev (hp : g ≠ []) : ∀ (gs : List Int) (done : List Int), g = g.take done.length ++ gs → gs ≠ [] → done.length + gs.length = g.length → ∀ n : Nat, n ≤ 100 →
    Ev (fun k => spec_l11Find.f k g (n : Int) done) ((facL gs (n : Int)).map fun l => done ++ l)
  | [], _, _, h, _, _, _ => absurd rfl h
  | [x], done, hg, _, hl, n, hn => by
    have hl12 := hS.len2
    have hlt : done.length < g.length := by simp at hl; omega
    have hx : g[done.length] = x := by
      have h1 : (g.take done.length ++ [x])[done.length]? = some x := by
        rw [List.getElem?_append_right (by rw [List.length_take]; omega), List.length_take, Nat.min_eq_left (by omega), Nat.sub_self]
        rfl
      rw [← hg, List.getElem?_eq_getElem hlt] at h1
      exact Option.some.inj h1
    have hr := hS.rng _ (List.getElem_mem hlt)
    rw [hx] at hr
    obtain ⟨a, rfl⟩ : ∃ a : Nat, x = (a : Int) := ⟨x.toNat, by omega⟩
    have e1 : rd g (done.length : Int) = (a : Int) := by rw [rd_at g _ hlt, hx]
    have e2 : wrap64 ((g.length : Int) - 1) = (done.length : Int) := by rw [w64_of (by omega) (by omega)]; simp at hl; omega
    have hdn : n / a ≤ n := Nat.div_le_self n a
    have hdw : wrap64 ((n / a : Nat) : Int) = ((n / a : Nat) : Int) := by
      generalize n / a = x at hdn
      exact w64_of (by omega) (by omega)
    rw [facL_one a (by omega) n]
    refine Ev.one (fun k => by rw [spec_l11Find.f]) ?_
    rw [e1, e2, tmod_nat, tdiv_nat, hdw]
    refine Ev.neg (by omega) (Ev.some (Ev.pos rfl (Ev.pos (by omega) (Ev.pos (by omega) (Ev.neg (by omega) ?_)))))
    by_cases h : n % a = 0
    · rw [if_pos h]
      refine Ev.pos (by omega) (Ev.some (Ev.pos (by simp; omega) (Ev.some (Ev.some (Ev.pos (by simp; omega) (Ev.some (Ev.pos (by simp) ?_)))))))
      exact Ev.now _
    · rw [if_neg h]
      exact Ev.neg (by omega) (Ev.now _)
  | x :: y :: gs, done, hg, _, hl, n, hn => by
    have hl12 := hS.len2
    have hlt : done.length < g.length := by simp at hl; omega
    have hx : g[done.length] = x := by
      have h1 : (g.take done.length ++ (x :: y :: gs))[done.length]? = some x := by
        rw [List.getElem?_append_right (by rw [List.length_take]; omega), List.length_take, Nat.min_eq_left (by omega), Nat.sub_self]
        rfl
      rw [← hg, List.getElem?_eq_getElem hlt] at h1
      exact Option.some.inj h1
    have hr := hS.rng _ (List.getElem_mem hlt)
    rw [hx] at hr
    obtain ⟨a, rfl⟩ : ∃ a : Nat, x = (a : Int) := ⟨x.toNat, by omega⟩
    have e1 : rd g (done.length : Int) = (a : Int) := by rw [rd_at g _ hlt, hx]
    have e2 : wrap64 ((g.length : Int) - 1) = (g.length : Int) - 1 := w64_of (by omega) (by omega)
    have hd : ((n : Int) / (a : Int)).toNat = n / a := by rw [← Int.natCast_ediv, Int.toNat_natCast]
    have hdn : n / a ≤ n := Nat.div_le_self n a
    have hdw : wrap64 ((n / a : Nat) : Int) = ((n / a : Nat) : Int) := by
      generalize n / a = x at hdn
      exact w64_of (by omega) (by omega)
    have hsub : ∀ z ∈ (a : Int) :: y :: gs, z ∈ g := fun z hz => by rw [hg]; exact List.mem_append_right _ hz
    have hroom := facL_room g hS ((a : Int) :: y :: gs) hsub (by omega) n hn
    have hnext : ∀ k : Int, g = g.take (done ++ [k]).length ++ (y :: gs) := by
      intro k
      have h2 : g.take (done.length + 1) = g.take done.length ++ [(a : Int)] := by rw [List.take_succ_eq_append_getElem hlt, hx]
      rw [List.length_append, List.length_singleton, h2, List.append_assoc]
      exact hg
    have hfull : facL ((a : Int) :: y :: gs) (n : Int) = downF (fun k => (facL (y :: gs) ((n : Int) - k * (a : Int))).map fun l => k :: l) (n / a) := by rw [← hd]; rfl
    refine Ev.one (fun k => by rw [spec_l11Find.f]) ?_
    rw [e1, e2, tdiv_nat, hdw]
    refine Ev.neg (by omega) (Ev.some (Ev.neg (by simp at hl; omega) (Ev.pos (by omega) (Ev.pos (by omega) (Ev.neg (by omega) ?_)))))
    rw [hfull] at hroom ⊢
    have loop : ∀ (q : Nat) (acc : List (List Int)), q ≤ n / a → (acc ++ downF (fun k => (facL (y :: gs) ((n : Int) - k * (a : Int))).map fun l => k :: l) q).length ≤ 100000000000 →
        Ev (fun k => spec_l11Find.l0 k g (n : Int) done (done.length : Int) (acc.map fun l => done ++ l) (q : Int)) ((acc ++ downF (fun k => (facL (y :: gs) ((n : Int) - k * (a : Int))).map fun l => k :: l) q).map fun l => done ++ l) := by
      intro q
      have round : ∀ (q : Nat) (acc : List (List Int)) (res : List (List Int)), q ≤ n / a → (acc ++ (facL (y :: gs) ((n : Int) - (q : Int) * (a : Int))).map fun l => (q : Int) :: l).length ≤ 100000000000 →
          Ev (fun k => spec_l11Find.l0 k g (n : Int) done (done.length : Int) ((acc ++ (facL (y :: gs) ((n : Int) - (q : Int) * (a : Int))).map fun l => (q : Int) :: l).map fun l => done ++ l) (wrap64 ((q : Int) - 1))) res →
          Ev (fun k => spec_l11Find.l0 k g (n : Int) done (done.length : Int) (acc.map fun l => done ++ l) (q : Int)) res := by
        intro q acc res hq hlen hrest
        have hk2 : q * a ≤ n := Nat.le_trans (Nat.mul_le_mul_right a hq) (Nat.div_mul_le_self n a)
        obtain ⟨e, e3, e4, hle⟩ := left_nat n q a hk2 hn
        rw [e] at hlen hrest
        have ih := spec_l11Find_ev hp (y :: gs) (done ++ [(q : Int)]) (hnext _) (by simp) (by simp at hl ⊢; omega) (n - q * a) hle
        have emap : ((facL (y :: gs) ((n - q * a : Nat) : Int)).map fun l => (done ++ [(q : Int)]) ++ l) = (((facL (y :: gs) ((n - q * a : Nat) : Int)).map fun l => (q : Int) :: l).map fun l => done ++ l) := by
          rw [List.map_map]
          apply List.map_congr_left
          intro l _
          simp
        rw [emap] at ih
        generalize facL (y :: gs) ((n - q * a : Nat) : Int) = sub at hlen hrest ih
        rw [List.length_append, List.length_map] at hlen
        rw [List.map_append] at hrest
        refine Ev.one (fun k => by rw [spec_l11Find.l0]) ?_
        rw [e1, e3, e4]
        refine Ev.pos (by omega) (Ev.pos (by omega) (Ev.pos (by omega) (Ev.some (Ev.pos (by simp; omega) (Ev.some (Ev.some (Ev.pos (by simp; omega) (Ev.bnd ih (Ev.pos (by simp; omega) hrest)))))))))
      induction q with
      | zero =>
        intro acc hq hlen
        rw [downF_zero] at hlen ⊢
        refine round 0 acc _ hq hlen ?_
        rw [w64_pred0]
        refine Ev.one (fun k => by rw [spec_l11Find.l0]) ?_
        exact Ev.neg (by decide) (Ev.now _)
      | succ q ihq =>
        intro acc hq hlen
        rw [← fac_prefix] at hlen ⊢
        refine round (q + 1) acc _ hq (len_left _ _ _ hlen) ?_
        rw [w64_pred q (Nat.le_trans (Nat.le_of_succ_le hq) (Nat.le_trans hdn (Nat.le_trans hn (by decide))))]
        exact ihq _ (Nat.le_of_succ_le hq) hlen
    have h := loop (n / a) [] (Nat.le_refl _) (by rw [List.nil_append]; exact hroom)
    rw [List.nil_append] at h
    exact h
end
/-- What Factorizations answers. -/
def facS (b : Bool) (g : List Int) (n : Int) : List (List Int) := if b = true ∧ (0 ≤ n ∧ n ≤ 100) then facL g n else []
theorem fac_both (g : List Int) (hlen : g.length ≤ 1048576) (n : Int) : ∃ b, (b = true ↔ SG g) ∧ Ev (fun k => spec_Factorizations.f k g n) (facS b g n) ∧ Ev (fun k => impl_Factorizations.f k g n) (facS b g n) := by
  obtain ⟨b, b1, b2, b3⟩ := sg_both g hlen
  refine ⟨b, b1, ?_⟩
  unfold spec_Factorizations.f impl_Factorizations.f facS
  cases b with
  | false =>
    rw [if_neg (fun e => by cases e.1)]
    exact ⟨Ev.bnd b2 (Ev.neg (by decide) (Ev.now _)), Ev.bnd b3 (Ev.neg (by decide) (Ev.now _))⟩
  | true =>
    have hS := b1.1 rfl
    have hl1 := hS.len1
    by_cases h : 0 ≤ n ∧ n ≤ 100
    · obtain ⟨m, rfl⟩ : ∃ m : Nat, n = (m : Int) := ⟨n.toNat, by omega⟩
      rw [if_pos ⟨rfl, h⟩]
      have hne : g ≠ [] := fun e => by subst e; simp at hl1
      have h1 := spec_l11Find_ev g hS hne g [] (by simp) hne (by simp) m (by omega)
      have e1 : ((facL g (m : Int)).map fun l => [] ++ l) = facL g (m : Int) := by simp
      rw [e1] at h1
      exact ⟨Ev.bnd b2 (Ev.pos rfl (Ev.bnd (spec_l1In_ev _ _ _) (Ev.pos (decide_eq_true h) (Ev.bnd h1 (Ev.now _))))),
        Ev.bnd b3 (Ev.pos rfl (Ev.bnd (impl_within_ev _ _ _) (Ev.pos (decide_eq_true h) (Ev.bnd (impl_factored_ev g hS g (fun x hx => hx) (Nat.le_refl _) m (by omega)) (Ev.now _)))))⟩
    · rw [if_neg (fun e => h e.2)]
      exact ⟨Ev.bnd b2 (Ev.pos rfl (Ev.bnd (spec_l1In_ev _ _ _) (Ev.neg (by rw [decide_eq_false h]; decide) (Ev.now _)))),
        Ev.bnd b3 (Ev.pos rfl (Ev.bnd (impl_within_ev _ _ _) (Ev.neg (by rw [decide_eq_false h]; decide) (Ev.now _))))⟩
end Go.Proofs.Ytiejmnnnjmmifaa.Pure
