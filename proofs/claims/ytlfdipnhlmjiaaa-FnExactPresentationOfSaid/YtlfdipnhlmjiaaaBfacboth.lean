/- Plain lemmas (facboth, facsmall, minmax, label, classes, classboth, betti2, releq, relres, pres): no program, no memory. -/
import Derived.Test.YtlfdipnhlmjiaaaC0
import Derived.Test.YtlfdipnhlmjiaaaC1
import Derived.Test.YtlfdipnhlmjiaaaC10
import Derived.Test.YtlfdipnhlmjiaaaC11
import Derived.Test.YtlfdipnhlmjiaaaC12
import Derived.Test.YtlfdipnhlmjiaaaC4
import Derived.Test.YtlfdipnhlmjiaaaC5
import Derived.Test.YtlfdipnhlmjiaaaC6
import Derived.Test.YtlfdipnhlmjiaaaC7
import Derived.Test.YtlfdipnhlmjiaaaC9
import Derived.Test.YtlfdipnhlmjiaaaBbase
namespace Go.Proofs.Ytlfdipnhlmjiaaa.Pure
open Go.RowKit Go.Proofs.Ytlfdipnhlmjiaaa.C Go.Proofs.YtlfdipnhlmjiaaaW.PrintWords Go.Proofs.YtlfdipnhlmjiaaaW.PrintLast Go.Proofs.YtlfdipnhlmjiaaaW.PrintMore
set_option linter.unusedVariables false
set_option linter.unusedSimpArgs false
/-! facboth: spec.Factorizations and impl.Factorizations -/
theorem rd_L2_at (xs : List (List Int)) (i : Nat) (h : i < xs.length) : rd_L2 xs (i : Int) = xs[i] := by
 unfold rd_L2
 rw [Int.toNat_natCast, List.getD_eq_getElem?_getD, List.getElem?_eq_getElem h, Option.getD_some]
theorem tdiv_nat (a b : Nat) : Int.tdiv (a : Int) (b : Int) = ((a / b : Nat) : Int) := by
 rw [Int.tdiv_eq_ediv_of_nonneg (by omega)]
 simp
/-- What is left of n behind q times a. -/
theorem left_nat (n q a : Nat) (hk2 : q * a ≤ n) (hn : n ≤ 100) : (n : Int) - (q : Int) * (a : Int) = ((n - q * a : Nat) : Int) ∧ wrap64 ((q : Int) * (a : Int)) = (q : Int) * (a : Int) ∧ wrap64 ((n : Int) - (q : Int) * (a : Int)) = ((n - q * a : Nat) : Int) ∧ n - q * a ≤ 100 := by
 generalize hx : q * a = x at hk2
 have e0 : (q : Int) * (a : Int) = (x : Int) := by rw [← hx, Int.natCast_mul]
 rw [e0]
 have e : (n : Int) - (x : Int) = ((n - x : Nat) : Int) := by omega
 exact ⟨e, w64_of (by omega) (by omega), by rw [e]; exact w64_of (by omega) (by omega), by omega⟩
theorem w64_pred (q : Nat) (h : q ≤ 1000000000000) : wrap64 (((q + 1 : Nat) : Int) - 1) = (q : Int) := by
 rw [w64_of (by omega) (by omega)]
 omega
theorem w64_pred0 : wrap64 (((0 : Nat) : Int) - 1) = -1 := w64_of (by omega) (by omega)
theorem len_left {α : Type} (a b : List α) (c : Nat) (h : (a ++ b).length ≤ c) : a.length ≤ c := by
 rw [List.length_append] at h
 omega
theorem downF_zero (F : Int → List (List Int)) : downF F 0 = F ((0 : Nat) : Int) := rfl
theorem fac_prefix (F : Int → List (List Int)) (acc : List (List Int)) (q : Nat) : (acc ++ F ((q + 1 : Nat) : Int)) ++ downF F q = acc ++ downF F (q + 1) := by rw [List.append_assoc]; rfl
section
variable (g : List Int) (hS : SG g)
include hS
theorem impl_factored_ev : ∀ (gs : List Int), (∀ x ∈ gs, x ∈ g) → gs.length ≤ g.length → ∀ n : Nat, n ≤ 100 → Ev (fun k => impl_factored.f k gs (n : Int)) (facL gs (n : Int))
 | [], _, _, n, hn => by
  refine Ev.one (fun k => by rw [impl_factored.f]) ?_
  unfold facL
  refine Ev.pos rfl ?_
  by_cases h : (n : Int) = 0
  ·simp only [if_pos h]; exact Ev.now _
  ·simp only [if_neg h]; exact Ev.now _
 | x :: gs, hs, hl, n, hn => by
  have ih := fun m hm => impl_factored_ev gs (fun y hy => hs y (List.mem_cons_of_mem _ hy)) (by simp at hl; omega) m hm
  have hx := hS.rng x (hs x (List.mem_cons_self ..))
  have hl12 := hS.len2
  have hlg : gs.length ≤ 12 := by simp at hl; omega
  obtain ⟨a, rfl⟩ : ∃ a : Nat, x = (a : Int) := ⟨x.toNat, by omega⟩
  have hd : ((n : Int) / (a : Int)).toNat = n / a := by rw [← Int.natCast_ediv, Int.toNat_natCast]
  have hroom := facL_room g hS ((a : Int) :: gs) hs hl n hn
  have e0 : rd ((a : Int) :: gs) 0 = (a : Int) := rfl
  have hdn : n / a ≤ n := Nat.div_le_self n a
  have hdw : wrap64 ((n / a : Nat) : Int) = ((n / a : Nat) : Int) := by
   generalize n / a = x at hdn
   exact w64_of (by omega) (by omega)
  refine Ev.one (fun k => by rw [impl_factored.f]) ?_
  rw [e0, tdiv_nat, hdw]
  refine Ev.neg (by rw [List.length_cons]; omega) (Ev.pos (by rw [List.length_cons]; omega) (Ev.neg (by omega) ?_))
  have hfull : facL ((a : Int) :: gs) (n : Int) = downF (fun k => (facL gs ((n : Int) - k * (a : Int))).map fun l => k :: l) (n / a) := by rw [← hd]; rfl
  rw [hfull] at hroom ⊢
  -- the loop over the numbers of the first generator, from the greatest one on
  have loop : ∀ (q : Nat) (acc : List (List Int)), q ≤ n / a → (acc ++ downF (fun k => (facL gs ((n : Int) - k * (a : Int))).map fun l => k :: l) q).length ≤ 100000000000 →
    Ev (fun k => impl_factored.l0 k ((a : Int) :: gs) (n : Int) acc (q : Int)) (acc ++ downF (fun k => (facL gs ((n : Int) - k * (a : Int))).map fun l => k :: l) q) := by
   intro q
   -- one round: then 'rest'
   have round : ∀ (q : Nat) (acc : List (List Int)) (res : List (List Int)), q ≤ n / a → (acc ++ (facL gs ((n : Int) - (q : Int) * (a : Int))).map fun l => (q : Int) :: l).length ≤ 100000000000 →
     Ev (fun k => impl_factored.l0 k ((a : Int) :: gs) (n : Int) (acc ++ (facL gs ((n : Int) - (q : Int) * (a : Int))).map fun l => (q : Int) :: l) (wrap64 ((q : Int) - 1))) res →
     Ev (fun k => impl_factored.l0 k ((a : Int) :: gs) (n : Int) acc (q : Int)) res := by
    intro q acc res hq hlen hrest
    have hk2 : q * a ≤ n := Nat.le_trans (Nat.mul_le_mul_right a hq) (Nat.div_mul_le_self n a)
    obtain ⟨e, e1, e2, hle⟩ := left_nat n q a hk2 hn
    rw [e] at hlen hrest
    have hmem := facL_mem gs (n - q * a)
    have ih := ih (n - q * a) hle
    generalize facL gs ((n - q * a : Nat) : Int) = sub at hlen hrest ih hmem
    have hsl : ∀ l ∈ sub, l.length = gs.length := fun l hl => ((hmem l (fun y hy => (hS.rng y (hs y (List.mem_cons_of_mem _ hy))).1)).1 hl).1
    rw [List.length_append, List.length_map] at hlen
    refine Ev.one (fun k => by rw [impl_factored.l0]) ?_
    rw [e0, e1, e2, show List.drop 1 ((a : Int) :: gs) = gs from rfl]
    refine Ev.pos (by omega) (Ev.pos (by rw [List.length_cons]; omega) (Ev.pos (by rw [List.length_cons]; omega) (Ev.bnd ih ?_)))
    have inner : ∀ (d i : Nat), i + d = sub.length → Ev (fun k => impl_factored.l1 k ((a : Int) :: gs) (n : Int) (acc ++ (sub.take i).map fun l => (q : Int) :: l) (q : Int) sub (sub.length : Int) (i : Int)) res := by
     intro d
     induction d with
     | zero =>
      intro i hi
      rw [List.take_of_length_le (by omega)]
      refine Ev.one (fun k => by rw [impl_factored.l1]) ?_
      exact Ev.neg (by omega) hrest
     | succ d ihd =>
      intro i hi
      have hil : i < sub.length := by omega
      have ihd := ihd (i + 1) (by omega)
      rw [List.take_succ_eq_append_getElem hil, List.map_append, List.map_cons, List.map_nil, ← List.append_assoc] at ihd
      refine Ev.one (fun k => by rw [impl_factored.l1]) ?_
      rw [rd_L2_at sub i hil, w64_succ i (by omega)]
      have := hsl sub[i] (List.getElem_mem hil)
      exact Ev.pos (by omega) (Ev.pos (by omega) (Ev.pos (by omega) (Ev.some (Ev.pos (by rw [List.length_singleton]; omega) (Ev.pos (by rw [List.length_append, List.length_map, List.length_take]; omega) ihd)))))
    have h := inner sub.length 0 (by omega)
    rw [List.take_zero, List.map_nil, List.append_nil] at h
    exact h
   induction q with
   | zero =>
    intro acc hq hlen
    rw [downF_zero] at hlen ⊢
    refine round 0 acc _ hq hlen ?_
    rw [w64_pred0]
    refine Ev.one (fun k => by rw [impl_factored.l0]) ?_
    exact Ev.neg (by decide) (Ev.now _)
   | succ q ihq =>
    intro acc hq hlen
    rw [← fac_prefix] at hlen ⊢
    refine round (q + 1) acc _ hq (len_left _ _ _ hlen) ?_
    rw [w64_pred q (Nat.le_trans (Nat.le_of_succ_le hq) (Nat.le_trans hdn (Nat.le_trans hn (by decide))))]
    exact ihq _ (Nat.le_of_succ_le hq) hlen
  have h := loop (n / a) [] (Nat.le_refl _) (by rw [List.nil_append]; exact hroom)
  rw [List.nil_append] at h
  exact h
theorem spec_l11Find_ev (hp : g ≠ []) : ∀ (gs : List Int) (done : List Int), g = g.take done.length ++ gs → gs ≠ [] → done.length + gs.length = g.length → ∀ n : Nat, n ≤ 100 →
  Ev (fun k => spec_l11Find.f k g (n : Int) done) ((facL gs (n : Int)).map fun l => done ++ l)
 | [], _, _, h, _, _, _ => absurd rfl h
 | [x], done, hg, _, hl, n, hn => by
  have hl12 := hS.len2
  have hlt : done.length < g.length := by simp at hl; omega
  have hx : g[done.length] = x := by
   have h1 : (g.take done.length ++ [x])[done.length]? = some x := by
    rw [List.getElem?_append_right (by rw [List.length_take]; omega), List.length_take, Nat.min_eq_left (by omega), Nat.sub_self]
    rfl
   rw [← hg, List.getElem?_eq_getElem hlt] at h1
   exact Option.some.inj h1
  have hr := hS.rng _ (List.getElem_mem hlt)
  rw [hx] at hr
  obtain ⟨a, rfl⟩ : ∃ a : Nat, x = (a : Int) := ⟨x.toNat, by omega⟩
  have e1 : rd g (done.length : Int) = (a : Int) := by rw [rd_at g _ hlt, hx]
  have e2 : wrap64 ((g.length : Int) - 1) = (done.length : Int) := by rw [w64_of (by omega) (by omega)]; simp at hl; omega
  have hdn : n / a ≤ n := Nat.div_le_self n a
  have hdw : wrap64 ((n / a : Nat) : Int) = ((n / a : Nat) : Int) := by
   generalize n / a = x at hdn
   exact w64_of (by omega) (by omega)
  rw [facL_one a (by omega) n]
  refine Ev.one (fun k => by rw [spec_l11Find.f]) ?_
  rw [e1, e2, tmod_nat, tdiv_nat, hdw]
  refine Ev.neg (by omega) (Ev.some (Ev.pos rfl (Ev.pos (by omega) (Ev.pos (by omega) (Ev.neg (by omega) ?_)))))
  by_cases h : n % a = 0
  ·rw [if_pos h]
   refine Ev.pos (by omega) (Ev.some (Ev.pos (by simp; omega) (Ev.some (Ev.some (Ev.pos (by simp; omega) (Ev.some (Ev.pos (by simp) ?_)))))))
   exact Ev.now _
  ·rw [if_neg h]
   exact Ev.neg (by omega) (Ev.now _)
 | x :: y :: gs, done, hg, _, hl, n, hn => by
  have hl12 := hS.len2
  have hlt : done.length < g.length := by simp at hl; omega
  have hx : g[done.length] = x := by
   have h1 : (g.take done.length ++ (x :: y :: gs))[done.length]? = some x := by
    rw [List.getElem?_append_right (by rw [List.length_take]; omega), List.length_take, Nat.min_eq_left (by omega), Nat.sub_self]
    rfl
   rw [← hg, List.getElem?_eq_getElem hlt] at h1
   exact Option.some.inj h1
  have hr := hS.rng _ (List.getElem_mem hlt)
  rw [hx] at hr
  obtain ⟨a, rfl⟩ : ∃ a : Nat, x = (a : Int) := ⟨x.toNat, by omega⟩
  have e1 : rd g (done.length : Int) = (a : Int) := by rw [rd_at g _ hlt, hx]
  have e2 : wrap64 ((g.length : Int) - 1) = (g.length : Int) - 1 := w64_of (by omega) (by omega)
  have hd : ((n : Int) / (a : Int)).toNat = n / a := by rw [← Int.natCast_ediv, Int.toNat_natCast]
  have hdn : n / a ≤ n := Nat.div_le_self n a
  have hdw : wrap64 ((n / a : Nat) : Int) = ((n / a : Nat) : Int) := by
   generalize n / a = x at hdn
   exact w64_of (by omega) (by omega)
  have hsub : ∀ z ∈ (a : Int) :: y :: gs, z ∈ g := fun z hz => by rw [hg]; exact List.mem_append_right _ hz
  have hroom := facL_room g hS ((a : Int) :: y :: gs) hsub (by omega) n hn
  have hnext : ∀ k : Int, g = g.take (done ++ [k]).length ++ (y :: gs) := by
   intro k
   have h2 : g.take (done.length + 1) = g.take done.length ++ [(a : Int)] := by rw [List.take_succ_eq_append_getElem hlt, hx]
   rw [List.length_append, List.length_singleton, h2, List.append_assoc]
   exact hg
  have hfull : facL ((a : Int) :: y :: gs) (n : Int) = downF (fun k => (facL (y :: gs) ((n : Int) - k * (a : Int))).map fun l => k :: l) (n / a) := by rw [← hd]; rfl
  refine Ev.one (fun k => by rw [spec_l11Find.f]) ?_
  rw [e1, e2, tdiv_nat, hdw]
  refine Ev.neg (by omega) (Ev.some (Ev.neg (by simp at hl; omega) (Ev.pos (by omega) (Ev.pos (by omega) (Ev.neg (by omega) ?_)))))
  rw [hfull] at hroom ⊢
  have loop : ∀ (q : Nat) (acc : List (List Int)), q ≤ n / a → (acc ++ downF (fun k => (facL (y :: gs) ((n : Int) - k * (a : Int))).map fun l => k :: l) q).length ≤ 100000000000 →
    Ev (fun k => spec_l11Find.l0 k g (n : Int) done (done.length : Int) (acc.map fun l => done ++ l) (q : Int)) ((acc ++ downF (fun k => (facL (y :: gs) ((n : Int) - k * (a : Int))).map fun l => k :: l) q).map fun l => done ++ l) := by
   intro q
   have round : ∀ (q : Nat) (acc : List (List Int)) (res : List (List Int)), q ≤ n / a → (acc ++ (facL (y :: gs) ((n : Int) - (q : Int) * (a : Int))).map fun l => (q : Int) :: l).length ≤ 100000000000 →
     Ev (fun k => spec_l11Find.l0 k g (n : Int) done (done.length : Int) ((acc ++ (facL (y :: gs) ((n : Int) - (q : Int) * (a : Int))).map fun l => (q : Int) :: l).map fun l => done ++ l) (wrap64 ((q : Int) - 1))) res →
     Ev (fun k => spec_l11Find.l0 k g (n : Int) done (done.length : Int) (acc.map fun l => done ++ l) (q : Int)) res := by
    intro q acc res hq hlen hrest
    have hk2 : q * a ≤ n := Nat.le_trans (Nat.mul_le_mul_right a hq) (Nat.div_mul_le_self n a)
    obtain ⟨e, e3, e4, hle⟩ := left_nat n q a hk2 hn
    rw [e] at hlen hrest
    have ih := spec_l11Find_ev hp (y :: gs) (done ++ [(q : Int)]) (hnext _) (by simp) (by simp at hl ⊢; omega) (n - q * a) hle
    have emap : ((facL (y :: gs) ((n - q * a : Nat) : Int)).map fun l => (done ++ [(q : Int)]) ++ l) = (((facL (y :: gs) ((n - q * a : Nat) : Int)).map fun l => (q : Int) :: l).map fun l => done ++ l) := by
     rw [List.map_map]
     apply List.map_congr_left
     intro l _
     simp
    rw [emap] at ih
    generalize facL (y :: gs) ((n - q * a : Nat) : Int) = sub at hlen hrest ih
    rw [List.length_append, List.length_map] at hlen
    rw [List.map_append] at hrest
    refine Ev.one (fun k => by rw [spec_l11Find.l0]) ?_
    rw [e1, e3, e4]
    refine Ev.pos (by omega) (Ev.pos (by omega) (Ev.pos (by omega) (Ev.some (Ev.pos (by simp; omega) (Ev.some (Ev.some (Ev.pos (by simp; omega) (Ev.bnd ih (Ev.pos (by simp; omega) hrest)))))))))
   induction q with
   | zero =>
    intro acc hq hlen
    rw [downF_zero] at hlen ⊢
    refine round 0 acc _ hq hlen ?_
    rw [w64_pred0]
    refine Ev.one (fun k => by rw [spec_l11Find.l0]) ?_
    exact Ev.neg (by decide) (Ev.now _)
   | succ q ihq =>
    intro acc hq hlen
    rw [← fac_prefix] at hlen ⊢
    refine round (q + 1) acc _ hq (len_left _ _ _ hlen) ?_
    rw [w64_pred q (Nat.le_trans (Nat.le_of_succ_le hq) (Nat.le_trans hdn (Nat.le_trans hn (by decide))))]
    exact ihq _ (Nat.le_of_succ_le hq) hlen
  have h := loop (n / a) [] (Nat.le_refl _) (by rw [List.nil_append]; exact hroom)
  rw [List.nil_append] at h
  exact h
end
/-- What Factorizations answers. -/
def facS (b : Bool) (g : List Int) (n : Int) : List (List Int) := if b = true ∧ (0 ≤ n ∧ n ≤ 100) then facL g n else []
theorem fac_both (g : List Int) (hlen : g.length ≤ 1048576) (n : Int) : ∃ b, (b = true ↔ SG g) ∧ Ev (fun k => spec_Factorizations.f k g n) (facS b g n) ∧ Ev (fun k => impl_Factorizations.f k g n) (facS b g n) := by
 obtain ⟨b, b1, b2, b3⟩ := sg_both g hlen
 refine ⟨b, b1, ?_⟩
 unfold spec_Factorizations.f impl_Factorizations.f facS
 cases b with
 | false =>
  rw [if_neg (fun e => by cases e.1)]
  exact ⟨Ev.bnd b2 (Ev.neg (by decide) (Ev.now _)), Ev.bnd b3 (Ev.neg (by decide) (Ev.now _))⟩
 | true =>
  have hS := b1.1 rfl
  have hl1 := hS.len1
  by_cases h : 0 ≤ n ∧ n ≤ 100
  ·obtain ⟨m, rfl⟩ : ∃ m : Nat, n = (m : Int) := ⟨n.toNat, by omega⟩
   rw [if_pos ⟨rfl, h⟩]
   have hne : g ≠ [] := fun e => by subst e; simp at hl1
   have h1 := spec_l11Find_ev g hS hne g [] (by simp) hne (by simp) m (by omega)
   have e1 : ((facL g (m : Int)).map fun l => [] ++ l) = facL g (m : Int) := by simp
   rw [e1] at h1
   exact ⟨Ev.bnd b2 (Ev.pos rfl (Ev.bnd (spec_l1In_ev _ _ _) (Ev.pos (decide_eq_true h) (Ev.bnd h1 (Ev.now _))))),
    Ev.bnd b3 (Ev.pos rfl (Ev.bnd (impl_within_ev _ _ _) (Ev.pos (decide_eq_true h) (Ev.bnd (impl_factored_ev g hS g (fun x hx => hx) (Nat.le_refl _) m (by omega)) (Ev.now _)))))⟩
  ·rw [if_neg (fun e => h e.2)]
   exact ⟨Ev.bnd b2 (Ev.pos rfl (Ev.bnd (spec_l1In_ev _ _ _) (Ev.neg (by rw [decide_eq_false h]; decide) (Ev.now _)))),
    Ev.bnd b3 (Ev.pos rfl (Ev.bnd (impl_within_ev _ _ _) (Ev.neg (by rw [decide_eq_false h]; decide) (Ev.now _))))⟩
/-! facsmall: room for all factorizations -/
theorem facS_small (b : Bool) (g : List Int) (hS : b = true → SG g) (n : Int) : (facS b g n).length ≤ 100000000000 ∧ ∀ x ∈ facS b g n, x.length ≤ 1000 := by
 unfold facS
 split
 ·rename_i h
  obtain ⟨hb, hn⟩ := h
  have hS := hS hb
  obtain ⟨m, rfl⟩ : ∃ m : Nat, n = (m : Int) := ⟨n.toNat, by omega⟩
  have h2 := hS.len2
  refine ⟨facL_room g hS g (fun x hx => hx) (Nat.le_refl _) m (by omega), fun x hx => ?_⟩
  have := ((facL_mem g m x (fun y hy => (hS.rng y hy).1)).1 hx).1
  omega
 ·exact ⟨by simp, fun x hx => by cases hx⟩
/-! minmax: the second program's lesser and greater of two -/
theorem spec_l1Min_at (a b : Int) : spec_l1Min.f a b = some (min a b) := by
 unfold spec_l1Min.f
 by_cases h : a < b
 ·rw [if_pos h]; congr 1; omega
 ·rw [if_neg h]; congr 1; omega
theorem spec_l1Max_at (a b : Int) : spec_l1Max.f a b = some (max a b) := by
 unfold spec_l1Max.f
 by_cases h : a > b
 ·rw [if_pos h]; congr 1; omega
 ·rw [if_neg h]; congr 1; omega
/-! label: labellings of places by a symmetric relation: the least place of each part -/
structure Lab0 (L : Nat → Nat → Bool) (N : Nat) (m : List Int) : Prop where
 len : m.length = N
 low : ∀ k, k < N → 0 ≤ rd m (k : Int) ∧ rd m (k : Int) ≤ (k : Int)
 inv : ∀ f : Int → Int, (∀ i j, i < N → j < N → L i j = true → f (i : Int) = f (j : Int)) → ∀ k, k < N → f (rd m (k : Int)) = f (k : Int)
structure Lab (L : Nat → Nat → Bool) (N : Nat) (m : List Int) : Prop extends Lab0 L N m where
 same : ∀ i j, i < N → j < N → L i j = true → rd m (i : Int) = rd m (j : Int)
theorem Lab.le {L : Nat → Nat → Bool} {N : Nat} {a b : List Int} (ha : Lab L N a) (hb : Lab L N b) (k : Nat) (hk : k < N) : rd b (k : Int) ≤ rd a (k : Int) := by
 have h1 := ha.inv (fun x => rd b x) hb.same k hk
 have h2 := ha.low k hk
 have h3 := hb.low (rd a (k : Int)).toNat (by omega)
 rw [show (((rd a (k : Int)).toNat : Nat) : Int) = rd a (k : Int) from by omega] at h3
 have h1 : rd b (rd a (k : Int)) = rd b (k : Int) := h1
 omega
theorem Lab.uniq {L : Nat → Nat → Bool} {N : Nat} {a b : List Int} (ha : Lab L N a) (hb : Lab L N b) : a = b := by
 refine List.ext_getElem (by rw [ha.len, hb.len]) (fun k h1 h2 => ?_)
 have h3 := ha.le hb k (by rw [← ha.len]; exact h1)
 have h4 := hb.le ha k (by rw [← ha.len]; exact h1)
 rw [rd_at _ _ h1, rd_at _ _ h2] at h3 h4
 omega
theorem Lab0.idx {L : Nat → Nat → Bool} {N : Nat} {m : List Int} (h0 : m.length = N) (h : ∀ k, k < N → rd m (k : Int) = (k : Int)) : Lab0 L N m :=
 ⟨h0, fun k hk => by rw [h k hk]; omega, fun f _ k hk => by rw [h k hk]⟩
/-- One entry takes the label of a neighbour. -/
theorem Lab0.set1 {L : Nat → Nat → Bool} {N : Nat} {m : List Int} (h : Lab0 L N m) (i j : Nat) (hi : i < N) (hj : j < N) (hL : L i j = true) (hlt : rd m (i : Int) < rd m (j : Int)) : Lab0 L N (m.set j (rd m (i : Int))) := by
 refine ⟨by rw [List.length_set]; exact h.len, fun k hk => ?_, fun f hf k hk => ?_⟩
 ·have h1 := h.low k hk
  have h2 := h.low i hi
  by_cases e : k = j
  ·subst e
   rw [rd_set_eq _ _ _ (by rw [h.len]; exact hk)]
   omega
  ·rw [rd_set_ne _ _ _ _ (fun q => e q.symm)]
   exact h1
 ·by_cases e : k = j
  ·subst e
   rw [rd_set_eq _ _ _ (by rw [h.len]; exact hk), h.inv f hf i hi]
   exact hf i k hi hk hL
  ·rw [rd_set_ne _ _ _ _ (fun q => e q.symm)]
   exact h.inv f hf k hk
def sumI (l : List Int) : Int := l.sum
theorem sumI_set : ∀ (l : List Int) (j : Nat) (v : Int), j < l.length → sumI (l.set j v) = sumI l - rd l (j : Int) + v
 | [], _, _, h => by simp at h
 | x :: l, 0, v, _ => by
  show (v :: l).sum = (x :: l).sum - x + v
  rw [List.sum_cons, List.sum_cons]
  omega
 | x :: l, j + 1, v, h => by
  have ih := sumI_set l j v (by simpa using h)
  have e : rd (x :: l) ((j + 1 : Nat) : Int) = rd l (j : Int) := rfl
  show (x :: l.set j v).sum = (x :: l).sum - rd (x :: l) ((j + 1 : Nat) : Int) + v
  unfold sumI at ih
  rw [e, List.sum_cons, List.sum_cons, ih]
  omega
theorem sumI_nonneg : ∀ (l : List Int), (∀ k, k < l.length → 0 ≤ rd l (k : Int)) → 0 ≤ sumI l
 | [], _ => by simp [sumI]
 | x :: l, h => by
  have ih := sumI_nonneg l (fun k hk => h (k + 1) (by simpa using hk))
  have h0 : 0 ≤ x := h 0 (by simp)
  unfold sumI at ih ⊢
  rw [List.sum_cons]
  omega
/-- All entries of one label take another one. -/
theorem Lab0.map {L : Nat → Nat → Bool} {N : Nat} {m m' : List Int} (h : Lab0 L N m) (i k : Nat) (hi : i < N) (hk : k < N) (hL : L i k = true) (lo hi' : Int)
  (hlo : lo = rd m (i : Int) ∧ hi' = rd m (k : Int) ∨ lo = rd m (k : Int) ∧ hi' = rd m (i : Int)) (hlt : lo ≤ hi') (hl : m'.length = N)
  (hr : ∀ j, j < N → rd m' (j : Int) = if rd m (j : Int) = hi' then lo else rd m (j : Int)) : Lab0 L N m' := by
 have r1 := h.low i hi
 have r2 := h.low k hk
 refine ⟨hl, fun j hj => ?_, fun f hf j hj => ?_⟩
 ·have h1 := h.low j hj
  rw [hr j hj]
  split <;> omega
 ·have h1 := h.inv f hf j hj
  have h2 := h.inv f hf i hi
  have h3 := h.inv f hf k hk
  have h4 := hf i k hi hk hL
  rw [hr j hj]
  split
  ·rename_i e
   rw [← h1, e]
   rcases hlo with ⟨rfl, rfl⟩ | ⟨rfl, rfl⟩
   ·rw [h2, h4, ← h3]
   ·rw [h3, ← h4, ← h2]
  ·exact h1
/-! classes: linked factorizations, both labellings and what is made of them -/
def lnk (a b : List Int) : Bool := (List.range a.length).any fun i => rd a (i : Int) != 0 && rd b (i : Int) != 0
theorem lnk_iff (a b : List Int) : lnk a b = true ↔ ∃ i : Nat, i < a.length ∧ rd a (i : Int) ≠ 0 ∧ rd b (i : Int) ≠ 0 := by
 unfold lnk
 rw [List.any_eq_true]
 constructor
 ·rintro ⟨i, h1, h2⟩
  rw [Bool.and_eq_true, bne_iff_ne, bne_iff_ne] at h2
  exact ⟨i, List.mem_range.1 h1, h2⟩
 ·rintro ⟨i, h1, h2⟩
  exact ⟨i, List.mem_range.2 h1, by rw [Bool.and_eq_true, bne_iff_ne, bne_iff_ne]; exact h2⟩
theorem lnk_symm (a b : List Int) (h : a.length = b.length) (hl : lnk a b = true) : lnk b a = true := by
 obtain ⟨i, h1, h2, h3⟩ := (lnk_iff a b).1 hl
 exact (lnk_iff b a).2 ⟨i, by omega, h3, h2⟩
theorem lnk_no (a b : List Int) (h : ∀ t : Nat, t < a.length → ¬ (rd a (t : Int) ≠ 0 ∧ rd b (t : Int) ≠ 0)) : lnk a b = false := by
 cases e : lnk a b with
 | false => rfl
 | true =>
  obtain ⟨i, h1, h2⟩ := (lnk_iff a b).1 e
  exact absurd h2 (h i h1)
theorem impl_linked_ev (a b : List Int) (hb : b.length = a.length) (ha : a.length ≤ 100000) : Ev (fun k => impl_linked.f k a b) (lnk a b) := by
 unfold impl_linked.f
 have go : ∀ (d i : Nat), i + d = a.length → (∀ t : Nat, t < i → ¬ (rd a (t : Int) ≠ 0 ∧ rd b (t : Int) ≠ 0)) → Ev (fun k => impl_linked.l0 k a b (a.length : Int) (i : Int)) (lnk a b) := by
  intro d
  induction d with
  | zero =>
   intro i hi h
   refine Ev.one (fun k => by rw [impl_linked.l0]) ?_
   rw [lnk_no a b (fun t ht => h t (by omega))]
   exact Ev.neg (by omega) (Ev.now _)
  | succ d ih =>
   intro i hi h
   refine Ev.one (fun k => by rw [impl_linked.l0]) ?_
   rw [w64_succ i (by omega)]
   refine Ev.pos (by omega) (Ev.pos (by omega) (Ev.pos (by omega) ?_))
   have nx : ¬ (rd a (i : Int) ≠ 0 ∧ rd b (i : Int) ≠ 0) → Ev (fun k => impl_linked.l0 k a b (a.length : Int) ((i + 1 : Nat) : Int)) (lnk a b) := fun hn => ih (i + 1) (by omega) (fun t ht => by
    by_cases e : t = i
    ·subst e; exact hn
    ·exact h t (by omega))
   by_cases c : rd a (i : Int) = 0
   ·exact Ev.pos c (nx (fun q => q.1 c))
   ·refine Ev.neg c (Ev.pos (by omega) ?_)
    by_cases c2 : rd b (i : Int) = 0
    ·exact Ev.pos c2 (nx (fun q => q.2 c2))
    ·rw [(lnk_iff a b).2 ⟨i, by omega, c, c2⟩]
     exact Ev.neg c2 (Ev.now _)
 exact go a.length 0 (by omega) (fun t ht => absurd ht (by omega))
theorem spec_linked_ev (a b : List Int) (hb : b.length = a.length) (ha : a.length ≤ 100000) (pa : ∀ i : Nat, 0 ≤ rd a (i : Int)) (pb : ∀ i : Nat, 0 ≤ rd b (i : Int)) : Ev (fun k => spec_l14Linked.f k a b) (lnk a b) := by
 unfold spec_l14Linked.f
 have go : ∀ (d i : Nat), i + d = a.length → (∀ t : Nat, t < i → ¬ (rd a (t : Int) ≠ 0 ∧ rd b (t : Int) ≠ 0)) → Ev (fun k => spec_l14Linked.l0 k a b (i : Int)) (lnk a b) := by
  intro d
  induction d with
  | zero =>
   intro i hi h
   refine Ev.one (fun k => by rw [spec_l14Linked.l0]) ?_
   rw [lnk_no a b (fun t ht => h t (by omega))]
   exact Ev.neg (by omega) (Ev.now _)
  | succ d ih =>
   intro i hi h
   have qa := pa i
   have qb := pb i
   refine Ev.one (fun k => by rw [spec_l14Linked.l0]) ?_
   rw [w64_succ i (by omega)]
   refine Ev.pos (by omega) (Ev.pos (by omega) ?_)
   have nx : ¬ (rd a (i : Int) ≠ 0 ∧ rd b (i : Int) ≠ 0) → Ev (fun k => spec_l14Linked.l0 k a b ((i + 1 : Nat) : Int)) (lnk a b) := fun hn => ih (i + 1) (by omega) (fun t ht => by
    by_cases e : t = i
    ·subst e; exact hn
    ·exact h t (by omega))
   by_cases c : rd a (i : Int) = 0
   ·exact Ev.neg (by omega) (nx (fun q => q.1 c))
   ·refine Ev.pos (by omega) (Ev.pos (by omega) ?_)
    by_cases c2 : rd b (i : Int) = 0
    ·exact Ev.neg (by omega) (nx (fun q => q.2 c2))
    ·rw [(lnk_iff a b).2 ⟨i, by omega, c, c2⟩]
     exact Ev.pos (by omega) (Ev.now _)
 exact go a.length 0 (by omega) (fun t ht => absurd ht (by omega))
/-- What is asked of the rows. -/
structure Rows (all : List (List Int)) (m : Nat) : Prop where
 few : all.length ≤ 100000000000
 len : ∀ x ∈ all, x.length = m
 pos : ∀ x ∈ all, ∀ y ∈ x, 0 ≤ y
 m1 : m ≤ 1000
def LR (all : List (List Int)) (i j : Nat) : Bool := lnk (rd_L2 all (i : Int)) (rd_L2 all (j : Int))
theorem Rows.at {all : List (List Int)} {m : Nat} (h : Rows all m) (i : Nat) (hi : i < all.length) : (rd_L2 all (i : Int)).length = m ∧ ∀ t : Nat, 0 ≤ rd (rd_L2 all (i : Int)) (t : Int) := by
 rw [rd_L2_at all i hi]
 have hm := List.getElem_mem hi
 refine ⟨h.len _ hm, fun t => ?_⟩
 by_cases c : t < (all[i]).length
 ·rw [rd_at _ _ c]
  exact h.pos _ hm _ (List.getElem_mem c)
 ·unfold rd
  rw [Int.toNat_natCast, List.getD_eq_getElem?_getD, List.getElem?_eq_none (by omega)]
  exact Int.le_refl _
theorem Rows.symm {all : List (List Int)} {m : Nat} (h : Rows all m) (i j : Nat) (hi : i < all.length) (hj : j < all.length) (hl : LR all i j = true) : LR all j i = true :=
 lnk_symm _ _ (by rw [(h.at i hi).1, (h.at j hj).1]) hl
theorem Rows.impl {all : List (List Int)} {m : Nat} (h : Rows all m) (i j : Nat) (hi : i < all.length) (hj : j < all.length) : Ev (fun k => impl_linked.f k (rd_L2 all (i : Int)) (rd_L2 all (j : Int))) (LR all i j) :=
 impl_linked_ev _ _ (by rw [(h.at i hi).1, (h.at j hj).1]) (by rw [(h.at i hi).1]; have := h.m1; omega)
theorem Rows.spec {all : List (List Int)} {m : Nat} (h : Rows all m) (i j : Nat) (hi : i < all.length) (hj : j < all.length) : Ev (fun k => spec_l14Linked.f k (rd_L2 all (i : Int)) (rd_L2 all (j : Int))) (LR all i j) :=
 spec_linked_ev _ _ (by rw [(h.at i hi).1, (h.at j hj).1]) (by rw [(h.at i hi).1]; have := h.m1; omega) (h.at i hi).2 (h.at j hj).2
section
variable {α : Type} (all : List (List Int)) (m : Nat) (hR : Rows all m)
include hR
/-- Between two steps of one round of the first program's labelling. -/
structure Sweep (cls0 cls : List Int) (ch : Bool) (i j : Nat) : Prop where
 lab : Lab0 (LR all) all.length cls
 le : sumI cls ≤ sumI cls0
 up : ch = true → sumI cls < sumI cls0
 no : ch = false → ∀ i' j' : Nat, j' < all.length → (i' < i ∨ i' = i ∧ j' < j) → ¬ (rd cls (i' : Int) < rd cls (j' : Int) ∧ LR all i' j' = true)
theorem classes_l3 (cls0 : List Int) (i : Nat) (hi : i < all.length) (res : List (List (List Int)))
  (next : ∀ cls ch, Sweep all cls0 cls ch (i + 1) 0 → Ev (fun k => impl_ClassesOf.l2 k all cls ch (all.length : Int) ((i + 1 : Nat) : Int)) res) :
  ∀ (d j : Nat) (cls : List Int) (ch : Bool), j + d = all.length → Sweep all cls0 cls ch i j → Ev (fun k => impl_ClassesOf.l3 k all cls ch (i : Int) (all.length : Int) (i : Int) (all.length : Int) (j : Int)) res := by
 have hf := hR.few
 intro d
 induction d with
 | zero =>
  intro j cls ch hj hS
  refine Ev.one (fun k => by rw [impl_ClassesOf.l3]) ?_
  rw [w64_succ i (by omega)]
  refine Ev.neg (by omega) (next cls ch ⟨hS.lab, hS.le, hS.up, fun h i' j' hj' hlt => hS.no h i' j' hj' (by omega)⟩)
 | succ d ih =>
  intro j cls ch hj hS
  have hl := hS.lab.len
  refine Ev.one (fun k => by rw [impl_ClassesOf.l3]) ?_
  rw [w64_succ j (by omega), Int.toNat_natCast]
  refine Ev.pos (by omega) (Ev.pos (by omega) (Ev.pos (by omega) (Ev.pos (by omega) (Ev.pos (by omega) ?_))))
  have stay : ¬ (rd cls (i : Int) < rd cls (j : Int) ∧ LR all i j = true) → Ev (fun k => impl_ClassesOf.l3 k all cls ch (i : Int) (all.length : Int) (i : Int) (all.length : Int) ((j + 1 : Nat) : Int)) res := fun hn =>
   ih (j + 1) cls ch (by omega) ⟨hS.lab, hS.le, hS.up, fun h i' j' hj' hlt => by
    by_cases e : i' = i ∧ j' = j
    ·obtain ⟨rfl, rfl⟩ := e
     exact hn
    ·exact hS.no h i' j' hj' (by omega)⟩
  by_cases c : rd cls (i : Int) < rd cls (j : Int)
  ·refine Ev.pos c (Ev.pos (by omega) (Ev.pos (by omega) (Ev.bnd (hR.impl i j hi (by omega)) ?_)))
   cases e : LR all i j with
   | false => exact Ev.neg (by decide) (stay (fun q => by rw [e] at q; exact absurd q.2 (by decide)))
   | true =>
    have hs := sumI_set cls j (rd cls (i : Int)) (by omega)
    have h0 := hS.le
    exact Ev.pos rfl (ih (j + 1) _ true (by omega) ⟨hS.lab.set1 i j hi (by omega) e c, by omega, fun _ => by omega, fun h => absurd h (by decide)⟩)
  ·exact Ev.neg c (stay (fun q => c q.1))
theorem classes_l2 (cls0 : List Int) (res : List (List (List Int)))
  (next : ∀ cls ch, Sweep all cls0 cls ch all.length 0 → Ev (fun k => impl_ClassesOf.l1 k all cls ch) res) :
  ∀ (d i : Nat) (cls : List Int) (ch : Bool), i + d = all.length → Sweep all cls0 cls ch i 0 → Ev (fun k => impl_ClassesOf.l2 k all cls ch (all.length : Int) (i : Int)) res := by
 intro d
 induction d with
 | zero =>
  intro i cls ch hi hS
  refine Ev.one (fun k => by rw [impl_ClassesOf.l2]) ?_
  rw [show i = all.length from by omega] at hS ⊢
  exact Ev.neg (by omega) (next cls ch hS)
 | succ d ih =>
  intro i cls ch hi hS
  refine Ev.one (fun k => by rw [impl_ClassesOf.l2]) ?_
  exact Ev.pos (by omega) (classes_l3 all m hR cls0 i (by omega) res (fun cls' ch' hS' => ih (i + 1) cls' ch' (by omega) hS') all.length 0 cls ch (by omega) hS)
theorem classes_l1 (res : List (List (List Int)))
  (next : ∀ cls, Lab (LR all) all.length cls → Ev (fun k => impl_ClassesOf.l4 k all cls [] (all.length : Int) 0) res) :
  ∀ (s : Nat) (cls : List Int), Lab0 (LR all) all.length cls → sumI cls ≤ (s : Int) → Ev (fun k => impl_ClassesOf.l1 k all cls true) res := by
 intro s
 induction s with
 | zero =>
  intro cls hL hs
  refine Ev.one (fun k => by rw [impl_ClassesOf.l1]) ?_
  refine Ev.pos rfl (classes_l2 all m hR cls res (fun cls' ch hS => ?_) all.length 0 cls false (by omega) ⟨hL, Int.le_refl _, fun h => absurd h (by decide), fun _ i' j' _ h => by omega⟩)
  have h0 := sumI_nonneg cls' (fun k hk => (hS.lab.low k (by rw [← hS.lab.len]; exact hk)).1)
  cases ch with
  | true => have := hS.up rfl; omega
  | false =>
   refine Ev.one (fun k => by rw [impl_ClassesOf.l1]) ?_
   refine Ev.neg (by decide) (next cls' ⟨hS.lab, fun i j hi hj hl => ?_⟩)
   have h1 := hS.no rfl i j hj (.inl hi)
   have h2 := hS.no rfl j i hi (.inl hj)
   have h3 := hR.symm i j hi hj hl
   have h1' : ¬ rd cls' (i : Int) < rd cls' (j : Int) := fun q => h1 ⟨q, hl⟩
   have h2' : ¬ rd cls' (j : Int) < rd cls' (i : Int) := fun q => h2 ⟨q, h3⟩
   omega
 | succ s ih =>
  intro cls hL hs
  refine Ev.one (fun k => by rw [impl_ClassesOf.l1]) ?_
  refine Ev.pos rfl (classes_l2 all m hR cls res (fun cls' ch hS => ?_) all.length 0 cls false (by omega) ⟨hL, Int.le_refl _, fun h => absurd h (by decide), fun _ i' j' _ h => by omega⟩)
  cases ch with
  | true =>
   have := hS.up rfl
   exact ih cls' hS.lab (by omega)
  | false =>
   refine Ev.one (fun k => by rw [impl_ClassesOf.l1]) ?_
   refine Ev.neg (by decide) (next cls' ⟨hS.lab, fun i j hi hj hl => ?_⟩)
   have h1 := hS.no rfl i j hj (.inl hi)
   have h2 := hS.no rfl j i hi (.inl hj)
   have h3 := hR.symm i j hi hj hl
   have h1' : ¬ rd cls' (i : Int) < rd cls' (j : Int) := fun q => h1 ⟨q, hl⟩
   have h2' : ¬ rd cls' (j : Int) < rd cls' (i : Int) := fun q => h2 ⟨q, h3⟩
   omega
theorem classes_l0 (res : List (List (List Int)))
  (next : ∀ cls, Lab (LR all) all.length cls → Ev (fun k => impl_ClassesOf.l4 k all cls [] (all.length : Int) 0) res) :
  ∀ (d i : Nat) (cls : List Int), i + d = all.length → cls.length = all.length → (∀ k, k < i → rd cls (k : Int) = (k : Int)) → Ev (fun k => impl_ClassesOf.l0 k all cls (all.length : Int) (i : Int)) res := by
 have hf := hR.few
 intro d
 induction d with
 | zero =>
  intro i cls hi hl h
  refine Ev.one (fun k => by rw [impl_ClassesOf.l0]) ?_
  have hL : Lab0 (LR all) all.length cls := Lab0.idx hl (fun k hk => h k (by omega))
  exact Ev.neg (by omega) (classes_l1 all m hR res next (sumI cls).toNat cls hL (by omega))
 | succ d ih =>
  intro i cls hi hl h
  refine Ev.one (fun k => by rw [impl_ClassesOf.l0]) ?_
  rw [w64_succ i (by omega), Int.toNat_natCast]
  refine Ev.pos (by omega) (Ev.pos (by omega) (Ev.pos (by omega) (ih (i + 1) _ (by omega) (by rw [List.length_set]; exact hl) (fun k hk => ?_))))
  by_cases e : k = i
  ·subst e
   rw [rd_set_eq _ _ _ (by omega)]
  ·rw [rd_set_ne _ _ _ _ (fun q => e q.symm)]
   exact h k (by omega)
/-- The second program's labelling. -/
structure Marked (mk : List Int) (i k : Nat) : Prop where
 lab : Lab0 (LR all) all.length mk
 same : ∀ i' k' : Nat, k' < i' → i' < all.length → (i' < i ∨ i' = i ∧ k' < k) → LR all i' k' = true → rd mk (i' : Int) = rd mk (k' : Int)
theorem marks_l3 (mk : List Int) (hl : mk.length = all.length) (i kk : Nat) (hkk : kk ≤ all.length) (lo hi : Int) (res : List Int)
  (next : ∀ cur : List Int, cur.length = all.length → (∀ t : Nat, t < all.length → rd cur (t : Int) = if rd mk (t : Int) = hi then lo else rd mk (t : Int)) → Ev (fun k => spec_l14Marks.l2 k all cur (i : Int) ((kk + 1 : Nat) : Int)) res) :
  ∀ (d j : Nat) (cur : List Int), j + d = all.length → cur.length = all.length → (∀ t : Nat, t < all.length → rd cur (t : Int) = if t < j then (if rd mk (t : Int) = hi then lo else rd mk (t : Int)) else rd mk (t : Int)) → Ev (fun k => spec_l14Marks.l3 k all cur (i : Int) (kk : Int) lo hi (j : Int)) res := by
 have hf := hR.few
 intro d
 induction d with
 | zero =>
  intro j cur hj hc h
  refine Ev.one (fun k => by rw [spec_l14Marks.l3]) ?_
  rw [w64_succ kk (by omega)]
  exact Ev.neg (by omega) (next cur hc (fun t ht => by rw [h t ht, if_pos (by omega)]))
 | succ d ih =>
  intro j cur hj hc h
  refine Ev.one (fun k => by rw [spec_l14Marks.l3]) ?_
  rw [w64_succ j (by omega), Int.toNat_natCast]
  have hjj := h j (by omega)
  rw [if_neg (by omega)] at hjj
  refine Ev.pos (by omega) (Ev.pos (by omega) (Ev.pos (by omega) ?_))
  rw [hjj]
  by_cases c : rd mk (j : Int) = hi
  ·refine Ev.pos c (ih (j + 1) _ (by omega) (by rw [List.length_set]; exact hc) (fun t ht => ?_))
   by_cases e : t = j
   ·subst e
    rw [rd_set_eq _ _ _ (by omega), if_pos (by omega), if_pos c]
   ·rw [rd_set_ne _ _ _ _ (fun q => e q.symm), h t ht]
    by_cases c2 : t < j
    ·rw [if_pos c2, if_pos (show t < j + 1 by omega)]
    ·rw [if_neg c2, if_neg (show ¬ t < j + 1 by omega)]
  ·refine Ev.neg c (ih (j + 1) cur (by omega) hc (fun t ht => ?_))
   rw [h t ht]
   by_cases e : t = j
   ·subst e
    rw [if_neg (Nat.lt_irrefl _), if_pos (Nat.lt_succ_self _), if_neg c]
   ·by_cases c2 : t < j
    ·rw [if_pos c2, if_pos (show t < j + 1 by omega)]
    ·rw [if_neg c2, if_neg (show ¬ t < j + 1 by omega)]
theorem marks_l2 (i : Nat) (hi : i < all.length) (res : List Int)
  (next : ∀ mk, Marked all mk (i + 1) 0 → Ev (fun k => spec_l14Marks.l1 k all mk ((i + 1 : Nat) : Int)) res) :
  ∀ (d kk : Nat) (mk : List Int), kk + d = i → Marked all mk i kk → Ev (fun k => spec_l14Marks.l2 k all mk (i : Int) (kk : Int)) res := by
 have hf := hR.few
 intro d
 induction d with
 | zero =>
  intro kk mk hk hM
  refine Ev.one (fun k => by rw [spec_l14Marks.l2]) ?_
  rw [w64_succ i (by omega)]
  exact Ev.neg (by omega) (next mk ⟨hM.lab, fun i' k' h1 h2 h3 => hM.same i' k' h1 h2 (by omega)⟩)
 | succ d ih =>
  intro kk mk hk hM
  have hl := hM.lab.len
  refine Ev.one (fun k => by rw [spec_l14Marks.l2]) ?_
  refine Ev.pos (by omega) (Ev.pos (by omega) (Ev.pos (by omega) (Ev.pos (by omega) (Ev.pos (by omega) ?_))))
  have stay : (LR all i kk = true → rd mk (i : Int) = rd mk (kk : Int)) → Ev (fun k => spec_l14Marks.j3 k all mk (i : Int) (kk : Int) true) res := fun hs => by
   refine Ev.one (fun k => by rw [spec_l14Marks.j3]) ?_
   rw [w64_succ kk (by omega)]
   refine Ev.pos rfl (ih (kk + 1) mk (by omega) ⟨hM.lab, fun i' k' h1 h2 h3 hL => ?_⟩)
   by_cases e : i' = i ∧ k' = kk
   ·obtain ⟨rfl, rfl⟩ := e
    exact hs hL
   ·exact hM.same i' k' h1 h2 (by omega) hL
  by_cases c : rd mk (i : Int) = rd mk (kk : Int)
  ·exact Ev.pos c (stay (fun _ => c))
  ·refine Ev.neg c (Ev.pos (by omega) (Ev.pos (by omega) (Ev.bnd (hR.spec i kk hi (by omega)) ?_)))
   cases e : LR all i kk with
   | false => exact stay (fun q => by rw [e] at q; exact absurd q (by decide))
   | true =>
    refine Ev.one (fun k => by rw [spec_l14Marks.j3]) ?_
    have e1 : spec_l1Min.f (rd mk (i : Int)) (rd mk (kk : Int)) = some (min (rd mk (i : Int)) (rd mk (kk : Int))) := spec_l1Min_at _ _
    have e2 : spec_l1Max.f (rd mk (i : Int)) (rd mk (kk : Int)) = some (max (rd mk (i : Int)) (rd mk (kk : Int))) := spec_l1Max_at _ _
    refine Ev.neg (by decide) (Ev.pos (by omega) (Ev.pos (by omega) (Ev.pos (by omega) (Ev.pos (by omega) (Ev.bnd (Ev.const e1) (Ev.bnd (Ev.const e2) ?_))))))
    refine marks_l3 all m hR mk hl i kk (by omega) _ _ res (fun cur hc hr => ?_) all.length 0 mk (by omega) hl (fun t ht => by rw [if_neg (by omega)])
    refine ih (kk + 1) cur (by omega) ⟨hM.lab.map i kk hi (by omega) e _ _ (by omega) (by omega) hc hr, fun i' k' h1 h2 h3 hL => ?_⟩
    rw [hr i' h2, hr k' (by omega)]
    by_cases e' : i' = i ∧ k' = kk
    ·obtain ⟨rfl, rfl⟩ := e'
     split <;> split <;> omega
    ·rw [hM.same i' k' h1 h2 (by omega) hL]
theorem marks_l1 (res : List Int) (hres : ∀ mk, Lab (LR all) all.length mk → mk = res) :
  ∀ (d i : Nat) (mk : List Int), i + d = all.length → Marked all mk i 0 → Ev (fun k => spec_l14Marks.l1 k all mk (i : Int)) res := by
 intro d
 induction d with
 | zero =>
  intro i mk hi hM
  refine Ev.one (fun k => by rw [spec_l14Marks.l1]) ?_
  have : mk = res := hres mk ⟨hM.lab, fun a b ha hb hl => by
   rcases Nat.lt_trichotomy a b with h | h | h
   ·exact (hM.same b a h hb (by omega) (hR.symm a b ha hb hl)).symm
   ·rw [h]
   ·exact hM.same a b h ha (by omega) hl⟩
  rw [this]
  exact Ev.neg (by omega) (Ev.now _)
 | succ d ih =>
  intro i mk hi hM
  refine Ev.one (fun k => by rw [spec_l14Marks.l1]) ?_
  exact Ev.pos (by omega) (marks_l2 all m hR i (by omega) res (fun mk' hM' => ih (i + 1) mk' (by omega) hM') i 0 mk (by omega) hM)
theorem marks_l0 (res : List Int) (hres : ∀ mk, Lab (LR all) all.length mk → mk = res) :
  ∀ (d i : Nat) (mk : List Int), i + d = all.length → mk.length = i → (∀ k, k < i → rd mk (k : Int) = (k : Int)) → Ev (fun k => spec_l14Marks.l0 k all mk (i : Int)) res := by
 have hf := hR.few
 intro d
 induction d with
 | zero =>
  intro i mk hi hl h
  refine Ev.one (fun k => by rw [spec_l14Marks.l0]) ?_
  exact Ev.neg (by omega) (marks_l1 all m hR res hres all.length 0 mk (by omega) ⟨Lab0.idx (by omega) (fun k hk => h k (by omega)), fun i' k' _ _ h3 => by omega⟩)
 | succ d ih =>
  intro i mk hi hl h
  refine Ev.one (fun k => by rw [spec_l14Marks.l0]) ?_
  rw [w64_succ i (by omega)]
  refine Ev.pos (by omega) (Ev.pos (by omega) (ih (i + 1) _ (by omega) (by rw [List.length_append, List.length_singleton]; omega) (fun k hk => ?_)))
  by_cases e : k = i
  ·subst e
   rw [← hl]
   unfold rd
   rw [Int.toNat_natCast, List.getD_eq_getElem?_getD, List.getElem?_append_right (Nat.le_refl _), Nat.sub_self]
   rfl
  ·unfold rd
   rw [Int.toNat_natCast, List.getD_eq_getElem?_getD, List.getElem?_append_left (by omega)]
   have := h k (by omega)
   unfold rd at this
   rwa [Int.toNat_natCast, List.getD_eq_getElem?_getD] at this
def totc (mk : List Int) : Nat → Nat
 | 0 => 0
 | i + 1 => totc mk i + mk.count (i : Int)
/-- What is known of the lists of lists that both make. -/
structure Parts (r : List (List (List Int))) : Prop where
 few : r.length ≤ all.length
 tot : (r.map List.length).sum ≤ all.length
 each : ∀ c ∈ r, 1 ≤ c.length ∧ c.length ≤ all.length ∧ ∀ x ∈ c, x ∈ all
omit hR in
theorem totc_cons (x : Int) (mk : List Int) : ∀ n, totc (x :: mk) n = totc mk n + if 0 ≤ x ∧ x < (n : Int) then 1 else 0
 | 0 => by
  rw [if_neg (by omega)]
  rfl
 | n + 1 => by
  have ih := totc_cons x mk n
  show totc (x :: mk) n + (x :: mk).count (n : Int) = totc mk n + mk.count (n : Int) + _
  rw [ih, List.count_cons]
  by_cases c : x = (n : Int)
  ·subst c
   rw [if_neg (by omega), if_pos (by simp), if_pos (by omega)]
   omega
  ·rw [if_neg (c := (x == (n : Int)) = true) (by simpa using c)]
   by_cases c2 : 0 ≤ x ∧ x < (n : Int)
   ·rw [if_pos c2, if_pos (by omega)]
    omega
   ·rw [if_neg c2, if_neg (by omega)]
    omega
omit hR in
theorem totc_le (n : Nat) : ∀ mk : List Int, totc mk n ≤ mk.length
 | [] => by
  have : ∀ n, totc ([] : List Int) n = 0 := by
   intro n
   induction n with
   | zero => rfl
   | succ n ih => show totc [] n + ([] : List Int).count (n : Int) = 0; rw [ih]; simp
  rw [this n]
  exact Nat.zero_le _
 | x :: mk => by
  have ih := totc_le n mk
  rw [totc_cons, List.length_cons]
  split <;> omega
omit hR in
theorem count_take_succ (mk : List Int) (j : Nat) (hj : j < mk.length) (c : Int) : (mk.take (j + 1)).count c = (mk.take j).count c + if rd mk (j : Int) = c then 1 else 0 := by
 rw [List.take_succ_eq_append_getElem hj, List.count_append, List.count_singleton, rd_at mk j hj]
 by_cases e : mk[j] = c
 ·rw [if_pos e, if_pos (by simpa using e)]
 ·rw [if_neg e, if_neg (by simpa using e)]
theorem parts_both (mk : List Int) (hl : mk.length = all.length) : ∀ (d i : Nat) (acc : List (List (List Int))), i + d = all.length → acc.length ≤ i → (acc.map List.length).sum ≤ totc mk i → (∀ c ∈ acc, 1 ≤ c.length ∧ c.length ≤ all.length ∧ ∀ x ∈ c, x ∈ all) →
  ∃ r, Parts all r ∧ Ev (fun k => impl_ClassesOf.l4 k all mk acc (all.length : Int) (i : Int)) r ∧ Ev (fun k => spec_ClassesOf.l0 k acc all mk (i : Int)) r := by
 have hf := hR.few
 have hm := hR.m1
 intro d
 induction d with
 | zero =>
  intro i acc hi ha ht hc
  refine ⟨acc, ⟨by omega, Nat.le_trans ht (by rw [← hl]; exact totc_le i mk), hc⟩, Ev.one (fun k => by rw [impl_ClassesOf.l4]) ?_, Ev.one (fun k => by rw [spec_ClassesOf.l0]) ?_⟩
  ·exact Ev.neg (by omega) (Ev.now _)
  ·exact Ev.neg (by omega) (Ev.now _)
 | succ d ih =>
  intro i acc hi ha ht hc
  by_cases c : rd mk (i : Int) = (i : Int)
  ·have inner : ∀ (e j : Nat) (one : List (List Int)), j + e = all.length → one.length = (mk.take j).count (i : Int) → (∀ x ∈ one, x ∈ all) →
     ∃ r, Parts all r ∧ Ev (fun k => impl_ClassesOf.l5 k all mk acc (i : Int) one (all.length : Int) (i : Int) (all.length : Int) (j : Int)) r ∧ Ev (fun k => spec_ClassesOf.l1 k acc all mk (i : Int) one (j : Int)) r := by
    intro e
    induction e with
    | zero =>
     intro j one hj ho hx
     rw [show j = mk.length from by omega, List.take_length] at ho
     have hmem : (i : Int) ∈ mk := by rw [← c, rd_at mk i (by omega)]; exact List.getElem_mem _
     have hcp : 0 < mk.count (i : Int) := List.count_pos_iff.2 hmem
     have hcl : mk.count (i : Int) ≤ mk.length := List.count_le_length
     obtain ⟨r, h0, h1, h2⟩ := ih (i + 1) (acc ++ [one]) (by omega) (by rw [List.length_append, List.length_singleton]; omega)
      (by rw [List.map_append, List.sum_append, List.map_singleton, List.sum_singleton]; show _ ≤ totc mk i + mk.count (i : Int); omega)
      (fun z hz => by
       rcases List.mem_append.1 hz with h | h
       ·exact hc z h
       ·rw [List.mem_singleton.1 h]
        exact ⟨by omega, by omega, hx⟩)
     refine ⟨r, h0, Ev.one (fun k => by rw [impl_ClassesOf.l5]) ?_, Ev.one (fun k => by rw [spec_ClassesOf.l1]) ?_⟩
     ·rw [w64_succ i (by omega)]
      exact Ev.neg (by omega) (Ev.pos (by omega) h1)
     ·rw [w64_succ i (by omega)]
      exact Ev.neg (by omega) (Ev.pos (by omega) h2)
    | succ e ihe =>
     intro j one hj ho hx
     have hjl := (hR.at j (by omega)).1
     have ho1 : one.length ≤ mk.length := by rw [ho]; exact Nat.le_trans List.count_le_length (by rw [List.length_take]; omega)
     by_cases c2 : rd mk (j : Int) = (i : Int)
     ·have hmem : rd_L2 all (j : Int) ∈ all := by rw [rd_L2_at all j (by omega)]; exact List.getElem_mem _
      obtain ⟨r, h0, h1, h2⟩ := ihe (j + 1) (one ++ [rd_L2 all (j : Int)]) (by omega) (by rw [List.length_append, List.length_singleton, count_take_succ mk j (by omega), if_pos c2, ho])
       (fun z hz => by
        rcases List.mem_append.1 hz with h | h
        ·exact hx z h
        ·rw [List.mem_singleton.1 h]; exact hmem)
      refine ⟨r, h0, Ev.one (fun k => by rw [impl_ClassesOf.l5]) ?_, Ev.one (fun k => by rw [spec_ClassesOf.l1]) ?_⟩
      ·rw [w64_succ j (by omega)]
       unfold slices_Clone_int_int.f
       exact Ev.pos (by omega) (Ev.pos (by omega) (Ev.pos (by omega) (Ev.pos c2 (Ev.pos (by omega) (Ev.bnd (Ev.pos (by omega) (Ev.now _)) (Ev.pos (by omega) h1))))))
      ·rw [w64_succ j (by omega)]
       exact Ev.pos (by omega) (Ev.pos (by omega) (Ev.pos (by omega) (Ev.pos c2 (Ev.bnd (Ev.now _) (Ev.pos (by simp only [List.length_nil]; omega) (Ev.pos (by omega) h2))))))
     ·obtain ⟨r, h0, h1, h2⟩ := ihe (j + 1) one (by omega) (by rw [count_take_succ mk j (by omega), if_neg c2, ho]; omega) hx
      refine ⟨r, h0, Ev.one (fun k => by rw [impl_ClassesOf.l5]) ?_, Ev.one (fun k => by rw [spec_ClassesOf.l1]) ?_⟩
      ·rw [w64_succ j (by omega)]
       exact Ev.pos (by omega) (Ev.pos (by omega) (Ev.pos (by omega) (Ev.neg c2 h1)))
      ·rw [w64_succ j (by omega)]
       exact Ev.pos (by omega) (Ev.pos (by omega) (Ev.pos (by omega) (Ev.neg c2 h2)))
   obtain ⟨r, h0, h1, h2⟩ := inner all.length 0 [] (by omega) (by simp) (fun x hx => by cases hx)
   refine ⟨r, h0, Ev.one (fun k => by rw [impl_ClassesOf.l4]) ?_, Ev.one (fun k => by rw [spec_ClassesOf.l0]) ?_⟩
   ·exact Ev.pos (by omega) (Ev.pos (by omega) (Ev.pos (by omega) (Ev.pos c h1)))
   ·exact Ev.pos (by omega) (Ev.pos (by omega) (Ev.pos (by omega) (Ev.pos c h2)))
  ·obtain ⟨r, h0, h1, h2⟩ := ih (i + 1) acc (by omega) (by omega) (Nat.le_trans ht (Nat.le_add_right _ _)) hc
   refine ⟨r, h0, Ev.one (fun k => by rw [impl_ClassesOf.l4]) ?_, Ev.one (fun k => by rw [spec_ClassesOf.l0]) ?_⟩
   ·rw [w64_succ i (by omega)]
    exact Ev.pos (by omega) (Ev.pos (by omega) (Ev.pos (by omega) (Ev.neg c h1)))
   ·rw [w64_succ i (by omega)]
    exact Ev.pos (by omega) (Ev.pos (by omega) (Ev.pos (by omega) (Ev.neg c h2)))
end
/-! classboth: ClassesOf of both sides -/
theorem facL_zero : ∀ gs : List Int, (facL gs 0).length = 1
 | [] => rfl
 | g :: gs => by
  show (downF (fun k => (facL gs (0 - k * g)).map fun l => k :: l) ((0 : Int) / g).toNat).length = 1
  rw [Int.zero_ediv]
  show ((facL gs (0 - 0 * g)).map fun l => (0 : Int) :: l).length = 1
  rw [List.length_map, Int.zero_mul, Int.sub_zero]
  exact facL_zero gs
theorem facS_rows (b : Bool) (g : List Int) (hS : b = true → SG g) (n : Int) : Rows (facS b g n) g.length ∨ facS b g n = [] := by
 unfold facS
 split
 ·rename_i h
  obtain ⟨hb, hn⟩ := h
  have hS := hS hb
  obtain ⟨m, rfl⟩ : ∃ m : Nat, n = (m : Int) := ⟨n.toNat, by omega⟩
  have h2 := hS.len2
  have hm := fun x => facL_mem g m x (fun y hy => (hS.rng y hy).1)
  exact .inl ⟨facL_room g hS g (fun x hx => hx) (Nat.le_refl _) m (by omega), fun x hx => ((hm x).1 hx).1, fun x hx => ((hm x).1 hx).2.1, by omega⟩
 ·exact .inr rfl
theorem facS_rows' (b : Bool) (g : List Int) (hS : b = true → SG g) (n : Int) : ∃ m, Rows (facS b g n) m := by
 rcases facS_rows b g hS n with h | h
 ·exact ⟨_, h⟩
 ·rw [h]
  exact ⟨0, by simp, by simp, by simp, by omega⟩
theorem classes_both (g : List Int) (hlen : g.length ≤ 1048576) (n : Int) : ∃ b r, (b = true ↔ SG g) ∧ Parts (facS b g n) r ∧ Ev (fun k => spec_ClassesOf.f k g n) r ∧ Ev (fun k => impl_ClassesOf.f k g n) r := by
 obtain ⟨b, b1, h1, h2⟩ := fac_both g hlen n
 obtain ⟨m, hR⟩ := facS_rows' b g b1.1 n
 have hf := hR.few
 -- the labelling that both find
 have lab : ∃ lb, Lab (LR (facS b g n)) (facS b g n).length lb := by
  apply Classical.byContradiction
  intro hno
  have bad : ∀ res : List (List (List Int)), Ev (fun k => impl_ClassesOf.l0 k (facS b g n) (List.replicate (facS b g n).length 0) ((facS b g n).length : Int) ((0 : Nat) : Int)) res := fun res =>
   classes_l0 (facS b g n) m hR res (fun cls hL => absurd ⟨cls, hL⟩ hno) (facS b g n).length 0 _ (by omega) (by simp) (fun k hk => absurd hk (by omega))
  have := Ev.uniq (bad []) (bad [[]])
  cases this
 obtain ⟨lb, hL⟩ := lab
 obtain ⟨r, h0, r1, r2⟩ := parts_both (facS b g n) m hR lb hL.len (facS b g n).length 0 [] (by omega) (by simp) (by simp) (fun c hc => by cases hc)
 refine ⟨b, r, b1, h0, ?_, ?_⟩
 ·unfold spec_ClassesOf.f
  refine Ev.bnd h1 (Ev.bnd (a := lb) ?_ r2)
  unfold spec_l14Marks.f
  exact marks_l0 (facS b g n) m hR lb (fun mk hM => hM.uniq hL) (facS b g n).length 0 [] (by omega) rfl (fun k hk => absurd hk (by omega))
 ·unfold impl_ClassesOf.f
  refine Ev.bnd h2 (Ev.pos (by omega) (Ev.pos (by omega) ?_))
  rw [Int.toNat_natCast]
  exact classes_l0 (facS b g n) m hR r (fun cls hM => by rw [hM.uniq hL]; exact r1) (facS b g n).length 0 _ (by omega) (by simp) (fun k hk => absurd hk (by omega))
/-! betti2: BettiElements of both sides, in rising order, with their classes -/
def BG (g l : List Int) : Prop := (∀ x ∈ l, 0 ≤ x ∧ x ≤ 100 ∧ ∃ q : List (List (List Int)), 1 < q.length ∧ Ev (fun k => impl_ClassesOf.f k g x) q) ∧ l.Pairwise (· < ·)
theorem BG_nil (g : List Int) : BG g [] := ⟨(fun x hx => by cases hx), List.Pairwise.nil⟩
theorem BG_app (g acc : List Int) (i : Nat) (hi : i ≤ 100) (h : BG g acc) (hlt : ∀ x ∈ acc, x < (i : Int)) (q : List (List (List Int))) (hq : 1 < q.length) (e : Ev (fun k => impl_ClassesOf.f k g (i : Int)) q) : BG g (acc ++ [(i : Int)]) := by
 refine ⟨fun x hx => ?_, List.pairwise_append.2 ⟨h.2, List.pairwise_singleton _ _, fun x hx y hy => ?_⟩⟩
 ·rcases List.mem_append.1 hx with h1 | h1
  ·exact h.1 x h1
  ·rw [List.mem_singleton.1 h1]
   exact ⟨by omega, by omega, q, hq, e⟩
 ·rw [List.mem_singleton.1 hy]
  exact hlt x hx
theorem class_zero (g : List Int) (hlen : g.length ≤ 1048576) : ∃ r, r.length ≤ 1 ∧ Ev (fun k => impl_ClassesOf.f k g 0) r := by
 obtain ⟨b, r, b1, h0, _, h2⟩ := classes_both g hlen 0
 refine ⟨r, Nat.le_trans h0.few ?_, h2⟩
 unfold facS
 split
 ·rw [facL_zero]
  exact Nat.le_refl _
 ·simp
theorem betti_pres (g : List Int) (hlen : g.length ≤ 1048576) : ∃ p : List Int × Bool, p.1.length ≤ 1048576 ∧ BG g p.1 ∧ (p.2 = true → SG g) ∧ Ev (fun k => spec_BettiElements.f k g) p ∧ Ev (fun k => impl_BettiElements.f k g) p := by
 obtain ⟨b, b1, b2, b3⟩ := sg_both g hlen
 obtain ⟨c, c1, c2, c3⟩ := frob_both g hlen
 cases b with
 | false =>
  refine ⟨([], false), by simp, BG_nil g, (fun h => by cases h), ?_, ?_⟩
  ·unfold spec_BettiElements.f
   exact Ev.bnd b2 (Ev.neg (by decide) (Ev.now _))
  ·unfold impl_BettiElements.f
   exact Ev.bnd b3 (Ev.neg (by decide) (Ev.now _))
 | true =>
  have hS := b1.1 rfl
  have hl1 := hS.len1
  have hl2 := hS.len2
  have hF := lastS_gaps c g
  generalize lastS (gapsS c g) = F at c2 c3 hF
  have r0 := hS.rng (rd g 0) (by rw [show rd g 0 = g[0] from rd_at g 0 (by omega)]; exact List.getElem_mem _)
  have ew : wrap64 ((g.length : Int) - 1) = ((g.length - 1 : Nat) : Int) := by rw [w64_of (by omega) (by omega)]; omega
  have r1 := hS.rng (rd g ((g.length - 1 : Nat) : Int)) (by rw [rd_at g (g.length - 1) (by omega)]; exact List.getElem_mem _)
  have eb : wrap64 (wrap64 (F + rd g 0) + wrap64 (2 * rd g ((g.length - 1 : Nat) : Int))) = F + rd g 0 + 2 * rd g ((g.length - 1 : Nat) : Int) := by
   rw [w64_of (x := F + rd g 0) (by omega) (by omega), w64_of (x := 2 * rd g ((g.length - 1 : Nat) : Int)) (by omega) (by omega), w64_of (by omega) (by omega)]
  generalize hBd : F + rd g 0 + 2 * rd g ((g.length - 1 : Nat) : Int) = B at eb
  by_cases cB : B > 100
  ·refine ⟨([], false), by simp, BG_nil g, (fun h => by cases h), ?_, ?_⟩
   ·unfold spec_BettiElements.f
    refine Ev.bnd b2 (Ev.pos rfl (Ev.bnd c2 ?_))
    rw [ew, eb]
    exact Ev.pos (by omega) (Ev.pos (by omega) (Ev.pos (by omega) (Ev.pos cB (Ev.now _))))
   ·unfold impl_BettiElements.f
    refine Ev.bnd b3 (Ev.pos rfl (Ev.bnd c3 ?_))
    rw [ew, eb]
    exact Ev.pos (by omega) (Ev.pos (by omega) (Ev.pos (by omega) (Ev.pos cB (Ev.now _))))
  ·obtain ⟨N, rfl⟩ : ∃ N : Nat, B = (N : Int) := ⟨B.toNat, by omega⟩
   have go : ∀ (d i : Nat) (acc : List Int), i + d = N + 1 → acc.length ≤ i → BG g acc → (∀ x ∈ acc, x < (i : Int)) → ∃ r : List Int, r.length ≤ 1048576 ∧ BG g r ∧ Ev (fun k => spec_BettiElements.l0 k (N : Int) acc (i : Int) g) (r, true) ∧ Ev (fun k => impl_BettiElements.l0 k (N : Int) acc (i : Int) g) (r, true) := by
    intro d
    induction d with
    | zero =>
     intro i acc hi ha hx hlt
     refine ⟨acc, by omega, hx, Ev.one (fun k => by rw [spec_BettiElements.l0]) ?_, Ev.one (fun k => by rw [impl_BettiElements.l0]) ?_⟩
     ·exact Ev.neg (by omega) (Ev.now _)
     ·exact Ev.neg (by omega) (Ev.now _)
    | succ d ih =>
     intro i acc hi ha hx hlt
     obtain ⟨_, p, _, _, p1, p2⟩ := classes_both g hlen (i : Int)
     by_cases e : (p.length : Int) > 1
     ·obtain ⟨r, h0, h1, h2, h3⟩ := ih (i + 1) (acc ++ [(i : Int)]) (by omega) (by rw [List.length_append, List.length_singleton]; omega) (BG_app g acc i (by omega) hx hlt p (by omega) p2) (fun x hx' => by
       rcases List.mem_append.1 hx' with h | h
       ·have := hlt x h
        omega
       ·rw [List.mem_singleton.1 h]; omega)
      refine ⟨r, h0, h1, Ev.one (fun k => by rw [spec_BettiElements.l0]) ?_, Ev.one (fun k => by rw [impl_BettiElements.l0]) ?_⟩
      ·rw [w64_succ i (by omega)]
       exact Ev.pos (by omega) (Ev.bnd p1 (Ev.pos e (Ev.pos (by omega) h2)))
      ·rw [w64_succ i (by omega)]
       exact Ev.pos (by omega) (Ev.bnd p2 (Ev.pos e (Ev.pos (by omega) h3)))
     ·obtain ⟨r, h0, h1, h2, h3⟩ := ih (i + 1) acc (by omega) (by omega) hx (fun x h => by have := hlt x h; omega)
      refine ⟨r, h0, h1, Ev.one (fun k => by rw [spec_BettiElements.l0]) ?_, Ev.one (fun k => by rw [impl_BettiElements.l0]) ?_⟩
      ·rw [w64_succ i (by omega)]
       exact Ev.pos (by omega) (Ev.bnd p1 (Ev.neg e h2))
      ·rw [w64_succ i (by omega)]
       exact Ev.pos (by omega) (Ev.bnd p2 (Ev.neg e h3))
   have goN : ∃ r : List Int, r.length ≤ 1048576 ∧ BG g r ∧ Ev (fun k => spec_BettiElements.l0 k (N : Int) [] ((1 : Nat) : Int) g) (r, true) ∧ Ev (fun k => impl_BettiElements.l0 k (N : Int) [] ((1 : Nat) : Int) g) (r, true) :=
    go N 1 [] (by omega) (by simp) (BG_nil g) (fun x hx => by cases hx)
   obtain ⟨r, h0, h1, h2, h3⟩ := goN
   obtain ⟨z, z1, z2⟩ := class_zero g hlen
   refine ⟨(r, true), h0, h1, fun _ => hS, ?_, ?_⟩
   ·unfold spec_BettiElements.f
    refine Ev.bnd b2 (Ev.pos rfl (Ev.bnd c2 ?_))
    rw [ew, eb]
    exact Ev.pos (by omega) (Ev.pos (by omega) (Ev.pos (by omega) (Ev.neg cB h2)))
   ·unfold impl_BettiElements.f
    refine Ev.bnd b3 (Ev.pos rfl (Ev.bnd c3 ?_))
    rw [ew, eb]
    refine Ev.pos (by omega) (Ev.pos (by omega) (Ev.pos (by omega) (Ev.neg cB ?_)))
    refine Ev.one (fun k => by rw [impl_BettiElements.l0]) ?_
    rw [show wrap64 (0 + 1) = ((1 : Nat) : Int) from w64_succ 0 (by omega)]
    exact Ev.pos (by omega) (Ev.bnd z2 (Ev.neg (by omega) h3))
/-! releq: two relations compared -/
theorem eqRelation_ev (a b : List Int) (ha : a.length ≤ 35184372088832) (hb : b.length ≤ 35184372088832) : Ev (fun k => laws_eqRelation.f k a b a b) true := by
 unfold laws_eqRelation.f
 exact Ev.bnd (eqIntS_ev a ha) (Ev.pos rfl (Ev.bnd (eqIntS_ev b hb) (Ev.pos rfl (Ev.now _))))
/-! relres: eq, mark and held of lists of relations that are handed back -/
theorem rd_T86_at (xs : List S86) (i : Nat) (h : i < xs.length) : rd_T86 xs (i : Int) = xs[i] := by
 unfold rd_T86
 rw [Int.toNat_natCast, List.getD_eq_getElem?_getD, List.getElem?_eq_getElem h, Option.getD_some]
def totR : List S86 → Int
 | [] => 0
 | x :: r => (x.f0.length : Int) + (x.f1.length : Int) + totR r
theorem totR_rng : ∀ l : List S86, (∀ x ∈ l, x.f0.length ≤ 1000 ∧ x.f1.length ≤ 1000) → 0 ≤ totR l ∧ totR l ≤ 2000 * (l.length : Int) := by
 intro l
 induction l with
 | nil => intro _; simp [totR]
 | cons x r ih =>
  intro h
  have h1 := h x List.mem_cons_self
  have := ih (fun y hy => h y (List.mem_cons_of_mem _ hy))
  rw [totR, List.length_cons]
  omega
def marksR : List S86 → Int → List S86
 | [], _ => []
 | x :: r, a => ⟨marks x.f0 a, marks x.f1 (a + (x.f0.length : Int))⟩ :: marksR r (a + (x.f0.length : Int) + (x.f1.length : Int))
theorem eqRelationS_l0 (l : List S86) (hl : l.length ≤ 2000000000000) (hx : ∀ x ∈ l, x.f0.length ≤ 1000 ∧ x.f1.length ≤ 1000) : ∀ (d i : Nat), i + d = l.length → Ev (fun k => laws_eqRelationS.l0 k l l (i : Int)) true := by
 intro d
 induction d with
 | zero =>
  intro i hi
  exact Ev.one (fun k => by rw [laws_eqRelationS.l0]) (Ev.neg (by omega) (Ev.now _))
 | succ d ih =>
  intro i hi
  have hil : i < l.length := by omega
  have hm := hx _ (List.getElem_mem hil)
  refine Ev.one (fun k => by rw [laws_eqRelationS.l0]) ?_
  rw [rd_T86_at l i hil, w64_succ i (by omega)]
  exact Ev.pos (by omega) (Ev.pos (by omega) (Ev.pos (by omega) (Ev.bnd (eqRelation_ev l[i].f0 l[i].f1 (by omega) (by omega)) (Ev.pos rfl (ih (i + 1) (by omega))))))
theorem eqRelationS_ev (l : List S86) (hl : l.length ≤ 2000000000000) (hx : ∀ x ∈ l, x.f0.length ≤ 1000 ∧ x.f1.length ≤ 1000) : Ev (fun k => laws_eqRelationS.f k l l) true := by
 unfold laws_eqRelationS.f
 exact Ev.pos rfl (eqRelationS_l0 l hl hx l.length 0 (by omega))
theorem set_atR {α : Type} (a b : List α) (x v : α) : (a ++ x :: b).set a.length v = (a ++ [v]) ++ b := by simp
theorem markRelationS_l0 : ∀ (r done : List S86) (a : Int), (∀ x ∈ r, x.f0.length ≤ 1000 ∧ x.f1.length ≤ 1000) → done.length + r.length ≤ 2000000000000 → 0 ≤ a → a + 2000 * (r.length : Int) ≤ 4611686018427387904 →
  Ev (fun k => laws_markRelationS.l0 k (done ++ r) a (done.length : Int)) (a + totR r, done ++ marksR r a) := by
 intro r
 induction r with
 | nil =>
  intro done a _ hl h0 h1
  refine Ev.one (fun k => by rw [laws_markRelationS.l0]) ?_
  rw [totR, marksR, Int.add_zero, List.append_nil]
  exact Ev.neg (by omega) (Ev.now _)
 | cons x r ih =>
  intro done a hx hl h0 h1
  rw [List.length_cons] at hl h1
  have hx1 := hx x List.mem_cons_self
  have e1 := ih (done ++ [⟨marks x.f0 a, marks x.f1 (a + (x.f0.length : Int))⟩]) (a + (x.f0.length : Int) + (x.f1.length : Int)) (fun y hy => hx y (List.mem_cons_of_mem _ hy)) (by rw [List.length_append, List.length_singleton]; omega) (by omega) (by omega)
  have e : rd_T86 (done ++ x :: r) (done.length : Int) = x := by
   rw [rd_T86_at _ done.length (by rw [List.length_append, List.length_cons]; omega)]
   simp
  refine Ev.one (fun k => by rw [laws_markRelationS.l0]) ?_
  rw [e]
  refine Ev.pos (by rw [List.length_append, List.length_cons]; omega) (Ev.pos (by omega) (Ev.bnd (markIntS_ev x.f0 a (by omega) (by omega) (by omega)) ?_))
  dsimp only
  refine Ev.bnd (markIntS_ev x.f1 (a + (x.f0.length : Int)) (by omega) (by omega) (by omega)) ?_
  dsimp only
  rw [Int.toNat_natCast, set_atR, w64_succ done.length (by omega), totR, marksR, show a + ((x.f0.length : Int) + (x.f1.length : Int) + totR r) = a + (x.f0.length : Int) + (x.f1.length : Int) + totR r from by omega]
  rw [List.length_append, List.length_singleton, List.append_assoc, List.singleton_append] at e1
  rw [List.append_assoc, List.singleton_append]
  rw [List.append_assoc, List.singleton_append] at e1
  exact e1
theorem markRelationS_ev (l : List S86) (hl : l.length ≤ 2000000000000) (hx : ∀ x ∈ l, x.f0.length ≤ 1000 ∧ x.f1.length ≤ 1000) : Ev (fun k => laws_markRelationS.f k l 1) (1 + totR l, marksR l 1) :=
 markRelationS_l0 l [] 1 hx (by simpa using hl) (by omega) (by omega)
theorem marksR_len : ∀ (l : List S86) (a : Int), (marksR l a).length = l.length := by
 intro l
 induction l with
 | nil => intro a; rfl
 | cons x r ih => intro a; rw [marksR, List.length_cons, ih, List.length_cons]
theorem heldRelationS_l0 : ∀ (r done : List S86) (a : Int), (∀ x ∈ r, x.f0.length ≤ 1000 ∧ x.f1.length ≤ 1000) → done.length + r.length ≤ 2000000000000 → 0 ≤ a → a + 2000 * (r.length : Int) ≤ 4611686018427387904 →
  Ev (fun k => laws_heldRelationS.l0 k (done ++ marksR r a) a (done.length : Int)) (a + totR r) := by
 intro r
 induction r with
 | nil =>
  intro done a _ hl h0 h1
  refine Ev.one (fun k => by rw [laws_heldRelationS.l0]) ?_
  rw [totR, marksR, Int.add_zero, List.append_nil]
  exact Ev.neg (by omega) (Ev.now _)
 | cons x r ih =>
  intro done a hx hl h0 h1
  rw [List.length_cons] at hl h1
  have hx1 := hx x List.mem_cons_self
  have e1 := ih (done ++ [⟨marks x.f0 a, marks x.f1 (a + (x.f0.length : Int))⟩]) (a + (x.f0.length : Int) + (x.f1.length : Int)) (fun y hy => hx y (List.mem_cons_of_mem _ hy)) (by rw [List.length_append, List.length_singleton]; omega) (by omega) (by omega)
  have hml := marksR_len r (a + (x.f0.length : Int) + (x.f1.length : Int))
  have e : rd_T86 (done ++ marksR (x :: r) a) (done.length : Int) = ⟨marks x.f0 a, marks x.f1 (a + (x.f0.length : Int))⟩ := by
   rw [marksR, rd_T86_at _ done.length (by rw [List.length_append, List.length_cons]; omega)]
   simp
  have hml2 := marksR_len (x :: r) a
  rw [List.length_cons] at hml2
  refine Ev.one (fun k => by rw [laws_heldRelationS.l0]) ?_
  rw [e]
  refine Ev.pos (by rw [List.length_append]; omega) (Ev.pos (by omega) (Ev.bnd (heldIntS_ev x.f0 a (by omega) (by omega) (by omega)) (Ev.neg (by omega) (Ev.bnd (heldIntS_ev x.f1 (a + (x.f0.length : Int)) (by omega) (by omega) (by omega)) (Ev.neg (by omega) ?_)))))
  rw [marksR, w64_succ done.length (by omega), totR, show a + ((x.f0.length : Int) + (x.f1.length : Int) + totR r) = a + (x.f0.length : Int) + (x.f1.length : Int) + totR r from by omega]
  rw [List.length_append, List.length_singleton, List.append_assoc, List.singleton_append] at e1
  exact e1
theorem heldRelationS_ev (l : List S86) (hl : l.length ≤ 2000000000000) (hx : ∀ x ∈ l, x.f0.length ≤ 1000 ∧ x.f1.length ≤ 1000) : Ev (fun k => laws_heldRelationS.f k (marksR l 1) 1) (1 + totR l) :=
 heldRelationS_l0 l [] 1 hx (by simpa using hl) (by omega) (by omega)
/-! pres: PresentationOf of both sides -/
theorem facL_lenN (N m : Nat) (hm : 1 ≤ m) : ∀ (gs : List Int) (n : Nat), gs ≠ [] → (∀ x ∈ gs, (m : Int) ≤ x) → n ≤ N → (facL gs (n : Int)).length ≤ (N / m + 1) ^ (gs.length - 1)
 | [], _, h, _, _ => absurd rfl h
 | [x], n, _, hg, hn => by
  have hx := hg x (List.mem_cons_self ..)
  obtain ⟨g, rfl⟩ : ∃ g : Nat, x = (g : Int) := ⟨x.toNat, by omega⟩
  rw [facL_one g (by omega) n]
  split <;> simp
 | x :: y :: gs, n, _, hg, hn => by
  have hx := hg x (List.mem_cons_self ..)
  obtain ⟨g, rfl⟩ : ∃ g : Nat, x = (g : Int) := ⟨x.toNat, by omega⟩
  have hd : ((n : Int) / (g : Int)).toNat = n / g := by rw [← Int.natCast_ediv, Int.toNat_natCast]
  show (downF (fun k => (facL (y :: gs) ((n : Int) - k * (g : Int))).map fun l => k :: l) ((n : Int) / (g : Int)).toNat).length ≤ _
  rw [hd]
  refine Nat.le_trans (downF_len _ ((N / m + 1) ^ ((y :: gs).length - 1)) (n / g) (fun k hk => ?_)) ?_
  ·rw [List.length_map]
   have hk2 : k * g ≤ n := Nat.le_trans (Nat.mul_le_mul_right g hk) (Nat.div_mul_le_self n g)
   have e : (n : Int) - (k : Int) * (g : Int) = ((n - k * g : Nat) : Int) := by rw [← Int.natCast_mul]; omega
   rw [e]
   exact facL_lenN N m hm (y :: gs) (n - k * g) (by simp) (fun z hz => hg z (List.mem_cons_of_mem _ hz)) (by omega)
  ·have h1 : n / g ≤ N / m := Nat.le_trans (Nat.div_le_div_right hn) (Nat.div_le_div_left (by omega) (by omega))
   show (N / m + 1) ^ gs.length * (n / g + 1) ≤ (N / m + 1) ^ (gs.length + 1)
   rw [Nat.pow_succ]
   exact Nat.mul_le_mul_left _ (by omega)
theorem pow_room2 : ∀ k : Nat, k ≤ 12 → 1 ≤ k → (100 / k + 1) ^ (k - 1) ≤ 32000000000 := by decide
theorem pow_room3 : ∀ k : Nat, k ≤ 12 → 1 ≤ k → (95 / k + 1) ^ (k - 1) ≤ 10000000000 := by decide
theorem facL_roomN (N B : Nat) (hB : ∀ k : Nat, k ≤ 12 → 1 ≤ k → (N / k + 1) ^ (k - 1) ≤ B) (h1B : 1 ≤ B) (g : List Int) (h : SG g) (n : Nat) (hn : n ≤ N) : (facL g (n : Int)).length ≤ B := by
 have hl1 := h.len1
 have hl2 := h.len2
 obtain ⟨a, ha, ha1, ha2, hmem⟩ := first_of g (by omega) h.rng
 have hk := h.len_le g a ha ha1
 have h0 : rd g ((0 : Nat) : Int) = g[0] := rd_at g 0 (by omega)
 have h0' : g[0] = (a : Int) := by rw [← h0]; exact ha
 have e : g ≠ [] := fun e => by rw [e] at hl1; simp at hl1
 have h1 := facL_lenN N g.length hl1 g n e (fun x hx => by
  have := asc_first g h.up (by omega) x hx
  omega) hn
 have h3 := hB g.length hl2 hl1
 omega
def room (x : Nat) : Nat := if x ≤ 96 then x * 10000000000 else 960000000000 + (x - 96) * 32000000000
theorem facS_step (b : Bool) (g : List Int) (hS : b = true → SG g) (n : Nat) (hn : n ≤ 100) : room n + (facS b g (n : Int)).length ≤ room (n + 1) := by
 have hlen : (facS b g (n : Int)).length ≤ if n ≤ 95 then 10000000000 else 32000000000 := by
  unfold facS
  split
  ·rename_i h
   have hS := hS h.1
   split
   ·exact facL_roomN 95 _ pow_room3 (by omega) g hS n (by omega)
   ·exact facL_roomN 100 _ pow_room2 (by omega) g hS n hn
  ·simp
 unfold room
 split at hlen <;> split <;> split <;> omega
theorem room_mono {a b : Nat} (h : a ≤ b) : room a ≤ room b := by
 unfold room
 split <;> split <;> omega
theorem room_top : room 101 = 1120000000000 := by decide
theorem clone_f (l : List Int) (h : l.length ≤ 1000) : Ev (fun _ => slices_Clone_int_int.f l) l := by
 unfold slices_Clone_int_int.f
 exact Ev.pos (by omega) (Ev.now _)
def Small (r : List S86) : Prop := ∀ x ∈ r, x.f0.length ≤ 1000 ∧ x.f1.length ≤ 1000
theorem Small.app {r : List S86} (h : Small r) (a b : List Int) (ha : a.length ≤ 1000) (hb : b.length ≤ 1000) : Small (r ++ [⟨a, b⟩]) := fun x hx => by
 rcases List.mem_append.1 hx with h1 | h1
 ·exact h x h1
 ·rw [List.mem_singleton.1 h1]
  exact ⟨ha, hb⟩
theorem rd_LLL_in (xs : List (List (List Int))) (i : Nat) (h : i < xs.length) : rd_L4 xs (i : Int) = xs[i] := by
 unfold rd_L4
 rw [Int.toNat_natCast, List.getD_eq_getElem?_getD, List.getElem?_eq_getElem h, Option.getD_some]
/-- The classes of one element told: both sides add the same relations. -/
theorem pres_inner (g bl : List Int) (j : Nat) (cl : List (List (List Int))) (hc : ∀ c ∈ cl, 1 ≤ c.length ∧ ∀ x ∈ c, x.length ≤ 1000) (hcl : cl.length ≤ 100000000000) : ∀ (d i : Nat) (acc : List S86), 1 ≤ i → i + d = cl.length → acc.length + d ≤ 2000000000000 → Small acc →
  ∃ r, r.length ≤ acc.length + d ∧ Small r ∧ (∀ q, Ev (fun k => spec_PresentationOf.l0 k bl r (wrap64 ((j : Int) + 1)) g) q → Ev (fun k => spec_PresentationOf.l1 k bl acc (j : Int) cl (i : Int) g) q) ∧
   (∀ q, Ev (fun k => impl_PresentationOf.l0 k r bl (bl.length : Int) (wrap64 ((j : Int) + 1)) g) q → Ev (fun k => impl_PresentationOf.l1 k acc cl bl (bl.length : Int) (j : Int) (cl.drop 1) ((cl.drop 1).length : Int) ((i - 1 : Nat) : Int) g) q) := by
 intro d
 induction d with
 | zero =>
  intro i acc h1 hi ha hs
  have hdl : (cl.drop 1).length = cl.length - 1 := List.length_drop
  refine ⟨acc, by omega, hs, fun q h => Ev.one (fun k => by rw [spec_PresentationOf.l1]) ?_, fun q h => Ev.one (fun k => by rw [impl_PresentationOf.l1]) ?_⟩
  ·exact Ev.neg (by omega) h
  ·exact Ev.neg (by omega) h
 | succ d ih =>
  intro i acc h1 hi ha hs
  have hdl : (cl.drop 1).length = cl.length - 1 := List.length_drop
  have hil : i < cl.length := by omega
  have c0 := hc cl[0] (List.getElem_mem (by omega))
  have ci := hc cl[i] (List.getElem_mem hil)
  have m0 := c0.2 cl[0][0] (List.getElem_mem (by omega))
  have mi := ci.2 cl[i][0] (List.getElem_mem (by omega))
  obtain ⟨r, l1, s1, p1, p2⟩ := ih (i + 1) (acc ++ [⟨cl[0][0], cl[i][0]⟩]) (by omega) (by omega) (by rw [List.length_append, List.length_singleton]; omega) (hs.app _ _ m0 mi)
  rw [List.length_append, List.length_singleton] at l1
  have e0 : rd_L4 cl 0 = cl[0] := rd_LLL_in cl 0 (by omega)
  have ei : rd_L4 cl (i : Int) = cl[i] := rd_LLL_in cl i hil
  have ed : rd_L4 (cl.drop 1) ((i - 1 : Nat) : Int) = cl[i] := by
   rw [rd_LLL_in (cl.drop 1) (i - 1) (by omega), List.getElem_drop]
   congr 1
   omega
  have f0 : rd_L2 cl[0] 0 = cl[0][0] := rd_L2_at cl[0] 0 (by omega)
  have fi : rd_L2 cl[i] 0 = cl[i][0] := rd_L2_at cl[i] 0 (by omega)
  refine ⟨r, by omega, s1, fun q h => Ev.one (fun k => by rw [spec_PresentationOf.l1]) ?_, fun q h => Ev.one (fun k => by rw [impl_PresentationOf.l1]) ?_⟩
  ·rw [e0, ei, f0, fi, w64_succ i (by omega)]
   exact Ev.pos (by omega) (Ev.pos (by omega) (Ev.pos (by omega) (Ev.bnd (clone_f _ m0) (Ev.pos (by omega) (Ev.pos (by omega) (Ev.bnd (clone_f _ mi) (Ev.pos (by omega) (p1 q h))))))))
  ·have h2 := p2 q h
   rw [show i + 1 - 1 = i - 1 + 1 from by omega] at h2
   rw [e0, ed, f0, fi, w64_succ (i - 1) (by omega)]
   exact Ev.pos (by omega) (Ev.pos (by omega) (Ev.pos (by omega) (Ev.pos (by omega) (Ev.pos (by omega) (Ev.bnd (clone_f _ m0) (Ev.pos (by omega) (Ev.bnd (clone_f _ mi) (Ev.pos (by omega) h2))))))))
theorem pres_outer (g : List Int) (hlen : g.length ≤ 1048576) (bl : List Int) (hb : BG g bl) (hbl : bl.length ≤ 1048576) : ∀ (d j lo : Nat) (acc : List S86), j + d = bl.length → (∀ (i : Nat) (h : i < bl.length), j ≤ i → (lo : Int) ≤ bl[i]) → lo ≤ 101 → acc.length ≤ room lo → Small acc →
  ∃ r, r.length ≤ 1120000000000 ∧ Small r ∧ Ev (fun k => spec_PresentationOf.l0 k bl acc (j : Int) g) (r, true) ∧ Ev (fun k => impl_PresentationOf.l0 k acc bl (bl.length : Int) (j : Int) g) (r, true) := by
 intro d
 induction d with
 | zero =>
  intro j lo acc hj hlo h101 ha hs
  have hr := room_mono h101
  rw [room_top] at hr
  exact ⟨acc, by omega, hs, Ev.one (fun k => by rw [spec_PresentationOf.l0]) (Ev.neg (by omega) (Ev.now _)), Ev.one (fun k => by rw [impl_PresentationOf.l0]) (Ev.neg (by omega) (Ev.now _))⟩
 | succ d ih =>
  intro j lo acc hj hlo h101 ha hs
  have hjl : j < bl.length := by omega
  have hlj := hlo j hjl (Nat.le_refl _)
  obtain ⟨x0, x100, q, hq1, hq2⟩ := hb.1 bl[j] (List.getElem_mem hjl)
  obtain ⟨n, hn⟩ : ∃ n : Nat, bl[j] = (n : Int) := ⟨bl[j].toNat, by omega⟩
  obtain ⟨b, cl, b1, hP, e1, e2⟩ := classes_both g hlen bl[j]
  have hqc := Ev.uniq hq2 e2
  subst hqc
  obtain ⟨hsm, hsx⟩ := facS_small b g b1.1 bl[j]
  have hfew := hP.few
  have hstep := facS_step b g b1.1 n (by omega)
  rw [← hn] at hstep
  have hrm := room_mono (show lo ≤ n by omega)
  have hr := room_mono (show n + 1 ≤ 101 by omega)
  rw [room_top] at hr
  obtain ⟨r1, l1, s1, p1, p2⟩ := pres_inner g bl j q (fun c hc => ⟨(hP.each c hc).1, fun x hx => hsx x ((hP.each c hc).2.2 x hx)⟩) (by omega) (q.length - 1) 1 acc (by omega) (by omega) (by omega) hs
  obtain ⟨r, g1, g2, g3, g4⟩ := ih (j + 1) (n + 1) r1 (by omega) (fun i h hi => by
   have := List.pairwise_iff_getElem.1 hb.2 j i hjl h (by omega)
   omega) (by omega) (by omega) s1
  rw [← w64_succ j (by omega)] at g3 g4
  refine ⟨r, g1, g2, Ev.one (fun k => by rw [spec_PresentationOf.l0]) ?_, Ev.one (fun k => by rw [impl_PresentationOf.l0]) ?_⟩
  ·rw [rd_at bl j hjl]
   exact Ev.pos (by omega) (Ev.pos (by omega) (Ev.bnd e1 (p1 _ g3)))
  ·rw [rd_at bl j hjl]
   exact Ev.pos (by omega) (Ev.pos (by omega) (Ev.pos (by omega) (Ev.bnd e2 (Ev.pos (by omega) (Ev.some (p2 _ g4))))))
theorem pres_both (g : List Int) (hlen : g.length ≤ 1048576) : ∃ p : List S86 × Bool, p.1.length ≤ 1120000000000 ∧ Small p.1 ∧ Ev (fun k => spec_PresentationOf.f k g) p ∧ Ev (fun k => impl_PresentationOf.f k g) p := by
 obtain ⟨⟨bl, t⟩, h0, hb, _, e1, e2⟩ := betti_pres g hlen
 dsimp only at h0 hb
 cases t with
 | false =>
  refine ⟨([], false), by simp, (fun x hx => by cases hx), ?_, ?_⟩
  ·unfold spec_PresentationOf.f
   exact Ev.bnd e1 (Ev.neg (by simp) (Ev.now _))
  ·unfold impl_PresentationOf.f
   exact Ev.bnd e2 (Ev.neg (by simp) (Ev.now _))
 | true =>
  obtain ⟨r, g1, g2, g3, g4⟩ := pres_outer g hlen bl hb h0 bl.length 0 0 [] (by omega) (fun i h _ => (hb.1 bl[i] (List.getElem_mem h)).1) (by omega) (by simp) (fun x hx => by cases hx)
  refine ⟨(r, true), g1, g2, ?_, ?_⟩
  ·unfold spec_PresentationOf.f
   exact Ev.bnd e1 (Ev.pos rfl g3)
  ·unfold impl_PresentationOf.f
   exact Ev.bnd e2 (Ev.pos rfl g4)
end Go.Proofs.Ytlfdipnhlmjiaaa.Pure
