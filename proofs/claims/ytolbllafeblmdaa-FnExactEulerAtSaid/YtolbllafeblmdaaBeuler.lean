/- Plain lemmas (euler): no program, no memory. -/
import Derived.Test.YtolbllafeblmdaaC0
import Derived.Test.YtolbllafeblmdaaC4
import Derived.Test.YtolbllafeblmdaaC8
import Derived.Test.YtolbllafeblmdaaBwithin
import Derived.Test.YtolbllafeblmdaaBsums
import Derived.Test.YtolbllafeblmdaaBissg
import Derived.Test.YtolbllafeblmdaaBshell
import Derived.Test.YtolbllafeblmdaaBelems
import Derived.Test.YtolbllafeblmdaaBreach
import Derived.Test.YtolbllafeblmdaaBreachany
import Derived.Test.YtolbllafeblmdaaBbase
namespace Go.Proofs.Ytolbllafeblmdaa.Pure
open Go.RowKit Go.Proofs.Ytolbllafeblmdaa.C Go.Proofs.YtolbllafeblmdaaW.PrintWords Go.Proofs.YtolbllafeblmdaaW.PrintLast Go.Proofs.YtolbllafeblmdaaW.PrintMore
set_option linter.unusedVariables false
set_option linter.unusedSimpArgs false
/-! euler: the Euler characteristics of both sides -/
theorem spec_l15Has_el (g : List Int) (hS : SG g) (n : Int) : Ev (fun k => spec_l15Has.f k g n) (elB g n) := by
  unfold spec_l15Has.f
  by_cases h : n = 0
  · rw [show elB g n = true from (elB_iff g n).2 (h ▸ Sums.zero g)]
    exact Ev.pos h (Ev.now _)
  · exact Ev.neg h (Ev.bnd (spec_l3Has_el g hS n) (Ev.now _))
noncomputable def bitI (g : List Int) (n : Int) : Int := if elB g n = true then 1 else 0
noncomputable def eu (g : List Int) : List Int → Int → Int
  | [], n => bitI g n
  | x :: t, n => eu g t n - eu g t (n - x)
noncomputable def wt (g : List Int) : Nat → List Int → Int → Int → Int
  | _, [], n, s => if elB g n = true then s else 0
  | q, x :: t, n, s => if q % 2 = 1 then wt g (q / 2) t (n - x) (-s) else wt g (q / 2) t n s
def sm (f : Nat → Int) : Nat → Nat → Int
  | _, 0 => 0
  | q, d + 1 => f q + sm f (q + 1) d
theorem elB_neg (g : List Int) (hS : SG g) (n : Int) (h : n < 0) : elB g n = false := by
  cases hb : elB g n with
  | false => rfl
  | true =>
    have := Sums.nonneg (fun x hx => by have := hS.rng x hx; omega) ((elB_iff g n).1 hb)
    omega
theorem eu_neg (g : List Int) (hS : SG g) : ∀ (l : List Int) (n : Int), (∀ x ∈ l, 1 ≤ x ∧ x ≤ 60) → n < 0 → eu g l n = 0 := by
  intro l
  induction l with
  | nil =>
    intro n _ h
    show bitI g n = 0
    unfold bitI
    rw [elB_neg g hS n h]
    rfl
  | cons x t ih =>
    intro n hr h
    have hx := hr x (List.mem_cons_self ..)
    have h1 := ih n (fun y hy => hr y (List.mem_cons_of_mem _ hy)) h
    have h2 := ih (n - x) (fun y hy => hr y (List.mem_cons_of_mem _ hy)) (by omega)
    show eu g t n - eu g t (n - x) = 0
    omega
theorem eu_bound (g : List Int) : ∀ (l : List Int) (m : Nat) (n : Int), l.length ≤ m → -(2 ^ m : Nat) ≤ eu g l n ∧ eu g l n ≤ (2 ^ m : Nat) := by
  intro l
  induction l with
  | nil =>
    intro m n h
    have h2 : 1 ≤ 2 ^ m := Nat.one_le_two_pow
    show -(2 ^ m : Nat) ≤ bitI g n ∧ bitI g n ≤ (2 ^ m : Nat)
    unfold bitI
    split <;> omega
  | cons x t ih =>
    intro m n h
    cases m with
    | zero => exact absurd h (by simp)
    | succ m =>
      have h1 := ih m n (by simpa using h)
      have h2 := ih m (n - x) (by simpa using h)
      have h3 : 2 ^ (m + 1) = 2 * 2 ^ m := by rw [Nat.pow_succ, Nat.mul_comm]
      show -(2 ^ (m + 1) : Nat) ≤ eu g t n - eu g t (n - x) ∧ eu g t n - eu g t (n - x) ≤ (2 ^ (m + 1) : Nat)
      omega
theorem wt_bound (g : List Int) : ∀ (l : List Int) (q : Nat) (n s : Int), -1 ≤ s → s ≤ 1 → -1 ≤ wt g q l n s ∧ wt g q l n s ≤ 1 := by
  intro l
  induction l with
  | nil =>
    intro q n s h1 h2
    unfold wt
    split <;> omega
  | cons x t ih =>
    intro q n s h1 h2
    unfold wt
    split
    · exact ih _ _ _ (by omega) (by omega)
    · exact ih _ _ _ h1 h2
theorem sm_two (f : Nat → Int) : ∀ d q, sm f (2 * q) (2 * d) = sm (fun j => f (2 * j) + f (2 * j + 1)) q d := by
  intro d
  induction d with
  | zero => intro q; rfl
  | succ d ih =>
    intro q
    have := ih (q + 1)
    show f (2 * q) + (f (2 * q + 1) + sm f (2 * (q + 1)) (2 * d)) = (f (2 * q) + f (2 * q + 1)) + sm (fun j => f (2 * j) + f (2 * j + 1)) (q + 1) d
    omega
theorem sm_add (f h : Nat → Int) : ∀ d q, sm (fun j => f j + h j) q d = sm f q d + sm h q d := by
  intro d
  induction d with
  | zero => intro q; rfl
  | succ d ih =>
    intro q
    have := ih (q + 1)
    show (f q + h q) + sm (fun j => f j + h j) (q + 1) d = (f q + sm f (q + 1) d) + (h q + sm h (q + 1) d)
    omega
theorem wt_even (g : List Int) (j : Nat) (x : Int) (t : List Int) (n s : Int) : wt g (2 * j) (x :: t) n s = wt g j t n s := by
  show (if 2 * j % 2 = 1 then _ else _) = _
  rw [if_neg (by omega), show 2 * j / 2 = j by omega]
theorem wt_odd (g : List Int) (j : Nat) (x : Int) (t : List Int) (n s : Int) : wt g (2 * j + 1) (x :: t) n s = wt g j t (n - x) (-s) := by
  show (if (2 * j + 1) % 2 = 1 then _ else _) = _
  rw [if_pos (by omega), show (2 * j + 1) / 2 = j by omega]
theorem sm_wt (g : List Int) : ∀ (l : List Int) (n s : Int), sm (fun j => wt g j l n s) 0 (2 ^ l.length) = s * eu g l n := by
  intro l
  induction l with
  | nil =>
    intro n s
    show (if elB g n = true then s else 0) + 0 = s * bitI g n
    unfold bitI
    split <;> omega
  | cons x t ih =>
    intro n s
    have h1 := ih n s
    have h2 := ih (n - x) (-s)
    have e : (fun j => wt g (2 * j) (x :: t) n s + wt g (2 * j + 1) (x :: t) n s) = fun j => wt g j t n s + wt g j t (n - x) (-s) := funext fun j => by rw [wt_even, wt_odd]
    rw [List.length_cons, show 2 ^ (t.length + 1) = 2 * 2 ^ t.length by rw [Nat.pow_succ, Nat.mul_comm]]
    have := sm_two (fun j => wt g j (x :: t) n s) (2 ^ t.length) 0
    rw [Nat.mul_zero] at this
    rw [this, e, sm_add, h1, h2]
    show s * eu g t n + -s * eu g t (n - x) = s * (eu g t n - eu g t (n - x))
    rw [Int.mul_sub, Int.neg_mul]
    omega
theorem i64_and1 (n : Int) : Go.bits .and .i64 n 1 = n % 2 := by
  have h1 : (BitVec.ofInt 64 1).toNat = 2 ^ 1 - 1 := by decide
  have key : (BitVec.ofInt 64 n &&& BitVec.ofInt 64 1).toNat = (n % ((2 ^ 64 : Nat) : Int)).toNat % 2 ^ 1 := by
    rw [BitVec.toNat_and, BitVec.toNat_ofInt, h1, Nat.and_two_pow_sub_one_eq_mod]
  show IntKind.i64.wrap ((BitVec.ofInt 64 n &&& BitVec.ofInt 64 1).toNat : Nat) = n % 2
  rw [key, IntKind.wrap_i64]
  omega
theorem shr_nat (q i : Nat) (h : i ≤ 64) : shr .i64 (q : Int) (i : Int) = ((q / 2 ^ i : Nat) : Int) := by
  show (q : Int) / 2 ^ min (i : Int).toNat 64 = _
  rw [Int.toNat_natCast, Nat.min_eq_left h, Int.natCast_ediv, Int.natCast_pow]
  rfl
theorem shl_one (m : Nat) (h : m ≤ 12) : shl .i64 1 (m : Int) = ((2 ^ m : Nat) : Int) := by
  have : ∀ m, m < 13 → shl .i64 1 ((m : Nat) : Int) = ((2 ^ m : Nat) : Int) := by decide
  exact this m (by omega)
theorem bit_at (q i : Nat) (h : i ≤ 64) : Go.bits .and .i64 (shr .i64 (q : Int) (i : Int)) 1 = ((q / 2 ^ i % 2 : Nat) : Int) := by
  rw [shr_nat q i h, i64_and1]
  omega
theorem spec_euler_ev (g : List Int) (hS : SG g) : ∀ d i, i + d = g.length → ∀ n : Int, -1000000 + (d : Int) * 60 ≤ n → n ≤ 1000000 → Ev (fun k => spec_l15Euler.f k g (i : Int) n) (eu g (g.drop i) n) := by
  have hl := hS.len2
  intro d
  induction d with
  | zero =>
    intro i hi n h1 h2
    rw [List.drop_eq_nil_of_le (by omega)]
    refine Ev.one (fun k => by rw [spec_l15Euler.f]) ?_
    by_cases hn : n < 0
    · rw [eu_neg g hS [] n (by simp) hn]
      exact Ev.pos hn (Ev.now _)
    · refine Ev.neg hn (Ev.pos (by omega) (Ev.bnd (spec_l15Has_el g hS n) ?_))
      show Ev _ (bitI g n)
      unfold bitI
      cases elB g n with
      | true => exact Ev.bnd (Ev.const rfl) (Ev.now _)
      | false => exact Ev.bnd (Ev.const rfl) (Ev.now _)
  | succ d ih =>
    intro i hi n h1 h2
    have hil : i < g.length := by omega
    have hg := hS.rng _ (List.getElem_mem hil)
    refine Ev.one (fun k => by rw [spec_l15Euler.f]) ?_
    by_cases hn : n < 0
    · rw [eu_neg g hS _ n (fun x hx => hS.rng x (List.mem_of_mem_drop hx)) hn]
      exact Ev.pos hn (Ev.now _)
    · have e1 := ih (i + 1) (by omega) n (by omega) h2
      have e2 := ih (i + 1) (by omega) (n - g[i]) (by omega) (by omega)
      have b1 := eu_bound g (g.drop (i + 1)) 12 n (by rw [List.length_drop]; omega)
      have b2 := eu_bound g (g.drop (i + 1)) 12 (n - g[i]) (by rw [List.length_drop]; omega)
      rw [show (2 ^ 12 : Nat) = 4096 from rfl] at b1 b2
      rw [List.drop_eq_getElem_cons hil]
      refine Ev.neg hn (Ev.neg (by omega) ?_)
      rw [rd_at g i hil, w64_succ i (by omega), w64_of (x := n - g[i]) (by omega) (by omega)]
      refine Ev.bnd e1 (Ev.pos (by omega) (Ev.pos (by omega) (Ev.bnd e2 ?_)))
      show Ev _ (eu g (g.drop (i + 1)) n - eu g (g.drop (i + 1)) (n - g[i]))
      rw [w64_of (x := eu g (g.drop (i + 1)) n - eu g (g.drop (i + 1)) (n - g[i])) (by omega) (by omega)]
      exact Ev.now _
theorem impl_euler_l1 (g : List Int) (hS : SG g) (P : Int → Option Bool) (hP : ∀ d, P d = some (elB g d)) (x1 x6 M : Int) (q : Nat) (h6 : -1000000 ≤ x6 ∧ x6 ≤ 1000000) (R : Int) : ∀ d i, i + d = g.length → ∀ n s : Int, -1000000 + (d : Int) * 60 ≤ n → n ≤ 1000000 → -1 ≤ s → s ≤ 1 → Ev (fun k => impl_EulerAt.l0 k x1 P (x6 + wt g (q / 2 ^ i) (g.drop i) n s) M (wrap64 ((q : Int) + 1)) g) R → Ev (fun k => impl_EulerAt.l1 k x1 P x6 (q : Int) n s M (q : Int) g (g.length : Int) (i : Int) g) R := by
  have hl := hS.len2
  intro d
  induction d with
  | zero =>
    intro i hi n s h1 h2 h3 h4 hR
    rw [List.drop_eq_nil_of_le (by omega)] at hR
    refine Ev.one (fun k => by rw [impl_EulerAt.l1]) ?_
    refine Ev.neg (by omega) (Ev.bnd (Ev.const (hP _)) ?_)
    cases hb : elB g n with
    | true =>
      have e : wt g (q / 2 ^ i) [] n s = s := by unfold wt; rw [hb]; rfl
      rw [e] at hR
      rw [w64_of (x := x6 + s) (by omega) (by omega)]
      exact Ev.pos rfl hR
    | false =>
      have e : wt g (q / 2 ^ i) [] n s = 0 := by unfold wt; rw [hb]; rfl
      rw [e, Int.add_zero] at hR
      exact Ev.neg (by decide) hR
  | succ d ih =>
    intro i hi n s h1 h2 h3 h4 hR
    have hil : i < g.length := by omega
    have hg := hS.rng _ (List.getElem_mem hil)
    rw [List.drop_eq_getElem_cons hil] at hR
    have e2 : q / 2 ^ i / 2 = q / 2 ^ (i + 1) := by rw [Nat.div_div_eq_div_mul, Nat.pow_succ]
    refine Ev.one (fun k => by rw [impl_EulerAt.l1]) ?_
    rw [rd_at g i hil, w64_succ i (by omega), w64_of (x := n - g[i]) (by omega) (by omega), w64_of (x := -s) (by omega) (by omega), bit_at q i (by omega)]
    refine Ev.pos (by omega) (Ev.pos (by omega) (Ev.pos (by omega) ?_))
    by_cases hb : q / 2 ^ i % 2 = 1
    · have e : wt g (q / 2 ^ i) (g[i] :: g.drop (i + 1)) n s = wt g (q / 2 ^ (i + 1)) (g.drop (i + 1)) (n - g[i]) (-s) := by
        rw [← e2]; exact if_pos hb
      rw [e] at hR
      exact Ev.pos (by omega) (ih (i + 1) (by omega) (n - g[i]) (-s) (by omega) (by omega) (by omega) (by omega) hR)
    · have e : wt g (q / 2 ^ i) (g[i] :: g.drop (i + 1)) n s = wt g (q / 2 ^ (i + 1)) (g.drop (i + 1)) n s := by
        rw [← e2]; exact if_neg hb
      rw [e] at hR
      exact Ev.neg (by omega) (ih (i + 1) (by omega) n s (by omega) (by omega) h3 h4 hR)
theorem impl_euler_l0 (g : List Int) (hS : SG g) (P : Int → Option Bool) (hP : ∀ d, P d = some (elB g d)) (x1 : Int) (h1 : 0 ≤ x1 ∧ x1 ≤ 1000) (M : Nat) (hM : M ≤ 4096) : ∀ d q, q + d = M → ∀ x6 : Int, -(q : Int) ≤ x6 → x6 ≤ (q : Int) → Ev (fun k => impl_EulerAt.l0 k x1 P x6 (M : Int) (q : Int) g) (x6 + sm (fun j => wt g j g x1 1) q d) := by
  intro d
  induction d with
  | zero =>
    intro q hq x6 h2 h3
    refine Ev.one (fun k => by rw [impl_EulerAt.l0]) ?_
    rw [show x6 + sm (fun j => wt g j g x1 1) q 0 = x6 from Int.add_zero _]
    exact Ev.neg (by omega) (Ev.now _)
  | succ d ih =>
    intro q hq x6 h2 h3
    have hb := wt_bound g g q x1 1 (by omega) (by omega)
    have ih := ih (q + 1) (by omega) (x6 + wt g q g x1 1) (by omega) (by omega)
    have hl := hS.len2
    refine Ev.one (fun k => by rw [impl_EulerAt.l0]) ?_
    refine Ev.pos (by omega) ?_
    have e : x6 + sm (fun j => wt g j g x1 1) q (d + 1) = x6 + wt g q g x1 1 + sm (fun j => wt g j g x1 1) (q + 1) d := by
      show x6 + (wt g q g x1 1 + sm (fun j => wt g j g x1 1) (q + 1) d) = _
      omega
    rw [e]
    refine impl_euler_l1 g hS P hP x1 x6 M q (by omega) _ g.length 0 (by omega) x1 1 (by omega) (by omega) (by omega) (by omega) ?_
    rw [Nat.pow_zero, Nat.div_one, List.drop_zero, w64_succ q (by omega)]
    exact ih
theorem euler_both (g : List Int) (n : Int) (hlen : g.length ≤ 1048576) : ∃ r : Int, Ev (fun k => spec_EulerAt.f k g n) r ∧ Ev (fun k => impl_EulerAt.f k g n) r := by
  obtain ⟨b, b1, b2, b3⟩ := sg_both g hlen
  have w1 := spec_l1In_ev n 0 1000
  have w2 := impl_within_ev n 0 1000
  have out_ : Ev (fun k => impl_EulerAt.j0 k n true g) 0 := Ev.one (fun k => by rw [impl_EulerAt.j0]) (Ev.pos rfl (Ev.now _))
  unfold spec_EulerAt.f impl_EulerAt.f
  cases b with
  | false => exact ⟨0, Ev.bnd b2 (Ev.neg (by decide) (Ev.now _)), Ev.bnd b3 (Ev.neg (by decide) out_)⟩
  | true =>
    have hS := b1.1 rfl
    have hl := hS.len2
    by_cases hx : 0 ≤ n ∧ n ≤ 1000
    · rw [decide_eq_true hx] at w1 w2
      obtain ⟨p, p1, p2⟩ := reach_any g hlen
      have e1 := spec_euler_ev g hS g.length 0 (by omega) n (by omega) (by omega)
      have hM : 2 ^ g.length ≤ 4096 := Nat.le_trans (Nat.pow_le_pow_right (by omega) hl) (Nat.le_of_eq rfl)
      have e2 := impl_euler_l0 g hS p (p1 hS) n hx (2 ^ g.length) hM (2 ^ g.length) 0 (by omega) 0 (by omega) (by omega)
      rw [sm_wt, Int.zero_add, Int.one_mul] at e2
      rw [List.drop_zero] at e1
      refine ⟨eu g g n, Ev.bnd b2 (Ev.pos rfl (Ev.bnd w1 (Ev.pos rfl (Ev.bnd e1 (Ev.now _))))), Ev.bnd b3 (Ev.pos rfl (Ev.bnd w2 ?_))⟩
      refine Ev.one (fun k => by rw [impl_EulerAt.j0]) ?_
      rw [shl_one g.length hl]
      exact Ev.neg (by decide) (Ev.bnd p2 e2)
    · rw [decide_eq_false hx] at w1 w2
      exact ⟨0, Ev.bnd b2 (Ev.pos rfl (Ev.bnd w1 (Ev.neg (by decide) (Ev.now _)))), Ev.bnd b3 (Ev.pos rfl (Ev.bnd w2 out_))⟩
end Go.Proofs.Ytolbllafeblmdaa.Pure
