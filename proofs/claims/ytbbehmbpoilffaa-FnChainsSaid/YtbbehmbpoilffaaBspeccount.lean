/- Plain lemmas (speccount, plaw, samelists, draw, drawsg, draw11, draw13): no program, no memory. -/
import Derived.Test.YtbbehmbpoilffaaC0
import Derived.Test.YtbbehmbpoilffaaC1
import Derived.Test.YtbbehmbpoilffaaC10
import Derived.Test.YtbbehmbpoilffaaC13
import Derived.Test.YtbbehmbpoilffaaC14
import Derived.Test.YtbbehmbpoilffaaC3
import Derived.Test.YtbbehmbpoilffaaC4
import Derived.Test.YtbbehmbpoilffaaC5
import Derived.Test.YtbbehmbpoilffaaC6
import Derived.Test.YtbbehmbpoilffaaBbase
namespace Go.Proofs.Ytbbehmbpoilffaa.Pure
open Go.RowKit Go.Proofs.Ytbbehmbpoilffaa.C Go.Proofs.YtbbehmbpoilffaaW.PrintWords Go.Proofs.YtbbehmbpoilffaaW.PrintLast Go.Proofs.YtbbehmbpoilffaaW.PrintMore
set_option linter.unusedVariables false
set_option linter.unusedSimpArgs false
theorem speccount_l0 (g : List Int) (n : Nat) (hl : g.length ≤ 12) (hn : n ≤ 1000) (hg : ∀ x ∈ g, 1 ≤ x ∧ x ≤ 60) : ∀ (d i : Nat) (xs : List Int), i + d = g.length → xs.length = n + 1 →
  ∃ r : Int, Ev (fun k => ae.l0 k (n : Int) xs (i : Int) g) r := by
 intro d
 induction d with
 | zero => intro i xs hi hx; refine ⟨rd xs (n : Int), Ev.one (fun k => by rw [ae.l0]) ?_⟩; exact Ev.neg (by omega) (Ev.pos (by omega) (Ev.pos (by omega) (Ev.now _)))
 | succ d ih =>
  intro i xs hi hx; have hil : i < g.length := (by omega); have hgi := hg g[i] (List.getElem_mem hil); obtain ⟨a, ha⟩ : ∃ a : Nat, g[i] = (a : Int) := ⟨g[i].toNat, by omega⟩; rw [ha] at hgi
  have inner : ∀ (e j : Nat) (xs : List Int), (j + e = n + 1 ∨ (e = 0 ∧ n < j)) → a ≤ j → j ≤ n + 61 → xs.length = n + 1 →
    ∃ r : Int, Ev (fun k => ae.l1 k (n : Int) xs (i : Int) (j : Int) g) r := by
   intro e
   induction e with
   | zero =>
    intro j xs hj haj hjn hx
    obtain ⟨r, h1⟩ := ih (i + 1) xs (by omega) hx
    refine ⟨r, Ev.one (fun k => by rw [ae.l1]) ?_⟩
    rw [w64_succ i (by omega)]; exact Ev.neg (by omega) h1
   | succ e ihe =>
    intro j xs hj haj hjn hx
    have e1 : wrap64 ((j : Int) - (a : Int)) = ((j - a : Nat) : Int) := by rw [w64_of (by omega) (by omega)]; omega
    obtain ⟨r, h1⟩ := ihe (j + 1) (xs.set j (wrap64 (rd xs (j : Int) + rd xs ((j - a : Nat) : Int)))) (by omega) (by omega) (by omega) (by rw [List.length_set]; exact hx)
    refine ⟨r, Ev.one (fun k => by rw [ae.l1]) ?_⟩
    rw [rd_at g i hil, ha, e1, w64_succ j (by omega), Int.toNat_natCast]
    exact Ev.pos (by omega) (Ev.pos (by omega) (Ev.pos (by omega) (Ev.pos (by omega) (Ev.pos (by omega) (Ev.pos (by omega) (Ev.pos (by omega) h1))))))
  obtain ⟨r, h1⟩ := inner (n + 1 - a) a xs (by omega) (Nat.le_refl _) (by omega) hx; refine ⟨r, Ev.one (fun k => by rw [ae.l0]) ?_⟩; rw [rd_at g i hil, ha]; exact Ev.pos (by omega) (Ev.pos (by omega) h1)
theorem speccount_ev (g : List Int) (n : Int) (hlen : g.length ≤ 1048576) : ∃ r : Int, Ev (fun k => ae.f k g n) r := by
 obtain ⟨b, b1, b2, _⟩ := sg_both g hlen; unfold ae.f
 cases b with
 | false => exact ⟨-1, Ev.bnd b2 (Ev.neg (by decide) (Ev.one (fun k => by rw [ae.j0]) (Ev.pos rfl (Ev.now _))))⟩
 | true =>
  have hS := b1.1 rfl; by_cases h : 0 ≤ n ∧ n ≤ 1000
  ·obtain ⟨q, rfl⟩ : ∃ q : Nat, n = (q : Int) := ⟨n.toNat, by omega⟩; obtain ⟨r, h1⟩ := speccount_l0 g q hS.len2 (by omega) hS.rng g.length 0 ((List.replicate (q + 1) 0).set 0 1) (by omega) (by rw [List.length_set, List.length_replicate]); refine ⟨r, Ev.bnd b2 (Ev.pos rfl (Ev.bnd (spec_l1In_ev _ _ _) (Ev.one (fun k => by rw [ae.j0]) ?_)))⟩; rw [w64_succ q (by omega), Int.toNat_natCast]; exact Ev.neg (by rw [decide_eq_true h]; decide) (Ev.pos (by omega) (Ev.pos (by omega) (Ev.some (Ev.pos (by rw [List.length_replicate]; omega) h1))))
  ·refine ⟨-1, Ev.bnd b2 (Ev.pos rfl (Ev.bnd (spec_l1In_ev _ _ _) (Ev.one (fun k => by rw [ae.j0]) ?_)))⟩; exact Ev.pos (by rw [decide_eq_false h]; decide) (Ev.now _)
theorem big_no (b : List Int) (h : b.length ≤ 1048576) : Ev (fun _ => bQ.f b) false := by refine Ev.const ?_; unfold bQ.f; rw [decide_eq_false (by omega)]
theorem big_yes (b : List Int) (h : ¬ b.length ≤ 1048576) : Ev (fun _ => bQ.f b) true := by refine Ev.const ?_; unfold bQ.f; rw [decide_eq_true (by omega)]
theorem sameInts_l0 (l : List Int) (hl : l.length ≤ 35184372088832) : ∀ (d i : Nat), i + d = l.length → Ev (fun k => aJ.l0 k l l (i : Int)) true := by
 intro d
 induction d with
 | zero => intro i hi; refine Ev.one (fun k => by rw [aJ.l0]) ?_; exact Ev.neg (by omega) (Ev.now _)
 | succ d ih => intro i hi; refine Ev.one (fun k => by rw [aJ.l0]) ?_; refine Ev.pos (by omega) (Ev.pos (by omega) (Ev.pos (by omega) (Ev.pos rfl ?_))); rw [w64_succ i (by omega)]; exact ih (i + 1) (by omega)
theorem sameInts_ev (l : List Int) (hl : l.length ≤ 35184372088832) : Ev (fun k => aJ.f k l l) true := by unfold aJ.f; exact Ev.pos rfl (sameInts_l0 l hl l.length 0 (by omega))
theorem sameLists_l0 (l : List (List Int)) (hl : l.length ≤ 100000000000) (hx : ∀ x ∈ l, x.length ≤ 1000) : ∀ (d i : Nat), i + d = l.length → Ev (fun k => bj.l0 k l l (i : Int)) true := by
 intro d
 induction d with
 | zero => intro i hi; refine Ev.one (fun k => by rw [bj.l0]) ?_; exact Ev.neg (by omega) (Ev.now _)
 | succ d ih => intro i hi; have h := hx _ (List.getElem_mem (show i < l.length by omega)); refine Ev.one (fun k => by rw [bj.l0]) ?_; rw [rd_L2_at l i (by omega), w64_succ i (by omega)]; exact Ev.pos (by omega) (Ev.pos (by omega) (Ev.pos (by omega) (Ev.bnd (sameInts_ev l[i] (by omega)) (Ev.pos rfl (ih (i + 1) (by omega))))))
theorem sameLists_ev (l : List (List Int)) (hl : l.length ≤ 100000000000) (hx : ∀ x ∈ l, x.length ≤ 1000) : Ev (fun k => bj.f k l l) true := by unfold bj.f; exact Ev.pos rfl (sameLists_l0 l hl hx l.length 0 (by omega))
theorem i64_and255 (n : Int) : Go.bits .and .i64 n 255 = n % 256 := by have h1 : (BitVec.ofInt 64 255).toNat = 2 ^ 8 - 1 := (by decide); have key : (BitVec.ofInt 64 n &&& BitVec.ofInt 64 255).toNat = (n % ((2 ^ 64 : Nat) : Int)).toNat % 2 ^ 8 := (by rw [BitVec.toNat_and, BitVec.toNat_ofInt, h1, Nat.and_two_pow_sub_one_eq_mod]); show IntKind.i64.wrap ((BitVec.ofInt 64 n &&& BitVec.ofInt 64 255).toNat : Nat) = n % 256; rw [key, IntKind.wrap_i64]; omega
def CurOk (b : List Int) (i : Int) : Prop := b.length ≤ 1048576 ∧ 0 ≤ i ∧ i ≤ (b.length : Int)
theorem l1Byte_ok (b : List Int) (i h : Int) (ok : CurOk b i) : ∃ x i' h', bH.f b i h = some (x, i', h') ∧ (0 ≤ x ∧ x ≤ 255) ∧ CurOk b i' := by
 obtain ⟨o1, o2, o3⟩ := ok; unfold bH.f; by_cases c : i < (b.length : Int)
 ·rw [if_pos c, if_pos o2]; refine ⟨_, _, _, rfl, ?_, o1, ?_⟩
  ·rw [i64_and255]; omega
  ·rw [w64_of (by omega) (by omega)]; omega
 ·rw [if_neg c]; refine ⟨_, _, _, rfl, ?_, o1, o2, o3⟩; rw [i64_and255]; omega
theorem tmod_in (x n : Int) (h0 : 0 ≤ x) (hn : 1 ≤ n) : 0 ≤ Int.tmod x n ∧ Int.tmod x n < n :=
 ⟨Int.tmod_nonneg n h0, by have := Int.tmod_lt_of_pos x (show 0 < n by omega); exact this⟩
theorem l1Below_ok (b : List Int) (i h n : Int) (ok : CurOk b i) : ∃ x i' h', ah.f b i h n = some (x, i', h') ∧ (0 ≤ x ∧ (1 ≤ n → x < n) ∧ (n ≤ 0 → x = 0)) ∧ CurOk b i' := by
 unfold ah.f; by_cases c : n ≤ 0
 ·rw [if_pos c]; exact ⟨_, _, _, rfl, ⟨by omega, by omega, fun _ => rfl⟩, ok⟩
 rw [if_neg c]; obtain ⟨x, i1, h1, e1, b1, k1⟩ := l1Byte_ok b i h ok; rw [e1]; by_cases c2 : n ≤ 256
 ·rw [if_pos c2]; simp only [Option.bind_some]; rw [if_neg (by omega)]; exact ⟨_, _, _, rfl, ⟨(tmod_in x n b1.1 (by omega)).1, fun _ => (tmod_in x n b1.1 (by omega)).2, by omega⟩, k1⟩
 ·rw [if_neg c2]; obtain ⟨y, i2, h2, e2, b2, k2⟩ := l1Byte_ok b i1 h1 k1; obtain ⟨z, i3, h3, e3, b3, k3⟩ := l1Byte_ok b i2 h2 k2; obtain ⟨u, i4, h4, e4, b4, k4⟩ := l1Byte_ok b i3 h3 k3; simp only [Option.bind_some, e2, e3, e4]; rw [if_neg (by omega)]; have hv : 0 ≤ wrap64 ((wrap64 ((wrap64 ((wrap64 (x * 16777216)) + (wrap64 (y * 65536)))) + (wrap64 (z * 256)))) + u) := (by rw [w64_of (x := x * 16777216) (by omega) (by omega), w64_of (x := y * 65536) (by omega) (by omega), w64_of (x := z * 256) (by omega) (by omega), w64_of (x := x * 16777216 + y * 65536) (by omega) (by omega), w64_of (x := x * 16777216 + y * 65536 + z * 256) (by omega) (by omega), w64_of (by omega) (by omega)]; omega); exact ⟨_, _, _, rfl, ⟨(tmod_in _ n hv (by omega)).1, fun _ => (tmod_in _ n hv (by omega)).2, by omega⟩, k4⟩
theorem l1Once_ok (b : List Int) (i h n : Int) (ok : CurOk b i) : ∃ x i' h', bk.f b i h n = some (x, i', h') ∧ CurOk b i' := by unfold bk.f; obtain ⟨x, i1, h1, e1, _, k1⟩ := l1Below_ok b i h n ok; rw [e1]; exact ⟨_, _, _, rfl, k1⟩
theorem l1PickInt_ok (b : List Int) (i h : Int) (l : List Int) (ok : CurOk b i) (hl : 1 ≤ l.length) : ∃ x i' h', aK.f b i h l = some (x, i', h') ∧ x ∈ l ∧ CurOk b i' := by unfold aK.f; obtain ⟨x, i1, h1, e1, b1, k1⟩ := l1Below_ok b i h (l.length : Int) ok; have b2 := b1.2.1 (by omega); rw [e1]; simp only [Option.bind_some]; rw [if_pos b1.1, if_pos b2]; refine ⟨_, _, _, rfl, ?_, k1⟩; obtain ⟨m, rfl⟩ : ∃ m : Nat, x = (m : Int) := ⟨x.toNat, by omega⟩; rw [rd_at l m (by omega)]; exact List.getElem_mem _
theorem l1New_l0 (b : List Int) (hb : b.length ≤ 1048576) : ∀ (d i : Nat) (h : Int), i + d = 4001 → ∃ h', Ev (fun k => bz.l0 k b h (i : Int)) (b, 0, h') := by
 intro d
 induction d with
 | zero =>
  intro i h hi; refine ⟨h, Ev.one (fun k => by rw [bz.l0]) ?_⟩; by_cases c : (i : Int) < (b.length : Int)
  ·exact Ev.pos c (Ev.neg (by omega) (Ev.now _))
  ·exact Ev.neg c (Ev.now _)
 | succ d ih =>
  intro i h hi; by_cases c : (i : Int) < (b.length : Int)
  ·by_cases c2 : (i : Int) < 4000
   ·obtain ⟨h', e⟩ := ih (i + 1) (Go.bits .and .i64 (wrap64 ((wrap64 ((wrap64 (h * 131)) + (wrap64 (rd b (i : Int))))) + 7)) 1073741823) (by omega); refine ⟨h', Ev.one (fun k => by rw [bz.l0]) ?_⟩; refine Ev.pos c (Ev.pos c2 (Ev.pos (by omega) ?_)); rw [w64_succ i (by omega)]; exact e
   ·refine ⟨h, Ev.one (fun k => by rw [bz.l0]) ?_⟩; exact Ev.pos c (Ev.neg c2 (Ev.now _))
  ·refine ⟨h, Ev.one (fun k => by rw [bz.l0]) ?_⟩; exact Ev.neg c (Ev.now _)
theorem l1New_ok (b : List Int) (hb : b.length ≤ 1048576) : ∃ h, Ev (fun k => bz.f k b) (b, 0, h) ∧ CurOk b 0 := by obtain ⟨h', e⟩ := l1New_l0 b hb 4001 0 (wrap64 (26583 + (b.length : Int))) (by omega); exact ⟨h', e, hb, by omega, by omega⟩
def sB (g : List Int) : Nat → Int → Bool
 | 0, n => decide (n = 0)
 | f + 1, n => decide (n = 0) || g.any fun x => decide (x ≤ n) && sB g f (n - x)
theorem sB_sound (g : List Int) : ∀ (f : Nat) (n : Int), sB g f n = true → Sums g n := by
 intro f
 induction f with
 | zero => intro n h; rw [sB, decide_eq_true_eq] at h; rw [h]; exact Sums.zero g
 | succ f ih =>
  intro n h; rw [sB, Bool.or_eq_true, decide_eq_true_eq, List.any_eq_true] at h; rcases h with h | ⟨x, hx, h⟩
  ·rw [h]; exact Sums.zero g
  ·rw [Bool.and_eq_true] at h; have := Sums.add hx (ih _ h.2); rwa [show n - x + x = n from by omega] at this
theorem sB_all (g : List Int) (hp : ∀ x ∈ g, 1 ≤ x) : ∀ (f : Nat) (n : Int), n ≤ (f : Int) → Sums g n → sB g f n = true := by
 intro f
 induction f with
 | zero => intro n h hs; have := hs.nonneg hp; rw [sB, decide_eq_true_eq]; omega
 | succ f ih =>
  intro n h hs; rw [sB, Bool.or_eq_true, decide_eq_true_eq, List.any_eq_true]; by_cases h0 : n = 0
  ·exact .inl h0
  ·obtain ⟨x, hx, hxn, hc⟩ := hs.cut hp h0; have := hp x hx; exact .inr ⟨x, hx, by rw [Bool.and_eq_true, decide_eq_true_eq]; exact ⟨hxn, ih _ (by omega) hc⟩⟩
theorem SG_of (g : List Int) (a : Nat) (w : List Int) (ha : 1 ≤ a) (hm : (a : Int) ∈ g) (h1 : 1 ≤ g.length ∧ g.length ≤ 12) (h2 : ∀ x ∈ g, 1 ≤ x ∧ x ≤ 60) (h3 : asc g) (h4 : gcdL g = 1)
  (h5 : ∀ k, k < g.length → k = 0 ∨ (g.getD k 0 ≤ 60 ∧ sB (g.take k) 60 (g.getD k 0) = false))
  (h6 : ∀ r : Nat, r < a → ∃ m ∈ w, m ≤ 200 ∧ m % (a : Int) = (r : Int) ∧ sB g 60 m = true) : SG g := by
 refine ⟨h1.1, h1.2, h2, h3, h4, fun k hk => ?_, fun n hn => ?_⟩
 ·rcases h5 k hk with h | h
  ·exact .inl h
  ·refine .inr fun hs => ?_; have := sB_all (g.take k) (fun x hx => (h2 x (List.mem_of_mem_take hx)).1) 60 _ h.1 hs; rw [h.2] at this; cases this
 ·obtain ⟨m, _, m1, m2, m3⟩ := h6 (n % (a : Int)).toNat (by have := Int.emod_nonneg n (show (a : Int) ≠ 0 by omega); have := Int.emod_lt_of_pos n (show (0 : Int) < a by omega); omega); have e0 := Int.emod_nonneg n (show (a : Int) ≠ 0 by omega); have e1 : m % (a : Int) = n % (a : Int) := (by omega); have e2 : (n - m) % (a : Int) = 0 := Int.emod_eq_emod_iff_emod_sub_eq_zero.1 e1.symm; obtain ⟨q, hq⟩ := Int.dvd_of_emod_eq_zero e2; have hq0 : 0 ≤ q := Classical.byContradiction fun hn' => (by have : (a : Int) * q ≤ (a : Int) * (-1) := Int.mul_le_mul_of_nonneg_left (by omega) (by omega); omega); obtain ⟨c, rfl⟩ : ∃ c : Nat, q = (c : Int) := ⟨q.toNat, by omega⟩; have := (sB_sound g 60 m m3).both (Sums.times hm c); rwa [show m + (c : Int) * (a : Int) = n from by rw [Int.mul_comm]; omega] at this
def eight : List (List Int) := [[1], [3, 5], [4, 6, 9], [3, 4, 5], [6, 9, 20], [5, 7, 9, 11], [2, 3], [4, 5, 11]]
theorem eight_SG : ∀ g ∈ eight, SG g := by
 intro g hg; have a1 : ∀ l : List Int, l.Pairwise (· < ·) → asc l := fun _ h => h; simp only [eight, List.mem_cons, List.not_mem_nil, or_false] at hg; rcases hg with rfl | rfl | rfl | rfl | rfl | rfl | rfl | rfl
 ·exact SG_of _ 1 [0] (by decide) (by decide) (by decide) (by decide) (a1 _ (by decide)) (by decide) (by decide) (by decide)
 ·exact SG_of _ 3 [0, 10, 5] (by decide) (by decide) (by decide) (by decide) (a1 _ (by decide)) (by decide) (by decide +kernel) (by decide +kernel)
 ·exact SG_of _ 4 [0, 9, 6, 15] (by decide) (by decide) (by decide) (by decide) (a1 _ (by decide)) (by decide) (by decide +kernel) (by decide +kernel)
 ·exact SG_of _ 3 [0, 4, 5] (by decide) (by decide) (by decide) (by decide) (a1 _ (by decide)) (by decide) (by decide +kernel) (by decide +kernel)
 ·exact SG_of _ 6 [0, 49, 20, 9, 40, 29] (by decide) (by decide) (by decide) (by decide) (a1 _ (by decide)) (by decide) (by decide +kernel) (by decide +kernel)
 ·exact SG_of _ 5 [0, 11, 7, 18, 9] (by decide) (by decide) (by decide) (by decide) (a1 _ (by decide)) (by decide) (by decide +kernel) (by decide +kernel)
 ·exact SG_of _ 2 [0, 3] (by decide) (by decide) (by decide) (by decide) (a1 _ (by decide)) (by decide) (by decide +kernel) (by decide +kernel)
 ·exact SG_of _ 4 [0, 5, 10, 11] (by decide) (by decide) (by decide) (by decide) (a1 _ (by decide)) (by decide) (by decide +kernel) (by decide +kernel)
theorem spec_FromGens_ev (l : List Int) (hl : l.length ≤ 1048576) : ∃ r : List Int × Bool, ((r.2 = true → SG r.1) ∧ (r.2 = false → r.1 = []) ∧ (SG l → r = (l, true))) ∧ Ev (fun k => bE.f k l) r := by
 have u1 := spec_l3Gens_ev l hl; unfold bE.f
 cases hb : (allIn l 1 60 && decide ((1 : Int) ≤ (l.length : Int) ∧ (l.length : Int) ≤ 20)) with
 | false => rw [hb] at u1; refine ⟨([], false), ⟨by simp, by simp, fun h => ?_⟩, Ev.bnd u1 (Ev.neg (by decide) (Ev.now _))⟩; rw [(allIn_iff l 1 60).2 h.rng, Bool.true_and, decide_eq_false_iff_not] at hb; have := h.len1; have := h.len2; omega
 | true =>
  rw [hb] at u1; rw [Bool.and_eq_true, decide_eq_true_eq] at hb; have hr := (allIn_iff l 1 60).1 hb.1; obtain ⟨s, s1, s2⟩ := spec_l3Minimal_ev l hl (fun x hx => by have := hr x hx; omega); have hml := minL_len s; obtain ⟨c, c1, c2⟩ := spec_IsSemigroup_ev (minL s) (by omega); refine ⟨if c = true then (minL s, true) else ([], false), ⟨?_, ?_, fun h => ?_⟩, Ev.bnd u1 (Ev.pos rfl (Ev.bnd s2 (Ev.bnd c2 ?_)))⟩
  ·cases c with
   | true => exact fun _ => c1.1 rfl
   | false => intro h; cases h
  ·cases c with
   | true => intro h; cases h
   | false => exact fun _ => rfl
  ·obtain rfl : s = l := asc_uniq s l s1.1 h.up s1.2.1; have e := (minL_iff s).2 h.free; rw [e] at c1 ⊢; rw [if_pos (c1.2 h)]
  ·cases c with
   | true => exact Ev.pos rfl (Ev.now _)
   | false => exact Ev.neg (by decide) (Ev.now _)
theorem l3List_ok (b : List Int) (i h : Int) (ok : CurOk b i) : ∃ x i' h', bL.f b i h = some (x, i', h') ∧ SG x ∧ CurOk b i' := by
 unfold bL.f; obtain ⟨x, i1, h1, e1, b1, k1⟩ := l1Below_ok b i h 8 ok; have b2 := b1.2.1 (by omega); rw [e1]; simp only [Option.bind_some]; have key : ∀ g ∈ eight, ∃ x i' h', (some (g, i1, h1) : Option (List Int × Int × Int)) = some (x, i', h') ∧ SG x ∧ CurOk b i' := fun g hg => ⟨_, _, _, rfl, eight_SG g hg, k1⟩; by_cases c0 : x = 0
 ·rw [if_pos c0]; exact key _ (by decide)
 rw [if_neg c0]; by_cases c1 : x = 1
 ·rw [if_pos c1]; exact key _ (by decide)
 rw [if_neg c1]; by_cases c2 : x = 2
 ·rw [if_pos c2]; exact key _ (by decide)
 rw [if_neg c2]; by_cases c3 : x = 3
 ·rw [if_pos c3]; exact key _ (by decide)
 rw [if_neg c3]; by_cases c4 : x = 4
 ·rw [if_pos c4]; exact key _ (by decide)
 rw [if_neg c4]; by_cases c5 : x = 5
 ·rw [if_pos c5]; exact key _ (by decide)
 rw [if_neg c5]; by_cases c6 : x = 6
 ·rw [if_pos c6]; exact key _ (by decide)
 ·rw [if_neg c6]; exact key _ (by decide)
theorem l3Fall_ok (b : List Int) (i h : Int) (ok : CurOk b i) : ∃ x i' h', SG x ∧ CurOk b i' ∧ Ev (fun k => (bL.f b i h).bind fun bt => (bE.f k bt.1).bind fun bu => (some (bu.1, bt.2.1, bt.2.2))) (x, i', h') := by obtain ⟨x, i1, h1, e1, b1, k1⟩ := l3List_ok b i h ok; obtain ⟨r, r1, r2⟩ := spec_FromGens_ev x (by have := b1.len2; omega); obtain rfl := r1.2.2 b1; have f1 : Ev (fun _ : Nat => bL.f b i h) (x, i1, h1) := Ev.const e1; exact ⟨x, i1, h1, b1, k1, Ev.bnd f1 (Ev.bnd r2 (Ev.now _))⟩
theorem l3Draw_l1 (b : List Int) (x5 : Int) (next : ∀ i h, CurOk b i → ∃ x i' h', SG x ∧ CurOk b i' ∧ Ev (fun k => ax.l0 k (wrap64 (x5 + 1)) b i h) (x, i', h')) (x7 : Int) (h7 : x7 ≤ 4) :
  ∀ (d j : Nat) (l : List Int) (i h : Int), j + d = 4 → l.length = j + 1 → (∀ x ∈ l.take 1, 0 ≤ x ∧ x ≤ 100) → CurOk b i → ∃ x i' h', SG x ∧ CurOk b i' ∧ Ev (fun k => ax.l1 k x5 l x7 (j : Int) b i h) (x, i', h') := by
 intro d
 induction d with
 | zero =>
  intro j l i h hj hl h0 ok; obtain ⟨r, r1, r2⟩ := spec_FromGens_ev l (by omega)
  cases hr : r.2 with
  | true => refine ⟨r.1, i, h, r1.1 hr, ok, Ev.one (fun k => by rw [ax.l1]) (Ev.neg (by omega) (Ev.bnd r2 (Ev.pos hr (Ev.now _))))⟩
  | false => obtain ⟨x, i', h', n1, n2, n3⟩ := next i h ok; exact ⟨x, i', h', n1, n2, Ev.one (fun k => by rw [ax.l1]) (Ev.neg (by omega) (Ev.bnd r2 (Ev.neg (show ¬ r.2 = true by rw [hr]; decide) n3)))⟩
 | succ d ih =>
  intro j l i h hj hl h0 ok; by_cases c : (j : Int) < x7
  ·obtain ⟨y, i1, h1, e1, b1, k1⟩ := l1Below_ok b i h 12 ok; have e1' : Ev (fun _ : Nat => ah.f b i h 12) (y, i1, h1) := Ev.const e1; obtain ⟨x, i', h', n1, n2, n3⟩ := ih (j + 1) (l ++ [wrap64 ((wrap64 ((rd l 0) + 1)) + y)]) i1 h1 (by omega) (by simp; omega) (by rw [List.take_append_of_le_length (by omega)]; exact h0) k1; refine ⟨x, i', h', n1, n2, ?_⟩; refine Ev.one (fun k => by rw [ax.l1]) ?_; refine Ev.pos c (Ev.pos (by omega) (Ev.bnd e1' ?_)); rw [w64_succ j (by omega)]; exact Ev.pos (show l.length < 17592186044416 by omega) n3
  ·obtain ⟨r, r1, r2⟩ := spec_FromGens_ev l (by omega)
   cases hr : r.2 with
   | true => refine ⟨r.1, i, h, r1.1 hr, ok, Ev.one (fun k => by rw [ax.l1]) (Ev.neg c (Ev.bnd r2 (Ev.pos hr (Ev.now _))))⟩
   | false => obtain ⟨x, i', h', n1, n2, n3⟩ := next i h ok; exact ⟨x, i', h', n1, n2, Ev.one (fun k => by rw [ax.l1]) (Ev.neg c (Ev.bnd r2 (Ev.neg (show ¬ r.2 = true by rw [hr]; decide) n3)))⟩
theorem l3Draw_l0 (b : List Int) : ∀ (d q : Nat) (i h : Int), q + d = 4 → CurOk b i → ∃ x i' h', SG x ∧ CurOk b i' ∧ Ev (fun k => ax.l0 k (q : Int) b i h) (x, i', h') := by
 intro d
 induction d with
 | zero => intro q i h hq ok; obtain ⟨x, i', h', n1, n2, n3⟩ := l3Fall_ok b i h ok; exact ⟨x, i', h', n1, n2, Ev.one (fun k => by rw [ax.l0]) (Ev.neg (by omega) n3)⟩
 | succ d ih =>
  intro q i h hq ok; obtain ⟨y, i1, h1, e1, b1, k1⟩ := l1Below_ok b i h 8 ok; obtain ⟨z, i2, h2, e2, b2, k2⟩ := l1Below_ok b i1 h1 4 k1; have f1 : Ev (fun _ : Nat => ah.f b i h 8) (y, i1, h1) := Ev.const e1; have f2 : Ev (fun _ : Nat => ah.f b i1 h1 4) (z, i2, h2) := Ev.const e2; have y8 := b1.2.1 (by omega); have z4 := b2.2.1 (by omega); have h7 : wrap64 (1 + z) ≤ 4 := (by rw [w64_of (by omega) (by omega)]; omega)
  obtain ⟨x, i', h', n1, n2, n3⟩ := l3Draw_l1 b (q : Int) (fun i h ok => by rw [w64_succ q (by omega)]; exact ih (q + 1) i h (by omega) ok) (wrap64 (1 + z)) h7 4 0 [wrap64 (2 + y)] i2 h2 (by omega) rfl (by
   intro x hx
   rw [List.mem_singleton.1 hx, w64_of (by omega) (by omega)]
   omega) k2
  exact ⟨x, i', h', n1, n2, Ev.one (fun k => by rw [ax.l0]) (Ev.pos (by omega) (Ev.bnd f1 (Ev.bnd f2 n3)))⟩
theorem l3Draw_ok (b : List Int) (i h : Int) (ok : CurOk b i) : ∃ x i' h', SG x ∧ CurOk b i' ∧ Ev (fun k => ax.f k b i h) (x, i', h') := by
 unfold ax.f; obtain ⟨y, i1, h1, e1, k1⟩ := l1Once_ok b i h 4 ok; have f1 : Ev (fun _ : Nat => bk.f b i h 4) (y, i1, h1) := Ev.const e1
 cases y with
 | true => obtain ⟨x, i', h', n1, n2, n3⟩ := l3Fall_ok b i1 h1 k1; exact ⟨x, i', h', n1, n2, Ev.bnd f1 (Ev.pos rfl n3)⟩
 | false => obtain ⟨x, i', h', n1, n2, n3⟩ := l3Draw_l0 b 4 0 i1 h1 (by omega) k1; exact ⟨x, i', h', n1, n2, Ev.bnd f1 (Ev.neg (show ¬ false = true by decide) n3)⟩
theorem l3Bent_ok (b : List Int) (i h : Int) (ok : CurOk b i) : ∃ x i' h', x.length ≤ 13 ∧ CurOk b i' ∧ Ev (fun k => bC.f k b i h) (x, i', h') := by
 unfold bC.f; obtain ⟨g, i1, h1, hS, k1, e1⟩ := l3Draw_ok b i h ok; have n1 := hS.len1; have n2 := hS.len2; obtain ⟨y, i2, h2, e2, b2, k2⟩ := l1Below_ok b i1 h1 12 k1; have f2 : Ev (fun _ : Nat => ah.f b i1 h1 12) (y, i2, h2) := Ev.const e2; by_cases c0 : y = 0
 ·obtain ⟨v, i3, h3, e3, _, k3⟩ := l1PickInt_ok b i2 h2 [0, 61, 12, (-3), 60] k2 (by decide); have f3 : Ev (fun _ : Nat => aK.f b i2 h2 [0, 61, 12, (-3), 60]) (v, i3, h3) := Ev.const e3; exact ⟨g ++ [v], i3, h3, by simp; omega, k3, Ev.bnd e1 (Ev.bnd f2 (Ev.pos c0 (Ev.bnd f3 (Ev.pos (by show g.length < _; omega) (Ev.now _)))))⟩
 by_cases c1 : y = 1
 ·exact ⟨g.drop 1, i2, h2, by simp; omega, k2, Ev.bnd e1 (Ev.bnd f2 (Ev.neg c0 (Ev.pos c1 (Ev.pos (by show 1 ≤ (g.length : Int); omega) (Ev.now _)))))⟩
 by_cases c2 : y = 2
 ·obtain ⟨v, i3, h3, e3, _, k3⟩ := l1PickInt_ok b i2 h2 [0, 59, 4] k2 (by decide); have f3 : Ev (fun _ : Nat => aK.f b i2 h2 [0, 59, 4]) (v, i3, h3) := Ev.const e3; exact ⟨[v, 60], i3, h3, by simp, k3, Ev.bnd e1 (Ev.bnd f2 (Ev.neg c0 (Ev.neg c1 (Ev.pos c2 (Ev.bnd f3 (Ev.now _))))))⟩
 ·exact ⟨g, i2, h2, by omega, k2, Ev.bnd e1 (Ev.bnd f2 (Ev.neg c0 (Ev.neg c1 (Ev.neg c2 (Ev.now _)))))⟩
theorem l11Case_ok (b : List Int) (hb : b.length ≤ 1048576) : ∃ g n, g.length ≤ 13 ∧ Ev (fun k => bg.f k b) (g, n) := by
 have key : ∀ (i h : Int) (g : List Int), CurOk b i → ∃ n, Ev (fun k => bg.j0 k b i h g) (g, n) := fun i h g ok => by
  obtain ⟨x, i1, h1, e1, _, k1⟩ := l1Below_ok b i h 40 ok; obtain ⟨y, i2, h2, e2, _, k2⟩ := l1Below_ok b i1 h1 40 k1; obtain ⟨z, i3, h3, e3, _, k3⟩ := l1Below_ok b i2 h2 50 k2; obtain ⟨v, i4, h4, e4, _, _⟩ := l1PickInt_ok b i3 h3 [x, y, z, (-1), 101] k3 (by simp); have f1 : Ev (fun _ : Nat => ah.f b i h 40) (x, i1, h1) := Ev.const e1; have f2 : Ev (fun _ : Nat => ah.f b i1 h1 40) (y, i2, h2) := Ev.const e2; have f3 : Ev (fun _ : Nat => ah.f b i2 h2 50) (z, i3, h3) := Ev.const e3; have f4 : Ev (fun _ : Nat => aK.f b i3 h3 [x, y, z, (-1), 101]) (v, i4, h4) := Ev.const e4; by_cases c1 : (g.length : Int) > 4
  ·by_cases c2 : v > 30
   ·by_cases c3 : v < 101
    ·refine ⟨30, Ev.one (fun k => by rw [bg.j0]) ?_⟩; exact Ev.bnd f1 (Ev.bnd f2 (Ev.bnd f3 (Ev.bnd f4 (Ev.pos c1 (Ev.pos c2 (Ev.pos c3 (Ev.now _)))))))
    ·refine ⟨v, Ev.one (fun k => by rw [bg.j0]) ?_⟩; exact Ev.bnd f1 (Ev.bnd f2 (Ev.bnd f3 (Ev.bnd f4 (Ev.pos c1 (Ev.pos c2 (Ev.neg c3 (Ev.now _)))))))
   ·refine ⟨v, Ev.one (fun k => by rw [bg.j0]) ?_⟩; exact Ev.bnd f1 (Ev.bnd f2 (Ev.bnd f3 (Ev.bnd f4 (Ev.pos c1 (Ev.neg c2 (Ev.now _))))))
  ·refine ⟨v, Ev.one (fun k => by rw [bg.j0]) ?_⟩; exact Ev.bnd f1 (Ev.bnd f2 (Ev.bnd f3 (Ev.bnd f4 (Ev.neg c1 (Ev.now _)))))
 unfold bg.f; obtain ⟨h0, e0, k0⟩ := l1New_ok b hb; obtain ⟨g, i1, h1, hS, k1, e1⟩ := l3Draw_ok b 0 h0 k0; have n2 := hS.len2; obtain ⟨y, i2, h2, e2, k2⟩ := l1Once_ok b i1 h1 12 k1; have f2 : Ev (fun _ : Nat => bk.f b i1 h1 12) (y, i2, h2) := Ev.const e2
 cases y with
 | true => obtain ⟨s, i3, h3, hs, k3, e3⟩ := l3Bent_ok b i2 h2 k2; obtain ⟨n, hn⟩ := key i3 h3 s k3; exact ⟨s, n, hs, Ev.bnd e0 (Ev.bnd e1 (Ev.bnd f2 (Ev.pos rfl (Ev.bnd e3 hn))))⟩
 | false => obtain ⟨n, hn⟩ := key i2 h2 g k2; exact ⟨g, n, by omega, Ev.bnd e0 (Ev.bnd e1 (Ev.bnd f2 (Ev.neg (show ¬ false = true by decide) hn)))⟩
theorem l13Case_ok (b : List Int) (hb : b.length ≤ 1048576) : ∃ g n, g.length ≤ 13 ∧ Ev (fun k => bI.f k b) (g, n) := by
 unfold bI.f; obtain ⟨g, n, hg, e⟩ := l11Case_ok b hb; by_cases h : 0 ≤ n ∧ n ≤ 100
 ·obtain ⟨r, hr⟩ := speccount_ev g n (by omega); by_cases c : r > 40
  ·exact ⟨g, _, hg, Ev.bnd e (Ev.bnd (spec_l1In_ev _ _ _) (Ev.pos (decide_eq_true h) (Ev.bnd hr (Ev.pos c (Ev.now _)))))⟩
  ·exact ⟨g, n, hg, Ev.bnd e (Ev.bnd (spec_l1In_ev _ _ _) (Ev.pos (decide_eq_true h) (Ev.bnd hr (Ev.neg c (Ev.now _)))))⟩
 ·exact ⟨g, n, hg, Ev.bnd e (Ev.bnd (spec_l1In_ev _ _ _) (Ev.neg (by rw [decide_eq_false h]; decide) (Ev.now _)))⟩
theorem drawCat_ok (b : List Int) (hb : b.length ≤ 1048576) : ∃ g n, g.length ≤ 13 ∧ Ev (fun k => bG.f k b) (g, n) := by unfold bG.f; obtain ⟨g, n, hg, e⟩ := l13Case_ok b hb; exact ⟨g, n, hg, Ev.bnd e (Ev.now _)⟩
theorem drawCatDeg_ok (b : List Int) (hb : b.length ≤ 1048576) : ∃ g n, g.length ≤ 13 ∧ Ev (fun k => b7.f k b) (g, n) := by
 unfold b7.f; obtain ⟨g, n, hg, e⟩ := l13Case_ok b hb; by_cases c1 : n > 20
 ·by_cases c2 : n < 101
  ·exact ⟨g, 20, hg, Ev.bnd e (Ev.pos c1 (Ev.pos c2 (Ev.now _)))⟩
  ·exact ⟨g, n, hg, Ev.bnd e (Ev.pos c1 (Ev.neg c2 (Ev.now _)))⟩
 ·exact ⟨g, n, hg, Ev.bnd e (Ev.neg c1 (Ev.now _))⟩
theorem row_pick (b : List Int) (i h : Int) (all : List (List Int)) (hx : ∀ x ∈ all, x.length ≤ 1000) (hp : 0 < all.length) (hl : all.length ≤ 100000000000) (ok : CurOk b i) : ∃ x i' h', ah.f b i h (all.length : Int) = some (x, i', h') ∧ 0 ≤ x ∧ x < (all.length : Int) ∧ (rd_L2 all x).length ≤ 1000 ∧ CurOk b i' := by obtain ⟨x, i1, h1, e1, b1, k1⟩ := l1Below_ok b i h (all.length : Int) ok; have b2 := b1.2.1 (by omega); refine ⟨x, i1, h1, e1, b1.1, b2, ?_, k1⟩; obtain ⟨m, rfl⟩ : ∃ m : Nat, x = (m : Int) := ⟨x.toNat, by omega⟩; rw [rd_L2_at all m (by omega)]; exact hx _ (List.getElem_mem _)
theorem drawChain_ok (b : List Int) (hb : b.length ≤ 1048576) : ∃ g n x y, g.length ≤ 13 ∧ x.length ≤ 1000 ∧ y.length ≤ 1000 ∧ Ev (fun k => aA.f k b) (g, n, x, y) := by
 unfold aA.f; obtain ⟨g, n, hg, e⟩ := l13Case_ok b hb; obtain ⟨h0, e0, k0⟩ := l1New_ok b hb; obtain ⟨c, c1, c2, _⟩ := fac_both g (by omega) n; obtain ⟨s1, s2⟩ := facS_small c g c1.1 n; have no : ∀ i h, Ev (fun k => aA.j0 k n (facS c g n) true g b i h) (g, n, [1], []) := fun i h => (by refine Ev.one (fun k => by rw [aA.j0]) ?_; exact Ev.pos rfl (Ev.now _)); by_cases hp : ((facS c g n).length : Int) = 0
 ·exact ⟨g, n, [1], [], hg, by simp, by simp, Ev.bnd e (Ev.bnd e0 (Ev.bnd c2 (Ev.pos hp (no 0 h0))))⟩
 obtain ⟨y, i1, h1, e1, k1⟩ := l1Once_ok b 0 h0 8 k0; have f1 : Ev (fun _ : Nat => bk.f b 0 h0 8) (y, i1, h1) := Ev.const e1
 cases y with
 | true => exact ⟨g, n, [1], [], hg, by simp, by simp, Ev.bnd e (Ev.bnd e0 (Ev.bnd c2 (Ev.neg hp (Ev.bnd f1 (no i1 h1)))))⟩
 | false => obtain ⟨u, i2, h2, e2, u1, u2, u3, k2⟩ := row_pick b i1 h1 (facS c g n) s2 (by omega) s1 k1; obtain ⟨v, i3, h3, e3, v1, v2, v3, _⟩ := row_pick b i2 h2 (facS c g n) s2 (by omega) s1 k2; have f2 : Ev (fun _ : Nat => ah.f b i1 h1 ((facS c g n).length : Int)) (u, i2, h2) := Ev.const e2; have f3 : Ev (fun _ : Nat => ah.f b i2 h2 ((facS c g n).length : Int)) (v, i3, h3) := Ev.const e3; refine ⟨g, n, _, _, hg, u3, v3, Ev.bnd e (Ev.bnd e0 (Ev.bnd c2 (Ev.neg hp (Ev.bnd f1 (Ev.one (fun k => by rw [aA.j0]) ?_)))))⟩; exact Ev.neg (show ¬ false = true by decide) (Ev.bnd f2 (Ev.pos u1 (Ev.pos u2 (Ev.bnd f3 (Ev.pos v1 (Ev.pos v2 (Ev.now _)))))))
theorem l2Draw_ok (b : List Int) (i h : Int) (ok : CurOk b i) : ∃ x i' h', x.length ≤ 6 ∧ CurOk b i' ∧ Ev (fun k => br.f k b i h) (x, i', h') := by
 obtain ⟨n, i1, h1, e1, b1, k1⟩ := l1Below_ok b i h 6 ok; have f1 : Ev (fun _ : Nat => ah.f b i h 6) (n, i1, h1) := Ev.const e1; have hn := b1.2.1 (by omega); obtain ⟨m, rfl⟩ : ∃ m : Nat, n = (m : Int) := ⟨n.toNat, by omega⟩
 have loop : ∀ (d p : Nat) (acc : List Int) (i h : Int), p + d = m → acc.length = p → CurOk b i → ∃ x i' h', x.length ≤ 6 ∧ CurOk b i' ∧ Ev (fun k => br.l0 k acc (m : Int) (p : Int) b i h) (x, i', h') := by
  intro d
  induction d with
  | zero => intro p acc i h hp ha ok; refine ⟨acc, i, h, by omega, ok, Ev.one (fun k => by rw [br.l0]) ?_⟩; exact Ev.neg (by omega) (Ev.now _)
  | succ d ih => intro p acc i h hp ha ok; obtain ⟨v, i2, h2, e2, _, k2⟩ := l1Below_ok b i h 25 ok; have f2 : Ev (fun _ : Nat => ah.f b i h 25) (v, i2, h2) := Ev.const e2; obtain ⟨x, i3, h3, x1, x2, x3⟩ := ih (p + 1) (acc ++ [wrap64 (v - 4)]) i2 h2 (by omega) (by rw [List.length_append, List.length_singleton]; omega) k2; refine ⟨x, i3, h3, x1, x2, Ev.one (fun k => by rw [br.l0]) ?_⟩; rw [w64_succ p (by omega)]; exact Ev.pos (by omega) (Ev.bnd f2 (Ev.pos (by omega) x3))
 unfold br.f; obtain ⟨x, i2, h2, x1, x2, x3⟩ := loop m 0 [] i1 h1 (by omega) rfl k1; exact ⟨x, i2, h2, x1, x2, Ev.bnd f1 x3⟩
theorem l2Bent_ok (b : List Int) (i h : Int) (ok : CurOk b i) : ∃ x i' h', x.length ≤ 7 ∧ CurOk b i' ∧ Ev (fun k => bN.f k b i h) (x, i', h') := by
 unfold bN.f; obtain ⟨x, i1, h1, hx, k1, e1⟩ := l2Draw_ok b i h ok; obtain ⟨y, i2, h2, e2, k2⟩ := l1Once_ok b i1 h1 8 k1; have f2 : Ev (fun _ : Nat => bk.f b i1 h1 8) (y, i2, h2) := Ev.const e2
 cases y with
 | true => obtain ⟨v, i3, h3, e3, _, k3⟩ := l1PickInt_ok b i2 h2 [1000000, 1000001, (-1000001), (-9223372036854775808)] k2 (by decide); have f3 : Ev (fun _ : Nat => aK.f b i2 h2 [1000000, 1000001, (-1000001), (-9223372036854775808)]) (v, i3, h3) := Ev.const e3; exact ⟨x ++ [v], i3, h3, by rw [List.length_append, List.length_singleton]; omega, k3, Ev.bnd e1 (Ev.bnd f2 (Ev.pos rfl (Ev.bnd f3 (Ev.pos (by show x.length < _; omega) (Ev.now _)))))⟩
 | false => exact ⟨x, i2, h2, by omega, k2, Ev.bnd e1 (Ev.bnd f2 (Ev.neg (show ¬ false = true by decide) (Ev.now (x, i2, h2))))⟩
theorem drawDist_ok (b : List Int) (hb : b.length ≤ 1048576) : ∃ x y, x.length ≤ 1000 ∧ y.length ≤ 1000 ∧ Ev (fun k => av.f k b) (x, y) := by
 unfold av.f; obtain ⟨g, n, hg, e⟩ := l11Case_ok b hb; obtain ⟨h0, e0, k0⟩ := l1New_ok b hb; obtain ⟨c, c1, c2, _⟩ := fac_both g (by omega) n; obtain ⟨s1, s2⟩ := facS_small c g c1.1 n; have bent : ∀ i h, CurOk b i → ∃ x y, x.length ≤ 1000 ∧ y.length ≤ 1000 ∧ Ev (fun k => av.j0 k (facS c g n) true b i h) (x, y) := fun i h ok => (by obtain ⟨x, i1, h1, hx, k1, e1⟩ := l2Bent_ok b i h ok; obtain ⟨y, i2, h2, hy, k2, e2⟩ := l2Bent_ok b i1 h1 k1; refine ⟨x, y, by omega, by omega, Ev.one (fun k => by rw [av.j0]) (Ev.pos rfl (Ev.bnd e1 ?_))⟩; exact Ev.bnd e2 (Ev.now _)); by_cases hp : ((facS c g n).length : Int) = 0
 ·obtain ⟨x, y, hx, hy, q⟩ := bent 0 h0 k0; exact ⟨x, y, hx, hy, Ev.bnd e (Ev.bnd e0 (Ev.bnd c2 (Ev.pos hp q)))⟩
 obtain ⟨y, i1, h1, e1, k1⟩ := l1Once_ok b 0 h0 6 k0; have f1 : Ev (fun _ : Nat => bk.f b 0 h0 6) (y, i1, h1) := Ev.const e1
 cases y with
 | true => obtain ⟨x, y, hx, hy, q⟩ := bent i1 h1 k1; exact ⟨x, y, hx, hy, Ev.bnd e (Ev.bnd e0 (Ev.bnd c2 (Ev.neg hp (Ev.bnd f1 q))))⟩
 | false => obtain ⟨u, i2, h2, e2, u1, u2, u3, k2⟩ := row_pick b i1 h1 (facS c g n) s2 (by omega) s1 k1; obtain ⟨v, i3, h3, e3, v1, v2, v3, _⟩ := row_pick b i2 h2 (facS c g n) s2 (by omega) s1 k2; have f2 : Ev (fun _ : Nat => ah.f b i1 h1 ((facS c g n).length : Int)) (u, i2, h2) := Ev.const e2; have f3 : Ev (fun _ : Nat => ah.f b i2 h2 ((facS c g n).length : Int)) (v, i3, h3) := Ev.const e3; refine ⟨_, _, u3, v3, Ev.bnd e (Ev.bnd e0 (Ev.bnd c2 (Ev.neg hp (Ev.bnd f1 (Ev.one (fun k => by rw [av.j0]) ?_)))))⟩; exact Ev.neg (show ¬ false = true by decide) (Ev.bnd f2 (Ev.pos u1 (Ev.pos u2 (Ev.bnd f3 (Ev.pos v1 (Ev.pos v2 (Ev.now _)))))))
end Go.Proofs.Ytbbehmbpoilffaa.Pure
