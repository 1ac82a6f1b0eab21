/- Contracts of functions of the program: spec_l1Byte, spec_l1Below, spec_l1PickInt, spec_l1Once, spec_FromGens, spec_l3List. -/
import Derived.Test.YtkfplkdchkmgbaaC0
import Derived.Test.YtkfplkdchkmgbaaC2
import Derived.Test.YtkfplkdchkmgbaaC3
namespace Go.Proofs.Ytkfplkdchkmgbaa.C
open Go.RowKit Go.Proofs.YtkfplkdchkmgbaaW.PrintWords Go.Proofs.YtkfplkdchkmgbaaW.PrintLast Go.Proofs.YtkfplkdchkmgbaaW.PrintMore
attribute [local go_sem] max2_int min2_int max_two min_two max_three min_three max_four min_four
set_option linter.unusedVariables false
set_option linter.unusedSimpArgs false

/-- A state of type 132 at block g of W; what its slices lead to came in by w0. -/
def IsS132 (w0 W : World) (g : Nat) (f0 : List Int) (f1 : Int) (f2 : Int) : Prop := ∃ A0 c0, W.heap[g]? = some (.cells #[.slice A0 f0.length c0, .int .i64 f1, .int .i64 f2] 132 (0, 0)) ∧ w0.heap.size ≤ g ∧ Kd.C (Kd.int .u8) w0 A0 f0.length f0
theorem IsS132.grown {w0 W : World} {g : Nat} {f0 : List Int} {f1 : Int} {f2 : Int} {W1 : World} {row : Option Nat} (h : IsS132 w0 W g f0 f1 f2) (hw : W.grownBy W1 row) (hne : some g ≠ row) : IsS132 w0 W1 g f0 f1 f2 := by
 obtain ⟨A0, c0, hb, hg, hr0⟩ := h
 exact ⟨A0, c0, blk_grown hb hw hne, hg, hr0⟩
theorem IsS132.own_neN {w0 W : World} {g : Nat} {f0 : List Int} {f1 : Int} {f2 : Int} {α : Type} {d : Kd α} {e : Nat} {base : Nat} {ok : Nat → Prop} {v : Value} {xs : List α} (h : IsS132 w0 W g f0 f1 f2) (ho : Kd.N d e W base ok v xs) (ht : e ≠ 132) : some g ≠ v.ownBlock := by
 obtain ⟨A0, c0, hb, hg, hr0⟩ := h
 exact Kd.N_ne ho hb ht
theorem IsS132.fresh {w0 W : World} {g : Nat} {f0 : List Int} {f1 : Int} {f2 : Int} (h : IsS132 w0 W g f0 f1 f2) : ∀ k, W.heap.size ≤ k → k ≠ g := by
 obtain ⟨A0, c0, hb, hg, hr0⟩ := h
 exact Kd.freshB hb
theorem IsS132.kept {w0 W : World} {g : Nat} {f0 : List Int} {f1 : Int} {f2 : Int} {W1 : World} {S : Nat → Prop} (h : IsS132 w0 W g f0 f1 f2) (hk : Kept W W1 S) (hne : ¬ S g) : IsS132 w0 W1 g f0 f1 f2 := by
 obtain ⟨A0, c0, hb, hg, hr0⟩ := h
 exact ⟨A0, c0, blk_kept hb hk hne, hg, hr0⟩
theorem IsS132.below {w0 W : World} {g : Nat} {f0 : List Int} {f1 : Int} {f2 : Int} {W1 : World} (h : IsS132 w0 W g f0 f1 f2) (hw : Below W.heap.size W W1) : IsS132 w0 W1 g f0 f1 f2 := h.grown (grown_of_below hw none) (by simp)
theorem IsS132.alloc {w0 W : World} {g : Nat} {f0 : List Int} {f1 : Int} {f2 : Int} (h : IsS132 w0 W g f0 f1 f2) (o : Obj) : IsS132 w0 (W.alloc o) g f0 f1 f2 := h.below (below_alloc (Below.refl _ _) o)
theorem IsS132.drewN {w0 W : World} {g : Nat} {f0 : List Int} {f1 : Int} {f2 : Int} (h : IsS132 w0 W g f0 f1 f2) (m : Nat) : IsS132 w0 (W.drewN m) g f0 f1 f2 := h
theorem IsS132.drew {w0 W : World} {g : Nat} {f0 : List Int} {f1 : Int} {f2 : Int} (h : IsS132 w0 W g f0 f1 f2) : IsS132 w0 W.drew g f0 f1 f2 := h
theorem IsS132.at_ {w0 W : World} {g : Nat} {f0 : List Int} {f1 : Int} {f2 : Int} {w' : World} {m : Nat} (hq : W.drewN m = w') (h : IsS132 w0 W g f0 f1 f2) : IsS132 w0 w' g f0 f1 f2 := by subst hq; exact IsS132.drewN h m
theorem IsS132.apart {w0 W : World} {g : Nat} {f0 : List Int} {f1 : Int} {f2 : Int} {α : Type} {d : Kd α} {e : Nat} {base : Nat} {ok : Nat → Prop} {v : Value} {xs : List α} (h : IsS132 w0 W g f0 f1 f2) (ho : d.R e W base ok v xs) (ht : ∀ q, q ∈ e :: d.E → q ≠ 132) : d.R e W base (fun k => ok k ∧ k ≠ g) v xs := by
 obtain ⟨A0, c0, hb, hg, hr0⟩ := h
 exact Kd.R_types ho hb ht
theorem IsS132.own_ne {w0 W : World} {g : Nat} {f0 : List Int} {f1 : Int} {f2 : Int} {α : Type} {d : Kd α} {e : Nat} {base : Nat} {ok : Nat → Prop} {v : Value} {xs : List α} (h : IsS132 w0 W g f0 f1 f2) (ho : d.R e W base ok v xs) (ht : e ≠ 132) : some g ≠ v.ownBlock := by
 obtain ⟨A0, c0, hb, hg, hr0⟩ := h
 exact Kd.R_ne ho hb ht
theorem IsS132.apartQ {w0 W : World} {g : Nat} {f0 : List Int} {f1 : Int} {f2 : Int} {α : Type} {d : Kd α} {e : Nat} {base : Nat} {ok : Nat → Prop} {v : Value} {xs : List α} (h : IsS132 w0 W g f0 f1 f2) (ho : d.Q e W base ok v xs) (ht : ∀ q, q ∈ e :: d.E → q ≠ 132) : d.Q e W base (fun k => ok k ∧ k ≠ g) v xs := by
 obtain ⟨A0, c0, hb, hg, hr0⟩ := h
 exact Kd.Q_types ho hb ht
theorem IsS132.own_neQ {w0 W : World} {g : Nat} {f0 : List Int} {f1 : Int} {f2 : Int} {α : Type} {d : Kd α} {e : Nat} {base : Nat} {ok : Nat → Prop} {v : Value} {xs : List α} (h : IsS132 w0 W g f0 f1 f2) (ho : d.Q e W base ok v xs) (ht : e ≠ 132) : some g ≠ v.ownBlock := by
 obtain ⟨A0, c0, hb, hg, hr0⟩ := h
 exact Kd.Q_ne ho hb ht
theorem IsS132.apartS {w0 W : World} {g : Nat} {f0 : List Int} {f1 : Int} {f2 : Int} {α : Type} {d : Kd α} {e : Nat} {base : Nat} {ok : Nat → Prop} {v : Value} {xs : List α} (h : IsS132 w0 W g f0 f1 f2) (ho : d.S e W base ok v xs) (ht : ∀ q, q ∈ e :: d.E → q ≠ 132) : d.S e W base (fun k => ok k ∧ k ≠ g) v xs := by
 obtain ⟨A0, c0, hb, hg, hr0⟩ := h
 exact Kd.S_types ho hb ht
theorem IsS132.own_neS {w0 W : World} {g : Nat} {f0 : List Int} {f1 : Int} {f2 : Int} {α : Type} {d : Kd α} {e : Nat} {base : Nat} {ok : Nat → Prop} {v : Value} {xs : List α} (h : IsS132 w0 W g f0 f1 f2) (ho : d.S e W base ok v xs) (ht : e ≠ 132) : some g ≠ v.ownBlock := by
 obtain ⟨A0, c0, hb, hg, hr0⟩ := h
 exact Kd.S_ne ho hb ht
theorem IsS132.lt {w0 W : World} {g : Nat} {f0 : List Int} {f1 : Int} {f2 : Int} (h : IsS132 w0 W g f0 f1 f2) : g < W.heap.size := by
 obtain ⟨A0, c0, hb, hg, hr0⟩ := h
 exact blk_lt hb
theorem IsS132.ge {w0 W : World} {g : Nat} {f0 : List Int} {f1 : Int} {f2 : Int} (h : IsS132 w0 W g f0 f1 f2) : w0.heap.size ≤ g := by
 obtain ⟨A0, c0, hb, hg, hr0⟩ := h
 exact hg
theorem IsS132.ne_blk {w0 W : World} {g : Nat} {f0 : List Int} {f1 : Int} {f2 : Int} {a : Nat} {cs : Array Value} {t : TypeId} {fr : Nat × Nat} (h : IsS132 w0 W g f0 f1 f2) (hb2 : W.heap[a]? = some (.cells cs t fr)) (ht : t ≠ 132) : g ≠ a := by
 obtain ⟨A0, c0, hb, hg, hr0⟩ := h
 rintro rfl
 rw [hb] at hb2
 injection hb2 with hb2
 injection hb2 with _ ht2
 exact ht ht2.symm
theorem IsS132.far {w0 W : World} {g : Nat} {f0 : List Int} {f1 : Int} {f2 : Int} {p : Addr} (h : IsS132 w0 W g f0 f1 f2) (hne : g ≠ p.block) (u : Value) : IsS132 w0 (W.setCell p u) g f0 f1 f2 := by
 obtain ⟨A0, c0, hb, hg, hr0⟩ := h
 exact ⟨A0, c0, blk_far hb hne u, hg, hr0⟩
theorem cellS132_0 {W : World} {g : Nat} {A0 : Option Addr} {c0 : Nat} {f0 : List Int} {f1 : Int} {f2 : Int} (h : W.heap[g]? = some (.cells #[.slice A0 f0.length c0, .int .i64 f1, .int .i64 f2] 132 (0, 0))) : W.cell? ⟨g, 0, none⟩ = some (.slice A0 f0.length c0) := (blk_cell h 0).trans rfl
theorem cellS132_1 {W : World} {g : Nat} {A0 : Option Addr} {c0 : Nat} {f0 : List Int} {f1 : Int} {f2 : Int} (h : W.heap[g]? = some (.cells #[.slice A0 f0.length c0, .int .i64 f1, .int .i64 f2] 132 (0, 0))) : W.cell? ⟨g, 1, none⟩ = some (.int .i64 f1) := (blk_cell h 1).trans rfl
theorem IsS132.set_1 {w0 W : World} {g : Nat} {f0 : List Int} {f1 : Int} {f2 : Int} (h : IsS132 w0 W g f0 f1 f2) (x : Int) : IsS132 w0 (W.setCell ⟨g, 1, none⟩ (.int .i64 x)) g f0 x f2 := by
 obtain ⟨A0, c0, hb, hg, hr0⟩ := h
 exact ⟨A0, c0, by simpa using blk_set hb 1 (.int .i64 x), hg, hr0⟩
theorem cellS132_2 {W : World} {g : Nat} {A0 : Option Addr} {c0 : Nat} {f0 : List Int} {f1 : Int} {f2 : Int} (h : W.heap[g]? = some (.cells #[.slice A0 f0.length c0, .int .i64 f1, .int .i64 f2] 132 (0, 0))) : W.cell? ⟨g, 2, none⟩ = some (.int .i64 f2) := (blk_cell h 2).trans rfl
theorem IsS132.set_2 {w0 W : World} {g : Nat} {f0 : List Int} {f1 : Int} {f2 : Int} (h : IsS132 w0 W g f0 f1 f2) (x : Int) : IsS132 w0 (W.setCell ⟨g, 2, none⟩ (.int .i64 x)) g f0 f1 x := by
 obtain ⟨A0, c0, hb, hg, hr0⟩ := h
 exact ⟨A0, c0, by simpa using blk_set hb 2 (.int .i64 x), hg, hr0⟩
theorem IsS132.new (w0 W : World) (A0 : Option Addr) (c0 : Nat) (f0 : List Int) (f1 : Int) (f2 : Int) (hB : Below w0.heap.size w0 W) (hr0 : Kd.C (Kd.int .u8) w0 A0 f0.length f0) : IsS132 w0 (W.alloc (.cells #[.slice A0 f0.length c0, .int .i64 f1, .int .i64 f2] 132)) W.heap.size f0 f1 f2 := ⟨A0, c0, by simpa using heap_alloc_new W _, hB.size, hr0⟩
theorem bv {p : Prop} (h : p := by repeat (first | (with_reducible first | exact HB.out | apply below_alloc | apply pw_below_drewN | apply below_drew1 | refine below_set ?_ (Aside0.out (by assumption)) | refine below_set ?_ (IsS132.ge (Aside0.out (by assumption)))) | exact HB.out)) : p := h
theorem bu {p : Prop} (h : p := by repeat (first | (with_reducible first | exact HBW.out | apply below_alloc | apply pw_below_drewN | apply below_drew1 | refine below_set ?_ (Aside0.out (by assumption)) | refine below_set ?_ (IsS132.ge (Aside0.out (by assumption)))) | exact HBW.out)) : p := h
theorem iw {p q : Prop} (a : q) (h : q → p := by intro h_; repeat (first | (with_reducible first | exact h_ | apply IsS132.alloc | apply IsS132.drewN | apply IsS132.drew | apply IsS132.set_1 | apply IsS132.set_2 | refine IsS132.far ?_ (Aside0.out (by assumption)) _) | exact h_)) : p := h a
theorem gv {g n m : Nat} (e : g = n) (h : m ≤ n := by exact below_size (by repeat (first | (with_reducible first | exact HB.out | apply below_alloc | apply pw_below_drewN | apply below_drew1 | refine below_set ?_ (Aside0.out (by assumption)) | refine below_set ?_ (IsS132.ge (Aside0.out (by assumption)))) | exact HB.out))) : m ≤ g := e ▸ h

/-! ### spec_l1Byte: function 224 -/
def spec_l1Byte.f (s0_0 : List Int) (s0_1 : Int) (s0_2 : Int) : Option (Int × Int × Int) := if s0_1 < (s0_0.length : Int) then (if 0 ≤ s0_1 then (some (Go.bits .and .i64 (wrap64 ((Go.bits .and .i64 (Go.bits .xor .i64 ((wrap64 ((wrap64 (s0_2 * 6364136223846793005)) + 1442695040888963407)) / 8589934592) ((wrap64 ((wrap64 (s0_2 * 6364136223846793005)) + 1442695040888963407)) / 35184372088832)) 255) + (wrap64 (rd s0_0 s0_1)))) 255, wrap64 (s0_1 + 1), wrap64 ((wrap64 (s0_2 * 6364136223846793005)) + 1442695040888963407))) else (none)) else (some (Go.bits .and .i64 (Go.bits .xor .i64 ((wrap64 ((wrap64 (s0_2 * 6364136223846793005)) + 1442695040888963407)) / 8589934592) ((wrap64 ((wrap64 (s0_2 * 6364136223846793005)) + 1442695040888963407)) / 35184372088832)) 255, s0_1, wrap64 ((wrap64 (s0_2 * 6364136223846793005)) + 1442695040888963407)))
set_option maxHeartbeats 8000000 in
set_option maxRecDepth 100000 in
theorem spec_l1Byte.calls (g : Nat) (s0_0 : List Int) (s0_1 : Int) (s0_2 : Int) (r1 : Int) (r2 : Int) (r3 : Int) (w0 w : World) (hI : IsS132 w0 w g s0_0 s0_1 s0_2) (hB : Below w0.heap.size w0 w) (h : spec_l1Byte.f s0_0 s0_1 s0_2 = some (r1, r2, r3)) :
  Calls Try.prog 224 #[.pointer (some ⟨g, 0, none⟩)] w fun e w' => e = .returned (.int .i64 r1) ∧ IsS132 w0 w' g s0_0 r2 r3 ∧ Below w0.heap.size w0 w' ∧ KeepBut w w' g none := by
 have HI0 := am hI
 have HK := am (KeepBut.refl w g none)
 have HL := am hB.size
 clear hI
 have HW0 := am hB.size
 have HB := am hB
 clear hB
 have H : (if s0_1 < (s0_0.length : Int) then (if 0 ≤ s0_1 then (some (Go.bits .and .i64 (wrap64 ((Go.bits .and .i64 (Go.bits .xor .i64 ((wrap64 ((wrap64 (s0_2 * 6364136223846793005)) + 1442695040888963407)) / 8589934592) ((wrap64 ((wrap64 (s0_2 * 6364136223846793005)) + 1442695040888963407)) / 35184372088832)) 255) + (wrap64 (rd s0_0 s0_1)))) 255, wrap64 (s0_1 + 1), wrap64 ((wrap64 (s0_2 * 6364136223846793005)) + 1442695040888963407))) else (none)) else (some (Go.bits .and .i64 (Go.bits .xor .i64 ((wrap64 ((wrap64 (s0_2 * 6364136223846793005)) + 1442695040888963407)) / 8589934592) ((wrap64 ((wrap64 (s0_2 * 6364136223846793005)) + 1442695040888963407)) / 35184372088832)) 255, s0_1, wrap64 ((wrap64 (s0_2 * 6364136223846793005)) + 1442695040888963407)))) = some (r1, r2, r3) := h
 clear h
 replace H := gi H; obtain ⟨c2b0, H⟩ | ⟨c2b0, H⟩ := H
 ·replace H := gd H; obtain ⟨c3b0, H⟩ := H
  simp only [Option.some.injEq, Prod.mk.injEq] at H
  obtain ⟨rfl, rfl, rfl⟩ := H
  obtain ⟨ASz4_0, cSz4_0, HGz4, hgz4, HSz4_0⟩ := HI0.out
  have hcz4_0 := cellS132_0 HGz4
  have hcz4_1 := cellS132_1 HGz4
  have hcz4_2 := cellS132_2 HGz4
  have hfz4_1 := blk_frozen HGz4 1
  have hfz4_2 := blk_frozen HGz4 2
  clear HGz4 hgz4
  have p272 : 0 ≤ (s0_1 : Int) := of_decide_eq_true (by first | (with_reducible assumption) | assumption)
  have q272 : s0_1 < (s0_0.length : Int) := of_decide_eq_true (by first | (with_reducible assumption) | assumption)
  obtain ⟨ad272, e272, hx272_0⟩ := Kd.at_int HSz4_0 s0_1 p272 q272
  cases e272
  have hn272_0 : ad272.block ≠ g := Nat.ne_of_lt (Nat.lt_of_lt_of_le (by have := World.block_lt_of_cell? _ _ hx272_0; first | rwa [add_block] at this | exact this) (IsS132.ge HI0.out))
  replace hx272_0 := pw_cell_below HB.out hx272_0
  replace hx272_0 := (cell_far (p := ⟨g, 2, none⟩) (by first | (rw [add_block]; exact hn272_0) | (show (Addr.add _ _).block ≠ _; rw [add_block]; exact hn272_0) | exact hn272_0) (.int .i64 (wrap64 ((wrap64 (s0_2 * 6364136223846793005)) + 1442695040888963407)))).trans hx272_0
  (try have hy272_0 := fun (n_ : Nat) => (show (((w.drewN n_).setCell ⟨g, 2, none⟩ (.int .i64 (wrap64 ((wrap64 (s0_2 * 6364136223846793005)) + 1442695040888963407))))).cell? _ = some _ from hx272_0))
  clear hn272_0
  replace p272 := eq_true p272
  replace q272 := eq_true q272
  go_enter Try.func224, Try.ntmps224
  go_wp2
  repeat (go_quiet (fail); try go_wp2)
  go_ret
  exact ⟨re, (iw HI0.out), bv, by repeat (first | (with_reducible first | exact HK.out | apply KeepBut.set_ | apply keep_drewN | apply keep_drew | apply keep_alloc) | exact HK.out)⟩
 simp only [Option.some.injEq, Prod.mk.injEq] at H
 obtain ⟨rfl, rfl, rfl⟩ := H
 obtain ⟨ASz5_0, cSz5_0, HGz5, hgz5, HSz5_0⟩ := HI0.out
 have hcz5_0 := cellS132_0 HGz5
 have hcz5_1 := cellS132_1 HGz5
 have hcz5_2 := cellS132_2 HGz5
 have hfz5_1 := blk_frozen HGz5 1
 have hfz5_2 := blk_frozen HGz5 2
 clear HGz5 hgz5
 go_enter Try.func224, Try.ntmps224
 go_wp2
 repeat (go_quiet (fail); try go_wp2)
 go_ret
 exact ⟨re, (iw HI0.out), bv, by repeat (first | (with_reducible first | exact HK.out | apply KeepBut.set_ | apply keep_drewN | apply keep_drew | apply keep_alloc) | exact HK.out)⟩


/-! ### spec_l1Below: function 156 -/
def spec_l1Below.f (s0_0 : List Int) (s0_1 : Int) (s0_2 : Int) (a1 : Int) : Option (Int × Int × Int) := if a1 ≤ 0 then (some (0, s0_1, s0_2)) else (if a1 ≤ 256 then ((spec_l1Byte.f s0_0 s0_1 s0_2).bind fun bt273 => (if a1 = 0 then (none) else (some (Int.tmod bt273.1 a1, bt273.2.1, bt273.2.2)))) else ((spec_l1Byte.f s0_0 s0_1 s0_2).bind fun bt276 => ((spec_l1Byte.f s0_0 bt276.2.1 bt276.2.2).bind fun bt279 => ((spec_l1Byte.f s0_0 bt279.2.1 bt279.2.2).bind fun bt282 => ((spec_l1Byte.f s0_0 bt282.2.1 bt282.2.2).bind fun bt285 => (if a1 = 0 then (none) else (some (Int.tmod (wrap64 ((wrap64 ((wrap64 ((wrap64 (bt276.1 * 16777216)) + (wrap64 (bt279.1 * 65536)))) + (wrap64 (bt282.1 * 256)))) + bt285.1)) a1, bt285.2.1, bt285.2.2))))))))
set_option maxHeartbeats 8000000 in
set_option maxRecDepth 100000 in
theorem spec_l1Below.calls (g : Nat) (s0_0 : List Int) (s0_1 : Int) (s0_2 : Int) (a1 : Int) (r1 : Int) (r2 : Int) (r3 : Int) (w0 w : World) (hI : IsS132 w0 w g s0_0 s0_1 s0_2) (hB : Below w0.heap.size w0 w) (h : spec_l1Below.f s0_0 s0_1 s0_2 a1 = some (r1, r2, r3)) :
  Calls Try.prog 156 #[.pointer (some ⟨g, 0, none⟩), .int .i64 a1] w fun e w' => e = .returned (.int .i64 r1) ∧ IsS132 w0 w' g s0_0 r2 r3 ∧ Below w0.heap.size w0 w' ∧ KeepBut w w' g none := by
 have HI0 := am hI
 have HK := am (KeepBut.refl w g none)
 have HL := am hB.size
 clear hI
 have HW0 := am hB.size
 have HB := am hB
 clear hB
 have H : (if a1 ≤ 0 then (some (0, s0_1, s0_2)) else (if a1 ≤ 256 then ((spec_l1Byte.f s0_0 s0_1 s0_2).bind fun bt273 => (if a1 = 0 then (none) else (some (Int.tmod bt273.1 a1, bt273.2.1, bt273.2.2)))) else ((spec_l1Byte.f s0_0 s0_1 s0_2).bind fun bt276 => ((spec_l1Byte.f s0_0 bt276.2.1 bt276.2.2).bind fun bt279 => ((spec_l1Byte.f s0_0 bt279.2.1 bt279.2.2).bind fun bt282 => ((spec_l1Byte.f s0_0 bt282.2.1 bt282.2.2).bind fun bt285 => (if a1 = 0 then (none) else (some (Int.tmod (wrap64 ((wrap64 ((wrap64 ((wrap64 (bt276.1 * 16777216)) + (wrap64 (bt279.1 * 65536)))) + (wrap64 (bt282.1 * 256)))) + bt285.1)) a1, bt285.2.1, bt285.2.2))))))))) = some (r1, r2, r3) := h
 clear h
 replace H := gi H; obtain ⟨c3b0, H⟩ | ⟨c3b0, H⟩ := H
 ·simp only [Option.some.injEq, Prod.mk.injEq] at H
  obtain ⟨rfl, rfl, rfl⟩ := H
  go_enter Try.func156, Try.ntmps156
  go_wp2
  go_ret
  exact ⟨re, (iw HI0.out), bv, by repeat (first | (with_reducible first | exact HK.out | apply KeepBut.set_ | apply keep_drewN | apply keep_drew | apply keep_alloc) | exact HK.out)⟩
 replace H := gi H; obtain ⟨c4b0, H⟩ | ⟨c4b0, H⟩ := H
 ·replace H := ga H; obtain ⟨⟨t273, t274, t275⟩, A5, H⟩ := H
  replace H : (if a1 = 0 then (none) else (some (Int.tmod t273 a1, t274, t275))) = some (r1, r2, r3) := H
  by_cases c6 : a1 = 0
  ·rw [if_pos c6] at H
   exact absurd H (by simp)
  rw [if_neg c6] at H
  have c6b0 : (a1 == 0) = false := beq_eq_false_iff_ne.mpr c6
  have c6b1 : (a1 != 0) = true := bne_iff_ne.mpr c6
  simp only [Option.some.injEq, Prod.mk.injEq] at H
  obtain ⟨rfl, rfl, rfl⟩ := H
  go_enter Try.func156, Try.ntmps156
  go_wp2_with (first | ((with_reducible refine gate_callee (f := 224) rfl ?_); refine gl (some 14) Try.func224 #[.pointer (some ⟨g, 0, none⟩)] ?_; (with_reducible refine (spec_l1Byte.calls g s0_0 s0_1 s0_2 t273 t274 t275 w0 _ ?side1 ?side2 A5.out).mono ?_); (case side1 => exact iw HI0.out); (case side2 => exact bv); rintro e w7 ⟨rfl, hi, hb, hk⟩; refine ⟨_, rfl, ?_⟩; replace HK := am (KeepBut.trans (by repeat (first | (with_reducible first | exact HK.out | apply KeepBut.set_ | apply keep_drewN | apply keep_drew | apply keep_alloc) | exact HK.out)) hk (.inl rfl)); replace HB := am (hb); replace HI0 := am (hi); clear hb hk hi))
  go_ret
  exact ⟨re, (iw HI0.out), bv, by repeat (first | (with_reducible first | exact HK.out | apply KeepBut.set_ | apply keep_drewN | apply keep_drew | apply keep_alloc) | exact HK.out)⟩
 replace H := ga H; obtain ⟨⟨t276, t277, t278⟩, A8, H⟩ := H
 replace H : ((spec_l1Byte.f s0_0 t277 t278).bind fun bt279 => ((spec_l1Byte.f s0_0 bt279.2.1 bt279.2.2).bind fun bt282 => ((spec_l1Byte.f s0_0 bt282.2.1 bt282.2.2).bind fun bt285 => (if a1 = 0 then (none) else (some (Int.tmod (wrap64 ((wrap64 ((wrap64 ((wrap64 (t276 * 16777216)) + (wrap64 (bt279.1 * 65536)))) + (wrap64 (bt282.1 * 256)))) + bt285.1)) a1, bt285.2.1, bt285.2.2)))))) = some (r1, r2, r3) := H
 replace H := ga H; obtain ⟨⟨t279, t280, t281⟩, A9, H⟩ := H
 replace H : ((spec_l1Byte.f s0_0 t280 t281).bind fun bt282 => ((spec_l1Byte.f s0_0 bt282.2.1 bt282.2.2).bind fun bt285 => (if a1 = 0 then (none) else (some (Int.tmod (wrap64 ((wrap64 ((wrap64 ((wrap64 (t276 * 16777216)) + (wrap64 (t279 * 65536)))) + (wrap64 (bt282.1 * 256)))) + bt285.1)) a1, bt285.2.1, bt285.2.2))))) = some (r1, r2, r3) := H
 replace H := ga H; obtain ⟨⟨t282, t283, t284⟩, A10, H⟩ := H
 replace H : ((spec_l1Byte.f s0_0 t283 t284).bind fun bt285 => (if a1 = 0 then (none) else (some (Int.tmod (wrap64 ((wrap64 ((wrap64 ((wrap64 (t276 * 16777216)) + (wrap64 (t279 * 65536)))) + (wrap64 (t282 * 256)))) + bt285.1)) a1, bt285.2.1, bt285.2.2)))) = some (r1, r2, r3) := H
 replace H := ga H; obtain ⟨⟨t285, t286, t287⟩, A11, H⟩ := H
 replace H : (if a1 = 0 then (none) else (some (Int.tmod (wrap64 ((wrap64 ((wrap64 ((wrap64 (t276 * 16777216)) + (wrap64 (t279 * 65536)))) + (wrap64 (t282 * 256)))) + t285)) a1, t286, t287))) = some (r1, r2, r3) := H
 by_cases c12 : a1 = 0
 ·rw [if_pos c12] at H
  exact absurd H (by simp)
 rw [if_neg c12] at H
 have c12b0 : (a1 == 0) = false := beq_eq_false_iff_ne.mpr c12
 have c12b1 : (a1 != 0) = true := bne_iff_ne.mpr c12
 simp only [Option.some.injEq, Prod.mk.injEq] at H
 obtain ⟨rfl, rfl, rfl⟩ := H
 go_enter Try.func156, Try.ntmps156
 go_wp2_with (first | ((with_reducible refine gate_callee (f := 224) rfl ?_); refine gl (some 18) Try.func224 #[.pointer (some ⟨g, 0, none⟩)] ?_; (with_reducible refine (spec_l1Byte.calls g s0_0 s0_1 s0_2 t276 t277 t278 w0 _ ?side1 ?side2 A8.out).mono ?_); (case side1 => exact iw HI0.out); (case side2 => exact bv); rintro e w13 ⟨rfl, hi, hb, hk⟩; refine ⟨_, rfl, ?_⟩; replace HK := am (KeepBut.trans (by repeat (first | (with_reducible first | exact HK.out | apply KeepBut.set_ | apply keep_drewN | apply keep_drew | apply keep_alloc) | exact HK.out)) hk (.inl rfl)); replace HB := am (hb); replace HI0 := am (hi); clear hb hk hi) | ((with_reducible refine gate_callee (f := 224) rfl ?_); refine gl (some 20) Try.func224 #[.pointer (some ⟨g, 0, none⟩)] ?_; (with_reducible refine (spec_l1Byte.calls g s0_0 t277 t278 t279 t280 t281 w0 _ ?side1 ?side2 A9.out).mono ?_); (case side1 => exact iw HI0.out); (case side2 => exact bv); rintro e w14 ⟨rfl, hi, hb, hk⟩; refine ⟨_, rfl, ?_⟩; replace HK := am (KeepBut.trans (by repeat (first | (with_reducible first | exact HK.out | apply KeepBut.set_ | apply keep_drewN | apply keep_drew | apply keep_alloc) | exact HK.out)) hk (.inl rfl)); replace HB := am (hb); replace HI0 := am (hi); clear hb hk hi) | ((with_reducible refine gate_callee (f := 224) rfl ?_); refine gl (some 22) Try.func224 #[.pointer (some ⟨g, 0, none⟩)] ?_; (with_reducible refine (spec_l1Byte.calls g s0_0 t280 t281 t282 t283 t284 w0 _ ?side1 ?side2 A10.out).mono ?_); (case side1 => exact iw HI0.out); (case side2 => exact bv); rintro e w15 ⟨rfl, hi, hb, hk⟩; refine ⟨_, rfl, ?_⟩; replace HK := am (KeepBut.trans (by repeat (first | (with_reducible first | exact HK.out | apply KeepBut.set_ | apply keep_drewN | apply keep_drew | apply keep_alloc) | exact HK.out)) hk (.inl rfl)); replace HB := am (hb); replace HI0 := am (hi); clear hb hk hi) | ((with_reducible refine gate_callee (f := 224) rfl ?_); refine gl (some 24) Try.func224 #[.pointer (some ⟨g, 0, none⟩)] ?_; (with_reducible refine (spec_l1Byte.calls g s0_0 t283 t284 t285 t286 t287 w0 _ ?side1 ?side2 A11.out).mono ?_); (case side1 => exact iw HI0.out); (case side2 => exact bv); rintro e w16 ⟨rfl, hi, hb, hk⟩; refine ⟨_, rfl, ?_⟩; replace HK := am (KeepBut.trans (by repeat (first | (with_reducible first | exact HK.out | apply KeepBut.set_ | apply keep_drewN | apply keep_drew | apply keep_alloc) | exact HK.out)) hk (.inl rfl)); replace HB := am (hb); replace HI0 := am (hi); clear hb hk hi))
 go_ret
 exact ⟨re, (iw HI0.out), bv, by repeat (first | (with_reducible first | exact HK.out | apply KeepBut.set_ | apply keep_drewN | apply keep_drew | apply keep_alloc) | exact HK.out)⟩


/-! ### spec_l1PickInt: function 150 -/
def spec_l1PickInt.f (s0_0 : List Int) (s0_1 : Int) (s0_2 : Int) (l1 : List Int) : Option (Int × Int × Int) := (spec_l1Below.f s0_0 s0_1 s0_2 (l1.length : Int)).bind fun bt288 => (if 0 ≤ bt288.1 then (if bt288.1 < (l1.length : Int) then (some (rd l1 bt288.1, bt288.2.1, bt288.2.2)) else (none)) else (none))
set_option maxHeartbeats 8000000 in
set_option maxRecDepth 100000 in
theorem spec_l1PickInt.calls (g : Nat) (s0_0 : List Int) (s0_1 : Int) (s0_2 : Int) (A1 : Option Addr) (c1 : Nat) (l1 : List Int) (r1 : Int) (r2 : Int) (r3 : Int) (w0 w : World) (hI : IsS132 w0 w g s0_0 s0_1 s0_2) (hB : Below w0.heap.size w0 w) (hr1 : Kd.C (Kd.int .i64) w A1 l1.length l1) (hc1 : l1.length ≤ c1) (hf1 : ∀ ad, A1 = some ad → 0 < l1.length → ad.block ≠ g) (h : spec_l1PickInt.f s0_0 s0_1 s0_2 l1 = some (r1, r2, r3)) :
  Calls Try.prog 150 #[.pointer (some ⟨g, 0, none⟩), .slice A1 l1.length c1] w fun e w' => e = .returned (.int .i64 r1) ∧ IsS132 w0 w' g s0_0 r2 r3 ∧ Below w0.heap.size w0 w' ∧ KeepBut w w' g none := by
 have HR1 := am hr1
 have HC1 := am hc1
 clear hr1 hc1
 have HI0 := am hI
 have HK := am (KeepBut.refl w g none)
 have HL := am hB.size
 clear hI
 have HW0 := am hB.size
 have HB := am hB
 clear hB
 have H : ((spec_l1Below.f s0_0 s0_1 s0_2 (l1.length : Int)).bind fun bt288 => (if 0 ≤ bt288.1 then (if bt288.1 < (l1.length : Int) then (some (rd l1 bt288.1, bt288.2.1, bt288.2.2)) else (none)) else (none))) = some (r1, r2, r3) := h
 clear h
 replace H := ga H; obtain ⟨⟨t288, t289, t290⟩, A3, H⟩ := H
 replace H : (if 0 ≤ t288 then (if t288 < (l1.length : Int) then (some (rd l1 t288, t289, t290)) else (none)) else (none)) = some (r1, r2, r3) := H
 replace H := gd H; obtain ⟨c4b0, H⟩ := H
 replace H := gd H; obtain ⟨c5b0, H⟩ := H
 simp only [Option.some.injEq, Prod.mk.injEq] at H
 obtain ⟨rfl, rfl, rfl⟩ := H
 go_enter Try.func150, Try.ntmps150
 go_wp2_with (first | ((with_reducible refine gate_callee (f := 156) rfl ?_); refine gl (some 9) Try.func156 #[.pointer (some ⟨g, 0, none⟩), .int .i64 (l1.length : Int)] ?_; (with_reducible refine (spec_l1Below.calls g s0_0 s0_1 s0_2 (l1.length : Int) t288 t289 t290 w0 _ ?side1 ?side2 A3.out).mono ?_); (case side1 => exact iw HI0.out); (case side2 => exact bv); rintro e w6 ⟨rfl, hi, hb, hk⟩; refine ⟨_, rfl, ?_⟩; replace HK := am (KeepBut.trans (by repeat (first | (with_reducible first | exact HK.out | apply KeepBut.set_ | apply keep_drewN | apply keep_drew | apply keep_alloc) | exact HK.out)) hk (.inl rfl)); replace HB := am (hb); replace HI0 := am (hi); clear hb hk hi; have p291 : 0 ≤ (t288 : Int) := of_decide_eq_true (by first | (with_reducible assumption) | assumption); have q291 : t288 < (l1.length : Int) := of_decide_eq_true (by first | (with_reducible assumption) | assumption); obtain ⟨ad291, e291, hx291_0⟩ := Kd.at_int HR1.out t288 p291 q291; cases e291; replace hx291_0 := keep_cell HK.out hx291_0 (by first | (rw [add_block]; exact hf1 _ rfl (by omega)) | exact hf1 _ rfl (by omega) | exact hf1 ad291 rfl (by omega)); replace p291 := eq_true p291; replace q291 := eq_true q291))
 go_ret
 exact ⟨re, (iw HI0.out), bv, by repeat (first | (with_reducible first | exact HK.out | apply KeepBut.set_ | apply keep_drewN | apply keep_drew | apply keep_alloc) | exact HK.out)⟩


/-! ### spec_l1Once: function 163 -/
def spec_l1Once.f (s0_0 : List Int) (s0_1 : Int) (s0_2 : Int) (a1 : Int) : Option (Bool × Int × Int) := (spec_l1Below.f s0_0 s0_1 s0_2 a1).bind fun bt292 => (some ((bt292.1 == 0), bt292.2.1, bt292.2.2))
set_option maxHeartbeats 8000000 in
set_option maxRecDepth 100000 in
theorem spec_l1Once.calls (g : Nat) (s0_0 : List Int) (s0_1 : Int) (s0_2 : Int) (a1 : Int) (r1 : Bool) (r2 : Int) (r3 : Int) (w0 w : World) (hI : IsS132 w0 w g s0_0 s0_1 s0_2) (hB : Below w0.heap.size w0 w) (h : spec_l1Once.f s0_0 s0_1 s0_2 a1 = some (r1, r2, r3)) :
  Calls Try.prog 163 #[.pointer (some ⟨g, 0, none⟩), .int .i64 a1] w fun e w' => e = .returned (.bool r1) ∧ IsS132 w0 w' g s0_0 r2 r3 ∧ Below w0.heap.size w0 w' ∧ KeepBut w w' g none := by
 have HI0 := am hI
 have HK := am (KeepBut.refl w g none)
 have HL := am hB.size
 clear hI
 have HW0 := am hB.size
 have HB := am hB
 clear hB
 have H : ((spec_l1Below.f s0_0 s0_1 s0_2 a1).bind fun bt292 => (some ((bt292.1 == 0), bt292.2.1, bt292.2.2))) = some (r1, r2, r3) := h
 clear h
 replace H := ga H; obtain ⟨⟨t292, t293, t294⟩, A3, H⟩ := H
 replace H : (some ((t292 == 0), t293, t294)) = some (r1, r2, r3) := H
 simp only [Option.some.injEq, Prod.mk.injEq] at H
 obtain ⟨rfl, rfl, rfl⟩ := H
 go_enter Try.func163, Try.ntmps163
 go_wp2_with (first | ((with_reducible refine gate_callee (f := 156) rfl ?_); refine gl (some 7) Try.func156 #[.pointer (some ⟨g, 0, none⟩), .int .i64 a1] ?_; (with_reducible refine (spec_l1Below.calls g s0_0 s0_1 s0_2 a1 t292 t293 t294 w0 _ ?side1 ?side2 A3.out).mono ?_); (case side1 => exact iw HI0.out); (case side2 => exact bv); rintro e w4 ⟨rfl, hi, hb, hk⟩; refine ⟨_, rfl, ?_⟩; replace HK := am (KeepBut.trans (by repeat (first | (with_reducible first | exact HK.out | apply KeepBut.set_ | apply keep_drewN | apply keep_drew | apply keep_alloc) | exact HK.out)) hk (.inl rfl)); replace HB := am (hb); replace HI0 := am (hi); clear hb hk hi))
 go_ret
 exact ⟨re, (iw HI0.out), bv, by repeat (first | (with_reducible first | exact HK.out | apply KeepBut.set_ | apply keep_drewN | apply keep_drew | apply keep_alloc) | exact HK.out)⟩


/-! ### spec_FromGens: function 206 -/
def spec_FromGens.f (k : Nat) (l0 : List Int) : Option (List Int × Bool) := (spec_l3Gens.f k l0).bind fun t296 => (if t296 = true then ((spec_l3Minimal.f k l0).bind fun t297 => ((spec_IsSemigroup.f k t297).bind fun t301 => (if t301 = true then (some (t297, true)) else (some (([] : List Int), false))))) else (some (([] : List Int), false)))
set_option maxHeartbeats 8000000 in
set_option maxRecDepth 100000 in
theorem spec_FromGens.calls (k : Nat) (A0 : Option Addr) (c0 : Nat) (l0 : List Int) (r1 : List Int) (r2 : Bool) (w : World) (hr0 : Kd.C (Kd.int .i64) w A0 l0.length l0) (hc0 : l0.length ≤ c0) (h : spec_FromGens.f k l0 = some (r1, r2)) :
  Calls Try.prog 206 #[.slice A0 l0.length c0] w fun e w' => ∃ v0_ : Value, e = .returned (.tuple #[.agg #[v0_], .bool r2]) ∧ Kd.R (Kd.int .i64) 3 w' w.heap.size (fun _ => True) v0_ r1 ∧ Below w.heap.size w w' := by
 have hu26 := Try.underlying26
 have HR0 := am hr0
 have HC0 := am hc0
 clear hr0 hc0
 have HB := am (Below.refl w.heap.size w)
 have H : ((spec_l3Gens.f k l0).bind fun t296 => (if t296 = true then ((spec_l3Minimal.f k l0).bind fun t297 => ((spec_IsSemigroup.f k t297).bind fun t301 => (if t301 = true then (some (t297, true)) else (some (([] : List Int), false))))) else (some (([] : List Int), false)))) = some (r1, r2) := h
 clear h
 replace H := ga H; obtain ⟨t296, A2, H⟩ := H
 replace H := gb H; obtain ⟨rfl, H⟩ | ⟨rfl, H⟩ := H
 ·replace H := ga H; obtain ⟨t297, A4, H⟩ := H
  replace H := ga H; obtain ⟨t301, A5, H⟩ := H
  replace H := gb H; obtain ⟨rfl, H⟩ | ⟨rfl, H⟩ := H
  ·simp only [Option.some.injEq, Prod.mk.injEq] at H
   obtain ⟨rfl, rfl⟩ := H
   go_enter Try.func206, Try.ntmps206
   go_wp2_with (first | ((with_reducible refine gate_dst (N := 2) rfl ?_); refine bx 2 #[.slice none 0 0] 26 ?_; intro gb295 hg w7 hbox hb; have BK295 := am (hbox); have GW295 := am (gs hg : w.heap.size ≤ gb295); have GE295 := GW295; replace HB := am (below_step bw hb); clear hb hbox hg) | ((with_reducible refine gate_callee (f := 144) rfl ?_); refine gl (some 6) Try.func144 #[.slice A0 l0.length c0] ?_; (with_reducible refine (spec_l3Gens.calls k _ _ l0 true _ ?side1 ?side2 A2.out).mono ?_); (case side1 => exact co (Kd.C_below HR0.out HB.out)); (case side2 => exact HC0.out); rintro e w' ⟨rfl, ⟨nd, rfl⟩⟩; refine ⟨_, rfl, ?_⟩; (try (rw [drewN_self w7]; generalize hq_ : World.drewN w7 _ = w7; have n0_ : Aside0 (w7.heap[gb295]? = some (.cells #[.slice none 0 0] 26 (0, 0))) := ⟨by rw [← hq_]; exact (bo BK295.out)⟩; have n1_ : Aside0 (Below w.heap.size w w7) := ⟨by rw [← hq_]; exact bw⟩; clear BK295 HB hq_; have BK295 := n0_; have HB := n1_; clear n0_ n1_))) | ((with_reducible refine gate_callee (f := 147) rfl ?_); refine gl (some 10) Try.func147 #[.slice A0 l0.length c0] ?_; (with_reducible refine (spec_l3Minimal.calls k _ _ l0 t297 _ ?side1 ?side2 A4.out).mono ?_); (case side1 => exact co (Kd.C_below HR0.out HB.out)); (case side2 => exact HC0.out); rintro e w8 ⟨v298, rfl, ho0, hb⟩; refine ⟨_, rfl, ?_⟩; have HO299 := am (Kd.R_lower ho0 (below_size bw)); replace BK295 := kb BK295 hb; replace HB := am (below_step bw hb); clear hb ho0; obtain ⟨Ao9, co9, eo9⟩ := Kd.R_slice HO299.out; subst eo9) | ((with_reducible refine gate_dst (N := 4) rfl ?_); refine bx 4 #[.slice none 0 0] 26 ?_; intro gb300 hg w10 hbox hb; replace HO299 := rK HO299 hb; have BK300 := am (hbox); have GW300 := am (gs hg : w.heap.size ≤ gb300); have GE300 := GW300; replace HB := am (below_step bw hb); have NB295_300 := nl hg BK295; have NB300_295 := ns NB295_300; replace BK295 := kb BK295 hb; clear hb hbox hg; have hnb11 := NB300_295.out; have hnc11 := NB295_300.out; have hcz12_0 := bc BK300 0 (.slice none 0 0); have hfz12_0 := blk_frozen BK300.out 0) | ((with_reducible refine gate_callee (f := 23) rfl ?_); refine gl (some 13) Try.func23 #[.agg #[.slice Ao9 t297.length co9]] ?_; (with_reducible refine (spec_IsSemigroup.calls k _ _ t297 true _ ?side1 ?side2 A5.out).mono ?_); (case side1 => refine (Kd.R_reads' (e := 3) (base := w.heap.size) (ok := fun k_ => True) (n := t297.length) (c := co9) ?_).2.2; exact (rF HO299 BK300 (.slice Ao9 t297.length co9))); (case side2 => exact (Kd.R_reads' HO299.out).2.1); rintro e w13 ⟨rfl, hb⟩; refine ⟨_, rfl, ?_⟩; replace HO299 := am (Kd.R_below (rF HO299 BK300 (.slice Ao9 t297.length co9)) hb); replace BK295 := kb BK295 hb; replace BK300 := am (blk_below (g := gb300) (o := .cells #[.slice Ao9 t297.length co9] 26 (0, 0)) (by (with_reducible repeat (first | refine blk_drewN ?_ _ | refine blk_drew ?_ | refine blk_alloc ?_ _)); refine blk_put (cs := #[.slice none 0 0]) ?_ 0 _ rfl; (with_reducible repeat (first | refine blk_drewN ?_ _ | refine blk_drew ?_ | refine blk_alloc ?_ _)); exact BK300.out) hb); replace HB := am (below_step bw hb); clear hb; have hcz14_0 := bc BK300 0 (.slice Ao9 t297.length co9); have hfz14_0 := blk_frozen BK300.out 0; have hcz15_0 := bc BK295 0 (.slice none 0 0); have hfz15_0 := blk_frozen BK295.out 0))
   refine bodyPost_ret (results_ct rfl _ _ gb295 26 #[.slice Ao9 t297.length co9] (0, 0) _ rfl (by (with_reducible repeat (first | refine blk_drewN ?_ _ | refine blk_drew ?_ | refine blk_alloc ?_ _)); refine blk_put (cs := #[.slice none 0 0]) ?_ 0 _ rfl; (with_reducible repeat (first | refine blk_drewN ?_ _ | refine blk_drew ?_ | refine blk_alloc ?_ _)); exact BK295.out) Try.underlying26 rfl (by kernel_rfl)) rfl ?_
   exact ⟨_, re, by (with_reducible repeat (first | apply Kd.R_alloc | apply Kd.R_drewN | apply Kd.R_drew)); exact Kd.R_mono (Kd.R_far (p := ⟨gb295, 0, none⟩) (Kd.R_types HO299.out BK295.out (by decide)) (fun _ hk => hk.2) (.slice Ao9 t297.length co9)) (fun _ hk => trivial), bw⟩
  simp only [Option.some.injEq, Prod.mk.injEq] at H
  obtain ⟨rfl, rfl⟩ := H
  go_enter Try.func206, Try.ntmps206
  go_wp2_with (first | ((with_reducible refine gate_dst (N := 2) rfl ?_); refine bx 2 #[.slice none 0 0] 26 ?_; intro gb295 hg w16 hbox hb; have BK295 := am (hbox); have GW295 := am (gs hg : w.heap.size ≤ gb295); have GE295 := GW295; replace HB := am (below_step bw hb); clear hb hbox hg) | ((with_reducible refine gate_callee (f := 144) rfl ?_); refine gl (some 6) Try.func144 #[.slice A0 l0.length c0] ?_; (with_reducible refine (spec_l3Gens.calls k _ _ l0 true _ ?side1 ?side2 A2.out).mono ?_); (case side1 => exact co (Kd.C_below HR0.out HB.out)); (case side2 => exact HC0.out); rintro e w' ⟨rfl, ⟨nd, rfl⟩⟩; refine ⟨_, rfl, ?_⟩; (try (rw [drewN_self w16]; generalize hq_ : World.drewN w16 _ = w16; have n0_ : Aside0 (w16.heap[gb295]? = some (.cells #[.slice none 0 0] 26 (0, 0))) := ⟨by rw [← hq_]; exact (bo BK295.out)⟩; have n1_ : Aside0 (Below w.heap.size w w16) := ⟨by rw [← hq_]; exact bw⟩; clear BK295 HB hq_; have BK295 := n0_; have HB := n1_; clear n0_ n1_))) | ((with_reducible refine gate_callee (f := 147) rfl ?_); refine gl (some 10) Try.func147 #[.slice A0 l0.length c0] ?_; (with_reducible refine (spec_l3Minimal.calls k _ _ l0 t297 _ ?side1 ?side2 A4.out).mono ?_); (case side1 => exact co (Kd.C_below HR0.out HB.out)); (case side2 => exact HC0.out); rintro e w17 ⟨v298, rfl, ho0, hb⟩; refine ⟨_, rfl, ?_⟩; have HO299 := am (Kd.R_lower ho0 (below_size bw)); replace BK295 := kb BK295 hb; replace HB := am (below_step bw hb); clear hb ho0; obtain ⟨Ao18, co18, eo18⟩ := Kd.R_slice HO299.out; subst eo18) | ((with_reducible refine gate_dst (N := 4) rfl ?_); refine bx 4 #[.slice none 0 0] 26 ?_; intro gb300 hg w19 hbox hb; replace HO299 := rK HO299 hb; have BK300 := am (hbox); have GW300 := am (gs hg : w.heap.size ≤ gb300); have GE300 := GW300; replace HB := am (below_step bw hb); have NB295_300 := nl hg BK295; have NB300_295 := ns NB295_300; replace BK295 := kb BK295 hb; clear hb hbox hg; have hnb20 := NB300_295.out; have hnc20 := NB295_300.out; have hcz21_0 := bc BK300 0 (.slice none 0 0); have hfz21_0 := blk_frozen BK300.out 0) | ((with_reducible refine gate_callee (f := 23) rfl ?_); refine gl (some 13) Try.func23 #[.agg #[.slice Ao18 t297.length co18]] ?_; (with_reducible refine (spec_IsSemigroup.calls k _ _ t297 false _ ?side1 ?side2 A5.out).mono ?_); (case side1 => refine (Kd.R_reads' (e := 3) (base := w.heap.size) (ok := fun k_ => True) (n := t297.length) (c := co18) ?_).2.2; exact (rF HO299 BK300 (.slice Ao18 t297.length co18))); (case side2 => exact (Kd.R_reads' HO299.out).2.1); rintro e w22 ⟨rfl, hb⟩; refine ⟨_, rfl, ?_⟩; replace HO299 := am (Kd.R_below (rF HO299 BK300 (.slice Ao18 t297.length co18)) hb); replace BK295 := kb BK295 hb; replace BK300 := am (blk_below (g := gb300) (o := .cells #[.slice Ao18 t297.length co18] 26 (0, 0)) (by (with_reducible repeat (first | refine blk_drewN ?_ _ | refine blk_drew ?_ | refine blk_alloc ?_ _)); refine blk_put (cs := #[.slice none 0 0]) ?_ 0 _ rfl; (with_reducible repeat (first | refine blk_drewN ?_ _ | refine blk_drew ?_ | refine blk_alloc ?_ _)); exact BK300.out) hb); replace HB := am (below_step bw hb); clear hb; have hcz23_0 := bc BK295 0 (.slice none 0 0); have hfz23_0 := blk_frozen BK295.out 0))
  refine bodyPost_ret (results_ct rfl _ _ gb295 26 #[.slice none 0 0] (0, 0) _ rfl (by (with_reducible repeat (first | refine blk_drewN ?_ _ | refine blk_drew ?_ | refine blk_alloc ?_ _)); refine blk_put (cs := #[.slice none 0 0]) ?_ 0 _ rfl; (with_reducible repeat (first | refine blk_drewN ?_ _ | refine blk_drew ?_ | refine blk_alloc ?_ _)); exact BK295.out) Try.underlying26 rfl (by kernel_rfl)) rfl ?_
  exact ⟨_, re, by first | exact Kd.R_nil _ _ _ _ _ | exact Kd.N_nil _ _ _ _ _ | exact Kd.V_nil _ _ _ _ _ | exact Kd.Q_nil _ _ _ _ _ | exact Kd.S_nil _ _ _ _ _, bw⟩
 simp only [Option.some.injEq, Prod.mk.injEq] at H
 obtain ⟨rfl, rfl⟩ := H
 go_enter Try.func206, Try.ntmps206
 go_wp2_with (first | ((with_reducible refine gate_dst (N := 2) rfl ?_); refine bx 2 #[.slice none 0 0] 26 ?_; intro gb295 hg w24 hbox hb; have BK295 := am (hbox); have GW295 := am (gs hg : w.heap.size ≤ gb295); have GE295 := GW295; replace HB := am (below_step bw hb); clear hb hbox hg) | ((with_reducible refine gate_callee (f := 144) rfl ?_); refine gl (some 6) Try.func144 #[.slice A0 l0.length c0] ?_; (with_reducible refine (spec_l3Gens.calls k _ _ l0 false _ ?side1 ?side2 A2.out).mono ?_); (case side1 => exact co (Kd.C_below HR0.out HB.out)); (case side2 => exact HC0.out); rintro e w' ⟨rfl, ⟨nd, rfl⟩⟩; refine ⟨_, rfl, ?_⟩; (try (rw [drewN_self w24]; generalize hq_ : World.drewN w24 _ = w24; have n0_ : Aside0 (w24.heap[gb295]? = some (.cells #[.slice none 0 0] 26 (0, 0))) := ⟨by rw [← hq_]; exact (bo BK295.out)⟩; have n1_ : Aside0 (Below w.heap.size w w24) := ⟨by rw [← hq_]; exact bw⟩; clear BK295 HB hq_; have BK295 := n0_; have HB := n1_; clear n0_ n1_)); have hcz25_0 := bc BK295 0 (.slice none 0 0); have hfz25_0 := blk_frozen BK295.out 0))
 refine bodyPost_ret (results_ct rfl _ _ gb295 26 #[.slice none 0 0] (0, 0) _ rfl (by (with_reducible repeat (first | refine blk_drewN ?_ _ | refine blk_drew ?_ | refine blk_alloc ?_ _)); refine blk_put (cs := #[.slice none 0 0]) ?_ 0 _ rfl; (with_reducible repeat (first | refine blk_drewN ?_ _ | refine blk_drew ?_ | refine blk_alloc ?_ _)); exact BK295.out) Try.underlying26 rfl (by kernel_rfl)) rfl ?_
 exact ⟨_, re, by first | exact Kd.R_nil _ _ _ _ _ | exact Kd.N_nil _ _ _ _ _ | exact Kd.V_nil _ _ _ _ _ | exact Kd.Q_nil _ _ _ _ _ | exact Kd.S_nil _ _ _ _ _, bw⟩


/-! ### spec_l3List: function 233 -/
def spec_l3List.f (s0_0 : List Int) (s0_1 : Int) (s0_2 : Int) : Option (List Int × Int × Int) := (spec_l1Below.f s0_0 s0_1 s0_2 8).bind fun bt302 => (if bt302.1 = 0 then (some ((([1] : List Int)), bt302.2.1, bt302.2.2)) else (if bt302.1 = 1 then (some ((([3, 5] : List Int)), bt302.2.1, bt302.2.2)) else (if bt302.1 = 2 then (some ((([4, 6, 9] : List Int)), bt302.2.1, bt302.2.2)) else (if bt302.1 = 3 then (some ((([3, 4, 5] : List Int)), bt302.2.1, bt302.2.2)) else (if bt302.1 = 4 then (some ((([6, 9, 20] : List Int)), bt302.2.1, bt302.2.2)) else (if bt302.1 = 5 then (some ((([5, 7, 9, 11] : List Int)), bt302.2.1, bt302.2.2)) else (if bt302.1 = 6 then (some ((([2, 3] : List Int)), bt302.2.1, bt302.2.2)) else (some ((([4, 5, 11] : List Int)), bt302.2.1, bt302.2.2)))))))))
set_option maxHeartbeats 8000000 in
set_option maxRecDepth 100000 in
theorem spec_l3List.calls (g : Nat) (s0_0 : List Int) (s0_1 : Int) (s0_2 : Int) (r1 : List Int) (r2 : Int) (r3 : Int) (w0 w : World) (hI : IsS132 w0 w g s0_0 s0_1 s0_2) (hB : Below w0.heap.size w0 w) (h : spec_l3List.f s0_0 s0_1 s0_2 = some (r1, r2, r3)) :
  Calls Try.prog 233 #[.pointer (some ⟨g, 0, none⟩)] w fun e w' => ∃ v0_ : Value, e = .returned (v0_) ∧ Kd.R (Kd.int .i64) 3 w' w.heap.size (fun _ => True) v0_ r1 ∧ IsS132 w0 w' g s0_0 r2 r3 ∧ Below w0.heap.size w0 w' ∧ KeepBut w w' g none := by
 have HI0 := am hI
 have HK := am (KeepBut.refl w g none)
 have HL := am hB.size
 clear hI
 have HW0 := am hB.size
 have HB := am hB
 clear hB
 have H : ((spec_l1Below.f s0_0 s0_1 s0_2 8).bind fun bt302 => (if bt302.1 = 0 then (some ((([1] : List Int)), bt302.2.1, bt302.2.2)) else (if bt302.1 = 1 then (some ((([3, 5] : List Int)), bt302.2.1, bt302.2.2)) else (if bt302.1 = 2 then (some ((([4, 6, 9] : List Int)), bt302.2.1, bt302.2.2)) else (if bt302.1 = 3 then (some ((([3, 4, 5] : List Int)), bt302.2.1, bt302.2.2)) else (if bt302.1 = 4 then (some ((([6, 9, 20] : List Int)), bt302.2.1, bt302.2.2)) else (if bt302.1 = 5 then (some ((([5, 7, 9, 11] : List Int)), bt302.2.1, bt302.2.2)) else (if bt302.1 = 6 then (some ((([2, 3] : List Int)), bt302.2.1, bt302.2.2)) else (some ((([4, 5, 11] : List Int)), bt302.2.1, bt302.2.2)))))))))) = some (r1, r2, r3) := h
 clear h
 replace H := ga H; obtain ⟨⟨t302, t303, t304⟩, A2, H⟩ := H
 replace H : (if t302 = 0 then (some ((([1] : List Int)), t303, t304)) else (if t302 = 1 then (some ((([3, 5] : List Int)), t303, t304)) else (if t302 = 2 then (some ((([4, 6, 9] : List Int)), t303, t304)) else (if t302 = 3 then (some ((([3, 4, 5] : List Int)), t303, t304)) else (if t302 = 4 then (some ((([6, 9, 20] : List Int)), t303, t304)) else (if t302 = 5 then (some ((([5, 7, 9, 11] : List Int)), t303, t304)) else (if t302 = 6 then (some ((([2, 3] : List Int)), t303, t304)) else (some ((([4, 5, 11] : List Int)), t303, t304))))))))) = some (r1, r2, r3) := H
 by_cases c3 : t302 = 0
 ·rw [if_pos c3] at H
  have c3b0 : (t302 == 0) = true := beq_iff_eq.mpr c3
  have c3b1 : (t302 != 0) = false := bne_eq_false_iff_eq.mpr c3
  clear c3
  obtain ⟨y305, hy305⟩ : ∃ y_ : List Int, y_ = (([1] : List Int)) := ⟨_, rfl⟩
  replace H : (some (y305, t303, t304)) = some (r1, r2, r3) := by first | (rw [hy305]; with_reducible first | exact H | exact bs H) | (with_reducible first | exact bs H | exact H) | (rw [hy305]; exact H) | exact H
  have Ny305 := am hy305
  clear hy305
  simp only [Option.some.injEq, Prod.mk.injEq] at H
  obtain ⟨rfl, rfl, rfl⟩ := H
  go_enter Try.func233, Try.ntmps233
  go_wp2_with (first | ((with_reducible refine gate_callee (f := 156) rfl ?_); refine gl (some 4) Try.func156 #[.pointer (some ⟨g, 0, none⟩), .int .i64 8] ?_; (with_reducible refine (spec_l1Below.calls g s0_0 s0_1 s0_2 8 t302 t303 t304 w0 _ ?side1 ?side2 A2.out).mono ?_); (case side1 => exact iw HI0.out); (case side2 => exact bv); rintro e w4 ⟨rfl, hi, hb, hk⟩; refine ⟨_, rfl, ?_⟩; replace HK := am (KeepBut.trans (by repeat (first | (with_reducible first | exact HK.out | apply KeepBut.set_ | apply keep_drewN | apply keep_drew | apply keep_alloc) | exact HK.out)) hk (.inl rfl)); replace HB := am (hb); replace HI0 := am (hi); clear hb hk hi) | ((with_reducible refine gate_dst (N := 7) rfl ?_); refine Kd.R_lit (Kd.int .i64) _ 3 ?hg (N := 7) ?hd (xs := ([1] : List Int)) (inner := [.int .i64 1]) (ok := fun _ => True) (okp := fun _ => True) ?hr ?hp (fun _ hk => hk) trivial (Below.refl _ _) (Nat.le_refl _) (by simp) ?_; (case hd => rfl); (case hg => rfl); (case hr => first | (go_simp; done) | (go_simp; rfl)); (case hp => exact (Reps.one (show Kd.M (Kd.int .i64) _ _ _ 1 [.int .i64 1] from rfl) (Reps.none _ _))); intro v306 w5 ho6 hb hg_ hnew_; clear hg_ hnew_; (first | rw [← Ny305.out] at ho6 | (simp only [Int.reduceToNat] at ho6; rw [← Ny305.out] at ho6)); have HO307 := am (Kd.R_lower ho6 (keep_size (w := w) (g := g) (row := none) (by repeat (first | (with_reducible first | exact HK.out | apply KeepBut.set_ | apply keep_drewN | apply keep_drew | apply keep_alloc) | exact HK.out)))); replace HK := am (KeepBut.trans (by repeat (first | (with_reducible first | exact HK.out | apply KeepBut.set_ | apply keep_drewN | apply keep_drew | apply keep_alloc) | exact HK.out)) (KeepBut.of_below hb g none) (.inl rfl)); replace HB := am (below_step bv hb); replace HI0 := am (IsS132.below (iw HI0.out) hb); clear hb ho6))
  go_ret
  exact ⟨_, re, ro HO307.out, (iw HI0.out), bv, by repeat (first | (with_reducible first | exact HK.out | apply KeepBut.set_ | apply keep_drewN | apply keep_drew | apply keep_alloc) | exact HK.out)⟩
 rw [if_neg c3] at H
 have c3b0 : (t302 == 0) = false := beq_eq_false_iff_ne.mpr c3
 have c3b1 : (t302 != 0) = true := bne_iff_ne.mpr c3
 by_cases c7 : t302 = 1
 ·rw [if_pos c7] at H
  have c7b0 : (t302 == 1) = true := beq_iff_eq.mpr c7
  have c7b1 : (t302 != 1) = false := bne_eq_false_iff_eq.mpr c7
  clear c7
  obtain ⟨y308, hy308⟩ : ∃ y_ : List Int, y_ = (([3, 5] : List Int)) := ⟨_, rfl⟩
  replace H : (some (y308, t303, t304)) = some (r1, r2, r3) := by first | (rw [hy308]; with_reducible first | exact H | exact bs H) | (with_reducible first | exact bs H | exact H) | (rw [hy308]; exact H) | exact H
  have Ny308 := am hy308
  clear hy308
  simp only [Option.some.injEq, Prod.mk.injEq] at H
  obtain ⟨rfl, rfl, rfl⟩ := H
  go_enter Try.func233, Try.ntmps233
  go_wp2_with (first | ((with_reducible refine gate_callee (f := 156) rfl ?_); refine gl (some 4) Try.func156 #[.pointer (some ⟨g, 0, none⟩), .int .i64 8] ?_; (with_reducible refine (spec_l1Below.calls g s0_0 s0_1 s0_2 8 t302 t303 t304 w0 _ ?side1 ?side2 A2.out).mono ?_); (case side1 => exact iw HI0.out); (case side2 => exact bv); rintro e w8 ⟨rfl, hi, hb, hk⟩; refine ⟨_, rfl, ?_⟩; replace HK := am (KeepBut.trans (by repeat (first | (with_reducible first | exact HK.out | apply KeepBut.set_ | apply keep_drewN | apply keep_drew | apply keep_alloc) | exact HK.out)) hk (.inl rfl)); replace HB := am (hb); replace HI0 := am (hi); clear hb hk hi) | ((with_reducible refine gate_dst (N := 10) rfl ?_); refine Kd.R_lit (Kd.int .i64) _ 3 ?hg (N := 10) ?hd (xs := ([3, 5] : List Int)) (inner := [.int .i64 3, .int .i64 5]) (ok := fun _ => True) (okp := fun _ => True) ?hr ?hp (fun _ hk => hk) trivial (Below.refl _ _) (Nat.le_refl _) (by simp) ?_; (case hd => rfl); (case hg => rfl); (case hr => first | (go_simp; done) | (go_simp; rfl)); (case hp => exact (Reps.one (show Kd.M (Kd.int .i64) _ _ _ 3 [.int .i64 3] from rfl) (Reps.one (show Kd.M (Kd.int .i64) _ _ _ 5 [.int .i64 5] from rfl) (Reps.none _ _)))); intro v309 w9 ho10 hb hg_ hnew_; clear hg_ hnew_; (first | rw [← Ny308.out] at ho10 | (simp only [Int.reduceToNat] at ho10; rw [← Ny308.out] at ho10)); have HO310 := am (Kd.R_lower ho10 (keep_size (w := w) (g := g) (row := none) (by repeat (first | (with_reducible first | exact HK.out | apply KeepBut.set_ | apply keep_drewN | apply keep_drew | apply keep_alloc) | exact HK.out)))); replace HK := am (KeepBut.trans (by repeat (first | (with_reducible first | exact HK.out | apply KeepBut.set_ | apply keep_drewN | apply keep_drew | apply keep_alloc) | exact HK.out)) (KeepBut.of_below hb g none) (.inl rfl)); replace HB := am (below_step bv hb); replace HI0 := am (IsS132.below (iw HI0.out) hb); clear hb ho10))
  go_ret
  exact ⟨_, re, ro HO310.out, (iw HI0.out), bv, by repeat (first | (with_reducible first | exact HK.out | apply KeepBut.set_ | apply keep_drewN | apply keep_drew | apply keep_alloc) | exact HK.out)⟩
 rw [if_neg c7] at H
 have c7b0 : (t302 == 1) = false := beq_eq_false_iff_ne.mpr c7
 have c7b1 : (t302 != 1) = true := bne_iff_ne.mpr c7
 by_cases c11 : t302 = 2
 ·rw [if_pos c11] at H
  have c11b0 : (t302 == 2) = true := beq_iff_eq.mpr c11
  have c11b1 : (t302 != 2) = false := bne_eq_false_iff_eq.mpr c11
  clear c11
  obtain ⟨y311, hy311⟩ : ∃ y_ : List Int, y_ = (([4, 6, 9] : List Int)) := ⟨_, rfl⟩
  replace H : (some (y311, t303, t304)) = some (r1, r2, r3) := by first | (rw [hy311]; with_reducible first | exact H | exact bs H) | (with_reducible first | exact bs H | exact H) | (rw [hy311]; exact H) | exact H
  have Ny311 := am hy311
  clear hy311
  simp only [Option.some.injEq, Prod.mk.injEq] at H
  obtain ⟨rfl, rfl, rfl⟩ := H
  go_enter Try.func233, Try.ntmps233
  go_wp2_with (first | ((with_reducible refine gate_callee (f := 156) rfl ?_); refine gl (some 4) Try.func156 #[.pointer (some ⟨g, 0, none⟩), .int .i64 8] ?_; (with_reducible refine (spec_l1Below.calls g s0_0 s0_1 s0_2 8 t302 t303 t304 w0 _ ?side1 ?side2 A2.out).mono ?_); (case side1 => exact iw HI0.out); (case side2 => exact bv); rintro e w12 ⟨rfl, hi, hb, hk⟩; refine ⟨_, rfl, ?_⟩; replace HK := am (KeepBut.trans (by repeat (first | (with_reducible first | exact HK.out | apply KeepBut.set_ | apply keep_drewN | apply keep_drew | apply keep_alloc) | exact HK.out)) hk (.inl rfl)); replace HB := am (hb); replace HI0 := am (hi); clear hb hk hi) | ((with_reducible refine gate_dst (N := 13) rfl ?_); refine Kd.R_lit (Kd.int .i64) _ 3 ?hg (N := 13) ?hd (xs := ([4, 6, 9] : List Int)) (inner := [.int .i64 4, .int .i64 6, .int .i64 9]) (ok := fun _ => True) (okp := fun _ => True) ?hr ?hp (fun _ hk => hk) trivial (Below.refl _ _) (Nat.le_refl _) (by simp) ?_; (case hd => rfl); (case hg => rfl); (case hr => first | (go_simp; done) | (go_simp; rfl)); (case hp => exact (Reps.one (show Kd.M (Kd.int .i64) _ _ _ 4 [.int .i64 4] from rfl) (Reps.one (show Kd.M (Kd.int .i64) _ _ _ 6 [.int .i64 6] from rfl) (Reps.one (show Kd.M (Kd.int .i64) _ _ _ 9 [.int .i64 9] from rfl) (Reps.none _ _))))); intro v312 w13 ho14 hb hg_ hnew_; clear hg_ hnew_; (first | rw [← Ny311.out] at ho14 | (simp only [Int.reduceToNat] at ho14; rw [← Ny311.out] at ho14)); have HO313 := am (Kd.R_lower ho14 (keep_size (w := w) (g := g) (row := none) (by repeat (first | (with_reducible first | exact HK.out | apply KeepBut.set_ | apply keep_drewN | apply keep_drew | apply keep_alloc) | exact HK.out)))); replace HK := am (KeepBut.trans (by repeat (first | (with_reducible first | exact HK.out | apply KeepBut.set_ | apply keep_drewN | apply keep_drew | apply keep_alloc) | exact HK.out)) (KeepBut.of_below hb g none) (.inl rfl)); replace HB := am (below_step bv hb); replace HI0 := am (IsS132.below (iw HI0.out) hb); clear hb ho14))
  go_ret
  exact ⟨_, re, ro HO313.out, (iw HI0.out), bv, by repeat (first | (with_reducible first | exact HK.out | apply KeepBut.set_ | apply keep_drewN | apply keep_drew | apply keep_alloc) | exact HK.out)⟩
 rw [if_neg c11] at H
 have c11b0 : (t302 == 2) = false := beq_eq_false_iff_ne.mpr c11
 have c11b1 : (t302 != 2) = true := bne_iff_ne.mpr c11
 by_cases c15 : t302 = 3
 ·rw [if_pos c15] at H
  have c15b0 : (t302 == 3) = true := beq_iff_eq.mpr c15
  have c15b1 : (t302 != 3) = false := bne_eq_false_iff_eq.mpr c15
  clear c15
  obtain ⟨y314, hy314⟩ : ∃ y_ : List Int, y_ = (([3, 4, 5] : List Int)) := ⟨_, rfl⟩
  replace H : (some (y314, t303, t304)) = some (r1, r2, r3) := by first | (rw [hy314]; with_reducible first | exact H | exact bs H) | (with_reducible first | exact bs H | exact H) | (rw [hy314]; exact H) | exact H
  have Ny314 := am hy314
  clear hy314
  simp only [Option.some.injEq, Prod.mk.injEq] at H
  obtain ⟨rfl, rfl, rfl⟩ := H
  go_enter Try.func233, Try.ntmps233
  go_wp2_with (first | ((with_reducible refine gate_callee (f := 156) rfl ?_); refine gl (some 4) Try.func156 #[.pointer (some ⟨g, 0, none⟩), .int .i64 8] ?_; (with_reducible refine (spec_l1Below.calls g s0_0 s0_1 s0_2 8 t302 t303 t304 w0 _ ?side1 ?side2 A2.out).mono ?_); (case side1 => exact iw HI0.out); (case side2 => exact bv); rintro e w16 ⟨rfl, hi, hb, hk⟩; refine ⟨_, rfl, ?_⟩; replace HK := am (KeepBut.trans (by repeat (first | (with_reducible first | exact HK.out | apply KeepBut.set_ | apply keep_drewN | apply keep_drew | apply keep_alloc) | exact HK.out)) hk (.inl rfl)); replace HB := am (hb); replace HI0 := am (hi); clear hb hk hi) | ((with_reducible refine gate_dst (N := 16) rfl ?_); refine Kd.R_lit (Kd.int .i64) _ 3 ?hg (N := 16) ?hd (xs := ([3, 4, 5] : List Int)) (inner := [.int .i64 3, .int .i64 4, .int .i64 5]) (ok := fun _ => True) (okp := fun _ => True) ?hr ?hp (fun _ hk => hk) trivial (Below.refl _ _) (Nat.le_refl _) (by simp) ?_; (case hd => rfl); (case hg => rfl); (case hr => first | (go_simp; done) | (go_simp; rfl)); (case hp => exact (Reps.one (show Kd.M (Kd.int .i64) _ _ _ 3 [.int .i64 3] from rfl) (Reps.one (show Kd.M (Kd.int .i64) _ _ _ 4 [.int .i64 4] from rfl) (Reps.one (show Kd.M (Kd.int .i64) _ _ _ 5 [.int .i64 5] from rfl) (Reps.none _ _))))); intro v315 w17 ho18 hb hg_ hnew_; clear hg_ hnew_; (first | rw [← Ny314.out] at ho18 | (simp only [Int.reduceToNat] at ho18; rw [← Ny314.out] at ho18)); have HO316 := am (Kd.R_lower ho18 (keep_size (w := w) (g := g) (row := none) (by repeat (first | (with_reducible first | exact HK.out | apply KeepBut.set_ | apply keep_drewN | apply keep_drew | apply keep_alloc) | exact HK.out)))); replace HK := am (KeepBut.trans (by repeat (first | (with_reducible first | exact HK.out | apply KeepBut.set_ | apply keep_drewN | apply keep_drew | apply keep_alloc) | exact HK.out)) (KeepBut.of_below hb g none) (.inl rfl)); replace HB := am (below_step bv hb); replace HI0 := am (IsS132.below (iw HI0.out) hb); clear hb ho18))
  go_ret
  exact ⟨_, re, ro HO316.out, (iw HI0.out), bv, by repeat (first | (with_reducible first | exact HK.out | apply KeepBut.set_ | apply keep_drewN | apply keep_drew | apply keep_alloc) | exact HK.out)⟩
 rw [if_neg c15] at H
 have c15b0 : (t302 == 3) = false := beq_eq_false_iff_ne.mpr c15
 have c15b1 : (t302 != 3) = true := bne_iff_ne.mpr c15
 by_cases c19 : t302 = 4
 ·rw [if_pos c19] at H
  have c19b0 : (t302 == 4) = true := beq_iff_eq.mpr c19
  have c19b1 : (t302 != 4) = false := bne_eq_false_iff_eq.mpr c19
  clear c19
  obtain ⟨y317, hy317⟩ : ∃ y_ : List Int, y_ = (([6, 9, 20] : List Int)) := ⟨_, rfl⟩
  replace H : (some (y317, t303, t304)) = some (r1, r2, r3) := by first | (rw [hy317]; with_reducible first | exact H | exact bs H) | (with_reducible first | exact bs H | exact H) | (rw [hy317]; exact H) | exact H
  have Ny317 := am hy317
  clear hy317
  simp only [Option.some.injEq, Prod.mk.injEq] at H
  obtain ⟨rfl, rfl, rfl⟩ := H
  go_enter Try.func233, Try.ntmps233
  go_wp2_with (first | ((with_reducible refine gate_callee (f := 156) rfl ?_); refine gl (some 4) Try.func156 #[.pointer (some ⟨g, 0, none⟩), .int .i64 8] ?_; (with_reducible refine (spec_l1Below.calls g s0_0 s0_1 s0_2 8 t302 t303 t304 w0 _ ?side1 ?side2 A2.out).mono ?_); (case side1 => exact iw HI0.out); (case side2 => exact bv); rintro e w20 ⟨rfl, hi, hb, hk⟩; refine ⟨_, rfl, ?_⟩; replace HK := am (KeepBut.trans (by repeat (first | (with_reducible first | exact HK.out | apply KeepBut.set_ | apply keep_drewN | apply keep_drew | apply keep_alloc) | exact HK.out)) hk (.inl rfl)); replace HB := am (hb); replace HI0 := am (hi); clear hb hk hi) | ((with_reducible refine gate_dst (N := 19) rfl ?_); refine Kd.R_lit (Kd.int .i64) _ 3 ?hg (N := 19) ?hd (xs := ([6, 9, 20] : List Int)) (inner := [.int .i64 6, .int .i64 9, .int .i64 20]) (ok := fun _ => True) (okp := fun _ => True) ?hr ?hp (fun _ hk => hk) trivial (Below.refl _ _) (Nat.le_refl _) (by simp) ?_; (case hd => rfl); (case hg => rfl); (case hr => first | (go_simp; done) | (go_simp; rfl)); (case hp => exact (Reps.one (show Kd.M (Kd.int .i64) _ _ _ 6 [.int .i64 6] from rfl) (Reps.one (show Kd.M (Kd.int .i64) _ _ _ 9 [.int .i64 9] from rfl) (Reps.one (show Kd.M (Kd.int .i64) _ _ _ 20 [.int .i64 20] from rfl) (Reps.none _ _))))); intro v318 w21 ho22 hb hg_ hnew_; clear hg_ hnew_; (first | rw [← Ny317.out] at ho22 | (simp only [Int.reduceToNat] at ho22; rw [← Ny317.out] at ho22)); have HO319 := am (Kd.R_lower ho22 (keep_size (w := w) (g := g) (row := none) (by repeat (first | (with_reducible first | exact HK.out | apply KeepBut.set_ | apply keep_drewN | apply keep_drew | apply keep_alloc) | exact HK.out)))); replace HK := am (KeepBut.trans (by repeat (first | (with_reducible first | exact HK.out | apply KeepBut.set_ | apply keep_drewN | apply keep_drew | apply keep_alloc) | exact HK.out)) (KeepBut.of_below hb g none) (.inl rfl)); replace HB := am (below_step bv hb); replace HI0 := am (IsS132.below (iw HI0.out) hb); clear hb ho22))
  go_ret
  exact ⟨_, re, ro HO319.out, (iw HI0.out), bv, by repeat (first | (with_reducible first | exact HK.out | apply KeepBut.set_ | apply keep_drewN | apply keep_drew | apply keep_alloc) | exact HK.out)⟩
 rw [if_neg c19] at H
 have c19b0 : (t302 == 4) = false := beq_eq_false_iff_ne.mpr c19
 have c19b1 : (t302 != 4) = true := bne_iff_ne.mpr c19
 by_cases c23 : t302 = 5
 ·rw [if_pos c23] at H
  have c23b0 : (t302 == 5) = true := beq_iff_eq.mpr c23
  have c23b1 : (t302 != 5) = false := bne_eq_false_iff_eq.mpr c23
  clear c23
  obtain ⟨y320, hy320⟩ : ∃ y_ : List Int, y_ = (([5, 7, 9, 11] : List Int)) := ⟨_, rfl⟩
  replace H : (some (y320, t303, t304)) = some (r1, r2, r3) := by first | (rw [hy320]; with_reducible first | exact H | exact bs H) | (with_reducible first | exact bs H | exact H) | (rw [hy320]; exact H) | exact H
  have Ny320 := am hy320
  clear hy320
  simp only [Option.some.injEq, Prod.mk.injEq] at H
  obtain ⟨rfl, rfl, rfl⟩ := H
  go_enter Try.func233, Try.ntmps233
  go_wp2_with (first | ((with_reducible refine gate_callee (f := 156) rfl ?_); refine gl (some 4) Try.func156 #[.pointer (some ⟨g, 0, none⟩), .int .i64 8] ?_; (with_reducible refine (spec_l1Below.calls g s0_0 s0_1 s0_2 8 t302 t303 t304 w0 _ ?side1 ?side2 A2.out).mono ?_); (case side1 => exact iw HI0.out); (case side2 => exact bv); rintro e w24 ⟨rfl, hi, hb, hk⟩; refine ⟨_, rfl, ?_⟩; replace HK := am (KeepBut.trans (by repeat (first | (with_reducible first | exact HK.out | apply KeepBut.set_ | apply keep_drewN | apply keep_drew | apply keep_alloc) | exact HK.out)) hk (.inl rfl)); replace HB := am (hb); replace HI0 := am (hi); clear hb hk hi) | ((with_reducible refine gate_dst (N := 22) rfl ?_); refine Kd.R_lit (Kd.int .i64) _ 3 ?hg (N := 22) ?hd (xs := ([5, 7, 9, 11] : List Int)) (inner := [.int .i64 5, .int .i64 7, .int .i64 9, .int .i64 11]) (ok := fun _ => True) (okp := fun _ => True) ?hr ?hp (fun _ hk => hk) trivial (Below.refl _ _) (Nat.le_refl _) (by simp) ?_; (case hd => rfl); (case hg => rfl); (case hr => first | (go_simp; done) | (go_simp; rfl)); (case hp => exact (Reps.one (show Kd.M (Kd.int .i64) _ _ _ 5 [.int .i64 5] from rfl) (Reps.one (show Kd.M (Kd.int .i64) _ _ _ 7 [.int .i64 7] from rfl) (Reps.one (show Kd.M (Kd.int .i64) _ _ _ 9 [.int .i64 9] from rfl) (Reps.one (show Kd.M (Kd.int .i64) _ _ _ 11 [.int .i64 11] from rfl) (Reps.none _ _)))))); intro v321 w25 ho26 hb hg_ hnew_; clear hg_ hnew_; (first | rw [← Ny320.out] at ho26 | (simp only [Int.reduceToNat] at ho26; rw [← Ny320.out] at ho26)); have HO322 := am (Kd.R_lower ho26 (keep_size (w := w) (g := g) (row := none) (by repeat (first | (with_reducible first | exact HK.out | apply KeepBut.set_ | apply keep_drewN | apply keep_drew | apply keep_alloc) | exact HK.out)))); replace HK := am (KeepBut.trans (by repeat (first | (with_reducible first | exact HK.out | apply KeepBut.set_ | apply keep_drewN | apply keep_drew | apply keep_alloc) | exact HK.out)) (KeepBut.of_below hb g none) (.inl rfl)); replace HB := am (below_step bv hb); replace HI0 := am (IsS132.below (iw HI0.out) hb); clear hb ho26))
  go_ret
  exact ⟨_, re, ro HO322.out, (iw HI0.out), bv, by repeat (first | (with_reducible first | exact HK.out | apply KeepBut.set_ | apply keep_drewN | apply keep_drew | apply keep_alloc) | exact HK.out)⟩
 rw [if_neg c23] at H
 have c23b0 : (t302 == 5) = false := beq_eq_false_iff_ne.mpr c23
 have c23b1 : (t302 != 5) = true := bne_iff_ne.mpr c23
 by_cases c27 : t302 = 6
 ·rw [if_pos c27] at H
  have c27b0 : (t302 == 6) = true := beq_iff_eq.mpr c27
  have c27b1 : (t302 != 6) = false := bne_eq_false_iff_eq.mpr c27
  clear c27
  obtain ⟨y323, hy323⟩ : ∃ y_ : List Int, y_ = (([2, 3] : List Int)) := ⟨_, rfl⟩
  replace H : (some (y323, t303, t304)) = some (r1, r2, r3) := by first | (rw [hy323]; with_reducible first | exact H | exact bs H) | (with_reducible first | exact bs H | exact H) | (rw [hy323]; exact H) | exact H
  have Ny323 := am hy323
  clear hy323
  simp only [Option.some.injEq, Prod.mk.injEq] at H
  obtain ⟨rfl, rfl, rfl⟩ := H
  go_enter Try.func233, Try.ntmps233
  go_wp2_with (first | ((with_reducible refine gate_callee (f := 156) rfl ?_); refine gl (some 4) Try.func156 #[.pointer (some ⟨g, 0, none⟩), .int .i64 8] ?_; (with_reducible refine (spec_l1Below.calls g s0_0 s0_1 s0_2 8 t302 t303 t304 w0 _ ?side1 ?side2 A2.out).mono ?_); (case side1 => exact iw HI0.out); (case side2 => exact bv); rintro e w28 ⟨rfl, hi, hb, hk⟩; refine ⟨_, rfl, ?_⟩; replace HK := am (KeepBut.trans (by repeat (first | (with_reducible first | exact HK.out | apply KeepBut.set_ | apply keep_drewN | apply keep_drew | apply keep_alloc) | exact HK.out)) hk (.inl rfl)); replace HB := am (hb); replace HI0 := am (hi); clear hb hk hi) | ((with_reducible refine gate_dst (N := 25) rfl ?_); refine Kd.R_lit (Kd.int .i64) _ 3 ?hg (N := 25) ?hd (xs := ([2, 3] : List Int)) (inner := [.int .i64 2, .int .i64 3]) (ok := fun _ => True) (okp := fun _ => True) ?hr ?hp (fun _ hk => hk) trivial (Below.refl _ _) (Nat.le_refl _) (by simp) ?_; (case hd => rfl); (case hg => rfl); (case hr => first | (go_simp; done) | (go_simp; rfl)); (case hp => exact (Reps.one (show Kd.M (Kd.int .i64) _ _ _ 2 [.int .i64 2] from rfl) (Reps.one (show Kd.M (Kd.int .i64) _ _ _ 3 [.int .i64 3] from rfl) (Reps.none _ _)))); intro v324 w29 ho30 hb hg_ hnew_; clear hg_ hnew_; (first | rw [← Ny323.out] at ho30 | (simp only [Int.reduceToNat] at ho30; rw [← Ny323.out] at ho30)); have HO325 := am (Kd.R_lower ho30 (keep_size (w := w) (g := g) (row := none) (by repeat (first | (with_reducible first | exact HK.out | apply KeepBut.set_ | apply keep_drewN | apply keep_drew | apply keep_alloc) | exact HK.out)))); replace HK := am (KeepBut.trans (by repeat (first | (with_reducible first | exact HK.out | apply KeepBut.set_ | apply keep_drewN | apply keep_drew | apply keep_alloc) | exact HK.out)) (KeepBut.of_below hb g none) (.inl rfl)); replace HB := am (below_step bv hb); replace HI0 := am (IsS132.below (iw HI0.out) hb); clear hb ho30))
  go_ret
  exact ⟨_, re, ro HO325.out, (iw HI0.out), bv, by repeat (first | (with_reducible first | exact HK.out | apply KeepBut.set_ | apply keep_drewN | apply keep_drew | apply keep_alloc) | exact HK.out)⟩
 rw [if_neg c27] at H
 have c27b0 : (t302 == 6) = false := beq_eq_false_iff_ne.mpr c27
 have c27b1 : (t302 != 6) = true := bne_iff_ne.mpr c27
 obtain ⟨y326, hy326⟩ : ∃ y_ : List Int, y_ = (([4, 5, 11] : List Int)) := ⟨_, rfl⟩
 replace H : (some (y326, t303, t304)) = some (r1, r2, r3) := by first | (rw [hy326]; with_reducible first | exact H | exact bs H) | (with_reducible first | exact bs H | exact H) | (rw [hy326]; exact H) | exact H
 have Ny326 := am hy326
 clear hy326
 simp only [Option.some.injEq, Prod.mk.injEq] at H
 obtain ⟨rfl, rfl, rfl⟩ := H
 go_enter Try.func233, Try.ntmps233
 go_wp2_with (first | ((with_reducible refine gate_callee (f := 156) rfl ?_); refine gl (some 4) Try.func156 #[.pointer (some ⟨g, 0, none⟩), .int .i64 8] ?_; (with_reducible refine (spec_l1Below.calls g s0_0 s0_1 s0_2 8 t302 t303 t304 w0 _ ?side1 ?side2 A2.out).mono ?_); (case side1 => exact iw HI0.out); (case side2 => exact bv); rintro e w31 ⟨rfl, hi, hb, hk⟩; refine ⟨_, rfl, ?_⟩; replace HK := am (KeepBut.trans (by repeat (first | (with_reducible first | exact HK.out | apply KeepBut.set_ | apply keep_drewN | apply keep_drew | apply keep_alloc) | exact HK.out)) hk (.inl rfl)); replace HB := am (hb); replace HI0 := am (hi); clear hb hk hi) | ((with_reducible refine gate_dst (N := 26) rfl ?_); refine Kd.R_lit (Kd.int .i64) _ 3 ?hg (N := 26) ?hd (xs := ([4, 5, 11] : List Int)) (inner := [.int .i64 4, .int .i64 5, .int .i64 11]) (ok := fun _ => True) (okp := fun _ => True) ?hr ?hp (fun _ hk => hk) trivial (Below.refl _ _) (Nat.le_refl _) (by simp) ?_; (case hd => rfl); (case hg => rfl); (case hr => first | (go_simp; done) | (go_simp; rfl)); (case hp => exact (Reps.one (show Kd.M (Kd.int .i64) _ _ _ 4 [.int .i64 4] from rfl) (Reps.one (show Kd.M (Kd.int .i64) _ _ _ 5 [.int .i64 5] from rfl) (Reps.one (show Kd.M (Kd.int .i64) _ _ _ 11 [.int .i64 11] from rfl) (Reps.none _ _))))); intro v327 w32 ho33 hb hg_ hnew_; clear hg_ hnew_; (first | rw [← Ny326.out] at ho33 | (simp only [Int.reduceToNat] at ho33; rw [← Ny326.out] at ho33)); have HO328 := am (Kd.R_lower ho33 (keep_size (w := w) (g := g) (row := none) (by repeat (first | (with_reducible first | exact HK.out | apply KeepBut.set_ | apply keep_drewN | apply keep_drew | apply keep_alloc) | exact HK.out)))); replace HK := am (KeepBut.trans (by repeat (first | (with_reducible first | exact HK.out | apply KeepBut.set_ | apply keep_drewN | apply keep_drew | apply keep_alloc) | exact HK.out)) (KeepBut.of_below hb g none) (.inl rfl)); replace HB := am (below_step bv hb); replace HI0 := am (IsS132.below (iw HI0.out) hb); clear hb ho33))
 go_ret
 exact ⟨_, re, ro HO328.out, (iw HI0.out), bv, by repeat (first | (with_reducible first | exact HK.out | apply KeepBut.set_ | apply keep_drewN | apply keep_drew | apply keep_alloc) | exact HK.out)⟩

end Go.Proofs.Ytkfplkdchkmgbaa.C
