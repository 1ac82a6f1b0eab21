/- Contracts of functions of the program: laws_markIntSS. -/
import Derived.Test.YtfpjjjdiieplkaaC0
import Derived.Test.YtfpjjjdiieplkaaC1
namespace Go.Proofs.Ytfpjjjdiieplkaa.C
open Go.RowKit Go.Proofs.YtfpjjjdiieplkaaW.PrintWords Go.Proofs.YtfpjjjdiieplkaaW.PrintLast Go.Proofs.YtfpjjjdiieplkaaW.PrintMore
attribute [local go_sem] max2_int min2_int max_two min_two max_three min_three max_four min_four
set_option linter.unusedVariables false
set_option linter.unusedSimpArgs false

/-! ### laws_markIntSS: function 34 -/
def laws_markIntSS.rd (xs : List (List Int)) (i : Int) : List Int := xs.getD i.toNat ([] : List Int)
def laws_markIntSS.l0 : Nat → List (List Int) → Int → Int → Option (Int × List (List Int))
 | 0, _, _, _ => none
 | k + 1, x0, x1, x5 => if x5 < (x0.length : Int) then (if 0 ≤ x5 then ((laws_markIntS.f k (laws_markIntSS.rd x0 x5) x1).bind fun t => laws_markIntSS.l0 k (x0.set (x5 : Int).toNat t.2) t.1 (wrap64 (x5 + 1))) else none) else some (x1, x0)
def laws_markIntSS.f (k : Nat) (l0 : List (List Int)) (a1 : Int) : Option (Int × List (List Int)) := laws_markIntSS.l0 k l0 a1 0
set_option maxHeartbeats 8000000 in
set_option maxRecDepth 100000 in
theorem laws_markIntSS.calls (k : Nat) (P0_ : Nat → Prop) (u9000_ : Value) (l0 : List (List Int)) (a1 : Int) (r1 : Int) (r2 : List (List Int)) (w0 w : World) (hB : Below w0.heap.size w0 w) (ho0 : Kd.S (Kd.slice 3 (Kd.int .i64)) 22 w w0.heap.size P0_ u9000_ l0) (h : laws_markIntSS.f k l0 a1 = some (r1, r2)) :
  Calls Try.prog 34 #[u9000_, .int .i64 a1] w fun e w' => e = .returned (.int .i64 r1) ∧ Kd.S (Kd.slice 3 (Kd.int .i64)) 22 w' w0.heap.size (fun k_ => (P0_ k_ ∨ w.heap.size ≤ k_)) u9000_ r2 ∧ Below w0.heap.size w0 w' ∧ Kept w w' (fun k_ => P0_ k_) := by
 have HO0 := Aside0.mk (show Kd.S (Kd.slice 3 (Kd.int .i64)) 22 w w0.heap.size (fun k_ => (P0_ k_ ∨ w.heap.size ≤ k_)) u9000_ l0 from Kd.S_mono ho0 (fun k_ hk => (.inl hk)))
 have HK := Aside0.mk (Kept.refl w (fun k_ => P0_ k_))
 have HB := Aside0.mk hB
 clear hB ho0
 have H' : Aside0 (laws_markIntSS.l0 k l0 a1 0 = some (r1, r2)) := ⟨h⟩
 clear h
 go_enter Try.func34, Try.ntmps34
 go_wp2
 go_loopg [1, 5] k (fun kq v1 v5 w' => ∃ (x0_1 : List (List Int)) (x1_1 : Int) (x5_1 : Int), v1 = .int .i64 x1_1 ∧ v5 = .int .i64 x5_1 ∧ Aside0 (laws_markIntSS.l0 kq x0_1 x1_1 x5_1 = some (r1, r2)) ∧ Aside0 (kq ≤ k) ∧ Aside0 (Kd.S (Kd.slice 3 (Kd.int .i64)) 22 w' w0.heap.size (fun k_ => (P0_ k_ ∨ w.heap.size ≤ k_)) u9000_ x0_1) ∧ Aside0 (Kept w w' (fun k_ => P0_ k_)) ∧ Aside0 (Below w0.heap.size w0 w'))
 case atStart => exact ⟨(l0), (a1), (0), rr, rr, H', ⟨Nat.le_refl _⟩, ⟨(by (with_reducible repeat (first | apply Kd.S_alloc | apply Kd.S_drewN | apply Kd.S_drew)); exact HO0.out)⟩, ⟨(by repeat (first | (with_reducible first | exact HK.out | apply Kept.alloc | apply Kept.drewN | apply Kept.drew) | exact HK.out))⟩, ⟨bw⟩⟩
 case round =>
  clear H' HO0
  obtain ⟨x0_1, x1_1, x5_1, rfl, rfl, HA, HK1, HO_0, HK, HB⟩ := hrel
  cases gk with
  | zero => exact absurd HA.out (by simp [laws_markIntSS.l0])
  | succ k1 =>
   have H := HA.out
   clear HA
   simp only [laws_markIntSS.l0] at H
   replace H := gi H; obtain ⟨c3b0, H⟩ | ⟨c3b0, H⟩ := H
   ·replace H := gd H; obtain ⟨c4b0, H⟩ := H
    replace H := ga H; obtain ⟨⟨t1, t2⟩, A5, H⟩ := H
    have H' := Aside0.mk H
    clear H
    have p5 : 0 ≤ (x5_1 : Int) := of_decide_eq_true c4b0
    have q5 : (x5_1 : Int) < ((x0_1.length : Int) : Int) := of_decide_eq_true c3b0
    obtain ⟨go5, co5, eo5, gb5, gl5, _⟩ := Kd.S_form HO_0.out (by omega)
    subst eo5
    obtain ⟨oki, c5, hc5, hM5, hx5, hoki, hH5⟩ := Kd.S_lend HO_0.out ([] : List Int) x5_1 p5 q5
    replace hM5 : (Kd.slice 3 (Kd.int .i64)).M _ w0.heap.size oki (laws_markIntSS.rd x0_1 x5_1) c5 := hM5
    obtain ⟨vi, rfl, hRi⟩ := hM5
    obtain ⟨Ai, ci, ei⟩ := Kd.R_slice hRi
    subst ei
    replace hx5 := hx5 0 _ rfl
    rw [show x5_1.toNat * (Kd.slice 3 (Kd.int .i64)).sz + 0 = x5_1.toNat from Nat.mul_one _] at hx5
    have HRi := Aside0.mk hRi
    have HH5 := Aside0.mk hH5
    have HKI := Aside0.mk hoki
    clear hRi hH5 hoki hc5 gb5 gl5
    replace p5 := eq_true p5
    replace q5 := eq_true q5
    go_wp2_with (first | ((with_reducible refine gate_callee (f := 15) rfl ?_); refine gl (some 17) Try.func15 #[.slice Ai (laws_markIntSS.rd x0_1 x5_1).length ci, .int .i64 x1_1] ?_; (with_reducible refine (laws_markIntS.calls k1 oki _ (laws_markIntSS.rd x0_1 x5_1) x1_1 t1 t2 w0 _ ?side1 ?side2 A5.out).mono ?_); (case side1 => exact bw); (case side2 => exact ro HRi.out); rintro e w8 ⟨rfl, hR8, hb8, hk8⟩; refine ⟨_, rfl, ?_⟩; have HK8 := Aside0.mk (Kept.then_ (S := (fun k_ => P0_ k_)) (by repeat (first | (with_reducible first | exact HK.out | apply Kept.alloc | apply Kept.drewN | apply Kept.drew) | exact HK.out)) hk8 (fun k_ e_ => (HKI.out k_ e_).1)); have HO8 := Aside0.mk (Kd.H_back (Kd.H_kept (Kd.H_widen HH5.out) hk8 (fun k_ _ hn_ hs_ => hn_ (.inl hs_))) (x' := t2) (okp := fun k_ => oki k_ ∨ wr.heap.size ≤ k_) ⟨_, rfl, hR8⟩ (fun k_ h_ => Or.elim h_ (fun h1_ => Or.inl h1_) (fun h1_ => Or.inr ⟨Or.inr (Nat.le_trans HK.out.1 h1_), h1_⟩))); clear HB; have HB := Aside0.mk hb8; clear HK HO_0 HH5 HRi hb8 hR8 hk8; have HK := HK8; clear HK8))
    go_roundg k1
    case measure => have := HK1.out; omega
    case rel => exact ⟨(x0_1.set (x5_1 : Int).toNat t2), t1, (wrap64 (x5_1 + 1)), rr, rr, H', ⟨by have := HK1.out; omega⟩, ⟨(by (with_reducible repeat (first | apply Kd.S_alloc | apply Kd.S_drewN | apply Kd.S_drew)); exact HO8.out)⟩, ⟨(by repeat (first | (with_reducible first | exact HK.out | apply Kept.alloc | apply Kept.drewN | apply Kept.drew) | exact HK.out))⟩, ⟨bw⟩⟩
   ·simp only [Option.some.injEq, Prod.mk.injEq] at H
    obtain ⟨rfl, rfl⟩ := H
    obtain ⟨Ao9, co9, eo9⟩ := Kd.S_slice HO_0.out
    subst eo9
    go_wp2
    go_ret
    exact ⟨re, (by (with_reducible repeat (first | apply Kd.S_alloc | apply Kd.S_drewN | apply Kd.S_drew)); exact HO_0.out), bw, (by repeat (first | (with_reducible first | exact HK.out | apply Kept.alloc | apply Kept.drewN | apply Kept.drew) | exact HK.out))⟩

end Go.Proofs.Ytfpjjjdiieplkaa.C
