/- Contracts of functions of the program: spec_l11Find, spec_Factorizations. -/
import Derived.Test.YtbbehmbpoilffaaDoorC0
import Derived.Test.YtbbehmbpoilffaaDoorC1
import Derived.Test.YtbbehmbpoilffaaDoorC3
namespace Go.Proofs.YtbbehmbpoilffaaDoor.C
open Go.RowKit Go.Proofs.YtbbehmbpoilffaaDoorW.PrintWords Go.Proofs.YtbbehmbpoilffaaDoorW.PrintLast Go.Proofs.YtbbehmbpoilffaaDoorW.PrintMore
attribute [local go_sem] max2_int min2_int max_two min_two max_three min_three max_four min_four
set_option linter.unusedVariables false
set_option linter.unusedSimpArgs false

/-! ### spec_l11Find: function 34 -/
mutual
def spec_l11Find.l0 : Nat → List Int → Int → List Int → Int → List (List Int) → Int → Option ((List (List Int)))
 | 0, _, _, _, _, _, _ => none
 | k + 1, x0, x1, x2, x7, x8, x9 => if x9 ≥ 0 then (if 0 ≤ x7 then (if x7 < (x0.length : Int) then ((some (([] : List Int) : List Int)).bind fun y520 => (if y520.length + x2.length < 17592186044416 then ((some (y520 ++ x2 : List Int)).bind fun y523 => ((some (([x9] : List Int) : List Int)).bind fun y526 => (if y523.length + y526.length < 17592186044416 then ((spec_l11Find.f k x0 (wrap64 (x1 - (wrap64 (x9 * (rd x0 x7))))) (y523 ++ y526)).bind fun t532 => (if x8.length + t532.length < 5864062014805 then (spec_l11Find.l0 k x0 x1 x2 x7 (x8 ++ t532) (wrap64 (x9 - 1))) else (none))) else (none)))) else (none))) else (none)) else (none)) else (some x8)
def spec_l11Find.f : Nat → List Int → Int → List Int → Option ((List (List Int)))
 | 0, _, _, _ => none
 | k + 1, l0, a1, l2 => if (l2.length : Int) = (l0.length : Int) then (if a1 = 0 then ((some (([] : List Int) : List Int)).bind fun y483 => (if y483.length + l2.length < 17592186044416 then (some (([(y483 ++ l2)] : List (List Int)))) else (none))) else (some (([] : List (List Int))))) else ((some (([] : List (List Int)) : List (List Int))).bind fun y495 => (if (l2.length : Int) = (wrap64 ((l0.length : Int) - 1)) then (if 0 ≤ (l2.length : Int) then (if (l2.length : Int) < (l0.length : Int) then (if (rd l0 (l2.length : Int)) = 0 then (none) else (if (Int.tmod a1 (rd l0 (l2.length : Int))) = 0 then ((some (([] : List Int) : List Int)).bind fun y499 => (if y499.length + l2.length < 17592186044416 then ((some (y499 ++ l2 : List Int)).bind fun y502 => ((some (([wrap64 (Int.tdiv a1 (rd l0 (l2.length : Int)))] : List Int) : List Int)).bind fun y506 => (if y502.length + y506.length < 17592186044416 then ((some (([(y502 ++ y506)] : List (List Int)) : List (List Int))).bind fun y512 => (if y495.length + y512.length < 5864062014805 then (some (y495 ++ y512)) else (none))) else (none)))) else (none))) else (some y495))) else (none)) else (none)) else (if 0 ≤ (l2.length : Int) then (if (l2.length : Int) < (l0.length : Int) then (if (rd l0 (l2.length : Int)) = 0 then (none) else (spec_l11Find.l0 k l0 a1 l2 (l2.length : Int) y495 (wrap64 (Int.tdiv a1 (rd l0 (l2.length : Int)))))) else (none)) else (none))))
end
def spec_l11Find.T9 : Bool × List (List Nat × List Nat) := (true, [([], []), ([], []), ([], []), ([1, 2], [1, 2]), ([], []), ([], []), ([], []), ([5, 6], [5, 6]), ([7], [7]), ([4, 8], [4, 8]), ([9], [9]), ([3, 10, 3], [3, 10]), ([11], [11]), ([0, 12, 11], [0, 12]), ([13, 13, 0, 1, 2, 3, 4, 5, 6, 7, 8, 9, 10, 11, 12, 13], [0, 13])])
def spec_l11Find.B9 : List Nat := [0, 0, 0, 6, 0, 0, 0, 96, 224, 496, 1008, 2046, 4094, 8191, 16383]
theorem spec_l11Find.tab9 : rtab .any (opsOf Tryd.f34 9) = spec_l11Find.T9 := by kernel_rfl
theorem spec_l11Find.bits9 : waitsOk spec_l11Find.T9.2 spec_l11Find.B9 = true := by kernel_rfl
def spec_l11Find.T14 : Bool × List (List Nat × List Nat) := (true, [([], []), ([], []), ([], []), ([], []), ([], []), ([], []), ([4, 5], [4, 5]), ([6], [6]), ([3, 7], [3, 7]), ([2, 8], [2, 8]), ([], []), ([], []), ([10, 11], [10, 11]), ([], []), ([13], [13]), ([12, 14, 12], [12, 14]), ([1, 9, 15, 15], [1, 9, 15]), ([0, 16, 16], [0, 16]), ([17, 17, 0, 1, 2, 3, 4, 5, 6, 7, 8, 9, 10, 11, 12, 13, 14, 15, 16, 17], [0, 17])])
def spec_l11Find.B14 : List Nat := [0, 0, 0, 0, 0, 0, 48, 112, 248, 508, 0, 0, 3072, 0, 8192, 31744, 65534, 131071, 262143]
theorem spec_l11Find.tab14 : rtab .any (opsOf Tryd.f34 14) = spec_l11Find.T14 := by kernel_rfl
theorem spec_l11Find.bits14 : waitsOk spec_l11Find.T14.2 spec_l11Find.B14 = true := by kernel_rfl
def kow : Kd (List Int) where
 sz := 1
 E := (Kd.slice 3 (Kd.int .i64)).E
 K := fun w xs cs => ∃ v, cs = [v] ∧ (Kd.int .i64).R 3 w 0 (fun _ => True) v xs
 M := (Kd.slice 3 (Kd.int .i64)).M
 K_len := by
  rintro w x cs ⟨v, rfl, _⟩
  rfl
 K_one := by
  rintro w x cs ⟨v, rfl, h⟩ u hu
  obtain ⟨A, c, rfl⟩ := Kd.R_slice h
  rw [List.mem_singleton.1 hu]
  rfl
 K_below := by
  rintro w w1 x cs hb ⟨v, rfl, h⟩
  exact ⟨v, rfl, Kd.R_below h hb⟩
 K_of_M := by
  rintro w base ok x cs ⟨v, rfl, h⟩
  exact ⟨v, rfl, Kd.R_mono (Kd.R_lower h (Nat.zero_le _)) (fun _ _ => trivial)⟩
 M_mono := (Kd.slice 3 (Kd.int .i64)).M_mono
 M_bound := (Kd.slice 3 (Kd.int .i64)).M_bound
 M_move := (Kd.slice 3 (Kd.int .i64)).M_move
 M_lower := (Kd.slice 3 (Kd.int .i64)).M_lower
section
variable {w W : World} {base e : Nat} {ok : Nat → Prop} {v : Value} {l : List Int} {cs : List Value} {xs : List (List Int)} {A : Option Addr} {n : Nat}
theorem kow_FK (h : (Kd.int .i64).R 3 W base ok v l) : Kd.FK kow W ok l [v] := Kd.FK_of_M (d := kow) (base := base) (show ∃ u, [v] = [u] ∧ _ from ⟨v, rfl, h⟩)
theorem kow_K (h : kow.K w l cs) : (Kd.slice 3 (Kd.int .i64)).K w l cs := by
 obtain ⟨v, rfl, h⟩ := h
 obtain ⟨A, c, rfl, hl, hr⟩ := Kd.R_reads h
 exact ⟨A, c, rfl, hl, hr⟩
theorem kow_C (h : Kd.C kow w A n xs) : Kd.C (Kd.slice 3 (Kd.int .i64)) w A n xs := Kd.C_imp (d := kow) (d' := Kd.slice 3 (Kd.int .i64)) rfl (fun _ _ _ h => kow_K h) h
theorem kow_N (h : Kd.N kow e w base ok v xs) : Kd.N (Kd.slice 3 (Kd.int .i64)) e w base ok v xs := by
 obtain ⟨h0, rows, h1, h2, h3⟩ := h
 exact ⟨h0, rows, h1, h2, fun j x c hx hc W' hW => kow_K (h3 j x c hx hc W' hW)⟩
theorem kow_open (h : Kd.FK kow W ok l cs) (hb : ∀ k, ok k → base ≤ k) : ∃ A c, cs = [.slice A l.length c] ∧ (Kd.int .i64).R 3 W base ok (.slice A l.length c) l := by
 obtain ⟨v, rfl, h0⟩ := Kd.FK_now h
 obtain ⟨A, c, rfl⟩ := Kd.R_slice h0
 refine ⟨A, c, rfl, ?_⟩
 have hok : ∀ k, (Value.slice A l.length c).ownBlock = some k → ok k := fun k hk => Classical.byContradiction fun hn => by
  obtain ⟨u, hu, h1⟩ := h { W with heap := W.heap.setIfInBounds k (.cells #[] 0) } (fun j hj _ => by
   have hjk : k ≠ j := fun e_ => hn (e_ ▸ hj)
   simp [hjk])
  injection hu with hu
  subst hu
  obtain ⟨inner, ho⟩ := Kd.R_own h1
  obtain ⟨cells, hc⟩ := own_typed ho k hk
  by_cases hlt : k < W.heap.size
  ·simp [hlt] at hc
  ·simp [hlt] at hc
 have ho := Kd.own_of_R h0
 refine Kd.R_of_own ⟨ho.1, ?_⟩ hok
 rcases ho.2 with h2 | ⟨g, cap, cur, e_, hg, hh, r⟩
 ·exact .inl h2
 ·refine .inr ⟨g, cap, cur, e_, hb g (hok g ?_), hh, r⟩
  rw [e_]
  rfl
end
set_option maxHeartbeats 8000000 in
set_option maxRecDepth 100000 in
theorem spec_l11Find.calls (k : Nat) : ∀ (A0 : Option Addr) (c0 : Nat) (l0 : List Int) (a1 : Int) (A2 : Option Addr) (c2 : Nat) (l2 : List Int) (r : List (List Int)) (w : World) (hr0 : Kd.C (Kd.int .i64) w A0 l0.length l0) (hc0 : l0.length ≤ c0) (hr2 : Kd.C (Kd.int .i64) w A2 l2.length l2) (hc2 : l2.length ≤ c2) (h : spec_l11Find.f k l0 a1 l2 = some r),
  Calls Tryd.prog 34 #[.slice A0 l0.length c0, .int .i64 a1, .slice A2 l2.length c2] w fun e w' => ∃ v0_ : Value, e = .returned (v0_) ∧ Kd.N kow 24 w' w.heap.size (fun k_ => (w.heap.size ≤ k_)) v0_ r ∧ Below w.heap.size w w' := by
 induction k using Nat.strongRecOn with
 | _ k ih =>
 intro A0 c0 l0 a1 A2 c2 l2 r w hr0 hc0 hr2 hc2 h
 cases k with
 | zero => exact absurd h (by simp [spec_l11Find.f])
 | succ k =>
 simp only [spec_l11Find.f] at h
 have HR0 := am hr0
 have HC0 := am hc0
 clear hr0 hc0
 have HR2 := am hr2
 have HC2 := am hc2
 clear hr2 hc2
 have HB := am (Below.refl w.heap.size w)
 have H : (if (l2.length : Int) = (l0.length : Int) then (if a1 = 0 then ((some (([] : List Int) : List Int)).bind fun y483 => (if y483.length + l2.length < 17592186044416 then (some (([(y483 ++ l2)] : List (List Int)))) else (none))) else (some (([] : List (List Int))))) else ((some (([] : List (List Int)) : List (List Int))).bind fun y495 => (if (l2.length : Int) = (wrap64 ((l0.length : Int) - 1)) then (if 0 ≤ (l2.length : Int) then (if (l2.length : Int) < (l0.length : Int) then (if (rd l0 (l2.length : Int)) = 0 then (none) else (if (Int.tmod a1 (rd l0 (l2.length : Int))) = 0 then ((some (([] : List Int) : List Int)).bind fun y499 => (if y499.length + l2.length < 17592186044416 then ((some (y499 ++ l2 : List Int)).bind fun y502 => ((some (([wrap64 (Int.tdiv a1 (rd l0 (l2.length : Int)))] : List Int) : List Int)).bind fun y506 => (if y502.length + y506.length < 17592186044416 then ((some (([(y502 ++ y506)] : List (List Int)) : List (List Int))).bind fun y512 => (if y495.length + y512.length < 5864062014805 then (some (y495 ++ y512)) else (none))) else (none)))) else (none))) else (some y495))) else (none)) else (none)) else (if 0 ≤ (l2.length : Int) then (if (l2.length : Int) < (l0.length : Int) then (if (rd l0 (l2.length : Int)) = 0 then (none) else (spec_l11Find.l0 k l0 a1 l2 (l2.length : Int) y495 (wrap64 (Int.tdiv a1 (rd l0 (l2.length : Int)))))) else (none)) else (none))))) = some r := h
 clear h
 by_cases c4 : (l2.length : Int) = (l0.length : Int)
 ·rw [if_pos c4] at H
  have c4b0 : ((l2.length : Int) == (l0.length : Int)) = true := beq_iff_eq.mpr c4
  have c4b1 : ((l2.length : Int) != (l0.length : Int)) = false := bne_eq_false_iff_eq.mpr c4
  have c4b2 : (l2.length == l0.length) = true := by first | simpa using c4 | (simp at c4 ⊢; omega)
  clear c4
  by_cases c5 : a1 = 0
  ·rw [if_pos c5] at H
   have c5b0 : (a1 == 0) = true := beq_iff_eq.mpr c5
   have c5b1 : (a1 != 0) = false := bne_eq_false_iff_eq.mpr c5
   clear c5
   obtain ⟨y483, hy483⟩ : ∃ y_ : List Int, y_ = (([] : List Int)) := ⟨_, rfl⟩
   replace H : (if y483.length + l2.length < 17592186044416 then (some (([(y483 ++ l2)] : List (List Int)))) else (none)) = some r := by first | (rw [hy483]; with_reducible first | exact H | exact bs H) | (with_reducible first | exact bs H | exact H) | (rw [hy483]; exact H) | exact H
   have Ny483 := am hy483
   clear hy483
   by_cases c6 : y483.length + l2.length < 17592186044416
   rotate_left
   ·rw [if_neg c6] at H
    exact absurd H (by simp)
   rw [if_pos c6] at H
   have LMc6 := am c6
   clear c6
   obtain ⟨y486, hy486⟩ : ∃ y_ : List Int, y_ = (y483 ++ l2) := ⟨_, rfl⟩
   replace H : (some (([y486] : List (List Int)))) = some r := by first | (rw [hy486]; with_reducible first | exact H | exact bs H) | (with_reducible first | exact bs H | exact H) | (rw [hy486]; exact H) | exact H
   have Ny486 := am hy486
   clear hy486
   obtain ⟨y489, hy489⟩ : ∃ y_ : List (List Int), y_ = (([y486] : List (List Int))) := ⟨_, rfl⟩
   replace H : (some y489) = some r := by first | (rw [hy489]; with_reducible first | exact H | exact bs H) | (with_reducible first | exact bs H | exact H) | (rw [hy489]; exact H) | exact H
   have Ny489 := am hy489
   clear hy489
   obtain rfl := Option.some.inj H
   go_enter Tryd.func34, Tryd.ntmps34
   go_wp2_with (first | ((with_reducible refine gate_dst (N := 18) rfl ?_); refine Kd.R_lit (Kd.int .i64) _ 3 ?hg (N := 18) ?hd (xs := ([] : List Int)) (inner := []) (ok := fun _ => True) (okp := fun _ => True) ?hr ?hp (fun _ hk => hk) trivial (Below.refl _ _) (Nat.le_refl _) (by simp) ?_; (case hd => rfl); (case hg => rfl); (case hr => first | (go_simp; done) | (go_simp; rfl)); (case hp => exact (Reps.none _ _)); intro v484 w7 ho8 hb hg_ hnew_; clear hg_ hnew_; (first | rw [← Ny483.out] at ho8 | (simp only [Int.reduceToNat] at ho8; rw [← Ny483.out] at ho8)); have HO485 := am (Kd.R_lower (Kd.R_newM (M := fun k_ => (w.heap.size ≤ k_)) ho8 (below_size bw) (fun k_ h_ => h_)) (below_size bw)); replace HB := am (below_step bw hb); clear hb ho8) | ((with_reducible refine gate_builtin (b := .append) (xs := #[.tmp 18, .tmp 19]) rfl ?_); at_builtin; refine Kd.R_append_rows (Kd.int .i64) (w0 := w) w.heap.size rfl (.tmp 18) (.tmp 19) 24 3 (.int .i64 0) 8 rfl Tryd.underlying24 info3 rfl (by decide) (by omega) v484 y483 l2 _ _ _ (fun k_ => (w.heap.size ≤ k_)) (fun _ => False) rfl rfl ?aO ?aR (fun _ _ h => h) (fun _ h => h.elim) ?aF ?aB ?aS ?aL ?_; (case aR => exact co (Kd.C_below HR2.out HB.out)); (case aB => exact bw); (case aF => exact (fun k_ hk => (Nat.le_trans (below_size bw) hk))); (case aO => exact (by (with_reducible repeat (first | apply Kd.R_alloc | apply Kd.R_drewN | apply Kd.R_drew)); exact Kd.R_mono HO485.out (fun _ hk => hk.1))); (case aS => exact (below_size bw)); (case aL => have := LMc6.out; omega); intro v487 w9 ho hb hg hat; rw [← Ny486.out] at ho; replace HB := am (hb); have HO488 := am (ho); clear HO485 ho hb hg hat; obtain ⟨Ao10, co10, eo10⟩ := Kd.R_slice HO488.out; subst eo10) | ((with_reducible refine gate_dst (N := 21) rfl ?_); refine Kd.N_lit kow _ 24 ?hg (N' := 21) ?hd (xs := ([y486] : List (List Int))) (inner := [.slice Ao10 y486.length co10]) (ok := (fun k_ => (w.heap.size ≤ k_))) (okp := (fun k_ => (w.heap.size ≤ k_))) ?hr ?hp (fun _ hk => hk) ((show ∀ k_, w9.heap.size ≤ k_ → (fun k_ => (w.heap.size ≤ k_)) k_ from fun k_ hk => (Nat.le_trans (below_size bw) hk)) _ (Nat.le_refl _)) (Below.refl _ _) (Nat.le_refl _) (by simp) ?_; (case hd => rfl); (case hg => rfl); (case hr => first | (go_simp; done) | (go_simp; rfl)); (case hp => exact (Reps.one (show Kd.FK kow _ _ y486 [.slice Ao10 y486.length co10] from (kow_FK (Kd.R_mono (ok' := (fun k_ => (w.heap.size ≤ k_))) (HO488.out) (fun k_ hk => hk)))) (Reps.none _ _))); intro v490 w11 ho12 hb hg_ hnew_; clear hg_ hnew_; (first | rw [← Ny489.out] at ho12 | (simp only [Int.reduceToNat] at ho12; rw [← Ny489.out] at ho12)); have HO491 := am (Kd.N_lower ho12 (below_size bw)); replace HB := am (below_step bw hb); clear HO488 hb ho12))
   go_ret
   exact ⟨_, re, by (with_reducible repeat (first | apply Kd.N_alloc | apply Kd.N_drewN | apply Kd.N_drew)); exact HO491.out, bw⟩
  rw [if_neg c5] at H
  have c5b0 : (a1 == 0) = false := beq_eq_false_iff_ne.mpr c5
  have c5b1 : (a1 != 0) = true := bne_iff_ne.mpr c5
  obtain ⟨y492, hy492⟩ : ∃ y_ : List (List Int), y_ = (([] : List (List Int))) := ⟨_, rfl⟩
  replace H : (some y492) = some r := by first | (rw [hy492]; with_reducible first | exact H | exact bs H) | (with_reducible first | exact bs H | exact H) | (rw [hy492]; exact H) | exact H
  have Ny492 := am hy492
  clear hy492
  obtain rfl := Option.some.inj H
  go_enter Tryd.func34, Tryd.ntmps34
  go_wp2_with (first | ((with_reducible refine gate_dst (N := 22) rfl ?_); refine Kd.N_lit kow _ 24 ?hg (N' := 22) ?hd (xs := ([] : List (List Int))) (inner := []) (ok := (fun k_ => (w.heap.size ≤ k_))) (okp := (fun k_ => (w.heap.size ≤ k_))) ?hr ?hp (fun _ hk => hk) ((show ∀ k_, w.heap.size ≤ k_ → (fun k_ => (w.heap.size ≤ k_)) k_ from fun k_ hk => (Nat.le_trans (below_size bw) hk)) _ (Nat.le_refl _)) (Below.refl _ _) (Nat.le_refl _) (by simp) ?_; (case hd => rfl); (case hg => rfl); (case hr => first | (go_simp; done) | (go_simp; rfl)); (case hp => exact (Reps.none _ _)); intro v493 w13 ho14 hb hg_ hnew_; clear hg_ hnew_; (first | rw [← Ny492.out] at ho14 | (simp only [Int.reduceToNat] at ho14; rw [← Ny492.out] at ho14)); have HO494 := am (Kd.N_lower ho14 (below_size bw)); replace HB := am (below_step bw hb); clear hb ho14))
  go_ret
  exact ⟨_, re, by (with_reducible repeat (first | apply Kd.N_alloc | apply Kd.N_drewN | apply Kd.N_drew)); exact HO494.out, bw⟩
 rw [if_neg c4] at H
 have c4b0 : ((l2.length : Int) == (l0.length : Int)) = false := beq_eq_false_iff_ne.mpr c4
 have c4b1 : ((l2.length : Int) != (l0.length : Int)) = true := bne_iff_ne.mpr c4
 have c4b2 : (l2.length == l0.length) = false := by first | simpa using c4 | (simp at c4 ⊢; omega)
 obtain ⟨y495, hy495⟩ : ∃ y_ : List (List Int), y_ = (([] : List (List Int))) := ⟨_, rfl⟩
 replace H : (if (l2.length : Int) = (wrap64 ((l0.length : Int) - 1)) then (if 0 ≤ (l2.length : Int) then (if (l2.length : Int) < (l0.length : Int) then (if (rd l0 (l2.length : Int)) = 0 then (none) else (if (Int.tmod a1 (rd l0 (l2.length : Int))) = 0 then ((some (([] : List Int) : List Int)).bind fun y499 => (if y499.length + l2.length < 17592186044416 then ((some (y499 ++ l2 : List Int)).bind fun y502 => ((some (([wrap64 (Int.tdiv a1 (rd l0 (l2.length : Int)))] : List Int) : List Int)).bind fun y506 => (if y502.length + y506.length < 17592186044416 then ((some (([(y502 ++ y506)] : List (List Int)) : List (List Int))).bind fun y512 => (if y495.length + y512.length < 5864062014805 then (some (y495 ++ y512)) else (none))) else (none)))) else (none))) else (some y495))) else (none)) else (none)) else (if 0 ≤ (l2.length : Int) then (if (l2.length : Int) < (l0.length : Int) then (if (rd l0 (l2.length : Int)) = 0 then (none) else (spec_l11Find.l0 k l0 a1 l2 (l2.length : Int) y495 (wrap64 (Int.tdiv a1 (rd l0 (l2.length : Int)))))) else (none)) else (none))) = some r := by first | (rw [hy495]; with_reducible first | exact H | exact bs H) | (with_reducible first | exact bs H | exact H) | (rw [hy495]; exact H) | exact H
 have Ny495 := am hy495
 clear hy495
 by_cases c15 : (l2.length : Int) = (wrap64 ((l0.length : Int) - 1))
 ·rw [if_pos c15] at H
  have c15b0 : ((l2.length : Int) == (wrap64 ((l0.length : Int) - 1))) = true := beq_iff_eq.mpr c15
  have c15b1 : ((l2.length : Int) != (wrap64 ((l0.length : Int) - 1))) = false := bne_eq_false_iff_eq.mpr c15
  clear c15
  replace H := gp H; obtain ⟨c16, H⟩ := H
  have c16b0 : decide (0 ≤ (l2.length : Int)) = true := decide_eq_true c16
  have c16b1 : decide (0 ≤ l2.length) = true := decide_eq_true (by omega)
  clear c16
  replace H := gp H; obtain ⟨c17, H⟩ := H
  have c17b0 : decide ((l2.length : Int) < (l0.length : Int)) = true := decide_eq_true c17
  have c17b1 : decide (l2.length < l0.length) = true := decide_eq_true (Int.ofNat_lt.mp c17)
  clear c17
  by_cases c18 : (rd l0 (l2.length : Int)) = 0
  ·rw [if_pos c18] at H
   exact absurd H (by simp)
  rw [if_neg c18] at H
  have c18b0 : ((rd l0 (l2.length : Int)) == 0) = false := beq_eq_false_iff_ne.mpr c18
  have c18b1 : ((rd l0 (l2.length : Int)) != 0) = true := bne_iff_ne.mpr c18
  by_cases c19 : (Int.tmod a1 (rd l0 (l2.length : Int))) = 0
  ·rw [if_pos c19] at H
   have c19b0 : ((Int.tmod a1 (rd l0 (l2.length : Int))) == 0) = true := beq_iff_eq.mpr c19
   have c19b1 : ((Int.tmod a1 (rd l0 (l2.length : Int))) != 0) = false := bne_eq_false_iff_eq.mpr c19
   clear c19
   obtain ⟨y499, hy499⟩ : ∃ y_ : List Int, y_ = (([] : List Int)) := ⟨_, rfl⟩
   replace H : (if y499.length + l2.length < 17592186044416 then ((some (y499 ++ l2 : List Int)).bind fun y502 => ((some (([wrap64 (Int.tdiv a1 (rd l0 (l2.length : Int)))] : List Int) : List Int)).bind fun y506 => (if y502.length + y506.length < 17592186044416 then ((some (([(y502 ++ y506)] : List (List Int)) : List (List Int))).bind fun y512 => (if y495.length + y512.length < 5864062014805 then (some (y495 ++ y512)) else (none))) else (none)))) else (none)) = some r := by first | (rw [hy499]; with_reducible first | exact H | exact bs H) | (with_reducible first | exact bs H | exact H) | (rw [hy499]; exact H) | exact H
   have Ny499 := am hy499
   clear hy499
   by_cases c20 : y499.length + l2.length < 17592186044416
   rotate_left
   ·rw [if_neg c20] at H
    exact absurd H (by simp)
   rw [if_pos c20] at H
   have LMc20 := am c20
   clear c20
   obtain ⟨y502, hy502⟩ : ∃ y_ : List Int, y_ = (y499 ++ l2) := ⟨_, rfl⟩
   replace H : ((some (([wrap64 (Int.tdiv a1 (rd l0 (l2.length : Int)))] : List Int) : List Int)).bind fun y506 => (if y502.length + y506.length < 17592186044416 then ((some (([(y502 ++ y506)] : List (List Int)) : List (List Int))).bind fun y512 => (if y495.length + y512.length < 5864062014805 then (some (y495 ++ y512)) else (none))) else (none))) = some r := by first | (rw [hy502]; with_reducible first | exact H | exact bs H) | (with_reducible first | exact bs H | exact H) | (rw [hy502]; exact H) | exact H
   have Ny502 := am hy502
   clear hy502
   obtain ⟨y506, hy506⟩ : ∃ y_ : List Int, y_ = (([wrap64 (Int.tdiv a1 (rd l0 (l2.length : Int)))] : List Int)) := ⟨_, rfl⟩
   replace H : (if y502.length + y506.length < 17592186044416 then ((some (([(y502 ++ y506)] : List (List Int)) : List (List Int))).bind fun y512 => (if y495.length + y512.length < 5864062014805 then (some (y495 ++ y512)) else (none))) else (none)) = some r := by first | (rw [hy506]; with_reducible first | exact H | exact bs H) | (with_reducible first | exact bs H | exact H) | (rw [hy506]; exact H) | exact H
   have Ny506 := am hy506
   clear hy506
   by_cases c21 : y502.length + y506.length < 17592186044416
   rotate_left
   ·rw [if_neg c21] at H
    exact absurd H (by simp)
   rw [if_pos c21] at H
   have LMc21 := am c21
   clear c21
   obtain ⟨y509, hy509⟩ : ∃ y_ : List Int, y_ = (y502 ++ y506) := ⟨_, rfl⟩
   replace H : ((some (([y509] : List (List Int)) : List (List Int))).bind fun y512 => (if y495.length + y512.length < 5864062014805 then (some (y495 ++ y512)) else (none))) = some r := by first | (rw [hy509]; with_reducible first | exact H | exact bs H) | (with_reducible first | exact bs H | exact H) | (rw [hy509]; exact H) | exact H
   have Ny509 := am hy509
   clear hy509
   obtain ⟨y512, hy512⟩ : ∃ y_ : List (List Int), y_ = (([y509] : List (List Int))) := ⟨_, rfl⟩
   replace H : (if y495.length + y512.length < 5864062014805 then (some (y495 ++ y512)) else (none)) = some r := by first | (rw [hy512]; with_reducible first | exact H | exact bs H) | (with_reducible first | exact bs H | exact H) | (rw [hy512]; exact H) | exact H
   have Ny512 := am hy512
   clear hy512
   by_cases c22 : y495.length + y512.length < 5864062014805
   rotate_left
   ·rw [if_neg c22] at H
    exact absurd H (by simp)
   rw [if_pos c22] at H
   have LMc22 := am c22
   clear c22
   obtain ⟨y515, hy515⟩ : ∃ y_ : List (List Int), y_ = (y495 ++ y512) := ⟨_, rfl⟩
   replace H : (some y515) = some r := by first | (rw [hy515]; with_reducible first | exact H | exact bs H) | (with_reducible first | exact bs H | exact H) | (rw [hy515]; exact H) | exact H
   have Ny515 := am hy515
   clear hy515
   obtain rfl := Option.some.inj H
   go_enter Tryd.func34, Tryd.ntmps34
   try go_wp2_with (first | ((with_reducible refine gate_dst (N := 23) rfl ?_); refine Kd.N_lit kow _ 24 ?hg (N' := 23) ?hd (xs := ([] : List (List Int))) (inner := []) (ok := (fun k_ => (w.heap.size ≤ k_))) (okp := (fun k_ => (w.heap.size ≤ k_))) ?hr ?hp (fun _ hk => hk) ((show ∀ k_, w.heap.size ≤ k_ → (fun k_ => (w.heap.size ≤ k_)) k_ from fun k_ hk => (Nat.le_trans (below_size bw) hk)) _ (Nat.le_refl _)) (Below.refl _ _) (Nat.le_refl _) (by simp) ?_; (case hd => rfl); (case hg => rfl); (case hr => first | (go_simp; done) | (go_simp; rfl)); (case hp => exact (Reps.none _ _)); intro v496 w23 ho24 hb hg_ hnew_; clear hg_ hnew_; (first | rw [← Ny495.out] at ho24 | (simp only [Int.reduceToNat] at ho24; rw [← Ny495.out] at ho24)); have HO497 := am (Kd.N_lower ho24 (below_size bw)); replace HB := am (below_step bw hb); clear hb ho24; have p498 : 0 ≤ ((l2.length : Int) : Int) := of_decide_eq_true (by first | (with_reducible assumption) | assumption); have q498 : (l2.length : Int) < (l0.length : Int) := of_decide_eq_true (by first | (with_reducible assumption) | assumption); obtain ⟨ad498, e498, hx498_0⟩ := Kd.at_int HR0.out (l2.length : Int) p498 q498; cases e498; replace hx498_0 := hw HB hx498_0; (try simp only [Go.IntWalk.toNatUp] at hx498_0); replace p498 := eq_true p498; replace q498 := eq_true q498; obtain ⟨Ao25, co25, eo25⟩ := Kd.N_slice HO497.out; subst eo25))
   replace HO497 := am (Kd.N_drew HO497.out)
   replace HB := am (below_drew1 HB.out)
   obtain ⟨⟨ad505, e505, hx505_0⟩, p505, q505⟩ := pq (Kd.at_int HR0.out (l2.length : Int))
   have hw505_0 := hx505_0
   obtain rfl : ad498 = ad505 := (by injection e505)
   replace hx505_0 := hw HB hx505_0
   (try simp only [Go.IntWalk.toNatUp] at hx505_0)
   refine start_ (n := 15) (S := fun w' => w'.cell? (ad498.add ((l2.length : Int)).toNat) = some (.int .i64 (rd l0 (l2.length : Int)))) (ds := []) (yz 15 0) (by kernel_rfl) rfl rfl (((HB.out.cell (World.block_lt_of_cell? w _ hw505_0)).trans hw505_0)) (fun hHeld => ?_); refine with_tabW spec_l11Find.tab9 spec_l11Find.bits9 (fun HT_ HW_ => ?_)
   generalize w23.drew = w26 at HO497 HB hx505_0 hHeld ⊢
   refine pa 0 (some 36) (yz 15 1) HT_ ?_
   refine pa 2 (some 38) (yz 15 5) HT_ ?_
   refine pa 4 (some 40) (yz 15 21) HT_ ?_
   refine pa 5 (some 41) (yz 15 53) HT_ ?_
   refine pa 6 (some 42) (yz 15 117) HT_ ?_
   refine pa 7 (some 43) (yz 15 245) HT_ ?_
   refine take_ (i := 8) (N := some 44) (v := ?_) (a' := ?_) (yz 15 501) rfl rfl (take_ofW HT_.out HW_.out (by kernel_rfl)) (fun _ _ _ h => h) (Or.inl ⟨by rfl, ?_⟩) hHeld ?_ ?_
   rotate_left
   ·intro w' s0
    (try simp only [Int.toNat_natCast] at s0)
    go_simp
    with_reducible rfl
   rotate_left
   ·simp only [Act.put, qa, qb, qc, i64_w, i32_w]
    rfl
   refine pa 9 (some 45) (yz 15 1013) HT_ ?_
   refine join_ (σ := Value × Value × Value) 4 (yz 15 2047) (fun s_ => [(37, s_.1), (39, s_.2.1), (46, s_.2.2)]) (fun s_ w' => (w'.cell? (ad498.add ((l2.length : Int)).toNat) = some (.int .i64 (rd l0 (l2.length : Int)))) ∧ (Kd.N kow 24 w' w.heap.size (fun k_ => (w.heap.size ≤ k_) ∧ some k_ ≠ (s_.2.1 : Value).ownBlock ∧ some k_ ≠ (s_.2.2 : Value).ownBlock) (.slice Ao25 y495.length co25) y495) ∧ (Kd.R (Kd.int .i64) 3 w' w.heap.size (fun k_ => (w.heap.size ≤ k_) ∧ some k_ ≠ (s_.2.2 : Value).ownBlock) s_.2.1 y502) ∧ (Kd.R (Kd.int .i64) 3 w' w.heap.size (fun k_ => (w.heap.size ≤ k_) ∧ some k_ ≠ (s_.2.1 : Value).ownBlock) s_.2.2 y506) ∧ (Below w.heap.size w w')) ?_ ?_
   rotate_left
   ·intro hCont
    refine two_ (i := 1) (j := 10) (Ni := some 37) (Nj := some 46) (yz 15 1015) (yz 15 2037) rfl rfl rfl rfl (two_of HT_.out (by kernel_rfl)) (by decide) (by decide) (fun K hK => ?_) (fun K hK => ?_)
    ·skip
     refine Kd.R_lit_step (Kd.int .i64) _ 3 ?hg (N := 37) ?hd (xs := ([] : List Int)) (inner := []) (ok := fun _ => True) (okp := fun _ => True) ?hr ?hp (fun _ hk => hk) trivial (Below.refl _ _) (Nat.le_refl _) (by simp) ?_; (case hd => rfl); (case hg => rfl); (case hr => first | (go_simp; done) | (go_simp; rfl)); (case hp => exact (Reps.none _ _))
     intro v500 w27 ho28 hb hg_ hnew_
     clear hg_ hnew_
     (first | rw [← Ny499.out] at ho28 | (simp only [Int.reduceToNat] at ho28; rw [← Ny499.out] at ho28))
     replace HO497 := am (Kd.N_elder' (no HO497.out) (Kd.R_base ho28) hb)
     have HO501 := am (Kd.R_lower (Kd.R_newM (M := fun k_ => (w.heap.size ≤ k_)) ho28 (below_size bw) (fun k_ h_ => h_)) (below_size bw))
     replace HB := am (below_step bw hb)
     clear hb ho28
     refine hK.out _ _ (((HB.out.cell (World.block_lt_of_cell? w _ hw505_0)).trans hw505_0)) (fun hHeld => ?_)
     clear hK K
     refine nm (some 37) ?_
     refine two_ (i := 3) (j := 10) (Ni := some 39) (Nj := some 46) (yz 15 1023) (yz 15 2039) rfl rfl rfl rfl (two_of HT_.out (by kernel_rfl)) (by decide) (by decide) (fun K hK => ?_) (fun K hK => ?_)
     ·skip
      refine Kd.R_append_rows_step (Kd.int .i64) (w0 := w) w.heap.size (by rfl) (.tmp 37) (.tmp 38) 24 3 (.int .i64 0) 8 rfl Tryd.underlying24 info3 rfl (by decide) (by omega) v500 y499 l2 _ _ _ (fun k_ => (w.heap.size ≤ k_)) (fun _ => False) rfl rfl ?aO ?aR (fun _ _ h => h) (fun _ h => h.elim) ?aF ?aB ?aS ?aL ?_
      (case aR => exact co (Kd.C_below HR2.out HB.out))
      (case aB => exact bw)
      (case aF => exact (fun k_ hk => (Nat.le_trans (below_size bw) hk)))
      (case aO => exact (by (with_reducible repeat (first | apply Kd.R_alloc | apply Kd.R_drewN | apply Kd.R_drew)); exact Kd.R_mono HO501.out (fun _ hk => hk.1)))
      (case aS => exact (below_size bw))
      (case aL => have := LMc20.out; omega)
      intro v503 w29 ho hb hg hat
      rw [← Ny502.out] at ho
      replace HO497 := am (Kd.N_afterv (ok := (fun k_ => (w.heap.size ≤ k_))) (no HO497.out) hg hat)
      replace HB := am (hb)
      have HO504 := am (ho)
      clear HO501 ho hb hg hat
      refine hK.out _ _ (((HB.out.cell (World.block_lt_of_cell? w _ hw505_0)).trans hw505_0)) (fun hHeld => ?_)
      clear hK K
      refine nm (some 39) ?_
      refine oa 10 (some 46) (yz 15 2047) HT_ (fun K hK => ?_)
      refine Kd.R_lit_step (Kd.int .i64) _ 3 ?hg (N := 46) ?hd (xs := ([wrap64 (Int.tdiv a1 (rd l0 (l2.length : Int)))] : List Int)) (inner := [.int .i64 (wrap64 (Int.tdiv a1 (rd l0 (l2.length : Int))))]) (ok := fun _ => True) (okp := fun _ => True) ?hr ?hp (fun _ hk => hk) trivial (Below.refl _ _) (Nat.le_refl _) (by simp) ?_; (case hd => rfl); (case hg => rfl); (case hr => first | (go_simp; done) | (go_simp; rfl)); (case hp => exact (Reps.one (show Kd.M (Kd.int .i64) _ _ _ (wrap64 (Int.tdiv a1 (rd l0 (l2.length : Int)))) [.int .i64 (wrap64 (Int.tdiv a1 (rd l0 (l2.length : Int))))] from rfl) (Reps.none _ _)))
      intro v507 w30 ho31 hb hg_ hnew_
      clear hg_ hnew_
      (first | rw [← Ny506.out] at ho31 | (simp only [Int.reduceToNat] at ho31; rw [← Ny506.out] at ho31))
      replace HO497 := am (Kd.N_elder' (no HO497.out) (Kd.R_base ho31) hb)
      have HO508 := am (Kd.R_lower (Kd.R_new' (Kd.R_newM (M := fun k_ => (w.heap.size ≤ k_)) ho31 (below_size bw) (fun k_ h_ => h_)) (Kd.R_lt (ro HO504.out))) (below_size bw))
      replace HO504 := am (Kd.R_elder' (ro HO504.out) (Kd.R_base ho31) hb)
      replace HB := am (below_step bw hb)
      clear hb ho31
      refine hK.out _ _ (((HB.out.cell (World.block_lt_of_cell? w _ hw505_0)).trans hw505_0)) (fun hHeld => ?_)
      clear hK K
      refine nm (some 46) ?_
      exact norm_ (by simp only [putAll, Act.put, List.setIfInBounds_toArray, List.set_cons_zero, List.set_cons_succ]) (hCont (v500, v503, v507) _ ⟨hHeld, (by (with_reducible repeat (first | apply Kd.N_alloc | apply Kd.N_drewN | apply Kd.N_drew)); exact Kd.N_mono HO497.out (fun _ hk => ⟨hk.1.1, ⟨hk.1.2, hk.2⟩⟩)), (ro HO504.out), (by (with_reducible repeat (first | apply Kd.R_alloc | apply Kd.R_drewN | apply Kd.R_drew)); exact Kd.R_mono HO508.out (fun _ hk => by first | exact ⟨hk.1.1, hk.2⟩ | simp_all)), bw⟩)
     skip
     refine Kd.R_lit_step (Kd.int .i64) _ 3 ?hg (N := 46) ?hd (xs := ([wrap64 (Int.tdiv a1 (rd l0 (l2.length : Int)))] : List Int)) (inner := [.int .i64 (wrap64 (Int.tdiv a1 (rd l0 (l2.length : Int))))]) (ok := fun _ => True) (okp := fun _ => True) ?hr ?hp (fun _ hk => hk) trivial (Below.refl _ _) (Nat.le_refl _) (by simp) ?_; (case hd => rfl); (case hg => rfl); (case hr => first | (go_simp; done) | (go_simp; rfl)); (case hp => exact (Reps.one (show Kd.M (Kd.int .i64) _ _ _ (wrap64 (Int.tdiv a1 (rd l0 (l2.length : Int)))) [.int .i64 (wrap64 (Int.tdiv a1 (rd l0 (l2.length : Int))))] from rfl) (Reps.none _ _)))
     intro v507 w29 ho30 hb hg_ hnew_
     clear hg_ hnew_
     (first | rw [← Ny506.out] at ho30 | (simp only [Int.reduceToNat] at ho30; rw [← Ny506.out] at ho30))
     replace HO497 := am (Kd.N_elder' (no HO497.out) (Kd.R_base ho30) hb)
     have HO508 := am (Kd.R_lower (Kd.R_new' (Kd.R_newM (M := fun k_ => (w.heap.size ≤ k_)) ho30 (below_size bw) (fun k_ h_ => h_)) (Kd.R_lt (ro HO501.out))) (below_size bw))
     replace HO501 := am (Kd.R_elder' (ro HO501.out) (Kd.R_base ho30) hb)
     replace HB := am (below_step bw hb)
     clear hb ho30
     refine hK.out _ _ (((HB.out.cell (World.block_lt_of_cell? w _ hw505_0)).trans hw505_0)) (fun hHeld => ?_)
     clear hK K
     refine nm (some 46) ?_
     refine oa 3 (some 39) (yz 15 2047) HT_ (fun K hK => ?_)
     refine Kd.R_append_rows_step (Kd.int .i64) (w0 := w) w.heap.size (by rfl) (.tmp 37) (.tmp 38) 24 3 (.int .i64 0) 8 rfl Tryd.underlying24 info3 rfl (by decide) (by omega) v500 y499 l2 _ _ _ (fun k_ => (w.heap.size ≤ k_) ∧ some k_ ≠ (v507 : Value).ownBlock) (fun _ => False) rfl rfl ?aO ?aR (fun _ _ h => h) (fun _ h => h.elim) ?aF ?aB ?aS ?aL ?_
     (case aR => exact co (Kd.C_below HR2.out HB.out))
     (case aB => exact bw)
     (case aF => exact (fun k_ hk => ⟨(Nat.le_trans (below_size bw) hk), Kd.fresh' (Kd.R_lt (ro HO508.out)) k_ hk⟩))
     (case aO => exact (by (with_reducible repeat (first | apply Kd.R_alloc | apply Kd.R_drewN | apply Kd.R_drew)); exact Kd.R_mono HO501.out (fun _ hk => by first | exact ⟨hk.1.1, hk.2⟩ | simp_all)))
     (case aS => exact (below_size bw))
     (case aL => have := LMc20.out; omega)
     intro v503 w31 ho hb hg hat
     rw [← Ny502.out] at ho
     replace HO497 := am (Kd.N_afterv (ok := (fun k_ => (w.heap.size ≤ k_) ∧ some k_ ≠ (v507 : Value).ownBlock)) (by (with_reducible repeat (first | apply Kd.N_alloc | apply Kd.N_drewN | apply Kd.N_drew)); exact Kd.N_mono HO497.out (fun _ hk => ⟨⟨hk.1.1, hk.2⟩, hk.1.2⟩)) hg hat)
     replace HO508 := am (Kd.R_after (ok := (fun k_ => (w.heap.size ≤ k_))) (by (with_reducible repeat (first | apply Kd.R_alloc | apply Kd.R_drewN | apply Kd.R_drew)); exact Kd.R_mono HO508.out (fun _ hk => by first | exact ⟨hk.1.1, hk.2⟩ | simp_all)) hg hat)
     replace HB := am (hb)
     have HO504 := am (ho)
     clear HO501 ho hb hg hat
     refine hK.out _ _ (((HB.out.cell (World.block_lt_of_cell? w _ hw505_0)).trans hw505_0)) (fun hHeld => ?_)
     clear hK K
     refine nm (some 39) ?_
     exact norm_ (by simp only [putAll, Act.put, List.setIfInBounds_toArray, List.set_cons_zero, List.set_cons_succ]) (hCont (v500, v503, v507) _ ⟨hHeld, (by (with_reducible repeat (first | apply Kd.N_alloc | apply Kd.N_drewN | apply Kd.N_drew)); exact Kd.N_mono HO497.out (fun _ hk => ⟨hk.1.1, ⟨hk.2, hk.1.2⟩⟩)), (ro HO504.out), (ro HO508.out), bw⟩)
    skip
    refine Kd.R_lit_step (Kd.int .i64) _ 3 ?hg (N := 46) ?hd (xs := ([wrap64 (Int.tdiv a1 (rd l0 (l2.length : Int)))] : List Int)) (inner := [.int .i64 (wrap64 (Int.tdiv a1 (rd l0 (l2.length : Int))))]) (ok := fun _ => True) (okp := fun _ => True) ?hr ?hp (fun _ hk => hk) trivial (Below.refl _ _) (Nat.le_refl _) (by simp) ?_; (case hd => rfl); (case hg => rfl); (case hr => first | (go_simp; done) | (go_simp; rfl)); (case hp => exact (Reps.one (show Kd.M (Kd.int .i64) _ _ _ (wrap64 (Int.tdiv a1 (rd l0 (l2.length : Int)))) [.int .i64 (wrap64 (Int.tdiv a1 (rd l0 (l2.length : Int))))] from rfl) (Reps.none _ _)))
    intro v507 w27 ho28 hb hg_ hnew_
    clear hg_ hnew_
    (first | rw [← Ny506.out] at ho28 | (simp only [Int.reduceToNat] at ho28; rw [← Ny506.out] at ho28))
    replace HO497 := am (Kd.N_elder' (no HO497.out) (Kd.R_base ho28) hb)
    have HO508 := am (Kd.R_lower (Kd.R_newM (M := fun k_ => (w.heap.size ≤ k_)) ho28 (below_size bw) (fun k_ h_ => h_)) (below_size bw))
    replace HB := am (below_step bw hb)
    clear hb ho28
    refine hK.out _ _ (((HB.out.cell (World.block_lt_of_cell? w _ hw505_0)).trans hw505_0)) (fun hHeld => ?_)
    clear hK K
    refine nm (some 46) ?_
    refine oa 1 (some 37) (yz 15 2039) HT_ (fun K hK => ?_)
    refine Kd.R_lit_step (Kd.int .i64) _ 3 ?hg (N := 37) ?hd (xs := ([] : List Int)) (inner := []) (ok := fun _ => True) (okp := fun _ => True) ?hr ?hp (fun _ hk => hk) trivial (Below.refl _ _) (Nat.le_refl _) (by simp) ?_; (case hd => rfl); (case hg => rfl); (case hr => first | (go_simp; done) | (go_simp; rfl)); (case hp => exact (Reps.none _ _))
    intro v500 w29 ho30 hb hg_ hnew_
    clear hg_ hnew_
    (first | rw [← Ny499.out] at ho30 | (simp only [Int.reduceToNat] at ho30; rw [← Ny499.out] at ho30))
    replace HO497 := am (Kd.N_elder' (no HO497.out) (Kd.R_base ho30) hb)
    have HO501 := am (Kd.R_lower (Kd.R_new' (Kd.R_newM (M := fun k_ => (w.heap.size ≤ k_)) ho30 (below_size bw) (fun k_ h_ => h_)) (Kd.R_lt (ro HO508.out))) (below_size bw))
    replace HO508 := am (Kd.R_elder' (ro HO508.out) (Kd.R_base ho30) hb)
    replace HB := am (below_step bw hb)
    clear hb ho30
    refine hK.out _ _ (((HB.out.cell (World.block_lt_of_cell? w _ hw505_0)).trans hw505_0)) (fun hHeld => ?_)
    clear hK K
    refine nm (some 37) ?_
    refine oa 3 (some 39) (yz 15 2047) HT_ (fun K hK => ?_)
    refine Kd.R_append_rows_step (Kd.int .i64) (w0 := w) w.heap.size (by rfl) (.tmp 37) (.tmp 38) 24 3 (.int .i64 0) 8 rfl Tryd.underlying24 info3 rfl (by decide) (by omega) v500 y499 l2 _ _ _ (fun k_ => (w.heap.size ≤ k_) ∧ some k_ ≠ (v507 : Value).ownBlock) (fun _ => False) rfl rfl ?aO ?aR (fun _ _ h => h) (fun _ h => h.elim) ?aF ?aB ?aS ?aL ?_
    (case aR => exact co (Kd.C_below HR2.out HB.out))
    (case aB => exact bw)
    (case aF => exact (fun k_ hk => ⟨(Nat.le_trans (below_size bw) hk), Kd.fresh' (Kd.R_lt (ro HO508.out)) k_ hk⟩))
    (case aO => exact (by (with_reducible repeat (first | apply Kd.R_alloc | apply Kd.R_drewN | apply Kd.R_drew)); exact Kd.R_mono HO501.out (fun _ hk => by first | exact ⟨hk.1.1, hk.2⟩ | simp_all)))
    (case aS => exact (below_size bw))
    (case aL => have := LMc20.out; omega)
    intro v503 w31 ho hb hg hat
    rw [← Ny502.out] at ho
    replace HO497 := am (Kd.N_afterv (ok := (fun k_ => (w.heap.size ≤ k_) ∧ some k_ ≠ (v507 : Value).ownBlock)) (no HO497.out) hg hat)
    replace HO508 := am (Kd.R_after (ok := (fun k_ => (w.heap.size ≤ k_))) (by (with_reducible repeat (first | apply Kd.R_alloc | apply Kd.R_drewN | apply Kd.R_drew)); exact Kd.R_mono HO508.out (fun _ hk => by first | exact ⟨hk.1.1, hk.2⟩ | simp_all)) hg hat)
    replace HB := am (hb)
    have HO504 := am (ho)
    clear HO501 ho hb hg hat
    refine hK.out _ _ (((HB.out.cell (World.block_lt_of_cell? w _ hw505_0)).trans hw505_0)) (fun hHeld => ?_)
    clear hK K
    refine nm (some 39) ?_
    exact norm_ (by simp only [putAll, Act.put, List.setIfInBounds_toArray, List.set_cons_zero, List.set_cons_succ]) (hCont (v500, v503, v507) _ ⟨hHeld, (by (with_reducible repeat (first | apply Kd.N_alloc | apply Kd.N_drewN | apply Kd.N_drew)); exact Kd.N_mono HO497.out (fun _ hk => ⟨hk.1.1, ⟨hk.2, hk.1.2⟩⟩)), (ro HO504.out), (ro HO508.out), bw⟩)
   rintro ⟨v500, v503, v507⟩ w32 ⟨hS_, h0_, h1_, h2_, h3_⟩
   have n0_ : Aside0 (Kd.N kow 24 w32 w.heap.size (fun k_ => (w.heap.size ≤ k_) ∧ some k_ ≠ (v503 : Value).ownBlock ∧ some k_ ≠ (v507 : Value).ownBlock) (.slice Ao25 y495.length co25) y495) := ⟨h0_⟩
   have n1_ : Aside0 (Kd.R (Kd.int .i64) 3 w32 w.heap.size (fun k_ => (w.heap.size ≤ k_) ∧ some k_ ≠ (v507 : Value).ownBlock) v503 y502) := ⟨h1_⟩
   have n2_ : Aside0 (Kd.R (Kd.int .i64) 3 w32 w.heap.size (fun k_ => (w.heap.size ≤ k_) ∧ some k_ ≠ (v503 : Value).ownBlock) v507 y506) := ⟨h2_⟩
   have n3_ : Aside0 (Below w.heap.size w w32) := ⟨h3_⟩
   clear HO497
   clear HB
   clear h0_ h1_ h2_ h3_
   have HO497 := n0_
   have HO504 := n1_
   have HO508 := n2_
   have HB := n3_
   clear n0_ n1_ n2_ n3_
   have hHeld : w32.cell? (ad498.add ((l2.length : Int)).toNat) = some (.int .i64 (rd l0 (l2.length : Int))) := hS_
   obtain ⟨Ao34, co34, eo34⟩ := Kd.R_slice HO508.out
   (first | subst eo34 | (injection eo34 with f1_ f2_ f3_; have f4_ := f1_.symm; have f5_ := f3_.symm; clear f1_ f2_ f3_; subst f4_; subst f5_))
   refine norm_ (a' := ?_) ?_ ?_
   rotate_left
   ·simp only [putAll, Act.put, List.setIfInBounds_toArray, List.set_cons_zero, List.set_cons_succ]
    rfl
   refine oa 11 (some 47) (yz 15 4095) HT_ (fun K hK => ?_)
   refine Kd.R_append_rows_step (Kd.int .i64) (w0 := w) w.heap.size (by rfl) (.tmp 39) (.tmp 46) 24 3 (.int .i64 0) 8 rfl Tryd.underlying24 info3 rfl (by decide) (by omega) v503 y502 y506 _ _ _ (fun k_ => (w.heap.size ≤ k_) ∧ nb k_ Ao34 y506 co34) (fun _ => False) rfl rfl ?aO ?aR (fun _ _ h => h) (fun _ h => h.elim) ?aF ?aB ?aS ?aL ?_
   (case aR => exact co (Kd.R_reads' HO508.out).2.2)
   (case aB => exact bw)
   (case aF => exact (fun k_ hk => ⟨(Nat.le_trans (below_size bw) hk), Kd.fresh' (Kd.R_lt (ro HO508.out)) k_ hk⟩))
   (case aO => exact (ro HO504.out))
   (case aS => exact (below_size bw))
   (case aL => have := LMc21.out; omega)
   intro v510 w33 ho hb hg hat
   rw [← Ny509.out] at ho
   replace HO497 := am (Kd.N_afterv (ok := (fun k_ => (w.heap.size ≤ k_) ∧ nb k_ Ao34 y506 co34)) (by (with_reducible repeat (first | apply Kd.N_alloc | apply Kd.N_drewN | apply Kd.N_drew)); exact Kd.N_mono HO497.out (fun _ hk => ⟨⟨hk.1, hk.2.2⟩, hk.2.1⟩)) hg hat)
   replace HO508 := am (Kd.R_after (ok := (fun k_ => (w.heap.size ≤ k_))) (ro HO508.out) hg hat)
   replace HB := am (hb)
   have HO511 := am (ho)
   clear HO504 ho hb hg hat
   obtain ⟨Ao35, co35, eo35⟩ := Kd.R_slice HO511.out
   (first | subst eo35 | (injection eo35 with f1_ f2_ f3_; have f4_ := f1_.symm; have f5_ := f3_.symm; clear f1_ f2_ f3_; subst f4_; subst f5_))
   refine hK.out _ _ (((HB.out.cell (World.block_lt_of_cell? w _ hw505_0)).trans hw505_0)) (fun hHeld => ?_)
   clear hK K
   refine nm (some 47) ?_
   refine oa 12 (some 48) (yz 15 8191) HT_ (fun K hK => ?_)
   refine Kd.N_lit_step kow _ 24 ?hg (N' := 48) ?hd (xs := ([y509] : List (List Int))) (inner := [.slice Ao35 y509.length co35]) (ok := (fun k_ => (w.heap.size ≤ k_) ∧ nb k_ Ao25 y495 co25 ∧ nb k_ Ao34 y506 co34)) (okp := (fun k_ => (w.heap.size ≤ k_) ∧ nb k_ Ao25 y495 co25 ∧ nb k_ Ao34 y506 co34)) ?hr ?hp (fun _ hk => hk) ((show ∀ k_, w33.heap.size ≤ k_ → (fun k_ => (w.heap.size ≤ k_) ∧ nb k_ Ao25 y495 co25 ∧ nb k_ Ao34 y506 co34) k_ from fun k_ hk => ⟨(Nat.le_trans (below_size bw) hk), Kd.fresh' (Kd.N_lt (no HO497.out)) k_ hk, Kd.fresh' (Kd.R_lt (ro HO508.out)) k_ hk⟩) _ (Nat.le_refl _)) (Below.refl _ _) (Nat.le_refl _) (by simp) ?_; (case hd => rfl); (case hg => rfl); (case hr => first | (go_simp; done) | (go_simp; rfl)); (case hp => exact (Reps.one (show Kd.FK kow _ _ y509 [.slice Ao35 y509.length co35] from (kow_FK (Kd.R_mono (ok' := (fun k_ => (w.heap.size ≤ k_) ∧ nb k_ Ao25 y495 co25 ∧ nb k_ Ao34 y506 co34)) (Kd.R_apart' (HO511.out) (Kd.N_typed HO497.out) (by decide)) (fun k_ hk => ⟨hk.1.1, ⟨hk.2, hk.1.2⟩⟩)))) (Reps.none _ _)))
   intro v513 w36 ho37 hb hg_ hnew_
   clear hg_ hnew_
   (first | rw [← Ny512.out] at ho37 | (simp only [Int.reduceToNat] at ho37; rw [← Ny512.out] at ho37))
   replace HO497 := am (Kd.N_elder' (no HO497.out) (Kd.N_base ho37) hb)
   replace HO508 := rK HO508 hb
   have HO514 := am (Kd.N_lower ho37 (below_size bw))
   replace HB := am (below_step bw hb)
   clear HO511 hb ho37
   obtain ⟨Ao39, co39, eo39⟩ := Kd.N_slice HO514.out
   (first | subst eo39 | (injection eo39 with f1_ f2_ f3_; have f4_ := f1_.symm; have f5_ := f3_.symm; clear f1_ f2_ f3_; subst f4_; subst f5_))
   refine hK.out _ _ (((HB.out.cell (World.block_lt_of_cell? w _ hw505_0)).trans hw505_0)) (fun hHeld => ?_)
   clear hK K
   refine nm (some 48) ?_
   refine oa 13 (some 49) (yz 15 16383) HT_ (fun K hK => ?_)
   refine Kd.N_append_rows_step kow (w0 := w) w.heap.size (by rfl) (.tmp 36) (.tmp 48) 29 24 (.slice none 0 0) 24 rfl Tryd.underlying29 info24 rfl (by decide) (by omega) (.slice Ao25 y495.length co25) y495 y512 _ _ _ (fun k_ => (w.heap.size ≤ k_) ∧ nb k_ Ao34 y506 co34) (fun k_ => ((fun k_ => (w.heap.size ≤ k_) ∧ nb k_ Ao34 y506 co34)) k_ ∧ nb k_ Ao25 y495 co25) rfl rfl ?aO ?aR (fun _ hk => hk) ?aF ?aB ?aS ?aL ?_
   (case aR => exact (by skip; exact Kd.N_F (Kd.N_mono (ok' := (fun k_ => ((fun k_ => (w.heap.size ≤ k_) ∧ nb k_ Ao34 y506 co34)) k_ ∧ nb k_ Ao25 y495 co25)) (HO514.out) (fun k_ hk => ⟨⟨hk.1, hk.2.2⟩, hk.2.1⟩))))
   (case aB => exact bw)
   (case aF => exact (fun k_ hk => ⟨(Nat.le_trans (below_size bw) hk), Kd.fresh' (Kd.R_lt (ro HO508.out)) k_ hk⟩))
   (case aO => exact (by (with_reducible repeat (first | apply Kd.N_alloc | apply Kd.N_drewN | apply Kd.N_drew)); exact Kd.N_mono HO497.out (fun _ hk => by first | exact ⟨hk.1.1.1, hk.1.1.2⟩ | simp_all)))
   (case aS => exact (below_size bw))
   (case aL => have := LMc22.out; omega)
   intro v516 w38 ho hb hg hat
   rw [← Ny515.out] at ho
   replace HO508 := am (Kd.R_over' (ro HO508.out) (Kd.N_typed (no HO497.out)) (by decide) hg)
   replace HO514 := am (Kd.N_afterv (ok := (fun k_ => (w.heap.size ≤ k_) ∧ nb k_ Ao34 y506 co34)) (by (with_reducible repeat (first | apply Kd.N_alloc | apply Kd.N_drewN | apply Kd.N_drew)); exact Kd.N_mono HO514.out (fun _ hk => ⟨⟨hk.1, hk.2.2⟩, hk.2.1⟩)) hg hat)
   replace HB := am (hb)
   have HO517 := am (ho)
   clear HO497 ho hb hg hat
   refine hK.out _ _ (((HB.out.cell (World.block_lt_of_cell? w _ hw505_0)).trans hw505_0)) (fun hHeld => ?_)
   clear hK K
   refine nm (some 49) ?_
   refine pa 14 (some 8) (yz 15 32767) HT_ ?_
   refine done_ (done_of HT_.out (by kernel_rfl)) ?_
   try go_wp2
   go_ret
   exact ⟨_, re, by (with_reducible repeat (first | apply Kd.N_alloc | apply Kd.N_drewN | apply Kd.N_drew)); exact Kd.N_mono HO517.out (fun _ hk => hk.1), bw⟩
  rw [if_neg c19] at H
  have c19b0 : ((Int.tmod a1 (rd l0 (l2.length : Int))) == 0) = false := beq_eq_false_iff_ne.mpr c19
  have c19b1 : ((Int.tmod a1 (rd l0 (l2.length : Int))) != 0) = true := bne_iff_ne.mpr c19
  obtain rfl := Option.some.inj H
  go_enter Tryd.func34, Tryd.ntmps34
  go_wp2_with (first | ((with_reducible refine gate_dst (N := 23) rfl ?_); refine Kd.N_lit kow _ 24 ?hg (N' := 23) ?hd (xs := ([] : List (List Int))) (inner := []) (ok := (fun k_ => (w.heap.size ≤ k_))) (okp := (fun k_ => (w.heap.size ≤ k_))) ?hr ?hp (fun _ hk => hk) ((show ∀ k_, w.heap.size ≤ k_ → (fun k_ => (w.heap.size ≤ k_)) k_ from fun k_ hk => (Nat.le_trans (below_size bw) hk)) _ (Nat.le_refl _)) (Below.refl _ _) (Nat.le_refl _) (by simp) ?_; (case hd => rfl); (case hg => rfl); (case hr => first | (go_simp; done) | (go_simp; rfl)); (case hp => exact (Reps.none _ _)); intro v496 w40 ho41 hb hg_ hnew_; clear hg_ hnew_; (first | rw [← Ny495.out] at ho41 | (simp only [Int.reduceToNat] at ho41; rw [← Ny495.out] at ho41)); have HO497 := am (Kd.N_lower ho41 (below_size bw)); replace HB := am (below_step bw hb); clear hb ho41; have p498 : 0 ≤ ((l2.length : Int) : Int) := of_decide_eq_true (by first | (with_reducible assumption) | assumption); have q498 : (l2.length : Int) < (l0.length : Int) := of_decide_eq_true (by first | (with_reducible assumption) | assumption); obtain ⟨ad498, e498, hx498_0⟩ := Kd.at_int HR0.out (l2.length : Int) p498 q498; cases e498; replace hx498_0 := hw HB hx498_0; (try simp only [Go.IntWalk.toNatUp] at hx498_0); replace p498 := eq_true p498; replace q498 := eq_true q498))
  go_ret
  exact ⟨_, re, by (with_reducible repeat (first | apply Kd.N_alloc | apply Kd.N_drewN | apply Kd.N_drew)); exact HO497.out, bw⟩
 rw [if_neg c15] at H
 have c15b0 : ((l2.length : Int) == (wrap64 ((l0.length : Int) - 1))) = false := beq_eq_false_iff_ne.mpr c15
 have c15b1 : ((l2.length : Int) != (wrap64 ((l0.length : Int) - 1))) = true := bne_iff_ne.mpr c15
 replace H := gp H; obtain ⟨c42, H⟩ := H
 have c42b0 : decide (0 ≤ (l2.length : Int)) = true := decide_eq_true c42
 have c42b1 : decide (0 ≤ l2.length) = true := decide_eq_true (by omega)
 clear c42
 replace H := gp H; obtain ⟨c43, H⟩ := H
 have c43b0 : decide ((l2.length : Int) < (l0.length : Int)) = true := decide_eq_true c43
 have c43b1 : decide (l2.length < l0.length) = true := decide_eq_true (Int.ofNat_lt.mp c43)
 clear c43
 by_cases c44 : (rd l0 (l2.length : Int)) = 0
 ·rw [if_pos c44] at H
  exact absurd H (by simp)
 rw [if_neg c44] at H
 have c44b0 : ((rd l0 (l2.length : Int)) == 0) = false := beq_eq_false_iff_ne.mpr c44
 have c44b1 : ((rd l0 (l2.length : Int)) != 0) = true := bne_iff_ne.mpr c44
 have H' := am H
 clear H
 go_enter Tryd.func34, Tryd.ntmps34
 go_wp2_with (first | ((with_reducible refine gate_dst (N := 23) rfl ?_); refine Kd.N_lit kow _ 24 ?hg (N' := 23) ?hd (xs := ([] : List (List Int))) (inner := []) (ok := (fun k_ => (w.heap.size ≤ k_))) (okp := (fun k_ => (w.heap.size ≤ k_))) ?hr ?hp (fun _ hk => hk) ((show ∀ k_, w.heap.size ≤ k_ → (fun k_ => (w.heap.size ≤ k_)) k_ from fun k_ hk => (Nat.le_trans (below_size bw) hk)) _ (Nat.le_refl _)) (Below.refl _ _) (Nat.le_refl _) (by simp) ?_; (case hd => rfl); (case hg => rfl); (case hr => first | (go_simp; done) | (go_simp; rfl)); (case hp => exact (Reps.none _ _)); intro v496 w45 ho46 hb hg_ hnew_; clear hg_ hnew_; (first | rw [← Ny495.out] at ho46 | (simp only [Int.reduceToNat] at ho46; rw [← Ny495.out] at ho46)); have HO497 := am (Kd.N_lower ho46 (below_size bw)); replace HB := am (below_step bw hb); clear hb ho46; have p518 : 0 ≤ ((l2.length : Int) : Int) := of_decide_eq_true (by first | (with_reducible assumption) | assumption); have q518 : (l2.length : Int) < (l0.length : Int) := of_decide_eq_true (by first | (with_reducible assumption) | assumption); obtain ⟨ad518, e518, hx518_0⟩ := Kd.at_int HR0.out (l2.length : Int) p518 q518; cases e518; replace hx518_0 := hw HB hx518_0; (try simp only [Go.IntWalk.toNatUp] at hx518_0); replace p518 := eq_true p518; replace q518 := eq_true q518))
 go_loopg [8, 9] k (fun kq v8 v9 w' => ∃ (x8_1 : List (List Int)) (x9_1 : Int), v9 = .int .i64 x9_1 ∧ Aside0 (spec_l11Find.l0 kq l0 a1 l2 (l2.length : Int) x8_1 x9_1 = some r) ∧ Aside0 (kq ≤ k) ∧ Aside0 (Kd.N kow 24 w' w.heap.size (fun k_ => (w.heap.size ≤ k_)) v8 x8_1) ∧ Aside0 (Below w.heap.size w w'))
 case atStart => exact ⟨(y495), (wrap64 (Int.tdiv a1 (rd l0 (l2.length : Int)))), rr, H', ⟨Nat.le_refl _⟩, ⟨no HO497.out⟩, ⟨bw⟩⟩
 case round =>
  clear H'
  try clear c2; try clear c4; try clear c4b0; try clear c4b1; try clear c4b2; try clear c5; try clear c5b0; try clear c5b1; try clear c6; try clear c15; try clear c15b0; try clear c15b1; try clear c16; try clear c16b0; try clear c16b1; try clear c17; try clear c17b0; try clear c17b1; try clear c18; try clear c18b0; try clear c18b1; try clear c19; try clear c19b0; try clear c19b1; try clear c20; try clear c21; try clear c22; try clear c42; try clear c42b0; try clear c42b1; try clear c43; try clear c43b0; try clear c43b1; try clear c44; try clear c44b0; try clear c44b1; try clear hx498_0; try clear hx505_0; try clear hx518_0; try clear p498; try clear p505; try clear p518; try clear q498; try clear q505; try clear q518
  obtain ⟨x8_1, x9_1, rfl, HA, HK1, HO_8, HB⟩ := hrel
  cases gk with
  | zero => exact absurd HA.out (by simp [spec_l11Find.l0])
  | succ k1 =>
   have H := HA.out
   clear HA
   simp only [spec_l11Find.l0] at H
   replace H := gj H; obtain ⟨c47, H⟩ | ⟨c47, H⟩ := H
   ·have c47b0 : decide (0 ≤ x9_1) = true := decide_eq_true c47
    clear c47
    replace H := gp H; obtain ⟨c48, H⟩ := H
    have c48b0 : decide (0 ≤ (l2.length : Int)) = true := decide_eq_true c48
    have c48b1 : decide (0 ≤ l2.length) = true := decide_eq_true (by omega)
    clear c48
    replace H := gp H; obtain ⟨c49, H⟩ := H
    have c49b0 : decide ((l2.length : Int) < (l0.length : Int)) = true := decide_eq_true c49
    have c49b1 : decide (l2.length < l0.length) = true := decide_eq_true (Int.ofNat_lt.mp c49)
    clear c49
    obtain ⟨y520, hy520⟩ : ∃ y_ : List Int, y_ = (([] : List Int)) := ⟨_, rfl⟩
    replace H : (if y520.length + l2.length < 17592186044416 then ((some (y520 ++ l2 : List Int)).bind fun y523 => ((some (([x9_1] : List Int) : List Int)).bind fun y526 => (if y523.length + y526.length < 17592186044416 then ((spec_l11Find.f k1 l0 (wrap64 (a1 - (wrap64 (x9_1 * (rd l0 (l2.length : Int)))))) (y523 ++ y526)).bind fun t532 => (if x8_1.length + t532.length < 5864062014805 then (spec_l11Find.l0 k1 l0 a1 l2 (l2.length : Int) (x8_1 ++ t532) (wrap64 (x9_1 - 1))) else (none))) else (none)))) else (none)) = some r := by first | (rw [hy520]; with_reducible first | exact H | exact bs H) | (with_reducible first | exact bs H | exact H) | (rw [hy520]; exact H) | exact H
    have Ny520 := am hy520
    clear hy520
    by_cases c50 : y520.length + l2.length < 17592186044416
    rotate_left
    ·rw [if_neg c50] at H
     exact absurd H (by simp)
    rw [if_pos c50] at H
    have LMc50 := am c50
    clear c50
    obtain ⟨y523, hy523⟩ : ∃ y_ : List Int, y_ = (y520 ++ l2) := ⟨_, rfl⟩
    replace H : ((some (([x9_1] : List Int) : List Int)).bind fun y526 => (if y523.length + y526.length < 17592186044416 then ((spec_l11Find.f k1 l0 (wrap64 (a1 - (wrap64 (x9_1 * (rd l0 (l2.length : Int)))))) (y523 ++ y526)).bind fun t532 => (if x8_1.length + t532.length < 5864062014805 then (spec_l11Find.l0 k1 l0 a1 l2 (l2.length : Int) (x8_1 ++ t532) (wrap64 (x9_1 - 1))) else (none))) else (none))) = some r := by first | (rw [hy523]; with_reducible first | exact H | exact bs H) | (with_reducible first | exact bs H | exact H) | (rw [hy523]; exact H) | exact H
    have Ny523 := am hy523
    clear hy523
    obtain ⟨y526, hy526⟩ : ∃ y_ : List Int, y_ = (([x9_1] : List Int)) := ⟨_, rfl⟩
    replace H : (if y523.length + y526.length < 17592186044416 then ((spec_l11Find.f k1 l0 (wrap64 (a1 - (wrap64 (x9_1 * (rd l0 (l2.length : Int)))))) (y523 ++ y526)).bind fun t532 => (if x8_1.length + t532.length < 5864062014805 then (spec_l11Find.l0 k1 l0 a1 l2 (l2.length : Int) (x8_1 ++ t532) (wrap64 (x9_1 - 1))) else (none))) else (none)) = some r := by first | (rw [hy526]; with_reducible first | exact H | exact bs H) | (with_reducible first | exact bs H | exact H) | (rw [hy526]; exact H) | exact H
    have Ny526 := am hy526
    clear hy526
    by_cases c51 : y523.length + y526.length < 17592186044416
    rotate_left
    ·rw [if_neg c51] at H
     exact absurd H (by simp)
    rw [if_pos c51] at H
    have LMc51 := am c51
    clear c51
    obtain ⟨y529, hy529⟩ : ∃ y_ : List Int, y_ = (y523 ++ y526) := ⟨_, rfl⟩
    replace H : ((spec_l11Find.f k1 l0 (wrap64 (a1 - (wrap64 (x9_1 * (rd l0 (l2.length : Int)))))) y529).bind fun t532 => (if x8_1.length + t532.length < 5864062014805 then (spec_l11Find.l0 k1 l0 a1 l2 (l2.length : Int) (x8_1 ++ t532) (wrap64 (x9_1 - 1))) else (none))) = some r := by first | (rw [hy529]; with_reducible first | exact H | exact bs H) | (with_reducible first | exact bs H | exact H) | (rw [hy529]; exact H) | exact H
    have Ny529 := am hy529
    clear hy529
    replace H := ga H; obtain ⟨t532, A52, H⟩ := H
    by_cases c53 : x8_1.length + t532.length < 5864062014805
    rotate_left
    ·rw [if_neg c53] at H
     exact absurd H (by simp)
    rw [if_pos c53] at H
    have LMc53 := am c53
    clear c53
    obtain ⟨y535, hy535⟩ : ∃ y_ : List (List Int), y_ = (x8_1 ++ t532) := ⟨_, rfl⟩
    replace H : (spec_l11Find.l0 k1 l0 a1 l2 (l2.length : Int) y535 (wrap64 (x9_1 - 1))) = some r := by first | (rw [hy535]; with_reducible first | exact H | exact bs H) | (with_reducible first | exact bs H | exact H) | (rw [hy535]; exact H) | exact H
    have Ny535 := am hy535
    clear hy535
    have H' := am H
    clear H
    obtain ⟨Ao54, co54, eo54⟩ := Kd.N_slice HO_8.out
    subst eo54
    try go_wp2
    replace HO_8 := am (Kd.N_drew HO_8.out)
    replace HB := am (below_drew1 HB.out)
    obtain ⟨⟨ad519, e519, hx519_0⟩, p519, q519⟩ := pq (Kd.at_int HR0.out (l2.length : Int))
    have hw519_0 := hx519_0
    obtain rfl : ad518 = ad519 := (by injection e519)
    replace hx519_0 := hw HB hx519_0
    (try simp only [Go.IntWalk.toNatUp] at hx519_0)
    refine start_ (n := 19) (S := fun w' => w'.cell? (ad518.add ((l2.length : Int)).toNat) = some (.int .i64 (rd l0 (l2.length : Int)))) (ds := []) (yz 19 0) (by kernel_rfl) rfl rfl (((HB.out.cell (World.block_lt_of_cell? w _ hw519_0)).trans hw519_0)) (fun hHeld => ?_); refine with_tabW spec_l11Find.tab14 spec_l11Find.bits14 (fun HT_ HW_ => ?_)
    generalize wr.drew = w55 at HO_8 HB hx519_0 hHeld ⊢
    refine pa 0 (some 61) (yz 19 1) HT_ ?_
    refine pa 1 (some 62) (yz 19 3) HT_ ?_
    refine pa 2 (some 63) (yz 19 7) HT_ ?_
    refine pa 3 (some 64) (yz 19 15) HT_ ?_
    refine pa 4 (some 65) (yz 19 31) HT_ ?_
    refine pa 5 (some 66) (yz 19 63) HT_ ?_
    refine pa 6 (some 67) (yz 19 127) HT_ ?_
    refine pa 11 (some 72) (yz 19 2175) HT_ ?_
    refine pa 13 (some 74) (yz 19 10367) HT_ ?_
    refine take_ (i := 7) (N := some 68) (v := ?_) (a' := ?_) (yz 19 10495) rfl rfl (take_ofW HT_.out HW_.out (by kernel_rfl)) (fun _ _ _ h => h) (Or.inl ⟨by rfl, ?_⟩) hHeld ?_ ?_
    rotate_left
    ·intro w' s0
     (try simp only [Int.toNat_natCast] at s0)
     go_simp
     with_reducible rfl
    rotate_left
    ·simp only [Act.put, qa, qb, qc, i64_w, i32_w]
     rfl
    refine pa 8 (some 69) (yz 19 10751) HT_ ?_
    refine pa 9 (some 70) (yz 19 11263) HT_ ?_
    refine join_ (σ := Value × Value × Value) 4 (yz 19 32767) (fun s_ => [(71, s_.1), (73, s_.2.1), (75, s_.2.2)]) (fun s_ w' => (w'.cell? (ad518.add ((l2.length : Int)).toNat) = some (.int .i64 (rd l0 (l2.length : Int)))) ∧ (Kd.R (Kd.int .i64) 3 w' w.heap.size (fun k_ => (w.heap.size ≤ k_) ∧ some k_ ≠ (s_.2.2 : Value).ownBlock) s_.2.1 y523) ∧ (Kd.R (Kd.int .i64) 3 w' w.heap.size (fun k_ => (w.heap.size ≤ k_) ∧ some k_ ≠ (s_.2.1 : Value).ownBlock) s_.2.2 y526) ∧ (Kd.N kow 24 w' w.heap.size (fun k_ => (w.heap.size ≤ k_) ∧ some k_ ≠ (s_.2.1 : Value).ownBlock ∧ some k_ ≠ (s_.2.2 : Value).ownBlock) (.slice Ao54 x8_1.length co54) x8_1) ∧ (Below w.heap.size w w')) ?_ ?_
    rotate_left
    ·intro hCont
     refine two_ (i := 10) (j := 14) (Ni := some 71) (Nj := some 75) (yz 19 12287) (yz 19 27647) rfl rfl rfl rfl (two_of HT_.out (by kernel_rfl)) (by decide) (by decide) (fun K hK => ?_) (fun K hK => ?_)
     ·skip
      refine Kd.R_lit_step (Kd.int .i64) _ 3 ?hg (N := 71) ?hd (xs := ([] : List Int)) (inner := []) (ok := fun _ => True) (okp := fun _ => True) ?hr ?hp (fun _ hk => hk) trivial (Below.refl _ _) (Nat.le_refl _) (by simp) ?_; (case hd => rfl); (case hg => rfl); (case hr => first | (go_simp; done) | (go_simp; rfl)); (case hp => exact (Reps.none _ _))
      intro v521 w56 ho57 hb hg_ hnew_
      clear hg_ hnew_
      (first | rw [← Ny520.out] at ho57 | (simp only [Int.reduceToNat] at ho57; rw [← Ny520.out] at ho57))
      replace HO_8 := am (Kd.N_elder' (no HO_8.out) (Kd.R_base ho57) hb)
      have HO522 := am (Kd.R_lower (Kd.R_newM (M := fun k_ => (w.heap.size ≤ k_)) ho57 (below_size bw) (fun k_ h_ => h_)) (below_size bw))
      replace HB := am (below_step bw hb)
      clear hb ho57
      refine hK.out _ _ (((HB.out.cell (World.block_lt_of_cell? w _ hw519_0)).trans hw519_0)) (fun hHeld => ?_)
      clear hK K
      refine nm (some 71) ?_
      refine two_ (i := 12) (j := 14) (Ni := some 73) (Nj := some 75) (yz 19 16383) (yz 19 28671) rfl rfl rfl rfl (two_of HT_.out (by kernel_rfl)) (by decide) (by decide) (fun K hK => ?_) (fun K hK => ?_)
      ·skip
       refine Kd.R_append_rows_step (Kd.int .i64) (w0 := w) w.heap.size (by rfl) (.tmp 71) (.tmp 72) 24 3 (.int .i64 0) 8 rfl Tryd.underlying24 info3 rfl (by decide) (by omega) v521 y520 l2 _ _ _ (fun k_ => (w.heap.size ≤ k_)) (fun _ => False) rfl rfl ?aO ?aR (fun _ _ h => h) (fun _ h => h.elim) ?aF ?aB ?aS ?aL ?_
       (case aR => exact co (Kd.C_below HR2.out HB.out))
       (case aB => exact bw)
       (case aF => exact (fun k_ hk => (Nat.le_trans (below_size bw) hk)))
       (case aO => exact (by (with_reducible repeat (first | apply Kd.R_alloc | apply Kd.R_drewN | apply Kd.R_drew)); exact Kd.R_mono HO522.out (fun _ hk => hk.1)))
       (case aS => exact (below_size bw))
       (case aL => have := LMc50.out; omega)
       intro v524 w58 ho hb hg hat
       rw [← Ny523.out] at ho
       replace HO_8 := am (Kd.N_afterv (ok := (fun k_ => (w.heap.size ≤ k_))) (no HO_8.out) hg hat)
       replace HB := am (hb)
       have HO525 := am (ho)
       clear HO522 ho hb hg hat
       refine hK.out _ _ (((HB.out.cell (World.block_lt_of_cell? w _ hw519_0)).trans hw519_0)) (fun hHeld => ?_)
       clear hK K
       refine nm (some 73) ?_
       refine oa 14 (some 75) (yz 19 32767) HT_ (fun K hK => ?_)
       refine Kd.R_lit_step (Kd.int .i64) _ 3 ?hg (N := 75) ?hd (xs := ([x9_1] : List Int)) (inner := [.int .i64 x9_1]) (ok := fun _ => True) (okp := fun _ => True) ?hr ?hp (fun _ hk => hk) trivial (Below.refl _ _) (Nat.le_refl _) (by simp) ?_; (case hd => rfl); (case hg => rfl); (case hr => first | (go_simp; done) | (go_simp; rfl)); (case hp => exact (Reps.one (show Kd.M (Kd.int .i64) _ _ _ x9_1 [.int .i64 x9_1] from rfl) (Reps.none _ _)))
       intro v527 w59 ho60 hb hg_ hnew_
       clear hg_ hnew_
       (first | rw [← Ny526.out] at ho60 | (simp only [Int.reduceToNat] at ho60; rw [← Ny526.out] at ho60))
       replace HO_8 := am (Kd.N_elder' (no HO_8.out) (Kd.R_base ho60) hb)
       have HO528 := am (Kd.R_lower (Kd.R_new' (Kd.R_newM (M := fun k_ => (w.heap.size ≤ k_)) ho60 (below_size bw) (fun k_ h_ => h_)) (Kd.R_lt (ro HO525.out))) (below_size bw))
       replace HO525 := am (Kd.R_elder' (ro HO525.out) (Kd.R_base ho60) hb)
       replace HB := am (below_step bw hb)
       clear hb ho60
       refine hK.out _ _ (((HB.out.cell (World.block_lt_of_cell? w _ hw519_0)).trans hw519_0)) (fun hHeld => ?_)
       clear hK K
       refine nm (some 75) ?_
       exact norm_ (by simp only [putAll, Act.put, List.setIfInBounds_toArray, List.set_cons_zero, List.set_cons_succ]) (hCont (v521, v524, v527) _ ⟨hHeld, (ro HO525.out), (by (with_reducible repeat (first | apply Kd.R_alloc | apply Kd.R_drewN | apply Kd.R_drew)); exact Kd.R_mono HO528.out (fun _ hk => by first | exact ⟨hk.1.1, hk.2⟩ | simp_all)), (by (with_reducible repeat (first | apply Kd.N_alloc | apply Kd.N_drewN | apply Kd.N_drew)); exact Kd.N_mono HO_8.out (fun _ hk => ⟨hk.1.1, ⟨hk.1.2, hk.2⟩⟩)), bw⟩)
      skip
      refine Kd.R_lit_step (Kd.int .i64) _ 3 ?hg (N := 75) ?hd (xs := ([x9_1] : List Int)) (inner := [.int .i64 x9_1]) (ok := fun _ => True) (okp := fun _ => True) ?hr ?hp (fun _ hk => hk) trivial (Below.refl _ _) (Nat.le_refl _) (by simp) ?_; (case hd => rfl); (case hg => rfl); (case hr => first | (go_simp; done) | (go_simp; rfl)); (case hp => exact (Reps.one (show Kd.M (Kd.int .i64) _ _ _ x9_1 [.int .i64 x9_1] from rfl) (Reps.none _ _)))
      intro v527 w58 ho59 hb hg_ hnew_
      clear hg_ hnew_
      (first | rw [← Ny526.out] at ho59 | (simp only [Int.reduceToNat] at ho59; rw [← Ny526.out] at ho59))
      replace HO_8 := am (Kd.N_elder' (no HO_8.out) (Kd.R_base ho59) hb)
      have HO528 := am (Kd.R_lower (Kd.R_new' (Kd.R_newM (M := fun k_ => (w.heap.size ≤ k_)) ho59 (below_size bw) (fun k_ h_ => h_)) (Kd.R_lt (ro HO522.out))) (below_size bw))
      replace HO522 := am (Kd.R_elder' (ro HO522.out) (Kd.R_base ho59) hb)
      replace HB := am (below_step bw hb)
      clear hb ho59
      refine hK.out _ _ (((HB.out.cell (World.block_lt_of_cell? w _ hw519_0)).trans hw519_0)) (fun hHeld => ?_)
      clear hK K
      refine nm (some 75) ?_
      refine oa 12 (some 73) (yz 19 32767) HT_ (fun K hK => ?_)
      refine Kd.R_append_rows_step (Kd.int .i64) (w0 := w) w.heap.size (by rfl) (.tmp 71) (.tmp 72) 24 3 (.int .i64 0) 8 rfl Tryd.underlying24 info3 rfl (by decide) (by omega) v521 y520 l2 _ _ _ (fun k_ => (w.heap.size ≤ k_) ∧ some k_ ≠ (v527 : Value).ownBlock) (fun _ => False) rfl rfl ?aO ?aR (fun _ _ h => h) (fun _ h => h.elim) ?aF ?aB ?aS ?aL ?_
      (case aR => exact co (Kd.C_below HR2.out HB.out))
      (case aB => exact bw)
      (case aF => exact (fun k_ hk => ⟨(Nat.le_trans (below_size bw) hk), Kd.fresh' (Kd.R_lt (ro HO528.out)) k_ hk⟩))
      (case aO => exact (by (with_reducible repeat (first | apply Kd.R_alloc | apply Kd.R_drewN | apply Kd.R_drew)); exact Kd.R_mono HO522.out (fun _ hk => by first | exact ⟨hk.1.1, hk.2⟩ | simp_all)))
      (case aS => exact (below_size bw))
      (case aL => have := LMc50.out; omega)
      intro v524 w60 ho hb hg hat
      rw [← Ny523.out] at ho
      replace HO_8 := am (Kd.N_afterv (ok := (fun k_ => (w.heap.size ≤ k_) ∧ some k_ ≠ (v527 : Value).ownBlock)) (by (with_reducible repeat (first | apply Kd.N_alloc | apply Kd.N_drewN | apply Kd.N_drew)); exact Kd.N_mono HO_8.out (fun _ hk => ⟨⟨hk.1.1, hk.2⟩, hk.1.2⟩)) hg hat)
      replace HO528 := am (Kd.R_after (ok := (fun k_ => (w.heap.size ≤ k_))) (by (with_reducible repeat (first | apply Kd.R_alloc | apply Kd.R_drewN | apply Kd.R_drew)); exact Kd.R_mono HO528.out (fun _ hk => by first | exact ⟨hk.1.1, hk.2⟩ | simp_all)) hg hat)
      replace HB := am (hb)
      have HO525 := am (ho)
      clear HO522 ho hb hg hat
      refine hK.out _ _ (((HB.out.cell (World.block_lt_of_cell? w _ hw519_0)).trans hw519_0)) (fun hHeld => ?_)
      clear hK K
      refine nm (some 73) ?_
      exact norm_ (by simp only [putAll, Act.put, List.setIfInBounds_toArray, List.set_cons_zero, List.set_cons_succ]) (hCont (v521, v524, v527) _ ⟨hHeld, (ro HO525.out), (ro HO528.out), (by (with_reducible repeat (first | apply Kd.N_alloc | apply Kd.N_drewN | apply Kd.N_drew)); exact Kd.N_mono HO_8.out (fun _ hk => ⟨hk.1.1, ⟨hk.2, hk.1.2⟩⟩)), bw⟩)
     skip
     refine Kd.R_lit_step (Kd.int .i64) _ 3 ?hg (N := 75) ?hd (xs := ([x9_1] : List Int)) (inner := [.int .i64 x9_1]) (ok := fun _ => True) (okp := fun _ => True) ?hr ?hp (fun _ hk => hk) trivial (Below.refl _ _) (Nat.le_refl _) (by simp) ?_; (case hd => rfl); (case hg => rfl); (case hr => first | (go_simp; done) | (go_simp; rfl)); (case hp => exact (Reps.one (show Kd.M (Kd.int .i64) _ _ _ x9_1 [.int .i64 x9_1] from rfl) (Reps.none _ _)))
     intro v527 w56 ho57 hb hg_ hnew_
     clear hg_ hnew_
     (first | rw [← Ny526.out] at ho57 | (simp only [Int.reduceToNat] at ho57; rw [← Ny526.out] at ho57))
     replace HO_8 := am (Kd.N_elder' (no HO_8.out) (Kd.R_base ho57) hb)
     have HO528 := am (Kd.R_lower (Kd.R_newM (M := fun k_ => (w.heap.size ≤ k_)) ho57 (below_size bw) (fun k_ h_ => h_)) (below_size bw))
     replace HB := am (below_step bw hb)
     clear hb ho57
     refine hK.out _ _ (((HB.out.cell (World.block_lt_of_cell? w _ hw519_0)).trans hw519_0)) (fun hHeld => ?_)
     clear hK K
     refine nm (some 75) ?_
     refine oa 10 (some 71) (yz 19 28671) HT_ (fun K hK => ?_)
     refine Kd.R_lit_step (Kd.int .i64) _ 3 ?hg (N := 71) ?hd (xs := ([] : List Int)) (inner := []) (ok := fun _ => True) (okp := fun _ => True) ?hr ?hp (fun _ hk => hk) trivial (Below.refl _ _) (Nat.le_refl _) (by simp) ?_; (case hd => rfl); (case hg => rfl); (case hr => first | (go_simp; done) | (go_simp; rfl)); (case hp => exact (Reps.none _ _))
     intro v521 w58 ho59 hb hg_ hnew_
     clear hg_ hnew_
     (first | rw [← Ny520.out] at ho59 | (simp only [Int.reduceToNat] at ho59; rw [← Ny520.out] at ho59))
     replace HO_8 := am (Kd.N_elder' (no HO_8.out) (Kd.R_base ho59) hb)
     have HO522 := am (Kd.R_lower (Kd.R_new' (Kd.R_newM (M := fun k_ => (w.heap.size ≤ k_)) ho59 (below_size bw) (fun k_ h_ => h_)) (Kd.R_lt (ro HO528.out))) (below_size bw))
     replace HO528 := am (Kd.R_elder' (ro HO528.out) (Kd.R_base ho59) hb)
     replace HB := am (below_step bw hb)
     clear hb ho59
     refine hK.out _ _ (((HB.out.cell (World.block_lt_of_cell? w _ hw519_0)).trans hw519_0)) (fun hHeld => ?_)
     clear hK K
     refine nm (some 71) ?_
     refine oa 12 (some 73) (yz 19 32767) HT_ (fun K hK => ?_)
     refine Kd.R_append_rows_step (Kd.int .i64) (w0 := w) w.heap.size (by rfl) (.tmp 71) (.tmp 72) 24 3 (.int .i64 0) 8 rfl Tryd.underlying24 info3 rfl (by decide) (by omega) v521 y520 l2 _ _ _ (fun k_ => (w.heap.size ≤ k_) ∧ some k_ ≠ (v527 : Value).ownBlock) (fun _ => False) rfl rfl ?aO ?aR (fun _ _ h => h) (fun _ h => h.elim) ?aF ?aB ?aS ?aL ?_
     (case aR => exact co (Kd.C_below HR2.out HB.out))
     (case aB => exact bw)
     (case aF => exact (fun k_ hk => ⟨(Nat.le_trans (below_size bw) hk), Kd.fresh' (Kd.R_lt (ro HO528.out)) k_ hk⟩))
     (case aO => exact (by (with_reducible repeat (first | apply Kd.R_alloc | apply Kd.R_drewN | apply Kd.R_drew)); exact Kd.R_mono HO522.out (fun _ hk => by first | exact ⟨hk.1.1, hk.2⟩ | simp_all)))
     (case aS => exact (below_size bw))
     (case aL => have := LMc50.out; omega)
     intro v524 w60 ho hb hg hat
     rw [← Ny523.out] at ho
     replace HO_8 := am (Kd.N_afterv (ok := (fun k_ => (w.heap.size ≤ k_) ∧ some k_ ≠ (v527 : Value).ownBlock)) (no HO_8.out) hg hat)
     replace HO528 := am (Kd.R_after (ok := (fun k_ => (w.heap.size ≤ k_))) (by (with_reducible repeat (first | apply Kd.R_alloc | apply Kd.R_drewN | apply Kd.R_drew)); exact Kd.R_mono HO528.out (fun _ hk => by first | exact ⟨hk.1.1, hk.2⟩ | simp_all)) hg hat)
     replace HB := am (hb)
     have HO525 := am (ho)
     clear HO522 ho hb hg hat
     refine hK.out _ _ (((HB.out.cell (World.block_lt_of_cell? w _ hw519_0)).trans hw519_0)) (fun hHeld => ?_)
     clear hK K
     refine nm (some 73) ?_
     exact norm_ (by simp only [putAll, Act.put, List.setIfInBounds_toArray, List.set_cons_zero, List.set_cons_succ]) (hCont (v521, v524, v527) _ ⟨hHeld, (ro HO525.out), (ro HO528.out), (by (with_reducible repeat (first | apply Kd.N_alloc | apply Kd.N_drewN | apply Kd.N_drew)); exact Kd.N_mono HO_8.out (fun _ hk => ⟨hk.1.1, ⟨hk.2, hk.1.2⟩⟩)), bw⟩)
    rintro ⟨v521, v524, v527⟩ w61 ⟨hS_, h0_, h1_, h2_, h3_⟩
    have n0_ : Aside0 (Kd.R (Kd.int .i64) 3 w61 w.heap.size (fun k_ => (w.heap.size ≤ k_) ∧ some k_ ≠ (v527 : Value).ownBlock) v524 y523) := ⟨h0_⟩
    have n1_ : Aside0 (Kd.R (Kd.int .i64) 3 w61 w.heap.size (fun k_ => (w.heap.size ≤ k_) ∧ some k_ ≠ (v524 : Value).ownBlock) v527 y526) := ⟨h1_⟩
    have n2_ : Aside0 (Kd.N kow 24 w61 w.heap.size (fun k_ => (w.heap.size ≤ k_) ∧ some k_ ≠ (v524 : Value).ownBlock ∧ some k_ ≠ (v527 : Value).ownBlock) (.slice Ao54 x8_1.length co54) x8_1) := ⟨h2_⟩
    have n3_ : Aside0 (Below w.heap.size w w61) := ⟨h3_⟩
    clear HO_8
    clear HB
    clear h0_ h1_ h2_ h3_
    have HO525 := n0_
    have HO528 := n1_
    have HO_8 := n2_
    have HB := n3_
    clear n0_ n1_ n2_ n3_
    have hHeld : w61.cell? (ad518.add ((l2.length : Int)).toNat) = some (.int .i64 (rd l0 (l2.length : Int))) := hS_
    obtain ⟨Ao63, co63, eo63⟩ := Kd.R_slice HO528.out
    (first | subst eo63 | (injection eo63 with f1_ f2_ f3_; have f4_ := f1_.symm; have f5_ := f3_.symm; clear f1_ f2_ f3_; subst f4_; subst f5_))
    refine norm_ (a' := ?_) ?_ ?_
    rotate_left
    ·simp only [putAll, Act.put, List.setIfInBounds_toArray, List.set_cons_zero, List.set_cons_succ]
     rfl
    refine oa 15 (some 76) (yz 19 65535) HT_ (fun K hK => ?_)
    refine Kd.R_append_rows_step (Kd.int .i64) (w0 := w) w.heap.size (by rfl) (.tmp 73) (.tmp 75) 24 3 (.int .i64 0) 8 rfl Tryd.underlying24 info3 rfl (by decide) (by omega) v524 y523 y526 _ _ _ (fun k_ => (w.heap.size ≤ k_) ∧ nb k_ Ao63 y526 co63) (fun _ => False) rfl rfl ?aO ?aR (fun _ _ h => h) (fun _ h => h.elim) ?aF ?aB ?aS ?aL ?_
    (case aR => exact co (Kd.R_reads' HO528.out).2.2)
    (case aB => exact bw)
    (case aF => exact (fun k_ hk => ⟨(Nat.le_trans (below_size bw) hk), Kd.fresh' (Kd.R_lt (ro HO528.out)) k_ hk⟩))
    (case aO => exact (ro HO525.out))
    (case aS => exact (below_size bw))
    (case aL => have := LMc51.out; omega)
    intro v530 w62 ho hb hg hat
    rw [← Ny529.out] at ho
    replace HO_8 := am (Kd.N_afterv (ok := (fun k_ => (w.heap.size ≤ k_) ∧ nb k_ Ao63 y526 co63)) (by (with_reducible repeat (first | apply Kd.N_alloc | apply Kd.N_drewN | apply Kd.N_drew)); exact Kd.N_mono HO_8.out (fun _ hk => ⟨⟨hk.1, hk.2.2⟩, hk.2.1⟩)) hg hat)
    replace HO528 := am (Kd.R_after (ok := (fun k_ => (w.heap.size ≤ k_))) (ro HO528.out) hg hat)
    replace HB := am (hb)
    have HO531 := am (ho)
    clear HO525 ho hb hg hat
    obtain ⟨Ao64, co64, eo64⟩ := Kd.R_slice HO531.out
    (first | subst eo64 | (injection eo64 with f1_ f2_ f3_; have f4_ := f1_.symm; have f5_ := f3_.symm; clear f1_ f2_ f3_; subst f4_; subst f5_))
    refine hK.out _ _ (((HB.out.cell (World.block_lt_of_cell? w _ hw519_0)).trans hw519_0)) (fun hHeld => ?_)
    clear hK K
    refine nm (some 76) ?_
    refine oa 16 (some 77) (yz 19 131071) HT_ (fun K hK => ?_)
    refine goes_ Tryd.func34 (by kernel_rfl) rfl #[.slice (some ad518) l0.length c0, .int .i64 (wrap64 (a1 - (wrap64 (x9_1 * (rd l0 (l2.length : Int)))))), .slice Ao64 y529.length co64] (by rfl) rfl rfl (by (try simp only [List.map_toArray, List.map_cons, List.map_nil]); first | done | rfl | (simp only [List.length_drop, List.length_take]; rfl)) ?_
    with_reducible refine (ih k1 (by have := HK1.out; omega) _ _ l0 (wrap64 (a1 - (wrap64 (x9_1 * (rd l0 (l2.length : Int)))))) _ _ y529 t532 _ ?side1 ?side2 ?side3 ?side4 A52.out).mono ?_
    (case side1 => exact co (Kd.C_below HR0.out HB.out))
    (case side2 => exact HC0.out)
    (case side3 => exact co (Kd.R_reads' HO531.out).2.2)
    (case side4 => exact (Kd.R_reads' HO531.out).2.1)
    rintro e w65 ⟨v533, rfl, ho0, hb⟩
    refine ⟨_, rfl, ?_⟩
    have HO534 := am (Kd.N_lower (Kd.N_mono (ok' := fun k_ => (w.heap.size ≤ k_) ∧ nb k_ Ao54 x8_1 co54 ∧ nb k_ Ao63 y526 co63 ∧ nb k_ Ao64 y529 co64) ho0 (fun k_ hk_ => ⟨(Nat.le_trans (below_size bw) hk_), (Kd.fresh' (Kd.N_lt (no HO_8.out)) k_ hk_), (Kd.fresh' (Kd.R_lt (ro HO528.out)) k_ hk_), (Kd.fresh' (Kd.R_lt (ro HO531.out)) k_ hk_)⟩)) (below_size bw))
    replace HO_8 := am (Kd.N_elder' (no HO_8.out) (Kd.N_base ho0) hb)
    replace HO528 := rK HO528 hb
    replace HO531 := rK HO531 hb
    replace HB := am (below_step bw hb)
    clear hb ho0
    obtain ⟨Ao67, co67, eo67⟩ := Kd.N_slice HO534.out
    (first | subst eo67 | (injection eo67 with f1_ f2_ f3_; have f4_ := f1_.symm; have f5_ := f3_.symm; clear f1_ f2_ f3_; subst f4_; subst f5_))
    refine hK.out _ _ (((HB.out.cell (World.block_lt_of_cell? w _ hw519_0)).trans hw519_0)) (fun hHeld => ?_)
    clear hK K
    refine nm (some 77) ?_
    refine oa 17 (some 78) (yz 19 262143) HT_ (fun K hK => ?_)
    refine Kd.N_append_rows_step kow (w0 := w) w.heap.size (by rfl) (.tmp 61) (.tmp 77) 29 24 (.slice none 0 0) 24 rfl Tryd.underlying29 info24 rfl (by decide) (by omega) (.slice Ao54 x8_1.length co54) x8_1 t532 _ _ _ (fun k_ => (w.heap.size ≤ k_) ∧ nb k_ Ao63 y526 co63 ∧ nb k_ Ao64 y529 co64) (fun k_ => ((fun k_ => (w.heap.size ≤ k_) ∧ nb k_ Ao63 y526 co63 ∧ nb k_ Ao64 y529 co64)) k_ ∧ nb k_ Ao54 x8_1 co54) rfl rfl ?aO ?aR (fun _ hk => hk) ?aF ?aB ?aS ?aL ?_
    (case aR => exact (by skip; exact Kd.N_F (Kd.N_mono (ok' := (fun k_ => ((fun k_ => (w.heap.size ≤ k_) ∧ nb k_ Ao63 y526 co63 ∧ nb k_ Ao64 y529 co64)) k_ ∧ nb k_ Ao54 x8_1 co54)) (HO534.out) (fun k_ hk => ⟨⟨hk.1, ⟨hk.2.2.1, hk.2.2.2⟩⟩, hk.2.1⟩))))
    (case aB => exact bw)
    (case aF => exact (fun k_ hk => ⟨(Nat.le_trans (below_size bw) hk), Kd.fresh' (Kd.R_lt (ro HO528.out)) k_ hk, Kd.fresh' (Kd.R_lt (ro HO531.out)) k_ hk⟩))
    (case aO => exact (by (with_reducible repeat (first | apply Kd.N_alloc | apply Kd.N_drewN | apply Kd.N_drew)); exact Kd.N_mono HO_8.out (fun _ hk => ⟨hk.1.1.1, ⟨hk.1.1.2, hk.1.2⟩⟩)))
    (case aS => exact (below_size bw))
    (case aL => have := LMc53.out; omega)
    intro v536 w66 ho hb hg hat
    rw [← Ny535.out] at ho
    replace HO528 := am (Kd.R_over' (ro HO528.out) (Kd.N_typed (no HO_8.out)) (by decide) hg)
    replace HO531 := am (Kd.R_over' (ro HO531.out) (Kd.N_typed (no HO_8.out)) (by decide) hg)
    replace HO534 := am (Kd.N_afterv (ok := (fun k_ => (w.heap.size ≤ k_) ∧ nb k_ Ao63 y526 co63 ∧ nb k_ Ao64 y529 co64)) (by (with_reducible repeat (first | apply Kd.N_alloc | apply Kd.N_drewN | apply Kd.N_drew)); exact Kd.N_mono HO534.out (fun _ hk => ⟨⟨hk.1, ⟨hk.2.2.1, hk.2.2.2⟩⟩, hk.2.1⟩)) hg hat)
    replace HB := am (hb)
    have HO537 := am (ho)
    clear HO_8 ho hb hg hat
    refine hK.out _ _ (((HB.out.cell (World.block_lt_of_cell? w _ hw519_0)).trans hw519_0)) (fun hHeld => ?_)
    clear hK K
    refine nm (some 78) ?_
    refine pa 18 (some 8) (yz 19 524287) HT_ ?_
    refine done_ (done_of HT_.out (by kernel_rfl)) ?_
    try go_wp2
    go_roundg k1
    case measure => have := HK1.out; omega
    case rel => exact ⟨(y535), (wrap64 (x9_1 - 1)), rr, H', ⟨by have := HK1.out; omega⟩, ⟨by (with_reducible repeat (first | apply Kd.N_alloc | apply Kd.N_drewN | apply Kd.N_drew)); exact Kd.N_mono HO537.out (fun _ hk => hk.1)⟩, ⟨bw⟩⟩
   have c47b0 : decide (0 ≤ x9_1) = false := decide_eq_false c47
   clear c47
   obtain rfl := Option.some.inj H
   go_wp2
   go_ret
   exact ⟨_, re, by (with_reducible repeat (first | apply Kd.N_alloc | apply Kd.N_drewN | apply Kd.N_drew)); exact HO_8.out, bw⟩


/-! ### spec_Factorizations: function 11 -/
def spec_Factorizations.f (k : Nat) (l0_0 : List Int) (a1 : Int) : Option ((List (List Int))) := (spec_IsSemigroup.f k l0_0).bind fun t539 => (if t539 = true then ((spec_l1In.f a1 0 100).bind fun t540 => (if t540 = true then ((spec_l11Find.f k l0_0 a1 (([] : List Int))).bind fun t544 => (some t544)) else (some (([] : List (List Int)))))) else (some (([] : List (List Int)))))
set_option maxHeartbeats 8000000 in
set_option maxRecDepth 100000 in
theorem spec_Factorizations.callsO (k : Nat) (A0_0 : Option Addr) (c0_0 : Nat) (l0_0 : List Int) (a1 : Int) (r : List (List Int)) (w : World) (hr0_0 : Kd.C (Kd.int .i64) w A0_0 l0_0.length l0_0) (hc0_0 : l0_0.length ≤ c0_0) (h : spec_Factorizations.f k l0_0 a1 = some r) :
  Calls Tryd.prog 11 #[.agg #[.slice A0_0 l0_0.length c0_0], .int .i64 a1] w fun e w' => ∃ v0_ : Value, e = .returned (v0_) ∧ Kd.N kow 24 w' w.heap.size (fun k_ => (w.heap.size ≤ k_)) v0_ r ∧ Below w.heap.size w w' := by
 have hu26 := Tryd.underlying26
 have HR0_0 := am hr0_0
 have HC0_0 := am hc0_0
 clear hr0_0 hc0_0
 have HB := am (Below.refl w.heap.size w)
 have H : ((spec_IsSemigroup.f k l0_0).bind fun t539 => (if t539 = true then ((spec_l1In.f a1 0 100).bind fun t540 => (if t540 = true then ((spec_l11Find.f k l0_0 a1 (([] : List Int))).bind fun t544 => (some t544)) else (some (([] : List (List Int)))))) else (some (([] : List (List Int)))))) = some r := h
 clear h
 replace H := ga H; obtain ⟨t539, A3, H⟩ := H
 replace H := gb H; obtain ⟨rfl, H⟩ | ⟨rfl, H⟩ := H
 ·replace H := ga H; obtain ⟨t540, A5, H⟩ := H
  replace H := gb H; obtain ⟨rfl, H⟩ | ⟨rfl, H⟩ := H
  ·obtain ⟨y541, hy541⟩ : ∃ y_ : List Int, y_ = (([] : List Int)) := ⟨_, rfl⟩
   replace H : ((spec_l11Find.f k l0_0 a1 y541).bind fun t544 => (some t544)) = some r := by first | (rw [hy541]; with_reducible first | exact H | exact bs H) | (with_reducible first | exact bs H | exact H) | (rw [hy541]; exact H) | exact H
   have Ny541 := am hy541
   clear hy541
   replace H := ga H; obtain ⟨t544, A7, H⟩ := H
   obtain rfl := Option.some.inj H
   go_enter Tryd.func11, Tryd.ntmps11
   go_wp2_with (first | ((with_reducible refine gate_dst (N := 2) rfl ?_); refine bx 2 #[.slice A0_0 l0_0.length c0_0] 26 ?_; intro gb538 hg w8 hbox hb; have BK538 := am (hbox); have GW538 := am (gs hg : w.heap.size ≤ gb538); have GE538 := GW538; replace HB := am (below_step bw hb); clear hb hbox hg; have hcz9_0 := bc BK538 0 (.slice A0_0 l0_0.length c0_0); have hfz9_0 := blk_frozen BK538.out 0) | ((with_reducible refine gate_callee (f := 22) rfl ?_); refine goesL_ (some 6) rfl rfl Tryd.func22 (by kernel_rfl) rfl #[.agg #[.slice A0_0 l0_0.length c0_0]] rfl (by (try simp only [List.map_toArray, List.map_cons, List.map_nil]); first | done | rfl | (simp only [List.length_drop, List.length_take]; rfl)) ?_; (with_reducible refine (spec_IsSemigroup.calls k _ _ l0_0 true _ ?side1 ?side2 A3.out).mono ?_); (case side1 => exact co (Kd.C_below HR0_0.out HB.out)); (case side2 => exact HC0_0.out); rintro e w10 ⟨rfl, hb⟩; refine ⟨_, rfl, ?_⟩; replace BK538 := kb BK538 hb; replace HB := am (below_step bw hb); clear hb) | (go_at_call 33; (with_reducible refine (spec_l1In.calls a1 0 100 true _ A5.out).mono ?_); rintro e w' ⟨rfl, ⟨nd, rfl⟩⟩; have hcz11_0 := bc BK538 0 (.slice A0_0 l0_0.length c0_0); have hfz11_0 := blk_frozen BK538.out 0) | ((with_reducible refine gate_dst (N := 17) rfl ?_); refine Kd.R_lit (Kd.int .i64) _ 3 ?hg (N := 17) ?hd (xs := ([] : List Int)) (inner := []) (ok := fun _ => True) (okp := fun _ => True) ?hr ?hp (fun _ hk => hk) trivial (Below.refl _ _) (Nat.le_refl _) (by simp) ?_; (case hd => rfl); (case hg => rfl); (case hr => first | (go_simp; done) | (go_simp; rfl)); (case hp => exact (Reps.none _ _)); intro v542 w12 ho13 hb hg_ hnew_; clear hg_ hnew_; (first | rw [← Ny541.out] at ho13 | (simp only [Int.reduceToNat] at ho13; rw [← Ny541.out] at ho13)); have HO543 := am (Kd.R_lower (Kd.R_newM (M := fun k_ => (w.heap.size ≤ k_)) ho13 (below_size bw) (fun k_ h_ => h_)) (below_size bw)); replace BK538 := kb BK538 hb; replace HB := am (below_step bw hb); clear hb ho13; obtain ⟨Ao14, co14, eo14⟩ := Kd.R_slice HO543.out; subst eo14) | ((with_reducible refine gate_callee (f := 34) rfl ?_); refine goesL_ (some 18) rfl rfl Tryd.func34 (by kernel_rfl) rfl #[.slice A0_0 l0_0.length c0_0, .int .i64 a1, .slice Ao14 y541.length co14] rfl (by (try simp only [List.map_toArray, List.map_cons, List.map_nil]); first | done | rfl | (simp only [List.length_drop, List.length_take]; rfl)) ?_; (with_reducible refine (spec_l11Find.calls k _ _ l0_0 a1 _ _ y541 t544 _ ?side1 ?side2 ?side3 ?side4 A7.out).mono ?_); (case side1 => exact co (Kd.C_below HR0_0.out HB.out)); (case side2 => exact HC0_0.out); (case side3 => exact co (Kd.R_reads' HO543.out).2.2); (case side4 => exact (Kd.R_reads' HO543.out).2.1); rintro e w15 ⟨v545, rfl, ho0, hb⟩; refine ⟨_, rfl, ?_⟩; have HO546 := am (Kd.N_lower (Kd.N_mono (ok' := fun k_ => (w.heap.size ≤ k_) ∧ nb k_ Ao14 y541 co14 ∧ k_ ≠ gb538) ho0 (fun k_ hk_ => ⟨(Nat.le_trans (below_size bw) hk_), (Kd.fresh' (Kd.R_lt (ro HO543.out)) k_ hk_), (Kd.freshB (g := gb538) (o := .cells #[.slice A0_0 l0_0.length c0_0] 26 (0, 0)) (bo BK538.out) k_ hk_)⟩)) (below_size bw)); replace HO543 := rK HO543 hb; replace BK538 := kb BK538 hb; replace HB := am (below_step bw hb); clear hb ho0))
   go_ret
   exact ⟨_, re, by (with_reducible repeat (first | apply Kd.N_alloc | apply Kd.N_drewN | apply Kd.N_drew)); exact Kd.N_mono HO546.out (fun _ hk => hk.1), bw⟩
  obtain ⟨y547, hy547⟩ : ∃ y_ : List (List Int), y_ = (([] : List (List Int))) := ⟨_, rfl⟩
  replace H : (some y547) = some r := by first | (rw [hy547]; with_reducible first | exact H | exact bs H) | (with_reducible first | exact bs H | exact H) | (rw [hy547]; exact H) | exact H
  have Ny547 := am hy547
  clear hy547
  obtain rfl := Option.some.inj H
  go_enter Tryd.func11, Tryd.ntmps11
  go_wp2_with (first | ((with_reducible refine gate_dst (N := 2) rfl ?_); refine bx 2 #[.slice A0_0 l0_0.length c0_0] 26 ?_; intro gb538 hg w16 hbox hb; have BK538 := am (hbox); have GW538 := am (gs hg : w.heap.size ≤ gb538); have GE538 := GW538; replace HB := am (below_step bw hb); clear hb hbox hg; have hcz17_0 := bc BK538 0 (.slice A0_0 l0_0.length c0_0); have hfz17_0 := blk_frozen BK538.out 0) | ((with_reducible refine gate_callee (f := 22) rfl ?_); refine goesL_ (some 6) rfl rfl Tryd.func22 (by kernel_rfl) rfl #[.agg #[.slice A0_0 l0_0.length c0_0]] rfl (by (try simp only [List.map_toArray, List.map_cons, List.map_nil]); first | done | rfl | (simp only [List.length_drop, List.length_take]; rfl)) ?_; (with_reducible refine (spec_IsSemigroup.calls k _ _ l0_0 true _ ?side1 ?side2 A3.out).mono ?_); (case side1 => exact co (Kd.C_below HR0_0.out HB.out)); (case side2 => exact HC0_0.out); rintro e w18 ⟨rfl, hb⟩; refine ⟨_, rfl, ?_⟩; replace BK538 := kb BK538 hb; replace HB := am (below_step bw hb); clear hb) | (go_at_call 33; (with_reducible refine (spec_l1In.calls a1 0 100 false _ A5.out).mono ?_); rintro e w' ⟨rfl, ⟨nd, rfl⟩⟩) | ((with_reducible refine gate_dst (N := 13) rfl ?_); refine Kd.N_lit kow _ 24 ?hg (N' := 13) ?hd (xs := ([] : List (List Int))) (inner := []) (ok := (fun k_ => (w.heap.size ≤ k_) ∧ k_ ≠ gb538)) (okp := (fun k_ => (w.heap.size ≤ k_) ∧ k_ ≠ gb538)) ?hr ?hp (fun _ hk => hk) ((show ∀ k_, w18.heap.size ≤ k_ → (fun k_ => (w.heap.size ≤ k_) ∧ k_ ≠ gb538) k_ from fun k_ hk => ⟨(Nat.le_trans (below_size bw) hk), Kd.freshB (g := gb538) (o := .cells #[.slice A0_0 l0_0.length c0_0] 26 (0, 0)) (bo BK538.out) k_ hk⟩) _ (Nat.le_refl _)) (Below.refl _ _) (Nat.le_refl _) (by simp) ?_; (case hd => rfl); (case hg => rfl); (case hr => first | (go_simp; done) | (go_simp; rfl)); (case hp => exact (Reps.none _ _)); intro v548 w19 ho20 hb hg_ hnew_; clear hg_ hnew_; (first | rw [← Ny547.out] at ho20 | (simp only [Int.reduceToNat] at ho20; rw [← Ny547.out] at ho20)); have HO549 := am (Kd.N_lower ho20 (below_size bw)); replace BK538 := kb BK538 hb; replace HB := am (below_step bw hb); clear hb ho20))
  go_ret
  exact ⟨_, re, by (with_reducible repeat (first | apply Kd.N_alloc | apply Kd.N_drewN | apply Kd.N_drew)); exact Kd.N_mono HO549.out (fun _ hk => hk.1), bw⟩
 obtain ⟨y550, hy550⟩ : ∃ y_ : List (List Int), y_ = (([] : List (List Int))) := ⟨_, rfl⟩
 replace H : (some y550) = some r := by first | (rw [hy550]; with_reducible first | exact H | exact bs H) | (with_reducible first | exact bs H | exact H) | (rw [hy550]; exact H) | exact H
 have Ny550 := am hy550
 clear hy550
 obtain rfl := Option.some.inj H
 go_enter Tryd.func11, Tryd.ntmps11
 go_wp2_with (first | ((with_reducible refine gate_dst (N := 2) rfl ?_); refine bx 2 #[.slice A0_0 l0_0.length c0_0] 26 ?_; intro gb538 hg w21 hbox hb; have BK538 := am (hbox); have GW538 := am (gs hg : w.heap.size ≤ gb538); have GE538 := GW538; replace HB := am (below_step bw hb); clear hb hbox hg; have hcz22_0 := bc BK538 0 (.slice A0_0 l0_0.length c0_0); have hfz22_0 := blk_frozen BK538.out 0) | ((with_reducible refine gate_callee (f := 22) rfl ?_); refine goesL_ (some 6) rfl rfl Tryd.func22 (by kernel_rfl) rfl #[.agg #[.slice A0_0 l0_0.length c0_0]] rfl (by (try simp only [List.map_toArray, List.map_cons, List.map_nil]); first | done | rfl | (simp only [List.length_drop, List.length_take]; rfl)) ?_; (with_reducible refine (spec_IsSemigroup.calls k _ _ l0_0 false _ ?side1 ?side2 A3.out).mono ?_); (case side1 => exact co (Kd.C_below HR0_0.out HB.out)); (case side2 => exact HC0_0.out); rintro e w23 ⟨rfl, hb⟩; refine ⟨_, rfl, ?_⟩; replace BK538 := kb BK538 hb; replace HB := am (below_step bw hb); clear hb) | ((with_reducible refine gate_dst (N := 13) rfl ?_); refine Kd.N_lit kow _ 24 ?hg (N' := 13) ?hd (xs := ([] : List (List Int))) (inner := []) (ok := (fun k_ => (w.heap.size ≤ k_) ∧ k_ ≠ gb538)) (okp := (fun k_ => (w.heap.size ≤ k_) ∧ k_ ≠ gb538)) ?hr ?hp (fun _ hk => hk) ((show ∀ k_, w23.heap.size ≤ k_ → (fun k_ => (w.heap.size ≤ k_) ∧ k_ ≠ gb538) k_ from fun k_ hk => ⟨(Nat.le_trans (below_size bw) hk), Kd.freshB (g := gb538) (o := .cells #[.slice A0_0 l0_0.length c0_0] 26 (0, 0)) (bo BK538.out) k_ hk⟩) _ (Nat.le_refl _)) (Below.refl _ _) (Nat.le_refl _) (by simp) ?_; (case hd => rfl); (case hg => rfl); (case hr => first | (go_simp; done) | (go_simp; rfl)); (case hp => exact (Reps.none _ _)); intro v551 w24 ho25 hb hg_ hnew_; clear hg_ hnew_; (first | rw [← Ny550.out] at ho25 | (simp only [Int.reduceToNat] at ho25; rw [← Ny550.out] at ho25)); have HO552 := am (Kd.N_lower ho25 (below_size bw)); replace BK538 := kb BK538 hb; replace HB := am (below_step bw hb); clear hb ho25))
 go_ret
 exact ⟨_, re, by (with_reducible repeat (first | apply Kd.N_alloc | apply Kd.N_drewN | apply Kd.N_drew)); exact Kd.N_mono HO552.out (fun _ hk => hk.1), bw⟩
theorem spec_Factorizations.calls (k : Nat) (A0_0 : Option Addr) (c0_0 : Nat) (l0_0 : List Int) (a1 : Int) (r : List (List Int)) (w : World) (hr0_0 : Kd.C (Kd.int .i64) w A0_0 l0_0.length l0_0) (hc0_0 : l0_0.length ≤ c0_0) (h : spec_Factorizations.f k l0_0 a1 = some r) :
  Calls Tryd.prog 11 #[.agg #[.slice A0_0 l0_0.length c0_0], .int .i64 a1] w fun e w' => ∃ v0_ : Value, e = .returned (v0_) ∧ Kd.N (Kd.slice 3 (Kd.int .i64)) 24 w' w.heap.size (fun k_ => (w.heap.size ≤ k_)) v0_ r ∧ Below w.heap.size w w' :=
 (spec_Factorizations.callsO k A0_0 c0_0 l0_0 a1 r w hr0_0 hc0_0 h).mono (fun _ _ ⟨v, h1, h2, h3⟩ => ⟨v, h1, kow_N h2, h3⟩)

end Go.Proofs.YtbbehmbpoilffaaDoor.C
