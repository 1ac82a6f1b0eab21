/- For all lists of relations, all lists and all caps the program's ReachedBy returns what the reference's returns, in memory of its own; no condition besides the row's own. -/
import Derived.Test.YtfpjjjdiieplkaaRows
import Derived.Test.YtfpjjjdiieplkaaC5
import Derived.Test.YtfpjjjdiieplkaaPureFnExactReachedBy
import Derived.Deep.SlicePairs
import Derived.WalkKit
import Derived.ProofKit
import Derived.OpenShut
import Derived.ShutString
import Derived.ChangeOld
import Derived.Below
import Derived.SizedLaws
import Derived.Lib.SmallJoins
namespace Go.Proofs.Ytfpjjjdiieplkaa.fnExactReachedBy
open Go.ChangeShapes Go.WideShapes Go.ChangeAt Go.RowKit Go.Joins Go.Deep Go.Proofs.YtfpjjjdiieplkaaW.PrintWords
open Go.ChangeMaps (open_string shut_string)
set_option linter.unusedVariables false
theorem own : ownKnob Try.prog.godebug = none := by kernel_rfl
theorem laidOut : laidOutB Try.prog = true := by kernel_rfl
def IsRow (k : IntKind) (w : World) (a : Option Addr) (len cap : Nat) (zs : List Int) : Prop :=
  (a = none ∧ len = 0 ∧ cap = 0 ∧ zs = []) ∨
  ∃ x, a = some x ∧ len ≤ cap ∧ cap ≤ maxLen ∧ zs.length = cap ∧ (∀ i, i < zs.length → w.cell? (x.add i) = some (.int k (zs.getD i 0))) ∧ ∀ n ∈ zs, (Lit.int k n).wf = true
section
variable {H : Type} {enc : TypeId × Value → H} {P : Program} {w : World} {base : Nat} {spare : Nat → Bool} {held : Bool}
/-- A struct of one one-cell field, by value, opened. -/
theorem agg_one {r : Reach} {b0 : Nat} {t : TypeId} {f0 : Field} {v : Value} {d : DataW H} {p : List MemPlace} (hs : P.underlying t = some (.struct #[f0])) (hone : oneCellFields P #[f0] = true) (hC : P.cellsOf t = 1)
    (hv : Value.okWide P w r b0 t v) (h : DataW.Trod enc P w base spare held t v d p) :
    ∃ (v0 : Value) (y0 : DataW H × List MemPlace) (n : Nat), v = .agg #[v0] ∧ DataW.trod enc P w base spare held n f0.type [v0] = some y0 := by
  obtain ⟨cs, rfl, hsz⟩ := okWide_struct hs hv
  obtain ⟨l⟩ := cs
  match l, hsz.trans hC with
  | [c0], _ =>
    obtain ⟨fuel, hf⟩ := h
    obtain ⟨xs, n, _, hx, _, hlen, hg⟩ := DataW.trod_struct hs hf
    obtain ⟨o0, k0⟩ := hone_of hone 0 f0 rfl
    match xs, hlen with
    | [y0], _ => exact ⟨c0, y0, n, rfl, by simpa [Value.cells, o0, k0] using hg 0 f0 rfl⟩
theorem row_ints {t e : TypeId} {k : IntKind} {n : Nat} {v : Value} {y : DataW H × List MemPlace} (ht : P.underlying t = some (.slice e)) (he : P.underlying e = some (.int k)) (hc : P.cellsOf e = 1)
    (h : DataW.trod enc P w base (fun _ => true) held n t [v] = some y) : ∃ a len cap zs, v = .slice a len cap ∧ IsRow k w a len cap zs := by
  rcases open_ints ht he hc h with ⟨hcs, _⟩ | ⟨x, l, c, zs, hcs, _, hl, hm, hz, _, hcell, hwz⟩
  · exact ⟨none, 0, 0, [], by simpa using hcs, .inl ⟨rfl, rfl, rfl, rfl⟩⟩
  · exact ⟨some x, l, c, zs, by simpa using hcs, .inr ⟨x, rfl, hl, hm, by simpa using hz, hcell, hwz⟩⟩
end
theorem rows_rel {H : Type} {enc : TypeId × Value → H} {w : World} {base fuel : Nat} {held : Bool} {v : Value} {y : DataW H × List MemPlace} (h : DataW.trod enc Try.prog w base (fun _ => true) held fuel 41 [v] = some y) :
    ∃ a cap, ∃ l : List C.S32, v = .slice a l.length cap ∧ Kd.C C.k32 w a l.length l ∧ l.length ≤ cap ∧ l.length ≤ maxLen ∧ ∀ x ∈ l, (x.f0.length ≤ maxLen ∧ ∀ z ∈ x.f0, (Lit.int .i64 z).wf = true) ∧ (x.f1.length ≤ maxLen ∧ ∀ z ∈ x.f1, (Lit.int .i64 z).wf = true) := by
  rcases open_slice_pairs Try.underlying41 Try.underlying32 (by kernel_rfl) rfl rfl (by kernel_rfl) (by kernel_rfl) h with ⟨hcs, _⟩ | ⟨a, len, cap, m, n, V0, V1, D0, D1, P0, P1, hcs, _, hl, hm, hmm, _, hx⟩
  · exact ⟨none, 0, [], by simpa using hcs, Kd.C_nil _ _, Nat.le_refl _, Nat.zero_le _, fun x hx => by cases hx⟩
  · have hmc : m = cap := by rw [hmm]; rfl
    have each : ∀ i : Fin len, ∃ x : C.S32, ((x.f0.length ≤ maxLen ∧ ∀ z ∈ x.f0, (Lit.int .i64 z).wf = true) ∧ (x.f1.length ≤ maxLen ∧ ∀ z ∈ x.f1, (Lit.int .i64 z).wf = true)) ∧ ∃ c : List Value, c.length = 2 ∧ C.k32.K w x c ∧ ∀ j u, c[j]? = some u → w.cell? (a.add (i.1 * 2 + j)) = some u := by
      intro i
      obtain ⟨h0, h1, t0, t1⟩ := hx i.1 (by have := i.2; omega)
      obtain ⟨A0, n0, c0, z0, e0, w0⟩ := row_ints Try.underlying22 Try.underlying3 (by kernel_rfl) t0
      obtain ⟨l0, rfl, hr0, hm0, hw0, hc0⟩ := ReadsInt.ofRowC w0
      obtain ⟨A1, n1, c1, z1, e1, w1⟩ := row_ints Try.underlying22 Try.underlying3 (by kernel_rfl) t1
      obtain ⟨l1, rfl, hr1, hm1, hw1, hc1⟩ := ReadsInt.ofRowC w1
      refine ⟨⟨l0, l1⟩, ⟨⟨hm0, hw0⟩, ⟨hm1, hw1⟩⟩, [V0 i.1, V1 i.1], rfl, ?_, fun j u hj => ?_⟩
      · rw [e0, e1]
        exact C.k32_mk w ⟨l0, l1⟩ hc0 (Kd.C_of_reads (d := (0 : Int)) (h1 := fun _ => rfl) hr0) hc1 (Kd.C_of_reads (d := (0 : Int)) (h1 := fun _ => rfl) hr1)
      · match j, hj with
        | 0, hj => obtain rfl := Option.some.inj hj; exact h0
        | 1, hj => obtain rfl := Option.some.inj hj; exact h1
        | j + 2, hj => simp at hj
    have hln : (List.ofFn fun i => Classical.choose (each i)).length = len := List.length_ofFn
    refine ⟨some a, cap, List.ofFn (fun i => Classical.choose (each i)), by rw [hln]; simpa using hcs, ⟨rfl, by rw [hln]; have : maxLen ≤ 9223372036854775807 := (by decide); omega, fun _ => ⟨a, rfl, fun j q hj => ?_⟩⟩, by rw [hln]; exact hl, by rw [hln]; omega, fun x hx => ?_⟩
    · rw [List.getElem?_ofFn] at hj
      split at hj
      · obtain rfl := Option.some.inj hj
        exact (Classical.choose_spec (each ⟨j, _⟩)).2
      · cases hj
    · obtain ⟨i, rfl⟩ := List.mem_ofFn.1 hx
      exact (Classical.choose_spec (each i)).1
set_option maxRecDepth 100000 in
theorem lifted (os : Os) (started : os.Started) (H : Type) (enc : TypeId × Value → H) :
    ReturnsInHanded {} Try.checked os 8 .any (Rows.fnExactReachedBySpec.pre6 enc Try.prog Try.f8 Rows.fnExactReachedByRow.domain false) (Rows.fnExactReachedBySpec.post enc Try.prog Try.f8 false true false false) := by
  refine returnsInHanded_of_change_sized (C := Try.checked) own started (by kernel_rfl) Try.func8
    (ChangeSpec.witness6 (enc := enc) (C := Try.checked) false ⟨#[], #[.slice none 0 0, .slice none 0 0, .int .i64 0], []⟩ 8 (by kernel_rfl) (by kernel_rfl) (by kernel_rfl) (by kernel_rfl)) ?_
  intro W base args ds gs before hval0 hW hcnd hsz0 _
  clear hsz0
  have hval : ∀ (j : Nat) t v, Try.f8.params[j]? = some t → args[j]? = some v → Value.okWide Try.prog W .any base t v := hval0
  have hW' := hW
  obtain ⟨p, q, hA0, hV, rfl, hfz, hnd⟩ := hW
  have hA : DataW.TrodAll enc Try.prog W 0 (fun _ => true) true Try.f8.params.toList args.toList ds p := hA0
  rw [Try.params8] at hA hval
  obtain ⟨v0, vs0, d0, ds0, p0, q0, hargs, rfl, rfl, h0, r0⟩ := trodAll_cons hA
  obtain ⟨v1, vs1, d1, ds1, p1, q1, rfl, rfl, rfl, h1, r1⟩ := trodAll_cons r0
  obtain ⟨v2, vs2, d2, ds2, p2, q2, rfl, rfl, rfl, h2, r2⟩ := trodAll_cons r1
  obtain ⟨rfl, rfl, rfl⟩ := trodAll_nil r2
  obtain rfl : args = #[v0, v1, v2] := by cases args; simp_all
  obtain ⟨rfl, rfl⟩ := trodVars_none hV
  have k0 := h0
  have lt0 : ∀ x ∈ p0, x.block < W.heap.size := by obtain ⟨m, hm⟩ := k0; exact DataW.trod_lt m _ _ _ hm
  obtain ⟨b0, e0, f0, rfl⟩ := okWide_slice Try.underlying41 (hval 0 41 v0 rfl rfl)
  obtain ⟨fu0, hf0⟩ := h0
  obtain ⟨A0, c0, l0, eq0, hr0, hc0, hm0, hw0⟩ := rows_rel (v := .slice b0 e0 f0) (by simpa [Value.cells] using hf0)
  injection eq0 with q1_ q2_ q3_
  subst q1_ q2_ q3_
  have k1 := h1
  have lt1 : ∀ x ∈ p1, x.block < W.heap.size := by obtain ⟨m, hm⟩ := k1; exact DataW.trod_lt m _ _ _ hm
  obtain ⟨b1, e1, f1, rfl⟩ := okWide_slice Try.underlying22 (hval 1 22 v1 rfl rfl)
  obtain ⟨fu1, hf1⟩ := h1
  obtain ⟨A1, n1, c1, z1, eq1, w1⟩ := row_ints (v := .slice b1 e1 f1) Try.underlying22 Try.underlying3 (by kernel_rfl) (by simpa [Value.cells] using hf1)
  injection eq1 with q1_ q2_ q3_
  subst q1_ q2_ q3_
  obtain ⟨l1, rfl, hr1, hm1, hw1, hc1⟩ := ReadsInt.ofRowC w1
  obtain ⟨a2, rfl, rfl, rfl, w2⟩ := open_int Try.underlying3 (hval 2 3 v2 rfl rfl) h2
  clear hA0 hval0
  obtain ⟨k, hk⟩ := Pure.FnExactReachedBy l0 l1 a2 hm0 hw0 hm1 hw1 w2
  refine (C.laws_FnExactReachedBy.calls k _ _ l0 _ _ l1 a2 W hr0 hc0 (Kd.C_of_reads (d := (0 : Int)) (h1 := fun _ => rfl) hr1) hc1 hk).mono fun e W' ⟨he, bel⟩ => ?_
  subst he
  exact ⟨_, rfl, _, _, _, [], _, [], hW', trodAll_mk1 (shut_bool Try.underlying4 _), (trodAll_cons_mk (Below.trod laidOut (by kernel_rfl) (of_decide_eq_true (by kernel_rfl)) k0 bel lt0) (trodAll_cons_mk (Below.trod laidOut (by kernel_rfl) (of_decide_eq_true (by kernel_rfl)) k1 bel lt1) (trodAll_cons_mk (shut_int Try.underlying3 w2) trodAll_mk0))), rfl, bel.frame _, fun h => by cases h⟩
theorem over : Rows.fnExactReachedByRow.holds Try.pinned (OpenSpec.ofChange Rows.fnExactReachedBySpec) :=
  OpenClaim.holds_of_wide 8 Try.f8 rfl rfl rfl rfl rfl rfl rfl ⟨rfl, rfl, rfl, rfl, rfl⟩ rfl rfl rfl rfl rfl (by kernel_rfl) Try.func8 (by kernel_rfl)
    (of_decide_eq_true (by kernel_rfl)) (by unfold Func.isWrapper; first | (rw [if_pos (by decide +kernel)]; kernel_rfl) | (rw [if_neg (by decide +kernel)]; exact ⟨rfl, rfl⟩))
    (fun os started H enc _ => lifted os started H enc)
end Go.Proofs.Ytfpjjjdiieplkaa.fnExactReachedBy
namespace Go.Proofs.Ytfpjjjdiieplkaa
theorem fnExactReachedBy_holds : Rows.FnExactReachedBySaid := fnExactReachedBy.over
end Go.Proofs.Ytfpjjjdiieplkaa
#print axioms Go.Proofs.Ytfpjjjdiieplkaa.fnExactReachedBy_holds
