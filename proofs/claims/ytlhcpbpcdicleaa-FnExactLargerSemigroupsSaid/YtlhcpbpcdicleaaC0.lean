/- The kinds of values of the program. -/
import Derived.Test.YtlhcpbpcdicleaaProg
import Derived.Below
import Derived.Deep.Draws
import Derived.Deep.AppendLies
import Derived.Maps.AppendAt
import Derived.OwnWalk
import Derived.Laws.BytesArg
import Derived.Laws.MakeOwn
import Derived.Laws.OwnMore
import Derived.Deep.OwnRows
import Derived.Tactics
import Derived.Lib.ConvBytes
import Derived.Laws.Slices
import Derived.WalkKit
import Derived.KernelRfl
import Derived.RowKit3
import Derived.Deep.LoopGhost
import Derived.Deep.QuietTactic
import Derived.BigQuiet
import Derived.WideLaws
import Derived.Deep.DeepCutAuto
import Derived.Deep.CutBlock
import Derived.Deep.RegionHeld3
import Derived.Laws.Rows
import Derived.Lib.AppendStr
import Derived.ArgAppend
import Derived.Laws.IdiomCopy
import Derived.OrdersHeld
import Derived.Laws.BitsLemmas
import Derived.RowKit
import Derived.Test.YtlhcpbpcdicleaaSh
import Derived.Sort.OwnSortedInts
import Derived.Lib.OwnBridge
import Derived.Lib.OwnBridge
import Derived.Sort.WalkB12
import Derived.Lib.SlicesMore
import Derived.Deep.LoopGhost
import Derived.Test.YtlhcpbpcdicleaaK1
namespace Go.Proofs.Ytlhcpbpcdicleaa.C
open Go.RowKit Go.Proofs.YtlhcpbpcdicleaaW.PrintWords Go.Proofs.YtlhcpbpcdicleaaW.PrintLast Go.Proofs.YtlhcpbpcdicleaaW.PrintMore
attribute [local go_sem] max2_int min2_int max_two min_two max_three min_three max_four min_four   -- for this text's walks alone
abbrev Y : Bool := true
abbrev Z : Bool := false
theorem qa {α : Type} (l : List α) (i : Nat) (a : α) : l.toArray.setIfInBounds i a = (l.set i a).toArray := List.setIfInBounds_toArray ..
theorem qb {α : Type} (x : α) (l : List α) (a : α) : (x :: l).set 0 a = a :: l := rfl
theorem qc {α : Type} (x : α) (l : List α) (n : Nat) (a : α) : (x :: l).set (n + 1) a = x :: l.set n a := rfl
set_option linter.unusedVariables false
set_option linter.unusedSimpArgs false



def errW : Option Int → Value
 | none => .nilIface
 | some c => .iface 0 (.int .i64 c)
theorem errW_none : errW none = .nilIface := rfl
theorem errW_some (c : Int) : errW (some c) = .iface 0 (.int .i64 c) := rfl

theorem info3 : (Try.prog.info? 3).map (fun i => (i.zero, i.size, i.bytes)) = some (some (.int .i64 0), 1, 8) := by kernel_rfl
theorem info4 : (Try.prog.info? 4).map (fun i => (i.zero, i.size, i.bytes)) = some (some (.bool false), 1, 1) := by kernel_rfl
theorem info26 : (Try.prog.info? 26).map (fun i => (i.zero, i.size, i.bytes)) = some (some (.agg #[(.slice none 0 0)]), 1, 24) := by kernel_rfl
-- the values' own types
def rd_L2 (xs : List (List Int)) (i : Int) : (List Int) := xs.getD i.toNat ([] : List Int)
theorem at_L2 {w : World} {A : Option Addr} {n : Nat} {xs : List (List Int)} (h : Kd.C (Kd.slice 3 (Kd.int .i64)) w A n xs) (i : Int) (h0 : 0 ≤ i) (h1 : i < n) : ∃ ad A0 c0, A = some ad ∧ w.cell? (ad.add i.toNat) = some (.slice A0 (rd_L2 xs i).length c0) ∧ (rd_L2 xs i).length ≤ c0 ∧ (Kd.int .i64).C w A0 (rd_L2 xs i).length (rd_L2 xs i) := by
 obtain ⟨ad, c, e, _, hK, hc0⟩ := Kd.C_get h ([] : List Int) i h0 h1
 have hc : ∀ j u, c[j]? = some u → w.cell? (ad.add (i.toNat * 1 + j)) = some u := hc0
 obtain ⟨A0, c0, rfl, l0, g0⟩ := hK
 exact ⟨ad, A0, c0, e, by have hq := hc 0 _ rfl; rwa [Nat.mul_one, Nat.add_zero] at hq, l0, g0⟩

/-! #### struct type 26 -/
structure S26 where
 f0 : (List Int)
def z26 : S26 := ⟨([] : List Int)⟩
def k26 : Kd S26 := Kd.iso (Kd.slice 3 (Kd.int .i64)) (fun x : S26 => x.f0)
theorem k26_open {w : World} {x : S26} {cs : List Value} (h : k26.K w x cs) : ∃ A0 c0, cs = [.slice A0 x.f0.length c0] ∧ x.f0.length ≤ c0 ∧ (Kd.int .i64).C w A0 x.f0.length x.f0 := by
 obtain ⟨A0, c0, rfl, l0, g0⟩ := h
 exact ⟨A0, c0, rfl, l0, g0⟩
theorem k26_openM {w : World} {base : Nat} {ok : Nat → Prop} {x : S26} {cs : List Value} (h : k26.M w base ok x cs) : ∃ v0, cs = [v0] ∧ (Kd.int .i64).R 3 w base ok v0 x.f0 := by
 obtain ⟨v0, rfl, g0⟩ := h
 exact ⟨v0, rfl, g0⟩
theorem k26_mk (w : World) (x : S26) {A0 : Option Addr} {c0 : Nat} (l0 : x.f0.length ≤ c0) (g0 : (Kd.int .i64).C w A0 x.f0.length x.f0) : k26.K w x [.slice A0 x.f0.length c0] := ⟨A0, c0, rfl, l0, g0⟩
theorem k26_mkM (w : World) (base : Nat) (ok : Nat → Prop) (x : S26) {v0 : Value} (g0 : (Kd.int .i64).R 3 w base ok v0 x.f0) : k26.M w base ok x [v0] := ⟨v0, rfl, g0⟩
theorem k26_openF {W : World} {ok : Nat → Prop} {x : S26} {cs : List Value} (h : Kd.FK k26 W ok x cs) : ∃ A0 c0, cs = [.slice A0 x.f0.length c0] ∧ x.f0.length ≤ c0 ∧ Kd.F (Kd.int .i64) W ok A0 x.f0.length x.f0 := by
 obtain ⟨A0, c0, rfl, l0, _⟩ := k26_open (Kd.FK_now h)
 exact ⟨A0, c0, rfl, l0, (fun W' hW => by obtain ⟨A0_, c0_, he, l0_, g0_⟩ := k26_open (h W' hW); injection (Option.some.inj (show some (Value.slice A0 x.f0.length c0) = some (Value.slice A0_ x.f0.length c0_) from congrArg (fun l => l[0]?) he)) with ha_ _ _; rw [ha_]; exact g0_)⟩
theorem k26_mkF (W : World) (ok : Nat → Prop) (x : S26) {A0 : Option Addr} {c0 : Nat} (l0 : x.f0.length ≤ c0) (g0 : Kd.F (Kd.int .i64) W ok A0 x.f0.length x.f0) : Kd.FK k26 W ok x [.slice A0 x.f0.length c0] := fun W2 hW => k26_mk W2 x l0 (g0 W2 hW)
def rd_T26 (xs : List S26) (i : Int) : S26 := xs.getD i.toNat z26
theorem at_T26 {w : World} {A : Option Addr} {n : Nat} {xs : List S26} (h : Kd.C k26 w A n xs) (i : Int) (h0 : 0 ≤ i) (h1 : i < n) : ∃ ad A0 c0, A = some ad ∧ w.cell? (ad.add i.toNat) = some (.slice A0 (rd_T26 xs i).f0.length c0) ∧ (rd_T26 xs i).f0.length ≤ c0 ∧ (Kd.int .i64).C w A0 (rd_T26 xs i).f0.length (rd_T26 xs i).f0 := by
 obtain ⟨ad, c, e, _, hK, hc0⟩ := Kd.C_get h z26 i h0 h1
 have hc : ∀ j u, c[j]? = some u → w.cell? (ad.add (i.toNat * 1 + j)) = some u := hc0
 obtain ⟨A0, c0, rfl, l0, g0⟩ := k26_open hK
 exact ⟨ad, A0, c0, e, by have hq := hc 0 _ rfl; rwa [Nat.mul_one, Nat.add_zero] at hq, l0, g0⟩

def rd_L4 (xs : List (List S26)) (i : Int) : (List S26) := xs.getD i.toNat ([] : List S26)
theorem at_L4 {w : World} {A : Option Addr} {n : Nat} {xs : List (List S26)} (h : Kd.C (Kd.slice 26 k26) w A n xs) (i : Int) (h0 : 0 ≤ i) (h1 : i < n) : ∃ ad A0 c0, A = some ad ∧ w.cell? (ad.add i.toNat) = some (.slice A0 (rd_L4 xs i).length c0) ∧ (rd_L4 xs i).length ≤ c0 ∧ k26.C w A0 (rd_L4 xs i).length (rd_L4 xs i) := by
 obtain ⟨ad, c, e, _, hK, hc0⟩ := Kd.C_get h ([] : List S26) i h0 h1
 have hc : ∀ j u, c[j]? = some u → w.cell? (ad.add (i.toNat * 1 + j)) = some u := hc0
 obtain ⟨A0, c0, rfl, l0, g0⟩ := hK
 exact ⟨ad, A0, c0, e, by have hq := hc 0 _ rfl; rwa [Nat.mul_one, Nat.add_zero] at hq, l0, g0⟩

/-! #### struct type 24 -/
structure S24 where
 f0 : (List Int)
def z24 : S24 := ⟨([] : List Int)⟩
def k24 : Kd S24 := Kd.iso (Kd.slice 3 (Kd.int .i64)) (fun x : S24 => x.f0)
theorem k24_open {w : World} {x : S24} {cs : List Value} (h : k24.K w x cs) : ∃ A0 c0, cs = [.slice A0 x.f0.length c0] ∧ x.f0.length ≤ c0 ∧ (Kd.int .i64).C w A0 x.f0.length x.f0 := by
 obtain ⟨A0, c0, rfl, l0, g0⟩ := h
 exact ⟨A0, c0, rfl, l0, g0⟩
theorem k24_openM {w : World} {base : Nat} {ok : Nat → Prop} {x : S24} {cs : List Value} (h : k24.M w base ok x cs) : ∃ v0, cs = [v0] ∧ (Kd.int .i64).R 3 w base ok v0 x.f0 := by
 obtain ⟨v0, rfl, g0⟩ := h
 exact ⟨v0, rfl, g0⟩
theorem k24_mk (w : World) (x : S24) {A0 : Option Addr} {c0 : Nat} (l0 : x.f0.length ≤ c0) (g0 : (Kd.int .i64).C w A0 x.f0.length x.f0) : k24.K w x [.slice A0 x.f0.length c0] := ⟨A0, c0, rfl, l0, g0⟩
theorem k24_mkM (w : World) (base : Nat) (ok : Nat → Prop) (x : S24) {v0 : Value} (g0 : (Kd.int .i64).R 3 w base ok v0 x.f0) : k24.M w base ok x [v0] := ⟨v0, rfl, g0⟩
theorem k24_openF {W : World} {ok : Nat → Prop} {x : S24} {cs : List Value} (h : Kd.FK k24 W ok x cs) : ∃ A0 c0, cs = [.slice A0 x.f0.length c0] ∧ x.f0.length ≤ c0 ∧ Kd.F (Kd.int .i64) W ok A0 x.f0.length x.f0 := by
 obtain ⟨A0, c0, rfl, l0, _⟩ := k24_open (Kd.FK_now h)
 exact ⟨A0, c0, rfl, l0, (fun W' hW => by obtain ⟨A0_, c0_, he, l0_, g0_⟩ := k24_open (h W' hW); injection (Option.some.inj (show some (Value.slice A0 x.f0.length c0) = some (Value.slice A0_ x.f0.length c0_) from congrArg (fun l => l[0]?) he)) with ha_ _ _; rw [ha_]; exact g0_)⟩
theorem k24_mkF (W : World) (ok : Nat → Prop) (x : S24) {A0 : Option Addr} {c0 : Nat} (l0 : x.f0.length ≤ c0) (g0 : Kd.F (Kd.int .i64) W ok A0 x.f0.length x.f0) : Kd.FK k24 W ok x [.slice A0 x.f0.length c0] := fun W2 hW => k24_mk W2 x l0 (g0 W2 hW)
def rd_T24 (xs : List S24) (i : Int) : S24 := xs.getD i.toNat z24
theorem at_T24 {w : World} {A : Option Addr} {n : Nat} {xs : List S24} (h : Kd.C k24 w A n xs) (i : Int) (h0 : 0 ≤ i) (h1 : i < n) : ∃ ad A0 c0, A = some ad ∧ w.cell? (ad.add i.toNat) = some (.slice A0 (rd_T24 xs i).f0.length c0) ∧ (rd_T24 xs i).f0.length ≤ c0 ∧ (Kd.int .i64).C w A0 (rd_T24 xs i).f0.length (rd_T24 xs i).f0 := by
 obtain ⟨ad, c, e, _, hK, hc0⟩ := Kd.C_get h z24 i h0 h1
 have hc : ∀ j u, c[j]? = some u → w.cell? (ad.add (i.toNat * 1 + j)) = some u := hc0
 obtain ⟨A0, c0, rfl, l0, g0⟩ := k24_open hK
 exact ⟨ad, A0, c0, e, by have hq := hc 0 _ rfl; rwa [Nat.mul_one, Nat.add_zero] at hq, l0, g0⟩

section
variable {α β : Type} {P Q : Prop} [Decidable P] [Decidable Q] {a x y : Option α} {r : α}
theorem gd (h : (if P then a else none) = some r) : decide P = true ∧ a = some r := by
 by_cases c : P
 ·rw [if_pos c] at h
  exact ⟨decide_eq_true c, h⟩
 ·rw [if_neg c] at h
  cases h
theorem gp (h : (if P then a else none) = some r) : P ∧ a = some r := ⟨of_decide_eq_true (gd h).1, (gd h).2⟩
theorem gj (h : (if P then x else y) = some r) : P ∧ x = some r ∨ ¬ P ∧ y = some r := by
 by_cases c : P
 ·rw [if_pos c] at h
  exact .inl ⟨c, h⟩
 ·rw [if_neg c] at h
  exact .inr ⟨c, h⟩
theorem gi (h : (if P then x else y) = some r) : decide P = true ∧ x = some r ∨ decide P = false ∧ y = some r := (gj h).imp (fun h => ⟨decide_eq_true h.1, h.2⟩) (fun h => ⟨decide_eq_false h.1, h.2⟩)
theorem gb {b : Bool} (h : (if b = true then x else y) = some r) : b = true ∧ x = some r ∨ b = false ∧ y = some r := (gj h).imp_right (fun h => ⟨Bool.eq_false_iff.mpr h.1, h.2⟩)
theorem ga {x : Option β} {f : β → Option α} (h : x.bind f = some r) : ∃ b, Aside0 (x = some b) ∧ f b = some r := (Option.bind_eq_some_iff.mp h).imp (fun _ h => ⟨⟨h.1⟩, h.2⟩)
theorem pq {X : Prop} (f : P → Q → X) (hp : decide P = true := by first | (with_reducible assumption) | assumption) (hq : decide Q = true := by first | (with_reducible assumption) | assumption) : X ∧ P = True ∧ Q = True := ⟨f (of_decide_eq_true hp) (of_decide_eq_true hq), eq_true (of_decide_eq_true hp), eq_true (of_decide_eq_true hq)⟩
end
section
variable {p q : Prop}
theorem bw (h : p := by repeat (first | (with_reducible first | exact HB.out | apply below_alloc | apply pw_below_drewN | apply below_drew1 | refine below_set ?_ (Aside0.out (by assumption))) | exact HB.out)) : p := h
theorem gs {g n m : Nat} (e : g = n) (h : m ≤ n := by exact below_size (by repeat (first | (with_reducible first | exact HB.out | apply below_alloc | apply pw_below_drewN | apply below_drew1 | refine below_set ?_ (Aside0.out (by assumption))) | exact HB.out))) : m ≤ g := e ▸ h
theorem ro (a : q) (h : q → p := by intro h_; (with_reducible repeat (first | apply Kd.R_alloc | apply Kd.R_drewN | apply Kd.R_drew)); exact h_) : p := h a
theorem bo (a : q) (h : q → p := by intro h_; (with_reducible repeat (first | refine blk_drewN ?_ _ | refine blk_drew ?_ | refine blk_alloc ?_ _)); exact h_) : p := h a
theorem co (a : q) (h : q → p := by intro h_; repeat (first | exact h_ | (with_reducible refine Kd.C_alloc ?_ _) | (with_reducible refine Kd.C_drewN ?_ _) | (with_reducible refine Kd.C_drew ?_))) : p := h a
theorem rr (h : p := by first | rfl | (simp; done) | (simp [*]; done)) : p := h
theorem re (h : p := by first | rfl | (simp [errW_none, errW_some] <;> rfl) | (simp [*, errW_none, errW_some] <;> rfl)) : p := h
theorem om (h : p := by first | omega | exact Nat.le_refl _) : p := h
theorem dw (h : p := by repeat (first | exact Drawn0.refl _ | apply Drawn0.step)) : p := h
theorem bc {w : World} {g : Nat} {t : TypeId} {cs : Array Value} (h : Aside0 (w.heap[g]? = some (.cells cs t (0, 0)))) (i : Nat) (v : Value) (e : cs[i]? = some v := by rfl) : w.cell? ⟨g, i, none⟩ = some v := (blk_cell h.out i).trans e
end
section
variable {P : Program} {ops : Array Oper} {rest : List Oper} {o oi : Oper} {a : Act} {Q : Exit → Act → World → Prop} {md : Region.Mode} {S : World → Prop} {ds : List Nat} {T : Bool × List (List Nat × List Nat)} {fuel : Nat} {l : Array Bool} {w : World}
theorem gl {f : FuncId} {fn : Func} {ags : Array Operand} {ts : Array TypeId} (N : Option Tmp) (hf : P.funcs[f]? = some fn) (args : Array Value) (h : Calls P f args w fun e w' => ∃ v, e = .returned v ∧ wpList P ops Q rest (a.put N v) w')
  (hd : oi.dst = N := by rfl) (hg : oi.guard = none := by rfl) (hname : (fn.name == "runtime.NumGoroutine") = false := by kernel_rfl) (hb : fn.body.isSome = true := by rfl)
  (hop : oi.op = .call { callee := .value (.func f), args := ags, argTypes := ts } := by rfl) (hargs : ags.map a.eval = args := by (try simp only [List.map_toArray, List.map_cons, List.map_nil]); first | done | rfl | (simp only [List.length_drop, List.length_take]; rfl)) : wpList P ops Q (oi :: rest) a w :=
 goesL_ N hd hg hf hname hb args hop hargs h
theorem gm {N : Option Tmp} {K : Act → World → Prop} {f : FuncId} {fn : Func} {ags : Array Operand} {ts : Array TypeId} (hf : P.funcs[f]? = some fn) (args : Array Value) (h : Calls P f args w fun e w' => ∃ v, e = .returned v ∧ K (a.put N v) w')
  (hname : (fn.name == "runtime.NumGoroutine") = false := by kernel_rfl) (hb : fn.body.isSome = true := by rfl) (hw : Region.wanted oi (yielded ops a.tmps) = true := by rfl) (hN : oi.dst = N := by rfl)
  (hop : oi.op = .call { callee := .value (.func f), args := ags, argTypes := ts } := by rfl) (hargs : ags.map a.eval = args := by (try simp only [List.map_toArray, List.map_cons, List.map_nil]); first | done | rfl | (simp only [List.length_drop, List.length_take]; rfl)) : if Region.wanted oi (yielded ops a.tmps) = true then Oper.wp P oi a w K Q else K (a.put N undef) w :=
 goes_ hf hname hb args hw hN hop hargs h
theorem bx (N : Tmp) (cs : Array Value) (t : TypeId) (h : ∀ g, g = w.heap.size → ∀ w1, w1.heap[g]? = some (.cells cs t (0, 0)) → Below w.heap.size w w1 → wpList P ops Q rest (a.put o.dst (.pointer (some ⟨g, 0, none⟩))) w1)
  (hd : o.dst = some N := by rfl) (hg : o.guard = none := by rfl) (hr : (execOp a.eval o).run P w = .ok (.value (.pointer (some ⟨w.heap.size, 0, none⟩))) (w.alloc (.cells cs t (0, 0))) := by first | (go_simp; done) | (go_simp; rfl)) : wpList P ops Q (o :: rest) a w := box_event hg hd hr h
theorem pa (i : Nat) (N : Option Tmp) (l' : Array Bool) (hT : Aside0 (rtab md ops = T)) {v : Value} {a' : Act} (h : wpAnyLast P md ops Q S ds fuel l' a' w)
  (hi : ops[i]? = some oi := by rfl) (hN : oi.dst = N := by rfl) (hc : anyT T l.toList l'.toList i = true := by kernel_rfl) (hy : Yields P ops oi v a := by exact Or.inl ⟨by rfl, by intro w'; go_simp; first | with_reducible rfl | rw [if_neg (by omega)]⟩) (ha : a.put N v = a' := by simp only [Act.put, qa, qb, qc, i64_w, i32_w]; rfl) (hQ : ∀ c a w, Q (.panic c) (a.put oi.dst v) w → Q (.panic c) a w := by exact fun _ _ _ h => h) : wpAnyLast P md ops Q S ds (fuel + 1) l a w :=
 pure_ l' hi hN (any_of hT.out hc) hQ hy ha h
theorem pu (i : Nat) (N : Option Tmp) (l' : Array Bool) (hT : Aside0 (rtab md ops = T)) {a' : Act} (h : wpAnyLast P md ops Q S ds fuel l' a' w)
  (hi : ops[i]? = some oi := by rfl) (hN : oi.dst = N := by rfl) (hc : anyT T l.toList l'.toList i = true := by kernel_rfl) (hy : Region.wanted oi (yielded ops a.tmps) = false := by rfl) (ha : a.put N undef = a' := by simp only [Act.put, qa, qb, qc, i64_w, i32_w]; rfl) (hQ : ∀ c a w, Q (.panic c) (a.put oi.dst undef) w → Q (.panic c) a w := by exact fun _ _ _ h => h) : wpAnyLast P md ops Q S ds (fuel + 1) l a w :=
 pure_ l' hi hN (any_of hT.out hc) hQ (Or.inr ⟨hy, rfl⟩) ha h
theorem oa (i : Nat) (N : Option Tmp) (l' : Array Bool) (hT : Aside0 (rtab md ops = T)) (h : ∀ K : Act → World → Prop, Shut (∀ a' w', S w' → (S w' → wpAnyLast P md ops Q S ds fuel l' a' w') → K a' w') → if Region.wanted oi (yielded ops a.tmps) = true then Oper.wp P oi a w K Q else K (a.put N undef) w)
  (hi : ops[i]? = some oi := by rfl) (hN : oi.dst = N := by rfl) (hc : (readyT T.2 l.toList == [i] && l.toList.set i true == l'.toList) = true := by kernel_rfl) (hd : i ∉ ds := by decide) : wpAnyLast P md ops Q S ds (fuel + 1) l a w :=
 one_ l' hi hN (one_of hT.out hc) hd h
end
theorem litrep {α : Type} {d : Kd α} {e base : Nat} {ok : Nat → Prop} {W : World} {v : Value} {l : List α} (h : d.R e W base ok v l) : ∀ (j : Nat) (x : List α), [l][j]? = some x → (Kd.slice e d).M W base (fun _ => j = 0) x (([v].drop (j * (Kd.slice e d).sz)).take (Kd.slice e d).sz) := by
 intro j x hj
 cases j with
 | zero =>
  obtain rfl : l = x := by simpa using hj
  exact ⟨v, rfl, Kd.R_mono h (fun _ _ => rfl)⟩
 | succ j => simp at hj
def FnR1 (P : Program) (w : World) (v : Value) (p : Int → Option Bool) : Prop :=
 ∃ g lb, v = .func (.func g) #[] lb ∧ (∀ args w, (callFunc g args).run P w = .ok (.enter g args) w) ∧ ∀ W, Below w.heap.size w W → ∀ d b, p d = some b → Calls P g (#[.int .i64 d] ++ lb) W fun e w' => e = .returned (.bool b) ∧ Drawn0 W w'
def FnR2 (P : Program) (w : World) (v : Value) (p : Int → Int → Option Bool) : Prop :=
 ∃ g lb, v = .func (.func g) #[] lb ∧ (∀ args w, (callFunc g args).run P w = .ok (.enter g args) w) ∧ ∀ W, Below w.heap.size w W → ∀ c d b, p c d = some b → Calls P g (#[.int .i64 c, .int .i64 d] ++ lb) W fun e w' => e = .returned (.bool b) ∧ Drawn0 W w'
theorem FnR1.below {P : Program} {w w1 : World} {v : Value} {p : Int → Option Bool} (h : FnR1 P w v p) (hb : Below w.heap.size w w1) : FnR1 P w1 v p := by
 obtain ⟨g, lb, h1, h2, h3⟩ := h
 exact ⟨g, lb, h1, h2, fun W hW d b hd => h3 W (below_step hb hW) d b hd⟩
abbrev apF1.f (p : Int → Option Bool) (d : Int) : Option Bool := p d
abbrev apF2.f (p : Int → Int → Option Bool) (c d : Int) : Option Bool := p c d
/-- A row of rows that lie apart, as an element. -/
def kss {α : Type} (e : Nat) (d : Kd α) : Kd (List α) where
 sz := 1
 E := (Kd.slice e d).E
 K := (Kd.slice e d).K
 M := fun w base ok xs cs => ∃ v, cs = [v] ∧ Kd.S d e w base ok v xs
 K_len := (Kd.slice e d).K_len
 K_one := (Kd.slice e d).K_one
 K_below := (Kd.slice e d).K_below
 K_of_M := by
  rintro w base ok xs cs ⟨v, rfl, h⟩
  exact (Kd.slice e d).K_of_M ⟨v, rfl, Kd.S_R h⟩
 M_mono := by
  rintro w base ok ok' xs cs hok ⟨v, rfl, h⟩
  exact ⟨v, rfl, Kd.S_mono h hok⟩
 M_bound := by
  rintro w base ok xs cs ⟨v, rfl, h⟩
  exact ⟨v, rfl, Kd.S_bound h⟩
 M_move := by
  rintro w w1 base ok xs cs hm ⟨v, rfl, f, h⟩
  exact ⟨v, rfl, f, Kd.R_move h hm⟩
 M_lower := by
  rintro w base base' ok xs cs hb ⟨v, rfl, h⟩
  exact ⟨v, rfl, Kd.S_lower h hb⟩
theorem kss_sep {α β : Type} {d : Kd α} {d' : Kd β} {e e' base : Nat} {ok ok' : Nat → Prop} {W w1 : World} {u v : Value} {xs : List α} {ys : List β} (h : Kd.S d e W base ok u xs) (h2 : Kd.S d' e' w1 W.heap.size ok' v ys) (hb : Below W.heap.size W w1) : ∃ m, Kd.S d e W base (fun k => ok k ∧ k < m) u xs ∧ Kd.S d' e' w1 W.heap.size (fun k => ok' k ∧ m ≤ k) v ys ∧ Aside0 (m ≤ w1.heap.size) :=
 ⟨W.heap.size, Kd.S_mono (Kd.S_bound h) (fun _ hk => ⟨hk.1, hk.2.2.1⟩), Kd.S_mono (Kd.S_bound h2) (fun _ hk => ⟨hk.1, hk.2.1⟩), ⟨hb.size⟩⟩
def yz (n m : Nat) : Array Bool := ((List.range n).map fun i => m.testBit i).toArray
theorem am {p : Prop} (h : p) : Aside0 p := ⟨h⟩
theorem bs {α β : Type} {x : α} {f : α → Option β} {r : Option β} (H : (some x).bind f = r) : f x = r := H
theorem hw {w w' : World} {a : Addr} {v : Value} (HB : Aside0 (Below w.heap.size w w')) (hx : w.cell? a = some v) : w'.cell? a = some v := (HB.out.cell (World.block_lt_of_cell? w _ hx)).trans hx
section
variable {p q : Prop} {g g' h : Nat} {W w' w0 : World} {o : Obj} {row : Option Nat}
theorem bf (a : q) (h : q → p := by intro h_; (with_reducible repeat (first | exact h_ | refine blk_drewN ?_ _ | refine blk_drew ?_ | refine blk_alloc ?_ _ | refine blk_far ?_ (Aside0.out (by assumption)) _)); first | done | exact h_) : p := h a
theorem qo (a : q) (h : q → p := by intro h_; (with_reducible repeat (first | apply Kd.Q_alloc | apply Kd.Q_drewN | apply Kd.Q_drew)); exact h_) : p := h a
theorem so (a : q) (h : q → p := by intro h_; (with_reducible repeat (first | apply Kd.S_alloc | apply Kd.S_drewN | apply Kd.S_drew)); exact h_) : p := h a
theorem no (a : q) (h : q → p := by intro h_; (with_reducible repeat (first | apply Kd.N_alloc | apply Kd.N_drewN | apply Kd.N_drew)); exact h_) : p := h a
theorem bd {cs : Array Value} {t : TypeId} {fr : Nat × Nat} (a : Aside0 (W.heap[g]? = some (.cells cs t fr))) : Aside0 (W.drew.heap[g]? = some (.cells cs t fr)) := ⟨blk_drew a.out⟩
abbrev nb {β : Type} (k : Nat) (A : Option Addr) (l : List β) (c : Nat) : Prop := some k ≠ (Value.slice A l.length c).ownBlock
theorem ng (e : h = W.heap.size) (a : Aside0 (w0.heap[g]? = some o)) (m : w0.heap[g]? = some o → W.heap[g]? = some o := by intro h_; (with_reducible repeat (first | exact h_ | refine blk_drewN ?_ _ | refine blk_drew ?_ | refine blk_alloc ?_ _ | refine blk_far ?_ (Aside0.out (by assumption)) _)); first | done | exact h_) : Aside0 (h ≠ g) := ⟨e ▸ Nat.ne_of_gt (blk_lt (m a.out))⟩
theorem ns (h : Aside0 (g ≠ g')) : Aside0 (g' ≠ g) := ⟨Ne.symm h.out⟩
theorem nl (e : h = W.heap.size) (a : Aside0 (w0.heap[g]? = some o)) (m : w0.heap[g]? = some o → W.heap[g]? = some o := by intro h_; (with_reducible repeat (first | exact h_ | refine blk_drewN ?_ _ | refine blk_drew ?_ | refine blk_alloc ?_ _ | refine blk_far ?_ (Aside0.out (by assumption)) _)); first | done | exact h_) : Aside0 (g ≠ h) := ⟨e ▸ Nat.ne_of_lt (blk_lt (m a.out))⟩
theorem kb (a : Aside0 (w0.heap[g]? = some o)) (hb : Below W.heap.size W w') (m : w0.heap[g]? = some o → W.heap[g]? = some o := by intro h_; (with_reducible repeat (first | exact h_ | refine blk_drewN ?_ _ | refine blk_drew ?_ | refine blk_alloc ?_ _ | refine blk_far ?_ (Aside0.out (by assumption)) _)); first | done | exact h_) : Aside0 (w'.heap[g]? = some o) := ⟨blk_below (m a.out) hb⟩
theorem kk (hk : KeepBut W w' g row) (a : Aside0 (w0.heap[g']? = some o)) (n : Aside0 (g' ≠ g)) (m : w0.heap[g']? = some o → W.heap[g']? = some o := by intro h_; (with_reducible repeat (first | exact h_ | refine blk_drewN ?_ _ | refine blk_drew ?_ | refine blk_alloc ?_ _ | refine blk_far ?_ (Aside0.out (by assumption)) _)); first | done | exact h_) (hr : some g' ≠ row := by simp) : Aside0 (w'.heap[g']? = some o) := ⟨KeepBut.blk hk (m a.out) n.out hr⟩
end
section
variable {α : Type} {d : Kd α} {e base : Nat} {ok : Nat → Prop} {v : Value} {xs : List α} {W w' : World} {q : Prop}
variable {W0 : World} {g : Nat} {cs : Array Value} {t : TypeId}
theorem rF (a : Aside0 (d.R e W0 base ok v xs)) (b : Aside0 (W0.heap[g]? = some (.cells cs t (0, 0)))) (u : Value) (m : d.R e (W0.setCell ⟨g, 0, none⟩ u) base ok v xs → q := by intro h_; (with_reducible repeat (first | apply Kd.R_alloc | apply Kd.R_drewN | apply Kd.R_drew)); exact h_) (ht : ∀ x, x ∈ e :: d.E → x ≠ t := by decide) : q := m (Kd.R_mono (Kd.R_far (p := ⟨g, 0, none⟩) (Kd.R_types a.out b.out ht) (fun _ hk => hk.2) u) (fun _ h_ => h_.1))
theorem qF (a : Aside0 (Kd.Q d e W0 base ok v xs)) (b : Aside0 (W0.heap[g]? = some (.cells cs t (0, 0)))) (u : Value) (m : Kd.Q d e (W0.setCell ⟨g, 0, none⟩ u) base ok v xs → q := by intro h_; (with_reducible repeat (first | apply Kd.Q_alloc | apply Kd.Q_drewN | apply Kd.Q_drew)); exact h_) (ht : ∀ x, x ∈ e :: d.E → x ≠ t := by decide) : q := m (Kd.Q_mono (Kd.Q_far (p := ⟨g, 0, none⟩) (Kd.Q_types a.out b.out ht) (fun _ hk => hk.2) u) (fun _ h_ => h_.1))
theorem rK (a : Aside0 q) (hb : Below W.heap.size W w') (m : q → d.R e W base ok v xs := by intro h_; (with_reducible repeat (first | apply Kd.R_alloc | apply Kd.R_drewN | apply Kd.R_drew)); exact h_) : Aside0 (d.R e w' base ok v xs) := ⟨Kd.R_below (m a.out) hb⟩
theorem qK (a : Aside0 q) (hb : Below W.heap.size W w') (m : q → Kd.Q d e W base ok v xs := by intro h_; (with_reducible repeat (first | apply Kd.Q_alloc | apply Kd.Q_drewN | apply Kd.Q_drew)); exact h_) : Aside0 (Kd.Q d e w' base ok v xs) := ⟨Kd.Q_below (m a.out) hb⟩
theorem sK (a : Aside0 q) (hb : Below W.heap.size W w') (m : q → Kd.S d e W base ok v xs := by intro h_; (with_reducible repeat (first | apply Kd.S_alloc | apply Kd.S_drewN | apply Kd.S_drew)); exact h_) : Aside0 (Kd.S d e w' base ok v xs) := ⟨Kd.S_below (m a.out) hb⟩
theorem nK (a : Aside0 q) (hb : Below W.heap.size W w') (m : q → Kd.N d e W base ok v xs := by intro h_; (with_reducible repeat (first | apply Kd.N_alloc | apply Kd.N_drewN | apply Kd.N_drew)); exact h_) : Aside0 (Kd.N d e w' base ok v xs) := ⟨Kd.N_below (m a.out) hb⟩
end
section
variable {P : Program} {ops : Array Oper} {oi : Oper} {a : Act} {Q : Exit → Act → World → Prop} {md : Region.Mode} {S : World → Prop} {ds : List Nat} {T : Bool × List (List Nat × List Nat)} {B : List Nat} {fuel : Nat} {l : Array Bool} {w : World}
theorem tk (i : Nat) (N : Option Tmp) (l' : Array Bool) (hT : Aside0 (rtab md ops = T)) (hB : Aside0 (waitsOk T.2 B = true)) (hS : S w) {v : Value} {a' : Act} (h : wpAnyLast P md ops Q S ds fuel l' a' w)
  (hi : ops[i]? = some oi := by rfl) (hN : oi.dst = N := by rfl) (hc : takeW T B ds l.toList l'.toList i = true := by kernel_rfl) (hy : YieldsIf P ops S oi v a := by exact Or.inl ⟨by rfl, by intro w' s_; repeat (obtain ⟨_, s_⟩ : _ ∧ _ := s_); go_simp; with_reducible rfl⟩) (ha : a.put N v = a' := by simp only [Act.put, qa, qb, qc, i64_w, i32_w]; rfl) (hQ : ∀ c a w, Q (.panic c) (a.put oi.dst v) w → Q (.panic c) a w := by exact fun _ _ _ h => h) : wpAnyLast P md ops Q S ds (fuel + 1) l a w :=
 take_ l' hi hN (take_ofW hT.out hB.out hc) hQ hy hS ha h
theorem tq (i : Nat) (N : Option Tmp) (l' : Array Bool) (hS : S w) {v : Value} {a' : Act} (h : wpAnyLast P md ops Q S ds fuel l' a' w)
  (hi : ops[i]? = some oi := by rfl) (hN : oi.dst = N := by rfl) (hc : takeB md ops ds l l' i = true := by kernel_rfl) (hy : YieldsIf P ops S oi v a := by exact Or.inl ⟨by rfl, by intro w' s_; repeat (obtain ⟨_, s_⟩ : _ ∧ _ := s_); go_simp; with_reducible rfl⟩) (ha : a.put N v = a' := by simp only [Act.put, qa, qb, qc, i64_w, i32_w]; rfl) (hQ : ∀ c a w, Q (.panic c) (a.put oi.dst v) w → Q (.panic c) a w := by exact fun _ _ _ h => h) : wpAnyLast P md ops Q S ds (fuel + 1) l a w :=
 take_ l' hi hN hc hQ hy hS ha h
theorem tK (i : Nat) (N : Option Tmp) (l' : Array Bool) (hT : Aside0 (rtab md ops = T)) (hB : Aside0 (waitsOk T.2 B = true)) (hS : S w) {v : Value} {a' : Act} (h : wpAnyLast P md ops Q S ds fuel l' a' w)
  (hi : ops[i]? = some oi := by rfl) (hN : oi.dst = N := by rfl) (hc : takeW T B ds l.toList l'.toList i = true := by kernel_rfl) (hy : YieldsIf P ops S oi v a := by exact Or.inl ⟨by rfl, by intro w' s_; go_simp; with_reducible rfl⟩) (ha : a.put N v = a' := by simp only [Act.put, qa, qb, qc, i64_w, i32_w]; rfl) (hQ : ∀ c a w, Q (.panic c) (a.put oi.dst v) w → Q (.panic c) a w := by exact fun _ _ _ h => h) : wpAnyLast P md ops Q S ds (fuel + 1) l a w :=
 take_ l' hi hN (take_ofW hT.out hB.out hc) hQ hy hS ha h
theorem tQ (i : Nat) (N : Option Tmp) (l' : Array Bool) (hS : S w) {v : Value} {a' : Act} (h : wpAnyLast P md ops Q S ds fuel l' a' w)
  (hi : ops[i]? = some oi := by rfl) (hN : oi.dst = N := by rfl) (hc : takeB md ops ds l l' i = true := by kernel_rfl) (hy : YieldsIf P ops S oi v a := by exact Or.inl ⟨by rfl, by intro w' s_; go_simp; with_reducible rfl⟩) (ha : a.put N v = a' := by simp only [Act.put, qa, qb, qc, i64_w, i32_w]; rfl) (hQ : ∀ c a w, Q (.panic c) (a.put oi.dst v) w → Q (.panic c) a w := by exact fun _ _ _ h => h) : wpAnyLast P md ops Q S ds (fuel + 1) l a w :=
 take_ l' hi hN hc hQ hy hS ha h
theorem nm (N : Option Tmp) {a' : Act} {u : Value} (h : wpAnyLast P md ops Q S ds fuel l a' w) (ha : a.put N u = a' := by simp only [Act.put, qa, qb, qc, i64_w, i32_w]; rfl) : wpAnyLast P md ops Q S ds fuel l (a.put N u) w := norm_ ha h
end
section
variable {p q : Prop}
theorem vo (a : q) (h : q → p := by intro h_; (with_reducible repeat (first | apply Kd.V_alloc | apply Kd.V_drewN | apply Kd.V_drew)); exact h_) : p := h a
theorem bp (a : q) (h : q → p := by intro h_; (with_reducible repeat (first | refine blk_drewN ?_ _ | refine blk_drew ?_ | refine blk_alloc ?_ _)); refine blk_put (cs := #[.slice none 0 0]) ?_ 0 _ rfl; (with_reducible repeat (first | refine blk_drewN ?_ _ | refine blk_drew ?_ | refine blk_alloc ?_ _)); exact h_) : p := h a
end
theorem bg0 {w w1 : World} (h : w.grownBy w1 none) : Below w.heap.size w w1 := ⟨h.os, h.tape, h.output, h.size, fun i hi => h.block i hi (by simp)⟩
theorem nw0 {v : Value} {n : Nat} (h : ∃ b, v.ownBlock = some b ∧ n ≤ b) : ∀ k, v.ownBlock = some k → n ≤ k := by
 obtain ⟨b, e, hb⟩ := h
 intro k hk
 rw [e] at hk
 cases hk
 exact hb
section
variable {α : Type} {d : Kd α} {e base : Nat} {W w1 : World} {ok ok' : Nat → Prop} {v : Value} {xs : List α}
theorem rM (h : Kd.R d e W base ok v xs) (hok : ∀ k, ok k → ok' k) (st : Kd.R d e W base ok' v xs → Kd.R d e w1 base ok' v xs := by intro h_; (with_reducible repeat (first | apply Kd.R_alloc | apply Kd.R_drewN | apply Kd.R_drew)); exact h_) : Kd.R d e w1 base ok' v xs := st (Kd.R_mono h hok)
theorem qM (h : Kd.Q d e W base ok v xs) (hok : ∀ k, ok k → ok' k) (st : Kd.Q d e W base ok' v xs → Kd.Q d e w1 base ok' v xs := by intro h_; (with_reducible repeat (first | apply Kd.Q_alloc | apply Kd.Q_drewN | apply Kd.Q_drew)); exact h_) : Kd.Q d e w1 base ok' v xs := st (Kd.Q_mono h hok)
theorem nM (h : Kd.N d e W base ok v xs) (hok : ∀ k, ok k → ok' k) (st : Kd.N d e W base ok' v xs → Kd.N d e w1 base ok' v xs := by intro h_; (with_reducible repeat (first | apply Kd.N_alloc | apply Kd.N_drewN | apply Kd.N_drew)); exact h_) : Kd.N d e w1 base ok' v xs := st (Kd.N_mono h hok)
theorem sM (h : Kd.S d e W base ok v xs) (hok : ∀ k, ok k → ok' k) (st : Kd.S d e W base ok' v xs → Kd.S d e w1 base ok' v xs := by intro h_; (with_reducible repeat (first | apply Kd.S_alloc | apply Kd.S_drewN | apply Kd.S_drew)); exact h_) : Kd.S d e w1 base ok' v xs := st (Kd.S_mono h hok)
theorem od {p : Prop} [Decidable p] (h : decide p = true := by first | (with_reducible assumption) | assumption) : p := of_decide_eq_true h
theorem gy {β γ : Type} {x : β} {f : β → Option γ} {r : γ} (h : (some x).bind f = some r) : ∃ y, y = x ∧ f y = some r := ⟨x, rfl, h⟩
end

end Go.Proofs.Ytlhcpbpcdicleaa.C
