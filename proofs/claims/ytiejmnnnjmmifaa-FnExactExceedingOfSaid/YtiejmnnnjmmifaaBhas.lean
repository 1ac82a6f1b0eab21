/- Plain lemmas (has): no program, no memory. -/
import Derived.Test.YtiejmnnnjmmifaaC0
import Derived.Test.YtiejmnnnjmmifaaC15
import Derived.Test.YtiejmnnnjmmifaaBsums
import Derived.Test.YtiejmnnnjmmifaaBgcd
import Derived.Test.YtiejmnnnjmmifaaBleasts
import Derived.Test.YtiejmnnnjmmifaaBissg
import Derived.Test.YtiejmnnnjmmifaaBleastle
import Derived.Test.YtiejmnnnjmmifaaBbase
namespace Go.Proofs.Ytiejmnnnjmmifaa.Pure
open Go.RowKit Go.Proofs.Ytiejmnnnjmmifaa.C Go.Proofs.YtiejmnnnjmmifaaW.PrintWords Go.Proofs.YtiejmnnnjmmifaaW.PrintLast Go.Proofs.YtiejmnnnjmmifaaW.PrintMore
set_option linter.unusedVariables false
set_option linter.unusedSimpArgs false
/-! has: impl.Contains -/
theorem impl_Contains_ev (g : List Int) (hlen : g.length ≤ 1048576) (n : Int) (hn : n ≤ 9223372036854775807) : ∃ b, (b = true ↔ SG g ∧ Sums g n) ∧ Ev (fun k => impl_Contains.f k g n) b := by
  unfold impl_Contains.f
  by_cases h0 : n < 0
  · exact ⟨false, ⟨(fun e => by cases e), fun e => by have := e.2.nonneg (fun x hx => (e.1.rng x hx).1); omega⟩, Ev.pos h0 (Ev.now _)⟩
  obtain ⟨b, b1, b2⟩ := impl_IsSemigroup_ev g hlen
  cases b with
  | false => exact ⟨false, ⟨(fun e => by cases e), fun e => by have := b1.2 e.1; cases this⟩, Ev.neg h0 (Ev.bnd b2 (Ev.neg (by decide) (Ev.now _)))⟩
  | true =>
    have hS := b1.1 rfl
    by_cases h2 : n ≥ 200
    · exact ⟨true, ⟨fun _ => ⟨hS, hS.ends n h2⟩, fun _ => rfl⟩, Ev.neg h0 (Ev.bnd b2 (Ev.pos rfl (Ev.pos h2 (Ev.now _))))⟩
    · have hl1 := hS.len1
      have hl2 := hS.len2
      obtain ⟨a, ha, ha1, ha2, hmem⟩ := first_of g (by omega) hS.rng
      obtain ⟨t, L, e⟩ := impl_leasts_ev g a hS.rng (by omega) ha1 ha2
      have hlt := L.len
      obtain ⟨q, rfl⟩ : ∃ q : Nat, n = (q : Int) := ⟨n.toNat, by omega⟩
      have e2 : Int.tmod (q : Int) (a : Int) = ((q % a : Nat) : Int) := tmod_nat q a
      have hq := Nat.mod_lt q (show 0 < a by omega)
      refine ⟨decide (rd t ((q % a : Nat) : Int) ≤ (q : Int)), ?_, ?_⟩
      · rw [decide_eq_true_eq, least_le_iff g a t L ha1 hmem hS.rng hS.gcd1 q]
        exact ⟨fun h => ⟨hS, h⟩, fun h => h.2⟩
      · rw [ha, e2]
        exact Ev.neg h0 (Ev.bnd b2 (Ev.pos rfl (Ev.neg h2 (Ev.pos (by omega) (Ev.bnd e (Ev.neg (by omega) (Ev.pos (by omega) (Ev.pos (by omega) (Ev.now _)))))))))
end Go.Proofs.Ytiejmnnnjmmifaa.Pure
