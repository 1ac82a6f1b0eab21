/- Plain lemmas (leastle): no program, no memory. -/
import Derived.Test.YtiejmnnnjmmifaaC0
import Derived.Test.YtiejmnnnjmmifaaBsums
import Derived.Test.YtiejmnnnjmmifaaBgcd
import Derived.Test.YtiejmnnnjmmifaaBleasts
import Derived.Test.YtiejmnnnjmmifaaBissg
import Derived.Test.YtiejmnnnjmmifaaBbase
namespace Go.Proofs.Ytiejmnnnjmmifaa.Pure
open Go.RowKit Go.Proofs.Ytiejmnnnjmmifaa.C Go.Proofs.YtiejmnnnjmmifaaW.PrintWords Go.Proofs.YtiejmnnnjmmifaaW.PrintLast Go.Proofs.YtiejmnnnjmmifaaW.PrintMore
set_option linter.unusedVariables false
set_option linter.unusedSimpArgs false
/-! leastle: the least numbers and the sums -/
theorem least_le_iff (g : List Int) (a : Nat) (t : List Int) (L : Least g a t) (ha1 : 1 ≤ a) (ha : (a : Int) ∈ g) (hg : ∀ x ∈ g, 1 ≤ x ∧ x ≤ 60) (h1 : gcdL g = 1) (q : Nat) :
    rd t ((q % a : Nat) : Int) ≤ (q : Int) ↔ Sums g (q : Int) := by
  have hlt := Nat.mod_lt q (show 0 < a by omega)
  have hmod : (q : Int) % (a : Int) = ((q % a : Nat) : Int) := by simp
  rcases L.row (q % a) hlt with ⟨h3, h4⟩ | ⟨h3, h4, h5, h6, h7⟩
  · obtain ⟨m, m1, m2⟩ := residues g a ha1 hg h1 q
    exact absurd (m2.trans hmod) (h4 m m1)
  · refine ⟨fun h => ?_, fun h => h7 _ h hmod⟩
    obtain ⟨p, hp⟩ : ∃ p : Nat, rd t ((q % a : Nat) : Int) = (p : Int) := ⟨(rd t ((q % a : Nat) : Int)).toNat, by omega⟩
    rw [hp] at h h5 h6
    have h6' : p % a = q % a := by
      have : ((p % a : Nat) : Int) = ((q % a : Nat) : Int) := by rw [← h6]; simp
      omega
    have e3 : (q : Int) = (p : Int) + ((q / a - p / a : Nat) : Int) * (a : Int) := by
      have m1 := Nat.mod_add_div q a
      have m2 := Nat.mod_add_div p a
      have m3 : p / a ≤ q / a := Nat.div_le_div_right (by omega)
      obtain ⟨c, hc⟩ : ∃ c, q / a = p / a + c := ⟨q / a - p / a, by omega⟩
      rw [hc, Nat.add_sub_cancel_left, ← Int.natCast_mul]
      rw [hc, Nat.mul_add] at m1
      have : a * c = c * a := Nat.mul_comm a c
      omega
    rw [e3]
    exact h5.both (Sums.times ha _)
end Go.Proofs.Ytiejmnnnjmmifaa.Pure
