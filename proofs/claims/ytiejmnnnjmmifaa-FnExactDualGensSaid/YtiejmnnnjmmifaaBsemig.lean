/- Plain lemmas (semig): no program, no memory. -/
import Derived.Test.YtiejmnnnjmmifaaC0
import Derived.Test.YtiejmnnnjmmifaaC1
import Derived.Test.YtiejmnnnjmmifaaBlaws0
import Derived.Test.YtiejmnnnjmmifaaBsz
import Derived.Test.YtiejmnnnjmmifaaBbase
namespace Go.Proofs.Ytiejmnnnjmmifaa.Pure
open Go.RowKit Go.Proofs.Ytiejmnnnjmmifaa.C Go.Proofs.YtiejmnnnjmmifaaW.PrintWords Go.Proofs.YtiejmnnnjmmifaaW.PrintLast Go.Proofs.YtiejmnnnjmmifaaW.PrintMore
set_option linter.unusedVariables false
set_option linter.unusedSimpArgs false
/-! semig: sz, to, eq, mark of a semigroup -/
theorem szSemigroup_in (g : List Int) (hm : g.length ≤ maxLen) (h : (g.length : Int) ≤ 1048576) : Ev (fun _ => laws_szSemigroup.f g 1048576) (1048576 - (g.length : Int)) := by
  unfold laws_szSemigroup.f
  exact Ev.bnd (szIntS_in g _ (by omega) (by omega) hm h) (Ev.neg (by omega) (Ev.now _))
theorem szSemigroup_out (g : List Int) (hm : g.length ≤ maxLen) (h : ¬ (g.length : Int) ≤ 1048576) : Ev (fun _ => laws_szSemigroup.f g 1048576) (-1) := by
  unfold laws_szSemigroup.f
  exact Ev.bnd (szIntS_out g _ (by omega) (by omega) hm h) (Ev.pos (by omega) (Ev.now _))
theorem toSemigroup_ev (g : List Int) (h : g.length ≤ 35184372088832) : Ev (fun k => laws_toSemigroup.f k g) g := by
  unfold laws_toSemigroup.f
  exact Ev.bnd (toIntS_ev g h) (Ev.now _)
theorem eqSemigroup_ev (g : List Int) (h : g.length ≤ 35184372088832) : Ev (fun k => laws_eqSemigroup.f k g g) true := by
  unfold laws_eqSemigroup.f
  exact Ev.bnd (eqIntS_ev g h) (Ev.pos rfl (Ev.now _))
theorem szSemigroup_inn (g : List Int) (x : Int) (h0 : 0 ≤ x) (h1 : x ≤ 1048576) (hm : g.length ≤ maxLen) (h : (g.length : Int) ≤ x) : Ev (fun _ => laws_szSemigroup.f g x) (x - (g.length : Int)) := by
  unfold laws_szSemigroup.f
  exact Ev.bnd (szIntS_in g _ h0 h1 hm h) (Ev.neg (by omega) (Ev.now _))
theorem szSemigroup_outt (g : List Int) (x : Int) (h0 : 0 ≤ x) (h1 : x ≤ 1048576) (hm : g.length ≤ maxLen) (h : ¬ (g.length : Int) ≤ x) : Ev (fun _ => laws_szSemigroup.f g x) (-1) := by
  unfold laws_szSemigroup.f
  exact Ev.bnd (szIntS_out g _ h0 h1 hm h) (Ev.pos (by omega) (Ev.now _))
end Go.Proofs.Ytiejmnnnjmmifaa.Pure
