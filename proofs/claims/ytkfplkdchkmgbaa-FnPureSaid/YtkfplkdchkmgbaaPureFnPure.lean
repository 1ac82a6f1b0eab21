/- For every code of bytes the law FnPure answers true: what is returned may be overwritten, and the arguments and the later answers stay as they are; no condition besides the row's own. -/
import Derived.Test.YtkfplkdchkmgbaaC0
import Derived.Test.YtkfplkdchkmgbaaC19
import Derived.Test.YtkfplkdchkmgbaaBbase
import Derived.Test.YtkfplkdchkmgbaaBdrawsg
import Derived.Test.YtkfplkdchkmgbaaBgapsboth
namespace Go.Proofs.Ytkfplkdchkmgbaa.Pure
open Go.RowKit Go.Proofs.Ytkfplkdchkmgbaa.C Go.Proofs.YtkfplkdchkmgbaaW.PrintWords Go.Proofs.YtkfplkdchkmgbaaW.PrintLast Go.Proofs.YtkfplkdchkmgbaaW.PrintMore
set_option linter.unusedVariables false
set_option linter.unusedSimpArgs false
theorem pure_l3 (l : List Int) (t : ByteArray) (g : List Int) (fin : ∀ (x15 : Int) (x : List Int), ¬ x15 < (x.length : Int) → Ev (fun k => laws_FnPure.l3 k l t x15 g x) true) : ∀ (d i : Nat) (x : List Int), x.length ≤ 35184372088832 → i + d = x.length → Ev (fun k => laws_FnPure.l3 k l t (i : Int) g x) true := by
 intro d
 induction d with
 | zero => intro i x hx hi; exact fin _ _ (by omega)
 | succ d ih =>
  intro i x hx hi
  refine Ev.one (fun k => by rw [laws_FnPure.l3]) ?_
  rw [w64_succ i (by omega)]
  exact Ev.pos (by omega) (Ev.pos (by omega) (ih (i + 1) _ (by rw [List.length_set]; omega) (by rw [List.length_set]; omega)))
theorem pure_l2 (l : List Int) (t : ByteArray) (g y : List Int) (fin : Ev (fun k => laws_FnPure.l3 k l t 0 g y) true) : ∀ (d i : Nat) (x : List Int), x.length ≤ 35184372088832 → i + d = x.length → Ev (fun k => laws_FnPure.l2 k l t x (i : Int) g y) true := by
 intro d
 induction d with
 | zero =>
  intro i x hx hi
  refine Ev.one (fun k => by rw [laws_FnPure.l2]) ?_
  exact Ev.neg (by omega) fin
 | succ d ih =>
  intro i x hx hi
  refine Ev.one (fun k => by rw [laws_FnPure.l2]) ?_
  rw [w64_succ i (by omega)]
  exact Ev.pos (by omega) (Ev.pos (by omega) (ih (i + 1) _ (by rw [List.length_set]; omega) (by rw [List.length_set]; omega)))
theorem pure_l1 (l : List Int) (t : ByteArray) (z g y : List Int) (fin : Ev (fun k => laws_FnPure.l2 k l t z 0 g y) true) : ∀ (d i : Nat) (x : List Int), x.length ≤ 35184372088832 → i + d = x.length → Ev (fun k => laws_FnPure.l1 k l t x z (i : Int) g y) true := by
 intro d
 induction d with
 | zero =>
  intro i x hx hi
  refine Ev.one (fun k => by rw [laws_FnPure.l1]) ?_
  exact Ev.neg (by omega) fin
 | succ d ih =>
  intro i x hx hi
  refine Ev.one (fun k => by rw [laws_FnPure.l1]) ?_
  rw [w64_succ i (by omega)]
  exact Ev.pos (by omega) (Ev.pos (by omega) (ih (i + 1) _ (by rw [List.length_set]; omega) (by rw [List.length_set]; omega)))
theorem pure_l0 (l : List Int) (t : ByteArray) (u z g y : List Int) (fin : Ev (fun k => laws_FnPure.l1 k l t u z 0 g y) true) : ∀ (d i : Nat) (x : List Int), x.length ≤ 35184372088832 → i + d = x.length → Ev (fun k => laws_FnPure.l0 k l t x u z (i : Int) g y) true := by
 intro d
 induction d with
 | zero =>
  intro i x hx hi
  refine Ev.one (fun k => by rw [laws_FnPure.l0]) ?_
  exact Ev.neg (by omega) fin
 | succ d ih =>
  intro i x hx hi
  refine Ev.one (fun k => by rw [laws_FnPure.l0]) ?_
  rw [w64_succ i (by omega)]
  exact Ev.pos (by omega) (Ev.pos (by omega) (ih (i + 1) _ (by rw [List.length_set]; omega) (by rw [List.length_set]; omega)))
theorem FnPure (b : List Int) (hm_b : b.length ≤ maxLen) (hw_b : ∀ x ∈ b, (Lit.int .u8 x).wf = true) : ∃ k, laws_FnPure.f k b = some true := by
 apply Ev.rounds
 unfold laws_FnPure.f
 by_cases hb : b.length ≤ 1048576
 rotate_left
 ·exact Ev.bnd (big_yes b hb) (Ev.pos rfl (Ev.now _))
 obtain ⟨g, l, x, ⟨hg, hgv⟩, ⟨hl, hlv⟩, e1⟩ := drawInIdeal_ok b hb
 obtain ⟨s, s1, s2⟩ := text_ok g (by omega) hgv
 obtain ⟨t, t1, t2⟩ := text_ok l (by omega) hlv
 obtain ⟨u, u1, u2, u3⟩ := sort_both l (by omega)
 obtain ⟨c, c1, c2, c3⟩ := gaps_both g (by omega)
 obtain ⟨v, v1, v2, v3⟩ := idealgens_both g l (by omega) (by omega)
 obtain ⟨w, w1, w2, w3⟩ := fromgens_both g (by omega)
 have hc := gapsS_len c g
 have hu := u1.2.2
 have e32 : (s ++ (⟨#[32]⟩ : ByteArray)).size = s.size + 1 := by rw [app_size]; rfl
 have o1 : (s ++ (⟨#[32]⟩ : ByteArray)).size + t.size ≤ 9223372036854775807 := by omega
 refine Ev.bnd (big_no b hb) (Ev.neg (by decide) (Ev.bnd e1 (Ev.bnd s2 (Ev.pos (by omega) (Ev.bnd t2 (Ev.pos o1 (Ev.bnd u3 (Ev.bnd c3 (Ev.bnd v3 (Ev.bnd w3 ?_))))))))))
 have last : ∀ (x15 : Int) (y : List Int), ¬ x15 < (y.length : Int) → Ev (fun k => laws_FnPure.l3 k l ((s ++ (⟨#[32]⟩ : ByteArray)) ++ t) x15 g y) true := fun x15 y hy => by
  refine Ev.one (fun k => by rw [laws_FnPure.l3]) ?_
  refine Ev.neg hy (Ev.bnd s2 (Ev.pos (by omega) (Ev.bnd t2 (Ev.pos o1 (Ev.pos rfl ?_)))))
  exact Ev.bnd u3 (Ev.bnd u2 (Ev.bnd (sameInts_ev u (by omega)) (Ev.pos rfl (Ev.bnd c3 (Ev.bnd c2 (Ev.bnd (sameInts_ev _ (by omega)) (Ev.pos rfl (Ev.bnd v3 (Ev.bnd v2 (Ev.bnd (sameInts_ev v (by omega)) (Ev.now _)))))))))))
 exact pure_l0 l _ _ _ g w.1 (pure_l1 l _ _ g w.1 (pure_l2 l _ g w.1 (pure_l3 l _ g last w.1.length 0 w.1 (by omega) (by omega)) v.length 0 v (by omega) (by omega)) _ 0 _ (by omega) (Nat.zero_add _)) u.length 0 u (by omega) (by omega)
end Go.Proofs.Ytkfplkdchkmgbaa.Pure
