/- Contracts of functions of the program: impl_inOrder, impl_LargerSemigroups. -/
import Derived.Test.YtlhcpbpcdicleaaC0
import Derived.Test.YtlhcpbpcdicleaaC1
import Derived.Test.YtlhcpbpcdicleaaC2
import Derived.Test.YtlhcpbpcdicleaaC8
namespace Go.Proofs.Ytlhcpbpcdicleaa.C
open Go.RowKit Go.Proofs.YtlhcpbpcdicleaaW.PrintWords Go.Proofs.YtlhcpbpcdicleaaW.PrintLast Go.Proofs.YtlhcpbpcdicleaaW.PrintMore
attribute [local go_sem] max2_int min2_int max_two min_two max_three min_three max_four min_four
set_option linter.unusedVariables false
set_option linter.unusedSimpArgs false
set_option maxHeartbeats 8000000
set_option maxRecDepth 100000

/-! ### impl_inOrder: function 44 -/
set_option linter.unusedSimpArgs false
section
set_option maxRecDepth 512
set_option maxHeartbeats 200000
def rLe {α : Type} (d : Nat) : Result α → Prop
  | .ok _ w => d ≤ w.drawn
  | .halt _ w => d ≤ w.drawn
theorem rLe_of {α : Type} {d e : Nat} {r : Result α} (h : d ≤ e) (k : rLe e r) : rLe d r := by
  cases r <;> exact Nat.le_trans h k
theorem ask_drawn {α : Type} : ∀ (a : Ask α) (w : World), w.drawn ≤ (w.ask a).2.drawn
  | .done a, w => by simp [World.ask]
  | .ask what range k, w => by
    unfold World.ask
    dsimp only
    split
    · exact ask_drawn (k 0) w
    · exact Nat.le_trans (Nat.le_succ _) (ask_drawn _ { w with drawn := w.drawn + 1 })
theorem sys_drawn (w : World) (c : Sys) : w.drawn ≤ (w.sys c).2.drawn := by
  unfold World.sys
  have h := ask_drawn (Kernel.perform c w.os) w
  split
  · exact Nat.le_refl _
  · rename_i e
    rw [e] at h
    exact h
theorem viewStore_drawn {p : Program} {w w' : World} {a : Addr} {u : TypeId} {k : Addr} {v : Value} {b : Bool} {l : List Addr} (h : w.viewStore p a u k v b = .ok (w', l)) : w'.drawn = w.drawn := by
  unfold World.viewStore at h
  simp only [bind, Except.bind, pure, Except.pure, throw, throwThe, MonadExceptOf.throw] at h
  repeat' (split at h)
  all_goals first | (cases h; done) | (injection h with h; injection h with h1 h2; subst h1; rfl) | skip
theorem farStore_drawn {p : Program} {w w' : World} {a : Addr} {v : Value} {b : Bool} {l : List Addr} (h : w.farStore p a v b = .ok (w', l)) : w'.drawn = w.drawn := by
  unfold World.farStore at h
  split at h
  · split at h
    · rename_i e
      cases h
      exact viewStore_drawn e
    · cases h
  · cases h
theorem freeze_drawn (w : World) (a : Addr) (n : Nat) : (w.freeze a n).drawn = w.drawn := by
  unfold World.freeze
  split <;> rfl
theorem run_drawn {α : Type} (p : Program) (s : Sem α) : ∀ w : World, rLe w.drawn (s.run p w) := by
  induction s with
  | pure a => intro w; exact Nat.le_refl _
  | load m a k ih =>
    intro w; unfold Sem.run
    split
    · exact ih _ w
    · split
      · exact ih _ w
      · exact Nat.le_refl _
  | store m a v k ih =>
    intro w
    have key : rLe w.drawn ((match w.cell? a with
      | some _ => if w.frozen? a then (Result.halt (.unsupported (.unsafePointer "a write to bytes that a string shares")) w : Result α) else k.run p (w.setCell a v)
      | none => match w.farStore p a v (m == .atomic) with
        | .ok (w, _) => k.run p w
        | .error h => .halt h w) : Result α) := by
      split
      · split
        · exact Nat.le_refl _
        · exact ih (w.setCell a v)
      · split
        · rename_i e
          have := farStore_drawn e
          rw [← this]
          exact ih _
        · exact Nat.le_refl _
    cases v <;> first | exact Nat.le_refl _ | exact key
  | new o k ih => intro w; exact ih _ { w with heap := w.heap.push o }
  | shape r k ih => intro w; exact ih _ w
  | freeze a n k ih => intro w; unfold Sem.run; rw [← freeze_drawn w a n]; exact ih _
  | frozen a k ih => intro w; exact ih _ w
  | getObj r k ih =>
    intro w; unfold Sem.run
    split
    · exact Nat.le_refl _
    · exact ih _ w
    · exact Nat.le_refl _
  | setObj r o k ih =>
    intro w; unfold Sem.run
    split
    · exact Nat.le_refl _
    · exact ih { w with heap := w.heap.setIfInBounds r o }
    · exact Nat.le_refl _
  | choose q k ih =>
    intro w; unfold Sem.run
    split
    · exact ih _ w
    · exact rLe_of (Nat.le_succ _) (ih _ { w with drawn := w.drawn + 1 })
  | sys c k ih => intro w; unfold Sem.run; exact rLe_of (sys_drawn w c) (ih _ _)
  | program k ih => intro w; exact ih _ w
  | mark m k ih => intro w; exact ih w
  | halt h => intro w; exact Nat.le_refl _
theorem runT_drawn {α : Type} (p : Program) (s : Sem α) (w : World) (es : Array Event) : rLe w.drawn ((s.runT p w es).1) := by
  rw [Sem.runT_fst]
  exact run_drawn p s w
def gwd : GStep → Nat
  | .go _ w _ => w.drawn
  | .comm _ _ _ _ w _ => w.drawn
  | .spawn _ _ w _ => w.drawn
  | .count _ w _ => w.drawn
  | .timer _ _ w _ => w.drawn
  | .alone _ _ w _ => w.drawn
  | .newcoro _ _ _ w _ => w.drawn
  | .coroswitch _ _ _ w _ => w.drawn
  | .collect _ w _ => w.drawn
  | .watch _ w _ => w.drawn
  | .ended _ w _ => w.drawn
theorem after_wd (es : Array Event) (s : GStep) : gwd (GStep.after es s) = gwd s := by cases s <;> rfl
theorem ite_wd {c : Prop} [Decidable c] {a b : GStep} {d : Nat} (h1 : d ≤ gwd a) (h2 : d ≤ gwd b) : d ≤ gwd (if c then a else b) := by split <;> assumption
theorem doReturn_wd (p : Program) (main : Bool) (fr : Frame) (callers : List Frame) (dying : Option Dying) (v : Value) (w : World) : (gwd (doReturn p main fr callers dying v w)) = w.drawn := by
  unfold doReturn
  repeat' split
  all_goals rfl
theorem endThrow_wd (fr : Frame) (m : String) (w : World) : (gwd (endThrow fr m w)) = w.drawn := rfl
theorem dieOf_wd (fr : Frame) (a : List ByteArray) (m : String) (b : Bool) (w : World) : (gwd (dieOf fr a m b w)) = w.drawn := rfl
theorem endWith_wd (w : World) (fd : Nat) (t : ByteArray) (o : Outcome) : w.drawn ≤ (gwd (endWith w fd t o)) := by
  unfold endWith
  have h := sys_drawn w (.write fd t)
  dsimp only
  split <;> rename_i e <;> rw [e] at h
  · split <;> exact h
  · exact h
  · exact h
theorem endPrinting_wd (p : Program) (fr : Frame) (v : Value) (w : World) : (gwd (endPrinting p fr v w)) = w.drawn := by
  unfold endPrinting
  dsimp only
  repeat' split
  all_goals rfl
theorem endFatal_wd (p : Program) (fr : Frame) (callers : List Frame) (dying : Option Dying) (m : String) (w : World) : w.drawn ≤ (gwd (endFatal p fr callers dying m w)) := by
  unfold endFatal
  extract_lets chain raw shown
  have h := run_drawn p shown w
  generalize shown.run p w = r at h ⊢
  cases r with
  | ok v w' => exact h
  | halt x w' => cases x <;> exact h
theorem writeOn_wd (p : Program) (fr : Frame) (d : Dying) (f : Fatal) (w : World) : w.drawn ≤ (gwd (writeOn p fr d f w)) := by
  unfold writeOn
  extract_lets on
  split
  · exact Nat.le_refl _
  · extract_lets
    rename_i write
    have h := runT_drawn p write w #[]
    generalize write.runT p w #[] = r at h ⊢
    obtain ⟨r, es⟩ := r
    cases r with
    | ok v w' => exact h
    | halt x w' => cases x <;> exact h
theorem die_wd (p : Program) (fr : Frame) (d : Dying) (w : World) : w.drawn ≤ (gwd (die p fr d w)) := by
  unfold die
  split
  · exact writeOn_wd p fr d _ w
  · split
    · split
      · exact Nat.le_refl _
      · exact endWith_wd _ _ _ _
    · extract_lets d'
      split
      · exact Nat.le_refl _
      · rename_i s _
        have h := run_drawn p (withAddress s) w
        generalize (withAddress s).run p w = r at h ⊢
        cases r <;> exact h
      · rename_i t recv name _
        have h := runT_drawn p (invoke (.fn (.method name) #[]) #[.iface t recv]) w #[]
        generalize (invoke (.fn (.method name) #[]) #[.iface t recv]).runT p w #[] = r at h ⊢
        obtain ⟨r, es⟩ := r
        dsimp only
        rw [after_wd]
        repeat' split
        all_goals first | exact h | (rw [endPrinting_wd]; exact h) | exact Nat.le_refl _
      · exact Nat.le_refl _
theorem callDeferred_wd (p : Program) (fr : Frame) (callers : List Frame) (dying : Option Dying) (d : Deferred) (w : World) : w.drawn ≤ (gwd (callDeferred p fr callers dying d w)) := by
  unfold callDeferred
  apply ite_wd
  · exact Nat.le_refl _
  · have h := runT_drawn p (invoke d.target d.args) w #[]
    generalize (invoke d.target d.args).runT p w #[] = r at h ⊢
    obtain ⟨r, es⟩ := r
    dsimp only
    rw [after_wd]
    cases r with
    | ok v w' => cases v <;> (try dsimp only) <;> first | exact h | (rename_i x y; cases y <;> exact h) | (rename_i x y; cases x <;> exact h) | (split <;> exact h)
    | halt x w' => cases x <;> first | exact h | exact Nat.le_trans h (endFatal_wd _ _ _ _ _ _)
theorem unwind_wd (p : Program) (main : Bool) (fr : Frame) (callers : List Frame) (dying : Option Dying) (w : World) : w.drawn ≤ (gwd (unwind p main fr callers dying w)) := by
  unfold unwind
  split
  · rename_i block _ ds _
    have h := runT_drawn p (Instr.takeDeferred block) w #[]
    generalize (Instr.takeDeferred block).runT p w #[] = r at h ⊢
    obtain ⟨r, es⟩ := r
    dsimp only
    rw [after_wd]
    cases r <;> exact h
  · exact callDeferred_wd _ _ _ _ _ _
  · split
    · exact Nat.le_refl _
    · split
      · exact Nat.le_refl _
      · split
        · exact Nat.le_refl _
        · split
          · split
            · exact Nat.le_refl _
            · rename_i chain _ _ _ _ _
              have h := run_drawn p (reportChain chain false) w
              generalize (reportChain chain false).run p w = r at h ⊢
              cases r with
              | ok v w' => exact h
              | halt x w' => cases x <;> exact h
          · split
            · rw [endPrinting_wd]; exact Nat.le_refl _
            · exact Nat.le_refl _
    · split
      · rw [doReturn_wd]; exact Nat.le_refl _
      · rename_i fn _
        have h := runT_drawn p (results fn fr.tmps) w #[]
        generalize (results fn fr.tmps).runT p w #[] = r at h ⊢
        obtain ⟨r, es⟩ := r
        dsimp only
        rw [after_wd]
        cases r with
        | ok v w' => dsimp only; rw [doReturn_wd]; exact h
        | halt x w' => cases x <;> exact h
theorem early_wd (p : Program) (fr : Frame) (callers : List Frame) (dying : Option Dying) (g : Nat) (w : World) : w.drawn ≤ (gwd (early p fr callers dying g w)) := by
  unfold early
  extract_lets refuse notYet
  have hN : ∀ w', (gwd (notYet w')) = w'.drawn := fun w' => by
    show gwd (match w'.heap[g]? with | some (.pending c elem) => _ | _ => _) = _
    split <;> rfl
  split
  · rw [hN]; exact Nat.le_refl _
  · split
    · exact Nat.le_refl _
    · extract_lets there
      have hT : ∀ w', (gwd (there w')) = w'.drawn := fun _ => rfl
      repeat' split
      all_goals first | exact Nat.le_refl _ | (rw [hN]; exact Nat.le_refl _) | (rw [hT]; exact Nat.le_refl _) | skip
      all_goals (have h := run_drawn p (choose (.early g)) w)
      all_goals (rename_i e; rw [e] at h; first | (rw [hN]; exact h) | (rw [hT]; exact h) | exact h)
theorem apply_wd (p : Program) (listen : Bool) (fr : Frame) (callers : List Frame) (dying : Option Dying) (s : Sem Next) (w : World) : w.drawn ≤ (gwd (stepG.apply p listen fr callers dying s w)) := by
  unfold stepG.apply
  extract_lets go kind
  have h : rLe w.drawn ((if listen then s.runT p w #[] else (s.run p w, #[])).1) := by
    split
    · exact runT_drawn p s w #[]
    · exact run_drawn p s w
  generalize (if listen then s.runT p w #[] else (s.run p w, #[])) = r at h ⊢
  obtain ⟨r, es⟩ := r
  dsimp only
  rw [after_wd]
  have hgo : ∀ f w', (gwd (go f w')) = w'.drawn := fun _ _ => rfl
  cases r with
  | ok v w' => cases v <;> (try dsimp only) <;> first | exact h | (apply ite_wd <;> exact h) | (split <;> exact h)
  | halt x w' =>
    cases x with
    | unsupported u => cases u <;> first | exact h | exact Nat.le_trans h (early_wd _ _ _ _ _ _)
    | _ => first | exact h | exact Nat.le_trans h (endFatal_wd _ _ _ _ _ _)
theorem oper_wd (p : Program) (listen : Bool) (fr : Frame) (callers : List Frame) (dying : Option Dying) (w : World) : w.drawn ≤ (gwd (stepG.oper p listen fr callers dying w)) := by
  unfold stepG.oper
  repeat' split
  all_goals first | exact Nat.le_refl _ | exact apply_wd _ _ _ _ _ _ _
theorem exec_wd (p : Program) (main : Bool) (listen : Bool) (fr : Frame) (callers : List Frame) (dying : Option Dying) (w : World) : w.drawn ≤ (gwd (stepG.exec p main listen fr callers dying w)) := by
  unfold stepG.exec
  extract_lets g1 g2 g3 g4
  have hgo : ∀ f w', (gwd (g1 f w')) = w'.drawn := fun _ _ => rfl
  have hto : ∀ x, (gwd (g2 x)) = w.drawn := fun _ => rfl
  have hlost : ∀ x, (gwd (g3 x)) = w.drawn := fun _ => rfl
  have hleave : ∀ x, w.drawn ≤ (gwd (g4 x)) := by
    intro jump
    simp only [g4]
    split
    · split <;> exact Nat.le_refl _
    · rename_i l _
      have h := runT_drawn p (Instr.endRound l jump) w #[]
      generalize (Instr.endRound l jump).runT p w #[] = r at h ⊢
      obtain ⟨r, es⟩ := r
      dsimp only
      rw [after_wd]
      cases r with
      | ok v w' => dsimp only; rw [doReturn_wd]; exact h
      | halt x w' => exact h
  clear_value g4
  split
  all_goals first | exact hleave _ | exact Nat.le_refl _ | exact apply_wd _ _ _ _ _ _ _ | skip
  · split <;> exact Nat.le_refl _
  · rename_i id k _
    cases exitTo id k with
    | none => exact hleave _
    | some x => exact Nat.le_refl _
  · rename_i l k _
    cases gotoIn l k with
    | none => exact hleave _
    | some x => exact Nat.le_refl _
  · rename_i f params assign body k _
    have h := runT_drawn p (Instr.enterLoop fr.fn fr.tmps params assign body fr.roundOf) w #[]
    generalize (Instr.enterLoop fr.fn fr.tmps params assign body fr.roundOf).runT p w #[] = r at h ⊢
    obtain ⟨r, es⟩ := r
    dsimp only
    rw [after_wd]
    cases r with
    | ok v w' => exact Nat.le_trans h (apply_wd _ _ _ _ _ _ _)
    | halt x w' => exact h
  · rename_i l k _
    have h := runT_drawn p (Instr.endLoop l) w #[]
    generalize (Instr.endLoop l).runT p w #[] = r at h ⊢
    obtain ⟨r, es⟩ := r
    dsimp only
    rw [after_wd]
    cases r with
    | ok v w' => exact h
    | halt x w' => cases x <;> exact h
  · rename_i row args _ _
    cases Extern.next row with
    | none => exact Nat.le_refl _
    | some e => exact apply_wd _ _ _ _ _ _ _
  · apply ite_wd
    · exact Nat.le_refl _
    · rename_i id ops draw k _
      have h := run_drawn p (choose (.order fr.fn id)) w
      generalize (choose (.order fr.fn id)).run p w = r at h ⊢
      cases r <;> exact h
  · apply ite_wd
    · exact oper_wd _ _ _ _ _ _
    · exact Nat.le_refl _
theorem stepG_wd (p : Program) (main : Bool) (g : Goroutine) (w : World) (listen : Bool) : w.drawn ≤ (gwd (stepG p main g w listen)) := by
  unfold stepG
  split
  split
  · exact die_wd _ _ _ _
  · exact exec_wd _ _ _ _ _ _ _
  · exact unwind_wd _ _ _ _ _ _
def sLe (d : Nat) : Stepped → Prop
  | .next m => d ≤ m.world.drawn
  | _ => True
theorem le_trans' {d e : Nat} {s : Stepped} (h : d ≤ e) (k : sLe e s) : sLe d s := by
  cases s <;> first | exact Nat.le_trans h k | trivial
theorem ite_le {c : Prop} [Decidable c] {a b : Stepped} {d : Nat} (h1 : sLe d a) (h2 : sLe d b) : sLe d (if c then a else b) := by split <;> assumption
theorem ite_le1 {c : Prop} [Decidable c] {β : Type} {a b : Stepped × β} {d : Nat} (h1 : sLe d a.1) (h2 : sLe d b.1) : sLe d (if c then a else b).1 := by split <;> assumption
theorem run_ok {α : Type} {p : Program} {s : Sem α} {w w' : World} {a : α} (e : s.run p w = .ok a w') : w.drawn ≤ w'.drawn := by
  have h := run_drawn p s w
  rw [e] at h
  exact h
theorem run_halt {α : Type} {p : Program} {s : Sem α} {w w' : World} {x : Halt} (e : s.run p w = .halt x w') : w.drawn ≤ w'.drawn := by
  have h := run_drawn p s w
  rw [e] at h
  exact h
theorem look_le (p : Program) (gs : Array Goroutine) (rest : Rest) (w : World) : sLe w.drawn (look p gs rest w) := by
  unfold look
  split
  · dsimp only
    apply ite_le
    · trivial
    · split
      · trivial
      · split
        · rename_i e
          have h := run_ok e
          exact h
        · trivial
        · trivial
  · trivial
theorem waitingAt_le {rest : Rest} {cases : Array CommCase} {w w' : World} (h : waitingAt rest cases w = some w') : w'.drawn = w.drawn := by
  unfold waitingAt at h
  split at h
  · split at h
    · cases h; rfl
    · cases h
  · cases h; rfl
theorem communicate_le (p : Program) (rest : Rest) (gs : Array Goroutine) (i : Nat) (g : Goroutine) (cases : Array CommCase) (blocking : Bool) (shape : CommShape) (w : World) : sLe w.drawn (communicate p rest gs i g cases blocking shape w).1 := by
  unfold communicate
  extract_lets put ill me other ready pick
  have hput : ∀ g gs w' ops, w.drawn ≤ w'.drawn → sLe w.drawn (put g gs w' ops).1 := fun _ _ _ _ h => h
  clear_value put ill me other
  apply ite_le1
  · trivial
  · apply ite_le1
    · apply ite_le1
      · split
        · rename_i e
          exact Nat.le_of_eq (waitingAt_le e).symm
        · trivial
      · exact hput _ _ _ _ (Nat.le_refl _)
    · split
      · trivial
      · rename_i e
        have h := run_ok e
        dsimp only
        split
        · split
          · rename_i e2
            have h2 := run_halt e2
            exact hput _ _ _ _ (Nat.le_trans h h2)
          · trivial
        · exact hput _ _ _ _ h
        · exact hput _ _ _ _ h
        · split
          · exact hput _ _ _ _ h
          · split
            · rename_i e2
              have h2 := run_ok e2
              exact hput _ _ _ _ (Nat.le_trans h h2)
            · trivial
        · exact hput _ _ _ _ h
        · exact hput _ _ _ _ h
        · trivial
theorem drain_wd (w : World) (c : Nat) : (drain w c).2.drawn = w.drawn := by
  unfold drain
  split <;> rfl
theorem retime_wd (m : Machine) (k : Nat) (t : Timer) (a b : Nat) : (retime m k t a b).2.world.drawn = m.world.drawn := by
  unfold retime
  cases t.chan with
  | none => rfl
  | some c => exact drain_wd _ _
theorem opened_wd {m m' : Machine} {v : Addr} (h : timerOp.opened m v = some m') : m'.world.drawn = m.world.drawn := by
  unfold timerOp.opened at h
  split at h
  · split at h
    · cases h; rfl
    · cases h
  · cases h; rfl
theorem named_wd {m m' : Machine} {v : Addr} {f : Nat → Timer → Value × Machine} {x : Value} (hf : ∀ k t, (f k t).2.world.drawn = m.world.drawn) (h : timerOp.named m v f = .ok (x, m')) : m'.world.drawn = m.world.drawn := by
  unfold timerOp.named at h
  split at h
  · injection h with h
    have := hf ‹Nat› (m.rest.timers.getD ‹Nat› default)
    rw [h] at this
    exact this
  · cases h
theorem timerOp_wd {m m' : Machine} {op : TimerOp} {x : Value} (h : timerOp m op = .ok (x, m')) : m'.world.drawn = m.world.drawn := by
  cases op with
  | new t =>
    unfold timerOp at h
    dsimp only at h
    split at h
    · cases h; rfl
    · split at h
      · split at h
        · cases h
        · cases h; rfl
      · cases h
  | stop v => exact named_wd (fun k t => retime_wd m k t 0 t.period) h
  | reset v a b =>
    unfold timerOp at h
    dsimp only at h
    split at h
    · rename_i e
      exact named_wd (fun k t => (retime_wd _ k t a b).trans (opened_wd e)) h
    · cases h
  | deadline c r w a => unfold timerOp at h; cases h; rfl
theorem serve_le (p : Program) (m : Machine) (k : Nat) : sLe m.world.drawn (serve p m k) := by
  unfold serve
  split
  · trivial
  · exact Nat.le_refl _
  · dsimp only
    split
    · trivial
    · exact Nat.le_refl _
theorem runT_le (p : Program) (m : Machine) (i : Nat) (l : Bool) : sLe m.world.drawn (Go.runT p m i l).1 := by
  unfold Go.runT
  extract_lets rest world
  split
  rename_i g gs _
  extract_lets wake fn pos s ops done
  have h : m.world.drawn ≤ gwd s := stepG_wd _ _ _ _ _
  have hd : ∀ r, (done r).1 = r := fun _ => rfl
  clear_value s
  cases s with
  | ended o w es => rw [hd]; trivial
  | comm g cs b sh w es =>
    have h2 := communicate_le p rest gs i g cs b sh w
    dsimp only
    exact le_trans' h h2
  | go g w es => rw [hd]; exact h
  | spawn g c w es => exact h
  | count g w es =>
    rw [hd]
    apply ite_le
    · trivial
    · exact h
  | alone g on w es => rw [hd]; exact h
  | collect g w es => rw [hd]; exact le_trans' h (look_le _ _ _ _)
  | watch g w es => rw [hd]; exact h
  | newcoro g c d w es => exact h
  | coroswitch g c ex w es =>
    rw [hd]
    split
    · exact h
    · exact h
    · trivial
  | timer g op w es =>
    rw [hd]
    split
    · rename_i e
      have := timerOp_wd e
      exact Nat.le_trans h (Nat.le_of_eq this.symm)
    · exact h
    · trivial
    · trivial
def mLe (d : Nat) : Move → Prop
  | .goroutine m _ => d ≤ m.world.drawn
  | .machine s _ => sLe d s
theorem mLe_trans {d e : Nat} {s : Move} (h : d ≤ e) (k : mLe e s) : mLe d s := by
  cases s
  · exact Nat.le_trans h k
  · exact le_trans' h k
theorem askOn_le (p : Program) (m : Machine) : mLe m.world.drawn (askOn p m) := by
  unfold askOn
  extract_lets mono rs ds pick
  have hp : ∀ m, mLe m.world.drawn (pick m) := by
    intro m
    simp only [pick]
    split
    · trivial
    · rename_i e
      have h := run_ok e
      split
      · exact h
      · split
        · trivial
        · rename_i e2
          have h2 := run_ok e2
          exact Nat.le_trans h h2
  clear_value pick rs
  split
  · trivial
  · rename_i e
    have h := run_ok e
    extract_lets m2
    have hm : m2.world.drawn = _ := rfl
    split
    · exact le_trans' h (serve_le p m2 _)
    · cases rs with
      | nil =>
        dsimp only
        split
        · exact h
        · split
          · exact h
          · split <;> trivial
      | cons r rs =>
        dsimp only
        split
        · exact mLe_trans h (hp m2)
        · split
          · trivial
          · rename_i e2
            have h2 := run_ok e2
            exact mLe_trans (Nat.le_trans h h2) (hp _)
          · rename_i e2
            have h2 := run_ok e2
            exact Nat.le_trans h h2
          · rename_i e2
            have h2 := run_ok e2
            exact mLe_trans (Nat.le_trans h h2) (hp _)
theorem ask_le (p : Program) (m : Machine) : mLe m.world.drawn (ask p m) := by
  unfold ask
  split
  · split
    · trivial
    · rename_i e
      have h := run_ok e
      split
      · rename_i e2
        have h2 := look_le p m.gs m.rest ‹World›
        rw [e2] at h2
        exact mLe_trans (Nat.le_trans h h2) (askOn_le _ _)
      · rename_i x _
        have h2 := look_le p m.gs m.rest ‹World›
        exact le_trans' h h2
    · rename_i e
      have h := run_ok e
      exact mLe_trans h (askOn_le _ _)
  · exact askOn_le _ _
theorem move_le (p : Program) (m : Machine) : mLe m.world.drawn (move p m) := by
  unfold move
  split
  · split
    · exact Nat.le_refl _
    · trivial
  · split
    · split
      · exact Nat.le_refl _
      · exact ask_le _ { m with rest := { m.rest with slice := none } }
    · exact ask_le _ _
theorem step_le (p : Program) (m : Machine) : sLe m.world.drawn (step p m) := by
  unfold step stepT
  have h := move_le p m
  generalize move p m = x at h ⊢
  cases x with
  | goroutine m' i => exact le_trans' h (runT_le _ _ _ _)
  | machine s ops => exact h
theorem runN_le (p : Program) : ∀ (n : Nat) (m m' : Machine), runN p n m = .next m' → m.world.drawn ≤ m'.world.drawn
  | 0, m, m', h => by cases h; exact Nat.le_refl _
  | n + 1, m, m', h => by
    unfold runN at h
    have k := step_le p m
    generalize step p m = x at h k
    cases x with
    | next m1 => exact Nat.le_trans k (runN_le p n m1 m' h)
    | ended o w => cases h
theorem calls_drawn {P : Program} {f : FuncId} {args : Array Value} {w : World} {R : Ending → World → Prop} (h : Calls P f args w R) : Calls P f args w fun e w' => R e w' ∧ ((∃ v, e = .returned v) → w.drawn ≤ w'.drawn) := by
  intro cs
  obtain ⟨e, w', fr, hR, hc, hf, hl⟩ := h cs
  refine ⟨e, w', fr, ⟨hR, ?_⟩, hc, hf, hl⟩
  rintro ⟨v, rfl⟩
  obtain ⟨n, hn⟩ := hc
  exact runN_le P n _ _ hn
theorem below_grow {w w' : World} (h : Below w.heap.size w w') (hd : w.drawn ≤ w'.drawn) : ∃ q os', w' = Go.Sort.grow (w.drewN q) os' := by
  refine ⟨w'.drawn - w.drawn, w'.heap.extract w.heap.size w'.heap.size, ?_⟩
  obtain ⟨h1, h2, h3, h4, h5⟩ := h
  obtain ⟨hp, tp, dr, os, ot⟩ := w'
  obtain ⟨hp0, tp0, dr0, os0, ot0⟩ := w
  simp only at h1 h2 h3 h4 h5 hd
  subst h1 h2 h3
  simp only [Go.Sort.grow, World.drewN, World.mk.injEq, true_and, and_true]
  refine ⟨?_, by omega⟩
  apply Array.ext_getElem?
  intro k
  by_cases hk : k < hp0.size
  · rw [Array.getElem?_append_left hk, h5 k hk]
  · rw [Array.getElem?_append_right (by omega), Array.getElem?_extract]
    split
    · congr 1; omega
    · rw [Array.getElem?_eq_none (by omega)]
end
def impl_inOrder.ok (k : Nat) (l r : List S26) : Prop := r.Perm l ∧ 0 < l.length ∧ l.length < 4611686018427387904 ∧ ∀ i j (hi : i < r.length) (hj : j < r.length), ∃ c, impl_inOrder_1.f k r[i].f0 r[j].f0 = some c ∧ (c < 0 ↔ i < j)
open Classical in
noncomputable def impl_inOrder.f (k : Nat) (l0 : List S26) : Option (List S26) := if h : ∃ r, impl_inOrder.ok k l0 r then some h.choose else none
theorem impl_inOrder.f_ok {k : Nat} {l r : List S26} (h : impl_inOrder.f k l = some r) : impl_inOrder.ok k l r := by
 unfold impl_inOrder.f at h
 split at h
 ·rename_i e
  obtain rfl := Option.some.inj h
  exact e.choose_spec
 ·cases h
theorem impl_inOrder.cf {k : Nat} {l r : List S26} (h : impl_inOrder.ok k l r) : ∃ e : Fin l.length → Nat, (∀ x, ∃ h : e x < r.length, r[e x] = l[x]) ∧ ∀ x y : Fin l.length, ∃ c, impl_inOrder_1.f k l[x].f0 l[y].f0 = some c ∧ (c < 0 ↔ e x < e y) := by
 have hx : ∀ x : Fin l.length, ∃ i, ∃ h : i < r.length, r[i] = l[x] := fun x => by
  have := (h.1.mem_iff (a := l[x])).2 (List.getElem_mem _)
  obtain ⟨i, hi, e⟩ := List.getElem_of_mem this
  exact ⟨i, hi, e⟩
 refine ⟨fun x => (hx x).choose, fun x => (hx x).choose_spec, fun x y => ?_⟩
 obtain ⟨hi, ei⟩ := (hx x).choose_spec
 obtain ⟨hj, ej⟩ := (hx y).choose_spec
 obtain ⟨c, hc, hl⟩ := h.2.2.2 _ _ hi hj
 exact ⟨c, by rw [← ei, ← ej]; exact hc, hl⟩
def impl_inOrder.lt (k : Nat) (a b : S26) : Prop := ∃ c, impl_inOrder_1.f k a.f0 b.f0 = some c ∧ c < 0
theorem impl_inOrder.uniq {k : Nat} {l r r' : List S26} (h : impl_inOrder.ok k l r) (hp : r'.Perm l) (hs : ∀ i j (hi : i < r'.length) (hj : j < r'.length), i < j → ¬ impl_inOrder.lt k r'[j] r'[i]) : r' = r := by
 refine List.Perm.eq_of_pairwise (le := fun a b => ¬ impl_inOrder.lt k b a) ?_ ?_ ?_ (hp.trans h.1.symm)
 ·intro a b ha hb h1 h2
  obtain ⟨j, hj, rfl⟩ := List.getElem_of_mem hb
  obtain ⟨i, hi, rfl⟩ := List.getElem_of_mem ((h.1.mem_iff).2 ((hp.mem_iff).1 ha))
  have q1 : ¬ j < i := fun q => by
   obtain ⟨c, hc, hl⟩ := h.2.2.2 j i hj hi
   exact h1 ⟨c, hc, hl.2 q⟩
  have q2 : ¬ i < j := fun q => by
   obtain ⟨c, hc, hl⟩ := h.2.2.2 i j hi hj
   exact h2 ⟨c, hc, hl.2 q⟩
  have : i = j := by omega
  subst this
  rfl
 ·rw [List.pairwise_iff_getElem]
  exact hs
 ·rw [List.pairwise_iff_getElem]
  rintro i j hi hj q ⟨c, hc, hl⟩
  obtain ⟨c', hc', hl'⟩ := h.2.2.2 j i hj hi
  rw [hc] at hc'
  obtain rfl := Option.some.inj hc'
  have := hl'.1 hl
  omega
theorem impl_inOrder.flat {α : Type} [Inhabited α] (g : α → Value) (d : Array α) : Go.Sort.flatK (fun x => [g x]) 1 d = (d.toList.map g).toArray := by
 apply Array.ext
 ·simp
 intro i h1 h2
 have hi : i < d.size := by simpa using h1
 have := Go.Sort.get_flatK (fun x => [g x]) 1 d i (by simpa using h1)
 rw [getElem!_pos _ i h1] at this
 rw [this]
 simp [Nat.mod_one, hi]
theorem impl_inOrder.ext_all {α : Type} (d : Array α) (n : Nat) (h : d.size = n) : d.extract 0 n = d := by subst h; exact Array.extract_size
theorem impl_inOrder.calls (k : Nat) (P0_ : Nat → Prop) (u9000_ : Value) (l0 : List S26) (r : List S26) (w0 w : World) (hB : Below w0.heap.size w0 w) (ho0 : Kd.S k26 26 w w0.heap.size P0_ u9000_ l0) (h : impl_inOrder.f k l0 = some r) :
  Calls Try.prog 44 #[u9000_] w fun e w' => e = .returned (.tuple #[]) ∧ Kd.S k26 26 w' w0.heap.size (fun k_ => (P0_ k_ ∨ w.heap.size ≤ k_)) u9000_ r ∧ Below w0.heap.size w0 w' ∧ Kept w w' (fun k_ => P0_ k_) := by
 have hok := impl_inOrder.f_ok h
 clear h
 obtain ⟨ex, hex, hcf⟩ := impl_inOrder.cf hok
 have hpos := hok.2.1
 have hsz := hok.2.2.1
 have hv : u9000_ ≠ .slice none 0 0 := by
  rintro rfl
  obtain ⟨f, _, inner, ho, _⟩ := ho0
  rcases ho.2 with ⟨_, e0⟩ | ⟨g, cap, cur, e0, _⟩
  ·rw [List.length_zipIdx] at e0
   omega
  ·cases e0
 obtain ⟨f, h0, inner, ho, hr⟩ := ho0
 have hlz : l0.zipIdx.length = l0.length := List.length_zipIdx ..
 rw [hlz] at ho
 have hil : inner.length = l0.length := by rw [ho.1]; exact Nat.mul_one _
 have hr' := hr
 have hid : inner.map id = inner := List.map_id _
 rw [← hid] at ho
 obtain ⟨g, cap, rfl, hb, hg, hn, hm, hz, hH⟩ := Go.Lib.holds_of_ownsRow ho hv
 have hP : P0_ g := h0 g rfl
 haveI : Inhabited (Fin l0.length) := ⟨⟨0, hpos⟩⟩
 let cl : Fin l0.length → Value := fun j => inner[j.val]'(by omega)
 have cell : ∀ (W : World), (∀ q, q < w.heap.size → q ≠ g → W.heap[q]? = w.heap[q]?) → ∀ j : Fin l0.length, ∃ A q, cl j = .slice A l0[j].f0.length q ∧ Kd.C (Kd.int .i64) W A l0[j].f0.length l0[j].f0 ∧ l0[j].f0.length ≤ q := fun W hW j => by
  have h1 := hr.2 j.val (l0[j], j.val) (by rw [List.getElem?_zipIdx, List.getElem?_eq_getElem j.isLt, Option.map_some, Nat.zero_add]; rfl)
  obtain ⟨v0, e0, hR⟩ := k26_openM h1
  have hR' := Kd.R_bound hR
  obtain ⟨A, q, rfl⟩ := Kd.R_slice hR
  refine ⟨A, q, ?_, ?_⟩
  ·have e1 : ((inner.drop (j.val * 1)).take 1)[0]? = some (Value.slice A l0[j].f0.length q) := by
    have e2 : (inner.drop (j.val * 1)).take 1 = [Value.slice A l0[j].f0.length q] := e0
    rw [e2]
    rfl
   rw [List.getElem?_take_of_lt (by omega), List.getElem?_drop, Nat.mul_one, Nat.add_zero, List.getElem?_eq_getElem (by omega)] at e1
   exact Option.some.inj e1
  ·have hM := Kd.R_move (w1 := W) hR' (fun q hq => hW q hq.2.2.1 (fun e => hq.1.1.2 (by rw [e]; rfl)))
   exact ⟨(Kd.R_reads' hM).2.2, (Kd.R_reads' hM).2.1⟩
 let enc : Fin l0.length → List Value := fun j => [cl j]
 let cf : Fin l0.length → Fin l0.length → Int := fun x y => (impl_inOrder_1.f k l0[x].f0 l0[y].f0).getD 0
 have hcfv : ∀ x y, impl_inOrder_1.f k l0[x].f0 l0[y].f0 = some (cf x y) ∧ (cf x y < 0 ↔ ex x < ex y) := fun x y => by
  obtain ⟨c, hc, hl⟩ := hcf x y
  have : cf x y = c := by simp only [cf]; rw [hc]; rfl
  rw [this]
  exact ⟨hc, hl⟩
 have hlt : ∀ x y, ltOf cf x y = decide (ex x < ex y) := fun x y => by
  unfold ltOf
  rw [decide_eq_decide]
  exact (hcfv x y).2
 have hO : Go.Sort.SWO (ltOf cf) := ⟨fun x => by rw [hlt]; simp, fun x y z => by rw [hlt, hlt, hlt]; simp; omega, fun x y z => by rw [hlt, hlt, hlt]; simp; omega⟩
 let d : Array (Fin l0.length) := (List.finRange l0.length).toArray
 have hds : d.size = l0.length := by simp [d]
 have hdp : d.toList.map cl = inner := by
  apply List.ext_getElem
  ·simp [d, hil]
  intro i h1 h2
  simp [d, cl]
 have hH0 : Go.Sort.HoldsK enc 1 w g 0 d := by
  unfold Go.Sort.HoldsK
  rw [show enc = fun x => [cl x] from rfl, impl_inOrder.flat cl d, hdp]
  exact hH
 have hfar : ∀ (m : Nat) (dk : Array (Fin l0.length)) (os : Array Obj) (q : Nat), q < w.heap.size → q ≠ g → (sortWorldK enc 1 w g 0 m dk os).heap[q]? = w.heap[q]? := fun m dk os q hq hne => by
  simp only [sortWorldK, Go.Sort.grow, Go.Sort.putRowK, Go.Sort.putRow, Go.Sort.mapBlock, Go.Sort.ahead]
  rw [Array.getElem?_append_left (by simpa using hq), Array.getElem?_modify, if_neg (fun e => hne e.symm)]
 have hcmp : CmpLays Try.prog 74 #[] enc 1 cf g 0 d.size w := fun m os dk hdk x y => by
  obtain ⟨A, q, e1, c1, q1⟩ := cell _ (hfar m dk os) x
  obtain ⟨A2, q2, e2, c2, q3⟩ := cell _ (hfar m dk os) y
  have hc := calls_drawn (impl_inOrder_1.calls k A q l0[x].f0 A2 q2 l0[y].f0 (cf x y) _ c1 q1 c2 q3 (hcfv x y).1)
  have ee : (#[.agg (enc x).toArray, .agg (enc y).toArray] ++ #[] : Array Value) = #[.agg #[.slice A l0[x].f0.length q], .agg #[.slice A2 l0[y].f0.length q2]] := by
   simp only [enc, e1, e2, Array.append_empty]
  rw [ee]
  refine hc.mono ?_
  rintro e w' ⟨⟨rfl, hb⟩, hd⟩
  exact ⟨rfl, below_grow hb (hd ⟨_, rfl⟩)⟩
 have eg : ∀ args w, (callFunc 74 args).run Try.prog w = .ok (.enter 74 args) w := enters_of Try.func74 (by kernel_rfl) rfl
 have hcon := Go.Proofs.AnyQ.slices_SortFunc Try.lSort 1 Try.isAgg26 Try.sizeOf26 enc (fun _ => rfl) (fun x v hv => by
   obtain ⟨A, q, e1, _⟩ := cell w (fun _ _ _ => rfl) x
   simp only [enc, List.mem_singleton] at hv
   rw [hv, e1]
   rfl) cf hO 74 #[] g 0 cap d w eg hcmp hH0 hg (by rw [hds]; exact hsz)
 change Calls Try.prog 73 _ _ _ at hcon
 have key : ∀ (d' : Array (Fin l0.length)) (q : Nat) (os : Array Obj), Go.Sort.PermIn 0 d.size d d' → Go.Sort.SortedIn (ltOf cf) 0 d.size d' → Kd.S k26 26 (sortWorldK enc 1 w g 0 q d' os) w0.heap.size (fun k_ => (P0_ k_ ∨ w.heap.size ≤ k_)) (.slice (some ⟨g, 0, none⟩) l0.length cap) r ∧ Below w0.heap.size w0 (sortWorldK enc 1 w g 0 q d' os) ∧ Kept w (sortWorldK enc 1 w g 0 q d' os) (fun k_ => P0_ k_) := by
  intro d' q os hp hs
  have hd's : d'.size = l0.length := hp.1.trans hds
  have hpp : d'.toList.Perm (List.finRange l0.length) := by
   have := hp.2.2
   rw [impl_inOrder.ext_all d' d.size hp.1, impl_inOrder.ext_all d d.size rfl] at this
   exact this
  have hl0 : (List.finRange l0.length).map (fun j => l0[j]) = l0 := by
   apply List.ext_getElem
   ·simp
   intro i h1 h2
   simp
  have hrr : d'.toList.map (fun j => l0[j]) = r := by
   refine impl_inOrder.uniq hok ((hpp.map _).trans (by rw [hl0])) ?_
   rintro i j hi hj q ⟨c, hc, hl⟩
   have hi' : i < d'.size := by simpa using hi
   have hj' : j < d'.size := by simpa using hj
   have h1 := hs i j (Nat.zero_le _) q (by rw [hds, ← hd's]; exact hj')
   rw [getElem!_pos _ i hi', getElem!_pos _ j hj'] at h1
   simp only [List.getElem_map, Array.getElem_toList] at hc
   have h2 := (hcfv d'[j] d'[i]).1
   rw [hc] at h2
   obtain rfl := Option.some.inj h2
   unfold ltOf at h1
   exact absurd hl (of_decide_eq_false h1)
  subst hrr
  have hW : sortWorldK enc 1 w g 0 q d' os = Go.Sort.grow (Go.Sort.putRow id (Go.Sort.ahead w q) g 0 (d'.toList.map cl).toArray) os := by
   unfold sortWorldK Go.Sort.putRowK
   rw [show enc = fun x => [cl x] from rfl, impl_inOrder.flat cl d']
  have hown := Go.Lib.ownsRow_putRow (q := q) (ys := d'.toList.map cl) ho (by simp [hd's]) (Nat.le_refl _)
  rw [List.take_of_length_le (by simp [hd's]), List.map_id] at hown
  have hblk : ∀ k, k ≠ g → (Go.Sort.putRow id (Go.Sort.ahead w q) g 0 (d'.toList.map cl).toArray).heap[k]? = w.heap[k]? := fun k hk => by
   simp [Go.Sort.putRow, Go.Sort.mapBlock, Go.Sort.ahead, Array.getElem?_modify, show g ≠ k from fun e => hk e.symm]
  have hsize : (Go.Sort.putRow id (Go.Sort.ahead w q) g 0 (d'.toList.map cl).toArray).heap.size = w.heap.size := by
   simp [Go.Sort.putRow, Go.Sort.mapBlock, Go.Sort.ahead]
  have hbg : ∀ W : World, Below W.heap.size W (Go.Sort.grow W os) := fun W => ⟨rfl, rfl, rfl, by simp [Go.Sort.grow], fun k hk => by simp only [Go.Sort.grow]; rw [Array.getElem?_append_left hk]⟩
  have hnd : (d'.toList.map (·.val)).Nodup := by
   have h1 := hpp.symm.nodup (List.nodup_finRange _)
   rw [List.nodup_iff_pairwise_ne] at h1 ⊢
   rw [List.pairwise_map]
   exact h1.imp (fun h e => h (Fin.ext e))
  have hle : (d'.toList.map (fun j => l0[j])).zipIdx.length = l0.length := by simp [hd's]
  rw [hW]
  refine ⟨Kd.S_below ?_ (hbg _), (Go.Lib.below_putRow hB hb).trans ((hbg _).mono ?_), ?_, ?_⟩
  ·refine ⟨fun q => (d'.toList.map (·.val)).idxOf (f q), fun k hk => .inl (h0 k hk), d'.toList.map cl, ?_, ?_, ?_⟩
   ·rw [hle]
    exact hown
   ·rw [hle, List.length_map, Array.length_toList (xs := d'), hd's]
    exact (Nat.mul_one _).symm
   ·intro j p hp
    rw [List.getElem?_zipIdx] at hp
    obtain ⟨x, hx, rfl⟩ := Option.map_eq_some_iff.1 hp
    obtain ⟨hj, rfl⟩ := List.getElem?_eq_some_iff.1 hx
    have hj' : j < d'.size := by simpa using hj
    have hj'' : j < d'.toList.length := by simpa using hj
    have h1 := hr.2 (d'[j]).val (l0[d'[j]], (d'[j]).val) (by rw [List.getElem?_zipIdx, List.getElem?_eq_getElem (d'[j]).isLt, Option.map_some, Nat.zero_add]; rfl)
    have h2 : k26.M w w0.heap.size (fun k => (P0_ k ∧ some k ≠ (Value.slice (some ⟨g, 0, none⟩) l0.length cap).ownBlock) ∧ f k = (d'[j]).val) l0[d'[j]] ((inner.drop ((d'[j]).val * 1)).take 1) := h1
    have hin : (inner.drop ((d'[j]).val * 1)).take 1 = [cl d'[j]] := by
     rw [Nat.mul_one, List.drop_eq_getElem_cons (by rw [hil]; exact (d'[j]).isLt)]
     rfl
    have ec : ((d'.toList.map cl).drop (j * 1)).take 1 = (inner.drop ((d'[j]).val * 1)).take 1 := by
     rw [hin, Nat.mul_one, List.drop_eq_getElem_cons (by rw [List.length_map]; exact hj'')]
     simp
    show k26.M _ w0.heap.size (fun k => ((P0_ k ∨ w.heap.size ≤ k) ∧ some k ≠ _) ∧ (d'.toList.map (·.val)).idxOf (f k) = 0 + j) _ (((d'.toList.map cl).drop (j * 1)).take 1)
    rw [ec, List.getElem_map, Array.getElem_toList]
    refine k26.M_mono (fun k hk => ?_) (k26.M_move (fun k hk => hblk k (fun e => hk.1.2 (by rw [e]; rfl))) h2)
    refine ⟨⟨.inl hk.1.1, hk.1.2⟩, ?_⟩
    rw [hk.2, Nat.zero_add]
    have := hnd.idxOf_getElem j (by simpa using hj')
    rwa [List.getElem_map, Array.getElem_toList] at this
  ·rw [hsize]
   exact hB.size
  ·simp [Go.Sort.grow, hsize]
  ·intro k hk hS
   rw [(hbg _).block k (by rw [hsize]; exact hk)]
   exact hblk k (fun e => hS (e ▸ hP))
 clear hcmp hH0 hfar cell hlt hcfv hO hcf hex
 rw [hds] at hcon
 generalize hcl : cl = cl_ at *
 go_enter Try.func44, Try.ntmps44
 go_wp2_with (go_at_call 73; refine hcon.mono ?_; rintro e w' ⟨rfl, d', n, os, hp, hs, rfl⟩)
 go_end0
 exact ⟨rfl, key d' n os (by rw [hds]; exact hp) (by rw [hds]; exact hs)⟩

noncomputable section

/-! ### impl_LargerSemigroups: function 19 -/
mutual
def impl_LargerSemigroups.j0 : Nat → Bool → List Int → Option ((List (S26)) × Bool)
 | 0, _, _ => none
 | k + 1, x19, x536000 => if x19 = true then (some (([] : List (S26)), false)) else ((impl_Gaps.f k x536000).bind fun t538 => (impl_LargerSemigroups.l0 k t538 (([] : List (S26))) (shl .i64 1 (t538.length : Int)) 0))
def impl_LargerSemigroups.l0 : Nat → List Int → List (S26) → Int → Int → Option ((List (S26)) × Bool)
 | 0, _, _, _, _ => none
 | k + 1, x4, x5, x25, x26 => if x26 < x25 then (impl_LargerSemigroups.l1 k x4 x5 x26 (([] : List Int)) x25 x26 x4 (x4.length : Int) 0) else ((impl_inOrder.f k x5).bind fun tp => some (tp, true))
def impl_LargerSemigroups.l1 : Nat → List Int → List (S26) → Int → List Int → Int → Int → List Int → Int → Int → Option ((List (S26)) × Bool)
 | 0, _, _, _, _, _, _, _, _, _ => none
 | k + 1, x4, x5, x6, x7, x25, x26, x30, x31, x32 => if x32 < x31 then (if 0 ≤ x32 then (if x32 < (x30.length : Int) then (if (Go.bits .and .i64 (shr .i64 x6 x32) 1) = 1 then (if x7.length < 17592186044416 then (impl_LargerSemigroups.l1 k x4 x5 x6 (x7 ++ [rd x30 x32]) x25 x26 x30 x31 (wrap64 (x32 + 1))) else (none)) else (impl_LargerSemigroups.l1 k x4 x5 x6 x7 x25 x26 x30 x31 (wrap64 (x32 + 1)))) else (none)) else (none)) else ((impl_FromGaps.f k x7).bind fun bt551 => (if bt551.2 = true then (if x5.length < 5864062014805 then (impl_LargerSemigroups.l0 k x4 (x5 ++ [(⟨bt551.1⟩ : S26)]) x25 (wrap64 (x26 + 1))) else (none)) else (impl_LargerSemigroups.l0 k x4 x5 x25 (wrap64 (x26 + 1)))))
end
def impl_LargerSemigroups.f (k : Nat) (l0_0 : List Int) : Option ((List (S26)) × Bool) := (impl_IsSemigroup.f k l0_0).bind fun t536 => (if t536 = true then ((impl_GenusOf.f k l0_0).bind fun t537 => (impl_LargerSemigroups.j0 k (decide (t537 > 9)) l0_0)) else (impl_LargerSemigroups.j0 k true l0_0))
theorem impl_LargerSemigroups.calls (k : Nat) (A0_0 : Option Addr) (c0_0 : Nat) (l0_0 : List Int) (r1 : List (S26)) (r2 : Bool) (w : World) (hr0_0 : Kd.C (Kd.int .i64) w A0_0 l0_0.length l0_0) (hc0_0 : l0_0.length ≤ c0_0) (h : impl_LargerSemigroups.f k l0_0 = some (r1, r2)) :
  Calls Try.prog 19 #[.agg #[.slice A0_0 l0_0.length c0_0]] w fun e w' => ∃ v0_ : Value, e = .returned (.tuple #[v0_, .bool r2]) ∧ Kd.S k26 26 w' w.heap.size (fun _ => True) v0_ r1 ∧ Below w.heap.size w w' := by
 have hu26 := Try.underlying26
 have HR0_0 := am hr0_0
 have HC0_0 := am hc0_0
 clear hr0_0 hc0_0
 have HB := am (Below.refl w.heap.size w)
 unfold impl_LargerSemigroups.f at h
 have H := h
 clear h
 have HC2 := am H
 clear H
 go_enter Try.func19, Try.ntmps19
 go_upto_region 1 with (first | ((with_reducible refine gate_dst (N := 1) rfl ?_); refine bx 1 #[.slice A0_0 l0_0.length c0_0] 26 ?_; intro gb535 hg w3 hbox hb; have BK535 := am (hbox); have GW535 := am (gs hg : w.heap.size ≤ gb535); have GE535 := GW535; replace HB := am (below_step bw hb); clear hb hbox hg))
 (try simp only [Act.put, List.setIfInBounds_toArray, List.set_cons_zero, List.set_cons_succ])
 go_cut [19] (fun v19 wc => ∃ (kq : Nat) (x19_1 : Bool), v19 = .bool x19_1 ∧ Aside0 (impl_LargerSemigroups.j0 kq x19_1 l0_0 = some (r1, r2)) ∧ Aside0 (kq ≤ k) ∧ Aside0 (wc.heap[gb535]? = some (.cells #[(.slice A0_0 l0_0.length c0_0)] 26 (0, 0))) ∧ Aside0 (Below w.heap.size w wc))
 case first =>
  have H := HC2.out
  clear HC2
  replace H := ga H; obtain ⟨t536, A4, H⟩ := H
  replace H := gb H; obtain ⟨rfl, H⟩ | ⟨rfl, H⟩ := H
  ·replace H := ga H; obtain ⟨t537, A6, H⟩ := H
   have H' := am H
   clear H
   have hcz7_0 := bc BK535 0 (.slice A0_0 l0_0.length c0_0)
   have hfz7_0 := blk_frozen BK535.out 0
   go_wp2_with (first | ((with_reducible refine gate_callee (f := 27) rfl ?_); refine gl (some 13) Try.func27 #[.agg #[.slice A0_0 l0_0.length c0_0]] ?_; (with_reducible refine (impl_IsSemigroup.calls k _ _ l0_0 true _ ?side1 ?side2 A4.out).mono ?_); (case side1 => exact co (Kd.C_below HR0_0.out HB.out)); (case side2 => exact HC0_0.out); rintro e w8 ⟨rfl, hb⟩; refine ⟨_, rfl, ?_⟩; replace BK535 := kb BK535 hb; replace HB := am (below_step bw hb); clear hb; have hcz9_0 := bc BK535 0 (.slice A0_0 l0_0.length c0_0); have hfz9_0 := blk_frozen BK535.out 0) | (go_at_call 43; (with_reducible refine (impl_GenusOf.calls k _ _ l0_0 t537 _ ?side1 ?side2 A6.out).mono ?_); (case side1 => exact co (Kd.C_below HR0_0.out HB.out)); (case side2 => exact HC0_0.out); rintro e w10 ⟨rfl, hb⟩; replace BK535 := kb BK535 hb; replace HB := am (below_step bw hb); clear hb))
   go_meet
   case rel => exact ⟨_, (decide (t537 > 9)), rr, H', ⟨om⟩, ⟨bo BK535.out⟩, ⟨bw⟩⟩
  have H' := am H
  clear H
  have hcz11_0 := bc BK535 0 (.slice A0_0 l0_0.length c0_0)
  have hfz11_0 := blk_frozen BK535.out 0
  go_wp2_with (first | ((with_reducible refine gate_callee (f := 27) rfl ?_); refine gl (some 13) Try.func27 #[.agg #[.slice A0_0 l0_0.length c0_0]] ?_; (with_reducible refine (impl_IsSemigroup.calls k _ _ l0_0 false _ ?side1 ?side2 A4.out).mono ?_); (case side1 => exact co (Kd.C_below HR0_0.out HB.out)); (case side2 => exact HC0_0.out); rintro e w12 ⟨rfl, hb⟩; refine ⟨_, rfl, ?_⟩; replace BK535 := kb BK535 hb; replace HB := am (below_step bw hb); clear hb))
  go_meet
  case rel => exact ⟨_, (true), rr, H', ⟨om⟩, ⟨bo BK535.out⟩, ⟨bw⟩⟩
 case rest =>
  clear HC2
  try clear hcz11_0; try clear hcz7_0; try clear hcz9_0; try clear hfz11_0; try clear hfz7_0; try clear hfz9_0
  obtain ⟨kq, x19_1, rfl, HA, HJ1, BK535, HB⟩ := hcut
  cases kq with
  | zero => exact absurd HA.out (by simp [impl_LargerSemigroups.j0])
  | succ kj1 =>
   have H := HA.out
   clear HA
   simp only [impl_LargerSemigroups.j0] at H
   replace H := gb H; obtain ⟨rfl, H⟩ | ⟨rfl, H⟩ := H
   ·simp only [Option.some.injEq, Prod.mk.injEq] at H
    obtain ⟨rfl, rfl⟩ := H
    go_wp2
    go_ret2
    exact ⟨_, re, by first | exact Kd.S_nil _ _ _ _ _ | exact Kd.N_nil _ _ _ _ _ | exact Kd.V_nil _ _ _ _ _ | exact Kd.Q_nil _ _ _ _ _ | exact Kd.R_nil _ _ _ _ _, bw⟩
   replace H := ga H; obtain ⟨t538, A14, H⟩ := H
   obtain ⟨y541, hy541⟩ : ∃ y_ : List (S26), y_ = (([] : List (S26))) := ⟨_, rfl⟩
   replace H : (impl_LargerSemigroups.l0 kj1 t538 y541 (shl .i64 1 (t538.length : Int)) 0) = some (r1, r2) := by first | (rw [hy541]; with_reducible first | exact H | exact bs H) | (with_reducible first | exact bs H | exact H) | (rw [hy541]; exact H) | exact H
   have Ny541 := am hy541
   clear hy541
   obtain ⟨ji15, hji15⟩ : ∃ j_ : Int, (shl .i64 1 (t538.length : Int)) = j_ := ⟨_, rfl⟩
   replace H : (impl_LargerSemigroups.l0 kj1 t538 y541 ji15 0) = some (r1, r2) := by first | (rw [hji15] at H; exact H) | (simp only [hji15] at H ⊢; exact H)
   (try rw [hji15] at A14)
   have hji15_ : (IntKind.i64.wrap (1 * 2 ^ min (t538.length : Int).toNat 64)) = ji15 := hji15
   have hji15z : (t538.length : Int) ≤ 64 → (IntKind.i64.wrap (1 * 2 ^ (t538.length : Int).toNat)) = ji15 := shl_small hji15
   have hji15p : (IntKind.i64.wrap (1 * 2 ^ min t538.length 64)) = ji15 := hji15_
   have hji15q : (t538.length : Int) ≤ 64 → (IntKind.i64.wrap (1 * 2 ^ t538.length)) = ji15 := hji15z
   have hji15r : (IntKind.i64.wrap (2 ^ min t538.length 64)) = ji15 := by have h_ := hji15p; rw [Int.one_mul] at h_; exact h_
   have hji15s : (t538.length : Int) ≤ 64 → (IntKind.i64.wrap (2 ^ t538.length)) = ji15 := fun hle_ => by have h_ := hji15q hle_; rw [Int.one_mul] at h_; exact h_
   have hji15u : (IntKind.i64.wrap (2 ^ min (t538.length : Int).toNat 64)) = ji15 := by have h_ := hji15_; rw [Int.one_mul] at h_; exact h_
   have hji15v : (t538.length : Int) ≤ 64 → (IntKind.i64.wrap (2 ^ (t538.length : Int).toNat)) = ji15 := fun hle_ => by have h_ := hji15z hle_; rw [Int.one_mul] at h_; exact h_
   have hji15y : (wrap64 (1 * 2 ^ min (t538.length : Int).toNat 64)) = ji15 := (i64_w _).symm.trans hji15_
   have hji15x : (t538.length : Int) ≤ 64 → (wrap64 (1 * 2 ^ (t538.length : Int).toNat)) = ji15 := fun h_ => (i64_w _).symm.trans (hji15z h_)
   have H' := am H
   clear H
   have hcz16_0 := bc BK535 0 (.slice A0_0 l0_0.length c0_0)
   have hfz16_0 := blk_frozen BK535.out 0
   go_wp2_with (first | ((with_reducible refine gate_callee (f := 31) rfl ?_); refine gl (some 21) Try.func31 #[.agg #[.slice A0_0 l0_0.length c0_0]] ?_; (with_reducible refine (impl_Gaps.calls kj1 _ _ l0_0 t538 _ ?side1 ?side2 A14.out).mono ?_); (case side1 => exact co (Kd.C_below HR0_0.out HB.out)); (case side2 => exact HC0_0.out); rintro e w17 ⟨v539, rfl, ho0, hb⟩; refine ⟨_, rfl, ?_⟩; have HO540 := am (Kd.R_lower ho0 (below_size bw)); replace BK535 := kb BK535 hb; replace HB := am (below_step bw hb); clear hb ho0) | ((with_reducible refine gate_dst (N := 22) rfl ?_); refine Kd.S_lit k26 _ 26 ?hg (N := 22) ?hd (xs := ([] : List (S26))) (inner := []) (ok := fun _ => True) (okp := fun _ => True) ?hr ?hp (fun _ hk => hk) trivial (Below.refl _ _) (Nat.le_refl _) (by simp) ?_; (case hd => rfl); (case hg => rfl); (case hr => first | (go_simp; done) | (go_simp; rfl)); (case hp => exact (Reps.none _ _)); intro v542 w18 ho19 hb hg_ hnew_; clear hg_ hnew_; (first | rw [← Ny541.out] at ho19 | (simp only [Int.reduceToNat] at ho19; rw [← Ny541.out] at ho19)); have HO543 := am (Kd.S_lower (Kd.S_newB (Kd.S_new' ho19 (Kd.R_lt (ro HO540.out))) (g := gb535) (o := .cells #[.slice A0_0 l0_0.length c0_0] 26 (0, 0)) (bo BK535.out)) (below_size bw)); replace HO540 := rK HO540 hb; replace BK535 := kb BK535 hb; replace HB := am (below_step bw hb); clear hb ho19; obtain ⟨Ao20, co20, eo20⟩ := Kd.R_slice HO540.out; subst eo20))
   go_loopg [5, 26] kj1 (fun kq v5 v26 w' => ∃ (x5_2 : List (S26)) (x26_2 : Int), v26 = .int .i64 x26_2 ∧ Aside0 (impl_LargerSemigroups.l0 kq t538 x5_2 ji15 x26_2 = some (r1, r2)) ∧ Aside0 (kq ≤ kj1) ∧ Aside0 (Kd.R (Kd.int .i64) 3 w' w.heap.size (fun _ => True) (.slice Ao20 t538.length co20) t538) ∧ Aside0 (Kd.S k26 26 w' w.heap.size (fun k_ => nb k_ Ao20 t538 co20 ∧ k_ ≠ gb535) v5 x5_2) ∧ Aside0 (w'.heap[gb535]? = some (.cells #[(.slice A0_0 l0_0.length c0_0)] 26 (0, 0))) ∧ Aside0 (Below w.heap.size w w'))
   case atStart => exact ⟨(y541), (0), rr, H', ⟨Nat.le_refl _⟩, ⟨ro HO540.out⟩, ⟨sM HO543.out (fun _ hk => by first | exact ⟨hk.1.2, hk.2⟩ | simp_all)⟩, ⟨bo BK535.out⟩, ⟨bw⟩⟩
   case round =>
    clear H'
    try clear hcz11_0; try clear hcz16_0; try clear hcz7_0; try clear hcz9_0; try clear hfz11_0; try clear hfz16_0; try clear hfz7_0; try clear hfz9_0
    obtain ⟨x5_2, x26_2, rfl, HA, HK2, HO_4, HO_5, BK535, HB⟩ := hrel
    cases gk with
    | zero => exact absurd HA.out (by simp [impl_LargerSemigroups.l0])
    | succ k2 =>
     have H := HA.out
     clear HA
     simp only [impl_LargerSemigroups.l0] at H
     replace H := gi H; obtain ⟨c21b0, H⟩ | ⟨c21b0, H⟩ := H
     ·obtain ⟨y544, hy544⟩ : ∃ y_ : List Int, y_ = (([] : List Int)) := ⟨_, rfl⟩
      replace H : (impl_LargerSemigroups.l1 k2 t538 x5_2 x26_2 y544 ji15 x26_2 t538 (t538.length : Int) 0) = some (r1, r2) := by first | (rw [hy544]; with_reducible first | exact H | exact bs H) | (with_reducible first | exact bs H | exact H) | (rw [hy544]; exact H) | exact H
      have Ny544 := am hy544
      clear hy544
      have H' := am H
      clear H
      go_wp2_with (first | ((with_reducible refine gate_dst (N := 29) rfl ?_); refine Kd.R_lit (Kd.int .i64) _ 3 ?hg (N := 29) ?hd (xs := ([] : List Int)) (inner := []) (ok := fun _ => True) (okp := fun _ => True) ?hr ?hp (fun _ hk => hk) trivial (Below.refl _ _) (Nat.le_refl _) (by simp) ?_; (case hd => rfl); (case hg => rfl); (case hr => first | (go_simp; done) | (go_simp; rfl)); (case hp => exact (Reps.none _ _)); intro v545 w22 ho23 hb hg_ hnew_; clear hg_ hnew_; (first | rw [← Ny544.out] at ho23 | (simp only [Int.reduceToNat] at ho23; rw [← Ny544.out] at ho23)); replace HO_5 := am (Kd.S_elder' (so HO_5.out) (Kd.R_base ho23) hb); have HO546 := am (Kd.R_lower (Kd.R_new' ho23 (Kd.R_lt (ro HO_4.out))) (below_size bw)); replace HO_4 := am (Kd.R_elder' (ro HO_4.out) (Kd.R_base ho23) hb); replace BK535 := kb BK535 hb; replace HB := am (below_step bw hb); clear hb ho23))
      go_loopg [7, 32] k2 (fun kq v7 v32 w' => ∃ (x7_3 : List Int) (x32_3 : Int), v32 = .int .i64 x32_3 ∧ Aside0 (impl_LargerSemigroups.l1 kq t538 x5_2 x26_2 x7_3 ji15 x26_2 t538 (t538.length : Int) x32_3 = some (r1, r2)) ∧ Aside0 (kq ≤ k2) ∧ Aside0 (Kd.R (Kd.int .i64) 3 w' w.heap.size (fun k_ => some k_ ≠ (v7 : Value).ownBlock) (.slice Ao20 t538.length co20) t538) ∧ Aside0 (Kd.S k26 26 w' w.heap.size (fun k_ => nb k_ Ao20 t538 co20 ∧ some k_ ≠ (v7 : Value).ownBlock ∧ nb k_ Ao20 t538 co20 ∧ k_ ≠ gb535) u5 x5_2) ∧ Aside0 (Kd.R (Kd.int .i64) 3 w' w.heap.size (fun k_ => nb k_ Ao20 t538 co20 ∧ nb k_ Ao20 t538 co20) v7 x7_3) ∧ Aside0 (Kd.R (Kd.int .i64) 3 w' w.heap.size (fun k_ => some k_ ≠ (v7 : Value).ownBlock) (.slice Ao20 t538.length co20) t538) ∧ Aside0 (w'.heap[gb535]? = some (.cells #[(.slice A0_0 l0_0.length c0_0)] 26 (0, 0))) ∧ Aside0 (Below w.heap.size w w'))
      case atStart => exact ⟨(y544), (0), rr, H', ⟨Nat.le_refl _⟩, ⟨rM HO_4.out (fun _ hk => hk.2)⟩, ⟨sM HO_5.out (fun _ hk => ⟨hk.1.1, ⟨hk.2, ⟨hk.1.1, hk.1.2⟩⟩⟩)⟩, ⟨rM HO546.out (fun _ hk => by first | exact ⟨hk.2, hk.2⟩ | simp_all)⟩, ⟨rM HO_4.out (fun _ hk => hk.2)⟩, ⟨bo BK535.out⟩, ⟨bw⟩⟩
      case round =>
       clear H'
       try clear c21b0; try clear hcz11_0; try clear hcz16_0; try clear hcz7_0; try clear hcz9_0; try clear hfz11_0; try clear hfz16_0; try clear hfz7_0; try clear hfz9_0
       obtain ⟨x7_3, x32_3, rfl, HA, HK3, HO_4, HO_5, HO_7, HO_30, BK535, HB⟩ := hrel
       cases gk with
       | zero => exact absurd HA.out (by simp [impl_LargerSemigroups.l1])
       | succ k3 =>
        have H := HA.out
        clear HA
        simp only [impl_LargerSemigroups.l1] at H
        replace H := gi H; obtain ⟨c24b0, H⟩ | ⟨c24b0, H⟩ := H
        ·replace H := gd H; obtain ⟨c25b0, H⟩ := H
         replace H := gd H; obtain ⟨c26b0, H⟩ := H
         have c27b0 := eq_true (od : 0 ≤ x32_3)
         obtain ⟨ji28, hji28⟩ : ∃ j_ : Int, (shr .i64 x26_2 x32_3) = j_ := ⟨_, rfl⟩
         replace H : (if (Go.bits .and .i64 (ji28) 1) = 1 then (if x7_3.length < 17592186044416 then (impl_LargerSemigroups.l1 k3 t538 x5_2 x26_2 (x7_3 ++ [rd t538 x32_3]) ji15 x26_2 t538 (t538.length : Int) (wrap64 (x32_3 + 1))) else (none)) else (impl_LargerSemigroups.l1 k3 t538 x5_2 x26_2 x7_3 ji15 x26_2 t538 (t538.length : Int) (wrap64 (x32_3 + 1)))) = some (r1, r2) := by first | (rw [hji28] at H; exact H) | (simp only [hji28] at H ⊢; exact H)
         have hji28_ : (x26_2 / 2 ^ min x32_3.toNat 64) = ji28 := hji28
         have hji28z : x32_3 ≤ 64 → (x26_2 / 2 ^ x32_3.toNat) = ji28 := shr_small hji28
         by_cases c29 : (Go.bits .and .i64 (ji28) 1) = 1
         ·rw [if_pos c29] at H
          have c29b0 : ((Go.bits .and .i64 (ji28) 1) == 1) = true := beq_iff_eq.mpr c29
          have c29b1 : ((Go.bits .and .i64 (ji28) 1) != 1) = false := bne_eq_false_iff_eq.mpr c29
          clear c29
          by_cases c30 : x7_3.length < 17592186044416
          rotate_left
          ·rw [if_neg c30] at H
           exact absurd H (by simp)
          rw [if_pos c30] at H
          have LMc30 := am c30
          clear c30
          obtain ⟨y548, hy548⟩ : ∃ y_ : List Int, y_ = (x7_3 ++ [rd t538 x32_3]) := ⟨_, rfl⟩
          replace H : (impl_LargerSemigroups.l1 k3 t538 x5_2 x26_2 y548 ji15 x26_2 t538 (t538.length : Int) (wrap64 (x32_3 + 1))) = some (r1, r2) := by first | (rw [hy548]; with_reducible first | exact H | exact bs H) | (with_reducible first | exact bs H | exact H) | (rw [hy548]; exact H) | exact H
          have Ny548 := am hy548
          clear hy548
          have H' := am H
          clear H
          obtain ⟨⟨ad547, e547, hx547_0⟩, p547, q547⟩ := pq (Kd.at_int (Kd.R_reads' HO_30.out).2.2 x32_3)
          cases e547
          go_wp2_with (first | ((with_reducible refine gate_builtin (b := .append) (xs := #[.tmp 42, .tmp 44]) rfl ?_); at_builtin; refine Kd.R_append (Kd.int .i64) (w0 := w) w.heap.size rfl (.tmp 42) (.tmp 44) 22 3 (.int .i64 0) 8 rfl Try.underlying22 info3 rfl (by decide) (by omega) u7 x7_3 (rd t538 x32_3) [.int .i64 (rd t538 x32_3)] (fun k_ => some k_ ≠ (.slice (some ad547) t538.length co20 : Value).ownBlock ∧ some k_ ≠ (.slice (some ad547) t538.length co20 : Value).ownBlock) (fun _ => False) rfl rfl ?aP (fun _ hk => hk.elim) ?aF ?aO ?aB ?aS ?aL ?_; (case aP => exact rfl); (case aB => exact bw); (case aF => exact (fun k_ hk => ⟨Kd.fresh' (Kd.R_lt (ro HO_4.out)) k_ hk, Kd.fresh' (Kd.R_lt (ro HO_30.out)) k_ hk⟩)); (case aO => exact (ro HO_7.out)); (case aS => exact (below_size bw)); (case aL => have := LMc30.out; omega); intro v549 w31 ho hb hg hat; rw [← Ny548.out] at ho; replace HO_4 := am (Kd.R_after (ok := (fun _ => True)) (rM HO_4.out (fun _ hk => ⟨trivial, by first | exact hk | exact (by intro a n m c x h; cases a <;> exact h : ∀ (a : Option Addr) (n m c x : Nat), some x ≠ (Value.slice a n c).ownBlock → some x ≠ (Value.slice a m c).ownBlock) _ _ _ _ _ hk⟩)) hg hat); replace HO_5 := am (Kd.S_after (ok := (fun k_ => some k_ ≠ (.slice (some ad547) t538.length co20 : Value).ownBlock ∧ some k_ ≠ (.slice (some ad547) t538.length co20 : Value).ownBlock ∧ k_ ≠ gb535)) (sM HO_5.out (fun _ hk => ⟨⟨hk.1, ⟨hk.2.2.1, hk.2.2.2⟩⟩, hk.2.1⟩)) hg hat); replace HO_30 := am (Kd.R_after (ok := (fun _ => True)) (rM HO_30.out (fun _ hk => ⟨trivial, by first | exact hk | exact (by intro a n m c x h; cases a <;> exact h : ∀ (a : Option Addr) (n m c x : Nat), some x ≠ (Value.slice a n c).ownBlock → some x ≠ (Value.slice a m c).ownBlock) _ _ _ _ _ hk⟩)) hg hat); replace BK535 := am (blk_grown (g := gb535) (o := .cells #[.slice A0_0 l0_0.length c0_0] 26 (0, 0)) (bo BK535.out) hg (Kd.R_ne HO_7.out BK535.out (by decide))); replace HB := am (hb); have HO550 := am (ho); clear HO_7 ho hb hg hat))
          go_roundg k3
          case measure => have := HJ1.out; have := HK2.out; have := HK3.out; omega
          case rel => exact ⟨(y548), (wrap64 (x32_3 + 1)), rr, H', ⟨by have := HJ1.out; have := HK2.out; have := HK3.out; omega⟩, ⟨rM HO_4.out (fun _ hk => hk.2)⟩, ⟨sM HO_5.out (fun _ hk => ⟨hk.1.1, ⟨hk.2, ⟨hk.1.2.1, hk.1.2.2⟩⟩⟩)⟩, ⟨ro HO550.out⟩, ⟨rM HO_30.out (fun _ hk => hk.2)⟩, ⟨bo BK535.out⟩, ⟨bw⟩⟩
         rw [if_neg c29] at H
         have c29b0 : ((Go.bits .and .i64 (ji28) 1) == 1) = false := beq_eq_false_iff_ne.mpr c29
         have c29b1 : ((Go.bits .and .i64 (ji28) 1) != 1) = true := bne_iff_ne.mpr c29
         have H' := am H
         clear H
         obtain ⟨⟨ad547, e547, hx547_0⟩, p547, q547⟩ := pq (Kd.at_int (Kd.R_reads' HO_30.out).2.2 x32_3)
         cases e547
         go_wp2
         go_roundg k3
         case measure => have := HJ1.out; have := HK2.out; have := HK3.out; omega
         case rel => exact ⟨(x7_3), (wrap64 (x32_3 + 1)), rr, H', ⟨by have := HJ1.out; have := HK2.out; have := HK3.out; omega⟩, ⟨ro HO_4.out⟩, ⟨so HO_5.out⟩, ⟨ro HO_7.out⟩, ⟨ro HO_30.out⟩, ⟨bo BK535.out⟩, ⟨bw⟩⟩
        replace H := ga H; obtain ⟨⟨t551, t554⟩, A32, H⟩ := H
        dsimp only at H
        replace H := gb H; obtain ⟨rfl, H⟩ | ⟨rfl, H⟩ := H
        ·by_cases c34 : x5_2.length < 5864062014805
         rotate_left
         ·rw [if_neg c34] at H
          exact absurd H (by simp)
         rw [if_pos c34] at H
         have LMc34 := am c34
         clear c34
         obtain ⟨y556, hy556⟩ : ∃ y_ : List (S26), y_ = (x5_2 ++ [(⟨t551⟩ : S26)]) := ⟨_, rfl⟩
         replace H : (impl_LargerSemigroups.l0 k3 t538 y556 ji15 (wrap64 (x26_2 + 1))) = some (r1, r2) := by first | (rw [hy556]; with_reducible first | exact H | exact bs H) | (with_reducible first | exact bs H | exact H) | (rw [hy556]; exact H) | exact H
         have Ny556 := am hy556
         clear hy556
         have H' := am H
         clear H
         obtain ⟨Ao35, co35, eo35⟩ := Kd.R_slice HO_7.out
         subst eo35
         go_wp2_with (first | ((with_reducible refine gate_callee (f := 29) rfl ?_); refine gl (some 49) Try.func29 #[.slice Ao35 x7_3.length co35] ?_; (with_reducible refine (impl_FromGaps.calls k3 _ _ x7_3 t551 true _ ?side1 ?side2 A32.out).mono ?_); (case side1 => exact co (Kd.R_reads' HO_7.out).2.2); (case side2 => exact (Kd.R_reads' HO_7.out).2.1); rintro e w36 ⟨v552, rfl, ho0, hb⟩; refine ⟨_, rfl, ?_⟩; replace HO_5 := am (Kd.S_elder' (so HO_5.out) (Kd.R_base ho0) hb); have HO553 := am (Kd.R_lower (Kd.R_new' (Kd.R_new' (Kd.R_new' ho0 (Kd.R_lt (ro HO_4.out))) (Kd.R_lt (ro HO_7.out))) (Kd.R_lt (ro HO_30.out))) (below_size bw)); replace HO_4 := am (Kd.R_elder' (ro HO_4.out) (Kd.R_base ho0) hb); replace HO_7 := am (Kd.R_elder' (ro HO_7.out) (Kd.R_base ho0) hb); replace HO_30 := am (Kd.R_elder' (ro HO_30.out) (Kd.R_base ho0) hb); replace BK535 := kb BK535 hb; replace HB := am (below_step bw hb); clear hb ho0) | ((with_reducible refine gate_dst (N := 10) rfl ?_); refine bx 10 #[.slice none 0 0] 26 ?_; intro gb555 hg w37 hbox hb; replace HO_4 := rK HO_4 hb; replace HO_5 := am (Kd.S_below (Kd.S_elderB (so HO_5.out) gb555 (Nat.le_of_eq hg.symm)) hb); replace HO_7 := rK HO_7 hb; replace HO_30 := rK HO_30 hb; replace HO553 := rK HO553 hb; have BK555 := am (hbox); have GW555 := am (gs hg : w.heap.size ≤ gb555); have GE555 := GW555; replace HB := am (below_step bw hb); have NB535_555 := nl hg BK535; have NB555_535 := ns NB535_555; replace BK535 := kb BK535 hb; clear hb hbox hg; obtain ⟨Ao38, co38, eo38⟩ := Kd.R_slice HO553.out; subst eo38; have hnb39 := NB555_535.out; have hnc39 := NB535_555.out; have hcz40_0 := bc BK555 0 (.slice none 0 0); have hfz40_0 := blk_frozen BK555.out 0) | ((with_reducible refine gate_store (t := 26) (p := 10) rfl ?_); refine store_event (t := 26) (p := 10) (v := ?vo_w41) (w1 := (w37.setCell ⟨gb555, 0, none⟩ (.slice Ao38 t551.length co38))) ?hg ?ho ?hn ?hr ?_; (case ho => rfl); (case hg => rfl); (case hn => rfl); (case hr => first | (go_simp; done) | (go_simp; rfl)); intro w41 hw; have n0_ : Aside0 (Kd.R (Kd.int .i64) 3 w41 w.heap.size (fun k_ => nb k_ Ao35 x7_3 co35 ∧ nb k_ Ao38 t551 co38) (.slice Ao20 t538.length co20) t538) := ⟨(by rw [hw]; exact (rM (Kd.R_far (p := ⟨gb555, 0, none⟩) (Kd.R_types HO_4.out BK555.out (by decide)) (fun _ hk => hk.2) (.slice Ao38 t551.length co38)) (fun _ hk => by first | exact ⟨hk.1.1, hk.1.2⟩ | simp_all)))⟩; have n1_ : Aside0 (Kd.S k26 26 w41 w.heap.size (fun k_ => nb k_ Ao20 t538 co20 ∧ nb k_ Ao35 x7_3 co35 ∧ nb k_ Ao20 t538 co20 ∧ nb k_ Ao38 t551 co38 ∧ k_ ≠ gb535 ∧ k_ ≠ gb555) u5 x5_2) := ⟨(by rw [hw]; exact (sM (Kd.S_far (p := ⟨gb555, 0, none⟩) (Kd.S_mono HO_5.out (fun k_ hk => (⟨hk, hk.2⟩ : _ ∧ k_ ≠ gb555))) (fun _ hk => hk.2) (.slice Ao38 t551.length co38)) (fun _ hk => ⟨hk.1.1.1.1, ⟨hk.1.1.1.2.1, ⟨hk.1.1.1.2.2.1, ⟨hk.1.1.2, ⟨hk.1.1.1.2.2.2, hk.1.2⟩⟩⟩⟩⟩)))⟩; have n2_ : Aside0 (Kd.R (Kd.int .i64) 3 w41 w.heap.size (fun k_ => nb k_ Ao20 t538 co20 ∧ nb k_ Ao20 t538 co20 ∧ nb k_ Ao38 t551 co38) (.slice Ao35 x7_3.length co35) x7_3) := ⟨(by rw [hw]; exact (rM (Kd.R_far (p := ⟨gb555, 0, none⟩) (Kd.R_types HO_7.out BK555.out (by decide)) (fun _ hk => hk.2) (.slice Ao38 t551.length co38)) (fun _ hk => ⟨hk.1.1.1, ⟨hk.1.1.2, hk.1.2⟩⟩)))⟩; have n3_ : Aside0 (Kd.R (Kd.int .i64) 3 w41 w.heap.size (fun k_ => nb k_ Ao35 x7_3 co35 ∧ nb k_ Ao38 t551 co38) (.slice Ao20 t538.length co20) t538) := ⟨(by rw [hw]; exact (rM (Kd.R_far (p := ⟨gb555, 0, none⟩) (Kd.R_types HO_30.out BK555.out (by decide)) (fun _ hk => hk.2) (.slice Ao38 t551.length co38)) (fun _ hk => by first | exact ⟨hk.1.1, hk.1.2⟩ | simp_all)))⟩; have n4_ : Aside0 (Kd.R (Kd.int .i64) 3 w41 w.heap.size (fun k_ => nb k_ Ao20 t538 co20 ∧ nb k_ Ao35 x7_3 co35 ∧ nb k_ Ao20 t538 co20) (.slice Ao38 t551.length co38) t551) := ⟨(by rw [hw]; exact (rM (Kd.R_far (p := ⟨gb555, 0, none⟩) (Kd.R_types HO553.out BK555.out (by decide)) (fun _ hk => hk.2) (.slice Ao38 t551.length co38)) (fun _ hk => ⟨hk.1.1.1.2, ⟨hk.1.1.2, hk.1.2⟩⟩)))⟩; have n5_ : Aside0 (w41.heap[gb535]? = some (.cells #[.slice A0_0 l0_0.length c0_0] 26 (0, 0))) := ⟨(by rw [hw]; exact (bf BK535.out))⟩; have n6_ : Aside0 (w41.heap[gb555]? = some (.cells #[.slice Ao38 t551.length co38] 26 (0, 0))) := ⟨(by rw [hw]; exact (bp BK555.out))⟩; have n7_ : Aside0 (Below w.heap.size w w41) := ⟨(by rw [hw]; exact bw)⟩; clear hw HO_4 HO_5 HO_7 HO_30 HO553 BK535 BK555 HB; have HO_4 := n0_; have HO_5 := n1_; have HO_7 := n2_; have HO_30 := n3_; have HO553 := n4_; have BK535 := n5_; have BK555 := n6_; have HB := n7_; clear n0_ n1_ n2_ n3_ n4_ n5_ n6_ n7_; have hcz42_0 := bc BK555 0 (.slice Ao38 t551.length co38); have hfz42_0 := blk_frozen BK555.out 0) | ((with_reducible refine gate_builtin (b := .append) (xs := #[.tmp 53, .tmp 55]) rfl ?_); at_builtin; refine Kd.S_append k26 (w0 := w) w.heap.size rfl (.tmp 53) (.tmp 55) 33 26 (.agg #[(.slice none 0 0)]) 24 rfl Try.underlying33 info26 rfl (by decide) (by omega) u5 x5_2 (⟨t551⟩ : S26) [.slice Ao38 t551.length co38] (fun k_ => nb k_ Ao20 t538 co20 ∧ nb k_ Ao35 x7_3 co35 ∧ nb k_ Ao20 t538 co20 ∧ k_ ≠ gb535 ∧ k_ ≠ gb555) (fun k_ => some k_ = (.slice Ao38 t551.length co38 : Value).ownBlock) rfl rfl ?aP (fun k_ hk_ => ((Kd.R_mono (ok' := fun k_ => ((fun k_ => nb k_ Ao20 t538 co20 ∧ nb k_ Ao35 x7_3 co35 ∧ nb k_ Ao20 t538 co20 ∧ k_ ≠ gb535 ∧ k_ ≠ gb555)) k_ ∧ some k_ ≠ (u5 : Value).ownBlock) (Kd.R_types (Kd.R_types (Kd.R_apart' (HO553.out) (Kd.S_typed HO_5.out) (by decide)) BK535.out (by decide)) BK555.out (by decide)) (fun k_ hk => ⟨⟨hk.1.1.1.1, ⟨hk.1.1.1.2.1, ⟨hk.1.1.1.2.2, ⟨hk.1.2, hk.2⟩⟩⟩⟩, hk.1.1.2⟩))).1 k_ hk_.symm) ?aF ?aO ?aB ?aS ?aL ?_; (case aP => exact k26_mkM _ _ _ (⟨t551⟩ : S26) (Kd.R_mono (Kd.R_tight rfl (Kd.R_mono (ok' := fun k_ => ((fun k_ => nb k_ Ao20 t538 co20 ∧ nb k_ Ao35 x7_3 co35 ∧ nb k_ Ao20 t538 co20 ∧ k_ ≠ gb535 ∧ k_ ≠ gb555)) k_ ∧ some k_ ≠ (u5 : Value).ownBlock) (Kd.R_types (Kd.R_types (Kd.R_apart' (HO553.out) (Kd.S_typed HO_5.out) (by decide)) BK535.out (by decide)) BK555.out (by decide)) (fun k_ hk => ⟨⟨hk.1.1.1.1, ⟨hk.1.1.1.2.1, ⟨hk.1.1.1.2.2, ⟨hk.1.2, hk.2⟩⟩⟩⟩, hk.1.1.2⟩))) (fun _ h_ => h_))); (case aB => exact bw); (case aF => exact (fun k_ hk => ⟨Kd.fresh' (Kd.R_lt (ro HO_4.out)) k_ hk, Kd.fresh' (Kd.R_lt (ro HO_7.out)) k_ hk, Kd.fresh' (Kd.R_lt (ro HO_30.out)) k_ hk, Kd.freshB (g := gb535) (o := .cells #[.slice A0_0 l0_0.length c0_0] 26 (0, 0)) (bo BK535.out) k_ hk, Kd.freshB (g := gb555) (o := .cells #[.slice Ao38 t551.length co38] 26 (0, 0)) (bo BK555.out) k_ hk⟩)); (case aO => exact (sM HO_5.out (fun k_ hk => ⟨⟨hk.1, ⟨hk.2.1, ⟨hk.2.2.1, ⟨hk.2.2.2.2.1, hk.2.2.2.2.2⟩⟩⟩⟩, fun e_ => hk.2.2.2.1 e_⟩))); (case aS => exact (below_size bw)); (case aL => have := LMc34.out; omega); intro v557 w43 ho hb hg hat; rw [← Ny556.out] at ho; replace HO_4 := am (Kd.R_over' (ro HO_4.out) (Kd.S_typed (so HO_5.out)) (by decide) hg); replace HO_7 := am (Kd.R_over' (ro HO_7.out) (Kd.S_typed (so HO_5.out)) (by decide) hg); replace HO_30 := am (Kd.R_over' (ro HO_30.out) (Kd.S_typed (so HO_5.out)) (by decide) hg); replace BK535 := am (blk_grown (g := gb535) (o := .cells #[.slice A0_0 l0_0.length c0_0] 26 (0, 0)) (bo BK535.out) hg (Kd.S_away HO_5.out (fun _ hk => by first | exact hk.2.2.2.2.1 | simp_all))); replace BK555 := am (blk_grown (g := gb555) (o := .cells #[.slice Ao38 t551.length co38] 26 (0, 0)) (bo BK555.out) hg (Kd.S_away HO_5.out (fun _ hk => by first | exact hk.2.2.2.2.2 | simp_all))); replace HB := am (hb); have HO558 := am (ho); clear HO_5 HO553 ho hb hg hat))
         go_roundg k3
         case measure => have := HJ1.out; have := HK2.out; have := HK3.out; omega
         case rel => exact ⟨(y556), (wrap64 (x26_2 + 1)), rr, H', ⟨by have := HJ1.out; have := HK2.out; have := HK3.out; omega⟩, ⟨rM HO_4.out (fun _ hk => trivial)⟩, ⟨sM HO558.out (fun _ hk => by first | exact ⟨hk.1, hk.2.2.2.1⟩ | simp_all)⟩, ⟨bo BK535.out⟩, ⟨bw⟩⟩
        have H' := am H
        clear H
        obtain ⟨Ao44, co44, eo44⟩ := Kd.R_slice HO_7.out
        subst eo44
        go_wp2_with (first | ((with_reducible refine gate_callee (f := 29) rfl ?_); refine gl (some 49) Try.func29 #[.slice Ao44 x7_3.length co44] ?_; (with_reducible refine (impl_FromGaps.calls k3 _ _ x7_3 t551 false _ ?side1 ?side2 A32.out).mono ?_); (case side1 => exact co (Kd.R_reads' HO_7.out).2.2); (case side2 => exact (Kd.R_reads' HO_7.out).2.1); rintro e w45 ⟨v552, rfl, ho0, hb⟩; refine ⟨_, rfl, ?_⟩; replace HO_5 := am (Kd.S_elder' (so HO_5.out) (Kd.R_base ho0) hb); have HO553 := am (Kd.R_lower (Kd.R_new' (Kd.R_new' (Kd.R_new' ho0 (Kd.R_lt (ro HO_4.out))) (Kd.R_lt (ro HO_7.out))) (Kd.R_lt (ro HO_30.out))) (below_size bw)); replace HO_4 := am (Kd.R_elder' (ro HO_4.out) (Kd.R_base ho0) hb); replace HO_7 := am (Kd.R_elder' (ro HO_7.out) (Kd.R_base ho0) hb); replace HO_30 := am (Kd.R_elder' (ro HO_30.out) (Kd.R_base ho0) hb); replace BK535 := kb BK535 hb; replace HB := am (below_step bw hb); clear hb ho0) | ((with_reducible refine gate_dst (N := 10) rfl ?_); refine bx 10 #[.slice none 0 0] 26 ?_; intro gb555 hg w46 hbox hb; replace HO_4 := rK HO_4 hb; replace HO_5 := am (Kd.S_below (Kd.S_elderB (so HO_5.out) gb555 (Nat.le_of_eq hg.symm)) hb); replace HO_7 := rK HO_7 hb; replace HO_30 := rK HO_30 hb; replace HO553 := rK HO553 hb; have BK555 := am (hbox); have GW555 := am (gs hg : w.heap.size ≤ gb555); have GE555 := GW555; replace HB := am (below_step bw hb); have NB535_555 := nl hg BK535; have NB555_535 := ns NB535_555; replace BK535 := kb BK535 hb; clear hb hbox hg; obtain ⟨Ao47, co47, eo47⟩ := Kd.R_slice HO553.out; subst eo47; have hnb48 := NB555_535.out; have hnc48 := NB535_555.out; have hcz49_0 := bc BK555 0 (.slice none 0 0); have hfz49_0 := blk_frozen BK555.out 0))
        go_roundg k3
        case measure => have := HJ1.out; have := HK2.out; have := HK3.out; omega
        case rel => exact ⟨(x5_2), (wrap64 (x26_2 + 1)), rr, H', ⟨by have := HJ1.out; have := HK2.out; have := HK3.out; omega⟩, ⟨rM (Kd.R_far (p := ⟨gb555, 0, none⟩) (Kd.R_types HO_4.out BK555.out (by decide)) (fun _ hk => hk.2) (.slice Ao47 t551.length co47)) (fun _ hk => trivial)⟩, ⟨sM (Kd.S_far (p := ⟨gb555, 0, none⟩) (Kd.S_mono HO_5.out (fun k_ hk => (⟨hk, hk.2⟩ : _ ∧ k_ ≠ gb555))) (fun _ hk => hk.2) (.slice Ao47 t551.length co47)) (fun _ hk => by first | exact ⟨hk.1.1.1.1, hk.1.1.1.2.2.2⟩ | simp_all)⟩, ⟨bf BK535.out⟩, ⟨bw⟩⟩
     replace H := ga H; obtain ⟨tp, AP, H⟩ := H
     simp only [Option.some.injEq, Prod.mk.injEq] at H
     obtain ⟨rfl, rfl⟩ := H
     go_wp2_with ((with_reducible refine gate_callee (f := 44) rfl ?_); refine gl (some 59) Try.func44 #[u5] ?_; (with_reducible refine (impl_inOrder.calls k2 (fun k_ => nb k_ Ao20 t538 co20 ∧ k_ ≠ gb535) u5 x5_2 tp w _ ?sB ?sS AP.out).mono ?_); (case sB => exact bw); (case sS => exact so HO_5.out); rintro e w99 ⟨rfl, ho, hb, hk⟩; refine ⟨_, rfl, ?_⟩; have HOr := am ho; replace HB := am hb; clear HO_5 ho hb hk)
     go_ret2
     exact ⟨_, by first | rfl | (simp [errW_none, errW_some] <;> rfl) | (simp only [← hji15]; first | rfl | (simp [errW_none, errW_some] <;> rfl)) | (simp [*, errW_none, errW_some] <;> rfl), sM HOr.out (fun _ hk => trivial), bw⟩
end

end Go.Proofs.Ytlhcpbpcdicleaa.C
