/-
 What one has made, told as data where ways meet.
-/
import Derived.Test.YtjkdbakgnnhdnaaAbU
namespace Go.Proofs.Ytjkdbakgnnhdnaa.Ab
def rdr {α : Type} : Result α → Nat
 | .ok _ w => w.drawn
 | .halt _ w => w.drawn
theorem ask_dr {α : Type} : ∀ (a : Ask α) (w : World), w.drawn ≤ (w.ask a).2.drawn := by
 intro a
 induction a with
 | done a => intro w; exact Nat.le_refl _
 | ask what range k ih =>
  intro w
  rw [World.ask]
  split
  ·exact ih _ w
  ·exact Nat.le_trans (Nat.le_succ _) (ih _ { w with drawn := w.drawn + 1 })
theorem sys_dr (w : World) (c : Sys) : w.drawn ≤ (w.sys c).2.drawn := by
 unfold World.sys
 split
 ·exact Nat.le_refl _
 ·rename_i r os w' _ h
  have := ask_dr (Kernel.perform c w.os) w
  rw [h] at this
  exact this
theorem viewStore_dr {p : Program} {w : World} {a : Addr} {u : TypeId} {k : Addr} {v : Value} {at_ : Bool} {r : World × List Addr} (h : w.viewStore p a u k v at_ = .ok r) : r.1.drawn = w.drawn := by
 unfold World.viewStore at h
 simp only [bind, Except.bind, pure, Except.pure] at h
 repeat' split at h
 all_goals first | (cases h; done) | (cases h; rfl) | skip
theorem farStore_dr {p : Program} {w : World} {a : Addr} {v : Value} {at_ : Bool} {r : World × List Addr} (h : w.farStore p a v at_ = .ok r) : r.1.drawn = w.drawn := by
 unfold World.farStore at h
 split at h
 ·split at h
  ·rename_i h2
   cases h
   exact viewStore_dr h2
  ·cases h
 ·cases h
theorem run_dr (p : Program) {α : Type} (s : Go.Sem α) : ∀ w, w.drawn ≤ rdr (s.run p w) := by
 induction s with
 | pure a => intro w; exact Nat.le_refl _
 | load m a k ih =>
  intro w
  rw [Go.Sem.run]
  split
  ·exact ih _ w
  ·split
   ·exact ih _ w
   ·exact Nat.le_refl _
 | store m a v k ih =>
  intro w
  have hc : (w.setCell a v).drawn = w.drawn := rfl
  have key : w.drawn ≤ rdr (match w.cell? a with
    | some _ => if w.frozen? a then Result.halt (.unsupported (.unsafePointer "a write to bytes that a string shares")) w else Go.Sem.run p k (w.setCell a v)
    | none => match World.farStore p w a v (m == .atomic) with
     | .ok (w, _) => Go.Sem.run p k w
     | .error h => .halt h w) := by
   split
   ·split
    ·exact Nat.le_refl _
    ·exact hc ▸ ih (w.setCell a v)
   ·split
    ·rename_i w' _ h
     have := farStore_dr h
     exact this ▸ ih w'
    ·exact Nat.le_refl _
  cases v <;> first | exact Nat.le_refl _ | exact key
 | new o k ih => intro w; exact ih _ { w with heap := w.heap.push o }
 | shape r k ih => intro w; exact ih _ w
 | freeze a n k ih =>
  intro w
  have h : (w.freeze a n).drawn = w.drawn := by unfold World.freeze; split <;> rfl
  exact h ▸ ih (w.freeze a n)
 | frozen a k ih => intro w; exact ih _ w
 | getObj r k ih =>
  intro w
  rw [Go.Sem.run]
  split
  ·exact Nat.le_refl _
  ·exact ih _ w
  ·exact Nat.le_refl _
 | setObj r o k ih =>
  intro w
  rw [Go.Sem.run]
  split
  ·exact Nat.le_refl _
  ·exact ih { w with heap := w.heap.setIfInBounds r o }
  ·exact Nat.le_refl _
 | choose q k ih =>
  intro w
  rw [Go.Sem.run]
  split
  ·exact ih _ w
  ·exact Nat.le_trans (Nat.le_succ _) (ih _ { w with drawn := w.drawn + 1 })
 | sys c k ih => intro w; exact Nat.le_trans (sys_dr w c) (ih _ _)
 | program k ih => intro w; exact ih _ w
 | mark m k ih => intro w; exact ih w
 | halt h => intro w; exact Nat.le_refl _
theorem runT_eq (p : Program) {α : Type} (s : Go.Sem α) : ∀ w es, (s.runT p w es).1 = s.run p w := by
 induction s with
 | pure a => intro w es; rfl
 | load m a k ih =>
  intro w es
  rw [Go.Sem.runT, Go.Sem.run]
  split
  ·exact ih _ w _
  ·split
   ·exact ih _ w _
   ·rfl
 | store m a v k ih =>
  intro w es
  cases v <;> first | rfl | (
   rw [Go.Sem.runT, Go.Sem.run] <;> first | (intro _ h; cases h; done) | (
   split
   ·split
    ·rfl
    ·exact ih _ _
   ·split
    ·exact ih _ _
    ·rfl))
 | new o k ih => intro w es; exact ih _ _ _
 | shape r k ih => intro w es; exact ih _ w _
 | freeze a n k ih => intro w es; exact ih _ _
 | frozen a k ih => intro w es; exact ih _ w _
 | getObj r k ih =>
  intro w es
  rw [Go.Sem.runT, Go.Sem.run]
  split
  ·rfl
  ·exact ih _ w _
  ·rfl
 | setObj r o k ih =>
  intro w es
  rw [Go.Sem.runT, Go.Sem.run]
  split
  ·rfl
  ·exact ih _ _
  ·rfl
 | choose q k ih =>
  intro w es
  rw [Go.Sem.runT, Go.Sem.run]
  split
  ·exact ih _ w _
  ·exact ih _ _ _
 | sys c k ih => intro w es; exact ih _ _ _
 | program k ih => intro w es; exact ih _ w _
 | mark m k ih => intro w es; exact ih w _
 | halt h => intro w es; rfl
theorem runT_dr (p : Program) {α : Type} (s : Go.Sem α) (w : World) (es : Array Event) : w.drawn ≤ rdr (s.runT p w es).1 := by
 rw [runT_eq]; exact run_dr p s w
def gdr : GStep → Nat
 | .go _ w _ => w.drawn
 | .comm _ _ _ _ w _ => w.drawn
 | .spawn _ _ w _ => w.drawn
 | .count _ w _ => w.drawn
 | .timer _ _ w _ => w.drawn
 | .alone _ _ w _ => w.drawn
 | .newcoro _ _ _ w _ => w.drawn
 | .coroswitch _ _ _ w _ => w.drawn
 | .collect _ w _ => w.drawn
 | .watch _ w _ => w.drawn
 | .ended _ w _ => w.drawn
theorem gdr_after (es : Array Event) (s : GStep) : gdr (s.after es) = gdr s := by cases s <;> rfl
theorem rdr_ok {α : Type} {p : Program} {s : Go.Sem α} {w w' : World} {a : α} (h : s.run p w = .ok a w') : w.drawn ≤ w'.drawn := by have := run_dr p s w; rw [h] at this; exact this
theorem rdr_halt {α : Type} {p : Program} {s : Go.Sem α} {w w' : World} {a : Halt} (h : s.run p w = .halt a w') : w.drawn ≤ w'.drawn := by have := run_dr p s w; rw [h] at this; exact this
theorem tdr_ok {α : Type} {p : Program} {s : Go.Sem α} {w w' : World} {es es' : Array Event} {a : α} (h : s.runT p w es = (.ok a w', es')) : w.drawn ≤ w'.drawn := by have := runT_dr p s w es; rw [h] at this; exact this
theorem tdr_halt {α : Type} {p : Program} {s : Go.Sem α} {w w' : World} {es es' : Array Event} {a : Halt} (h : s.runT p w es = (.halt a w', es')) : w.drawn ≤ w'.drawn := by have := runT_dr p s w es; rw [h] at this; exact this
theorem tdr1_ok {α : Type} {p : Program} {s : Go.Sem α} {w w' : World} {es : Array Event} {a : α} (h : (s.runT p w es).1 = .ok a w') : w.drawn ≤ w'.drawn := by have := runT_dr p s w es; rw [h] at this; exact this
theorem tdr1_halt {α : Type} {p : Program} {s : Go.Sem α} {w w' : World} {es : Array Event} {a : Halt} (h : (s.runT p w es).1 = .halt a w') : w.drawn ≤ w'.drawn := by have := runT_dr p s w es; rw [h] at this; exact this
theorem endWith_dr (w : World) (fd : Nat) (text : ByteArray) (o : Outcome) : w.drawn ≤ gdr (endWith w fd text o) := by
 have h := sys_dr w (.write fd text)
 unfold endWith
 dsimp only
 split
 ·rename_i e; rw [e] at h; split <;> exact h
 ·rename_i e; rw [e] at h; exact h
 ·rename_i e; rw [e] at h; exact h
theorem endPrinting_dr (p : Program) (fr : Frame) (v : Value) (w : World) : w.drawn ≤ gdr (endPrinting p fr v w) := by
 unfold endPrinting
 dsimp only
 split <;> exact Nat.le_refl _
theorem endFatal_dr (p : Program) (fr : Frame) (cs : List Frame) (d : Option Dying) (m : String) (w : World) : w.drawn ≤ gdr (endFatal p fr cs d m w) := by
 unfold endFatal
 dsimp only
 split
 ·rename_i h; exact rdr_ok h
 ·rename_i h; exact rdr_halt h
 ·rename_i h; exact rdr_halt h
theorem writeOn_dr (p : Program) (fr : Frame) (d : Dying) (f : Fatal) (w : World) : w.drawn ≤ gdr (writeOn p fr d f w) := by
 unfold writeOn
 dsimp only
 split
 ·exact Nat.le_refl _
 ·split
  ·rename_i h; exact tdr_ok h
  ·rename_i h; exact tdr_halt h
  ·rename_i h; exact tdr_halt h
  ·rename_i h; exact tdr_halt h
theorem die_dr (p : Program) (fr : Frame) (d : Dying) (w : World) : w.drawn ≤ gdr (die p fr d w) := by
 unfold die
 dsimp only
 split
 ·exact writeOn_dr ..
 ·split
  ·split
   ·exact Nat.le_refl _
   ·exact endWith_dr ..
  ·split
   ·exact Nat.le_refl _
   ·split
    ·rename_i h; exact rdr_ok h
    ·rename_i h; exact rdr_halt h
   ·rw [gdr_after]
    split
    ·rename_i h; exact tdr1_ok h
    ·rename_i h; exact tdr1_ok h
    ·rename_i h; exact tdr1_halt h
    ·rename_i h; exact Nat.le_trans (tdr1_halt h) (endPrinting_dr ..)
    ·exact Nat.le_refl _
   ·exact Nat.le_refl _
theorem early_dr (p : Program) (fr : Frame) (cs : List Frame) (d : Option Dying) (g : Nat) (w : World) : w.drawn ≤ gdr (Go.early p fr cs d g w) := by
 unfold Go.early
 dsimp only
 repeat' split
 all_goals first | exact Nat.le_refl _ | (have h := rdr_ok ‹Go.Sem.run _ _ _ = Result.ok _ _›; exact h) | (have h := rdr_halt ‹Go.Sem.run _ _ _ = Result.halt _ _›; exact h)
theorem doReturn_dr (p : Program) (main : Bool) (fr : Frame) (cs : List Frame) (d : Option Dying) (v : Value) (w : World) : w.drawn ≤ gdr (doReturn p main fr cs d v w) := by
 unfold doReturn
 dsimp only
 repeat' split
 all_goals exact Nat.le_refl _
theorem callDeferred_dr (p : Program) (fr : Frame) (cs : List Frame) (d : Option Dying) (x : Deferred) (w : World) : w.drawn ≤ gdr (callDeferred p fr cs d x w) := by
 unfold callDeferred
 dsimp only
 repeat' (first | rw [gdr_after] | split)
 all_goals first
  | exact Nat.le_refl _
  | exact tdr1_ok (by assumption)
  | exact tdr1_halt (by assumption)
  | exact Nat.le_trans (tdr1_halt (by assumption)) (endFatal_dr ..)
theorem unwind_dr (p : Program) (main : Bool) (fr : Frame) (cs : List Frame) (d : Option Dying) (w : World) : w.drawn ≤ gdr (unwind p main fr cs d w) := by
 unfold unwind
 dsimp only
 repeat' (first | rw [gdr_after] | split)
 all_goals first
  | exact Nat.le_refl _
  | exact callDeferred_dr ..
  | exact endPrinting_dr ..
  | exact doReturn_dr ..
  | exact tdr1_ok (by assumption)
  | exact tdr1_halt (by assumption)
  | exact rdr_ok (by assumption)
  | exact rdr_halt (by assumption)
  | exact Nat.le_trans (tdr1_ok (by assumption)) (doReturn_dr ..)
theorem apply_dr (p : Program) (listen : Bool) (fr : Frame) (cs : List Frame) (d : Option Dying) (s : Go.Sem Next) (w : World) : w.drawn ≤ gdr (stepG.apply p listen fr cs d s w) := by
 unfold stepG.apply
 dsimp only
 rw [gdr_after]
 have hr : w.drawn ≤ rdr (if listen = true then s.runT p w #[] else (s.run p w, #[])).1 := by
  split
  ·exact runT_dr ..
  ·exact run_dr ..
 generalize (if listen = true then s.runT p w #[] else (s.run p w, #[])).1 = r at hr ⊢
 repeat' split
 all_goals first
  | exact hr
  | exact Nat.le_trans hr (endFatal_dr ..)
  | exact Nat.le_trans hr (early_dr ..)
theorem oper_dr (p : Program) (listen : Bool) (fr : Frame) (cs : List Frame) (d : Option Dying) (w : World) : w.drawn ≤ gdr (stepG.oper p listen fr cs d w) := by
 unfold stepG.oper
 repeat' split
 all_goals first | exact Nat.le_refl _ | exact apply_dr ..
theorem elim_dr {α : Type} {o : Option α} {a : GStep} {f : α → GStep} {n : Nat} (h : n ≤ gdr a) (h2 : ∀ x, n ≤ gdr (f x)) : n ≤ gdr (o.elim a f) := by
 cases o with
 | none => exact h
 | some x => exact h2 x
theorem exec_dr (p : Program) (main listen : Bool) (fr : Frame) (cs : List Frame) (d : Option Dying) (w : World) : w.drawn ≤ gdr (stepG.exec p main listen fr cs d w) := by
 unfold stepG.exec
 dsimp only
 repeat' (first | rw [gdr_after] | refine elim_dr ?_ ?_ | intro _ | split)
 all_goals first
  | exact Nat.le_refl _
  | exact oper_dr ..
  | exact apply_dr ..
  | exact tdr1_ok (by assumption)
  | exact tdr1_halt (by assumption)
  | exact rdr_ok (by assumption)
  | exact rdr_halt (by assumption)
  | exact Nat.le_trans (tdr1_ok (by assumption)) (doReturn_dr ..)
  | exact Nat.le_trans (tdr1_ok (by assumption)) (apply_dr ..)
  | skip
theorem stepG_dr (p : Program) (main listen : Bool) (g : Goroutine) (w : World) : w.drawn ≤ gdr (stepG p main g w listen) := by
 unfold stepG
 dsimp only
 split
 ·exact die_dr ..
 ·exact exec_dr ..
 ·exact unwind_dr ..
def sdr : Stepped → Nat → Prop
 | .next m, n => n ≤ m.world.drawn
 | .ended .., _ => True
theorem waitingAt_dr {rest : Rest} {cases : Array CommCase} {w w' : World} (h : waitingAt rest cases w = some w') : w'.drawn = w.drawn := by
 unfold waitingAt at h
 repeat' split at h
 all_goals cases h <;> rfl
theorem comm_dr (p : Program) (rest : Rest) (gs : Array Goroutine) (i : Nat) (g : Goroutine) (cases : Array CommCase) (bl : Bool) (sh : CommShape) (w : World) : sdr (communicate p rest gs i g cases bl sh w).1 w.drawn := by
 unfold communicate
 dsimp only
 repeat' split
 all_goals first
  | trivial
  | exact Nat.le_refl _
  | (rename_i h; exact Nat.le_of_eq (waitingAt_dr h).symm)
  | (rename_i h1 _ _ _ h2; exact Nat.le_trans (rdr_ok h1) (rdr_halt h2))
  | (have a := rdr_ok ‹Go.Sem.run _ (choose _) _ = Result.ok _ _›; exact Nat.le_trans (rdr_ok ‹Go.Sem.run _ _ w = Result.ok _ _›) a)
  | (have h := rdr_ok ‹Go.Sem.run _ _ _ = Result.ok _ _›; exact h)
theorem serve_dr (p : Program) (m : Machine) (k : Nat) : sdr (serve p m k) m.world.drawn := by
 unfold serve
 split
 ·trivial
 ·exact Nat.le_refl _
 ·dsimp only
  split
  ·trivial
  ·exact Nat.le_refl _
theorem look_dr (p : Program) (gs : Array Goroutine) (rest : Rest) (w : World) : sdr (look p gs rest w) w.drawn := by
 unfold look
 dsimp only
 repeat' split
 all_goals first | trivial | (have h := rdr_ok ‹Go.Sem.run _ _ _ = Result.ok _ _›; exact h) | skip
theorem drain_dr (w : World) (c : Nat) : (drain w c).2.drawn = w.drawn := by
 unfold drain
 split <;> rfl
theorem retime_dr (m : Machine) (k : Nat) (t : Timer) (a b : Nat) : (retime m k t a b).2.world.drawn = m.world.drawn := by
 unfold retime
 dsimp only
 split
 ·exact drain_dr ..
 ·rfl
theorem opened_dr {m m' : Machine} {v : Addr} (h : timerOp.opened m v = some m') : m'.world.drawn = m.world.drawn := by
 unfold timerOp.opened at h
 repeat' split at h
 all_goals cases h <;> rfl
theorem named_dr {m m' : Machine} {a : Addr} {f : Nat → Timer → Value × Machine} {v : Value} {n : Nat} (h : timerOp.named m a f = .ok (v, m')) (hf : ∀ k t, (f k t).2.world.drawn = n) : m'.world.drawn = n := by
 unfold timerOp.named at h
 split at h
 ·simp only [Except.ok.injEq] at h
  have := hf ‹_› (m.rest.timers.getD ‹_› default)
  rw [h] at this
  exact this
 ·cases h
theorem timerOp_dr {m m' : Machine} {op : TimerOp} {v : Value} (h : timerOp m op = .ok (v, m')) : m'.world.drawn = m.world.drawn := by
 unfold timerOp at h
 split at h
 ·repeat' split at h
  all_goals cases h <;> rfl
 ·exact named_dr h fun _ _ => retime_dr ..
 ·split at h
  ·rename_i h2
   exact (named_dr h fun _ _ => retime_dr ..).trans (opened_dr h2)
  ·cases h
 ·cases h
  rfl
theorem sdr_trans {s : Stepped} {a b : Nat} (h : a ≤ b) (hs : sdr s b) : sdr s a := by
 cases s with
 | next m => exact Nat.le_trans h hs
 | ended => trivial
theorem endThrow_go {fr : Frame} {m : String} {w w' : World} {g : Goroutine} {es : Array Event} (h : endThrow fr m w = .go g w' es) : w' = w := by
 simp only [endThrow, dieOf, GStep.go.injEq] at h
 exact h.2.1.symm
theorem runTm_dr (p : Program) (m : Machine) (i : Nat) (listen : Bool) : sdr (runT p m i listen).1 m.world.drawn := by
 unfold runT
 dsimp only
 have h := stepG_dr p (i == 0) listen (m.gs.swapAt! i { (default : Goroutine) with status := .finished }).1 m.world
 generalize stepG p (i == 0) (m.gs.swapAt! i { (default : Goroutine) with status := .finished }).1 m.world listen = s at h
 cases s <;> dsimp only [gdr] at h ⊢
 all_goals repeat' split
 all_goals first
  | trivial
  | exact h
  | exact sdr_trans h (comm_dr ..)
  | exact sdr_trans h (look_dr ..)
  | (rename_i h2; exact Nat.le_trans h (Nat.le_of_eq (timerOp_dr h2).symm))
  | (rename_i h2; exact Nat.le_trans h (Nat.le_of_eq (congrArg World.drawn (endThrow_go h2)).symm))
def mdr (a : Nat) : Move → Prop
 | .goroutine m _ => a ≤ m.world.drawn
 | .machine s _ => sdr s a
theorem askOn_dr (p : Program) (m : Machine) : mdr m.world.drawn (askOn p m) := by
 have pick : ∀ (m1 : Machine) (rs : List Nat), m.world.drawn ≤ m1.world.drawn → mdr m.world.drawn (match (choose (.sched rs.length)).run p m1.world with
   | .halt _ w => Move.machine (.ended (.stuck "sched" "") w)
   | .ok k world =>
    if rs.length ≤ 1 then Move.goroutine { m1 with world } (rs.getD k 0) else
    match (choose (.extern "sched.slice" 65536)).run p world with
    | .halt _ w => Move.machine (.ended (.stuck "sched.slice" "") w)
    | .ok n world => Move.goroutine { m1 with world, rest := { m1.rest with slice := if n = 0 then none else some (rs.getD k 0, n) } } (rs.getD k 0)) := by
  intro m1 rs h
  split
  ·trivial
  ·rename_i h1
   have a := rdr_ok h1
   split
   ·exact Nat.le_trans h a
   ·split
    ·trivial
    ·rename_i h2
     exact Nat.le_trans h (Nat.le_trans a (rdr_ok h2))
 unfold askOn
 dsimp only
 split
 ·trivial
 ·rename_i h1
  have a := rdr_ok h1
  split
  ·exact sdr_trans a (serve_dr p { m with world := ‹World› } _)
  ·split
   ·split
    ·exact a
    ·split
     ·exact a
     ·split
      ·trivial
      ·trivial
   ·split
    ·exact pick { m with world := ‹World› } _ a
    ·split
     ·trivial
     ·rename_i w2 h2
      have b := rdr_ok h2
      exact pick { m with world := w2 } _ (Nat.le_trans a b)
     ·rename_i w2 h2
      have b := rdr_ok h2
      exact Nat.le_trans a b
     ·rename_i k2 w2 h2
      have b := rdr_ok h2
      exact pick ({ m with world := w2 }.advanceTo _) _ (Nat.le_trans a b)
theorem ask_m_dr (p : Program) (m : Machine) : mdr m.world.drawn (Go.ask p m) := by
 unfold Go.ask
 split
 ·split
  ·trivial
  ·rename_i h1
   have a := rdr_ok h1
   have l := look_dr p m.gs m.rest ‹World›
   split
   ·rename_i m1 h2
    rw [h2] at l
    have := askOn_dr p m1
    cases hx : askOn p m1 with
    | goroutine m2 i => rw [hx] at this; exact Nat.le_trans (Nat.le_trans a l) this
    | machine s ops => rw [hx] at this; exact sdr_trans (Nat.le_trans a l) this
   ·exact sdr_trans a l
  ·rename_i w1 _ h1
   have a := rdr_ok h1
   have := askOn_dr p { m with world := w1 }
   cases hx : askOn p { m with world := w1 } with
   | goroutine m2 i => rw [hx] at this; exact Nat.le_trans a this
   | machine s ops => rw [hx] at this; exact sdr_trans a this
 ·exact askOn_dr ..
theorem move_dr (p : Program) (m : Machine) : mdr m.world.drawn (move p m) := by
 unfold move
 split
 ·split
  ·exact Nat.le_refl _
  ·trivial
 ·split
  ·split
   ·exact Nat.le_refl _
   ·exact ask_m_dr p { m with rest := { m.rest with slice := none } }
  ·exact ask_m_dr ..
theorem step_dr (p : Program) (m : Machine) : sdr (step p m) m.world.drawn := by
 unfold step stepT
 have h := move_dr p m
 split
 ·rename_i hx; rw [hx] at h; exact sdr_trans h (runTm_dr ..)
 ·rename_i hx; rw [hx] at h; exact h
theorem runN_dr (p : Program) : ∀ (n : Nat) (m m' : Machine), runN p n m = .next m' → m.world.drawn ≤ m'.world.drawn
 | 0, m, m', h => by cases h; exact Nat.le_refl _
 | n + 1, m, m', h => by
  have hs := step_dr p m
  unfold runN at h
  split at h
  ·rename_i hx
   rw [hx] at hs
   exact Nat.le_trans hs (runN_dr p n _ m' h)
  ·rename_i hx
   exact absurd h (hx m')
theorem steps_dr {p : Program} {m m' : Machine} (h : Steps p m m') : m.world.drawn ≤ m'.world.drawn := by
 obtain ⟨n, hn⟩ := h
 exact runN_dr p n m m' hn
theorem calls_dr {P : Program} {f : FuncId} {args : Array Value} {w : World} {R : Ending → World → Prop} (h : Calls P f args w R) (hR : ∀ e w', R e w' → ∃ v, e = .returned v) : Calls P f args w fun e w' => R e w' ∧ w.drawn ≤ w'.drawn := by
 intro cs
 obtain ⟨e, w', fr, h1, h2, h3⟩ := h cs
 obtain ⟨v, rfl⟩ := hR e w' h1
 exact ⟨_, w', fr, ⟨h1, steps_dr h2⟩, h2, h3⟩
open Go.RowKit
theorem dat_mk {n N nx : Nat} {fr' fr : Fr} {hp' hp : Hp} (h1 : nx ≤ N) (h2 : ∀ t, DatV hp hp' (fr t) (fr' t)) (h3 : ∀ i o', hp' i = some o' → ∃ o, hp i = some o ∧ DatO hp hp' o o') : WeakR n ⟨fr', hp', N⟩ ⟨fr, hp, nx⟩ := .dat ⟨h2, h3, h1⟩
section
variable {hp hp' : Hp}
theorem df_no (fr : Fr) : ∀ t, DatV hp hp' (fr t) (noFr t) := fun _ => .un _
theorem df_upd {fr fr' : Fr} {k : Nat} {x : AV} (h : DatV hp hp' (fr k) x) (hw : ∀ t, DatV hp hp' (fr t) (fr' t)) : ∀ t, DatV hp hp' (fr t) (upd k x fr' t) := fun t => by
 unfold upd
 split
 ·rename_i e; subst e; exact h
 ·exact hw t
theorem dc_same {x y : AV} (h : x = y) : DatC hp hp' x y := by subst h; exact .same _
theorem dc_acc {id ver sz : Nat} {es : List (List D)} {br b' : Bool} (h : hp id = accO sz ver br es) (h' : hp' id = none) (hb : br = true → b' = true) : DatC hp hp' (accV id ver es) (.d (.sl es) b') :=
 .dat _ _ (accB br es) b' (accK id es) (by rw [toD1_acc, h, accT_acc]) (fun e => hb (by cases es with | nil => cases e | cons x r => exact e)) fun i hi o ho => by
  have : i = id := by cases es with | nil => cases hi | cons x r => exact List.mem_singleton.1 hi
  subst this
  rw [h'] at ho
  cases ho
theorem dc_nil {b' : Bool} {α : Type} {f : α → List D} : DatC hp hp' (.v (.slice none 0 0)) (.d (.sl (List.map f [])) b') := .dat _ _ false b' [] rfl (fun h => by cases h) fun _ h => by cases h
theorem dl_nil : DatL hp hp' [] [] := .nil
theorem dl_cons {x y : AV} {xs ys : List AV} (h : DatC hp hp' x y) (hs : DatL hp hp' xs ys) : DatL hp hp' (x :: xs) (y :: ys) := .cons h hs
theorem dv_same {x y : AV} (h : x = y) : DatV hp hp' x y := by subst h; exact .same _
theorem dv_ag {x : AV} {cs ds : List AV} (h0 : x = .ag cs) (h : DatL hp hp' cs ds) : DatV hp hp' x (.ag ds) := by subst h0; exact .ag h
theorem dv_c {x y z : AV} (h0 : x = z) (h : DatC hp hp' z y) : DatV hp hp' x y := by
 subst h0
 cases h with
 | same => exact .same _
 | dat d b b' is h hb hi =>
  refine .dat _ d b b' is ?_ hb hi
  cases x with
  | ag _ => simp [toD1] at h
  | d y c => cases y <;> first | exact h | simp [toD1] at h
  | _ => exact h
theorem dh_upd {hp2 : Hp} {k : Nat} {x : Option AO} (h : ∀ o', x = some o' → ∃ o, hp k = some o ∧ DatO hp hp' o o') (hw : ∀ i o', hp2 i = some o' → ∃ o, hp i = some o ∧ DatO hp hp' o o') : ∀ i o', upd k x hp2 i = some o' → ∃ o, hp i = some o ∧ DatO hp hp' o o' := fun i o' => by
 unfold upd
 split
 ·rename_i e; subst e; exact h o'
 ·exact hw i o'
theorem dh_bx {k : Nat} {cs ds : List AV} (h : hp k = some (.bx cs)) (hl : DatL hp hp' cs ds) : ∀ o', some (AO.bx ds) = some o' → ∃ o, hp k = some o ∧ DatO hp hp' o o' := fun o' e => by
 cases e
 exact ⟨_, h, .bx hl⟩
end
@[go_sem] theorem toA_acc (hp : Hp) (id ver : Nat) (es : List (List D)) : toA hp (accV id ver es) = (accT (hp id) ver id es).map fun (d, b, is) => (.d d, b, is) := by
 rw [← toD1_acc]
 cases es <;> rfl
end Go.Proofs.Ytjkdbakgnnhdnaa.Ab
