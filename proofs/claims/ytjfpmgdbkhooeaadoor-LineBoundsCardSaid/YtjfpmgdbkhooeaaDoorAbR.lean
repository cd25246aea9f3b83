/-
  Ranges over functions.
-/
import Derived.RangeFuncIn
import Derived.RangeFuncCalls
import Derived.RangeFuncSeq
import Derived.Test.YtjfpmgdbkhooeaaDoorAbJ
namespace Go.Proofs.YtjfpmgdbkhooeaaDoor.Ab
open Go.RowKit

/-- No deferred calls, no loops: what a round's body may hold. -/
def ndB : Code → Bool
  | .skip | .label _ | .ret | .exit _ => true
  | .seq a b => ndB a && ndB b
  | .cond _ a b => ndB a && ndB b
  | .block _ a => ndB a
  | .region _ ops _ => ops.all fun o => match o.op with | .defer _ => false | _ => true
  | _ => false
section
variable {P : Program} {tab : Nat → TI} {g : Gh} {N : Nat}
/-- The fences that let all in. -/
def Open (F : Fence) : Prop := F = Fence.wide ∨ ∃ r, F = Fence.wide.inRound r
theorem Open.calls {F : Fence} (h : Open F) {n : Nat} {P : Program} {f : FuncId} {args : Array Value} {w : World} {R : Ending → World → Prop} (k : Calls P f args w R) : CallsIn F n P f args w R := by
  rcases h with rfl | ⟨r, rfl⟩
  · exact callsIn_wide.2 k
  · exact CallsIn.inRound r (callsIn_wide.2 k)
theorem Open.fn {F : Fence} (h : Open F) (f : FuncId) : F.fn f := by rcases h with rfl | ⟨r, rfl⟩ <;> trivial
theorem Open.depth {F : Fence} (h : Open F) {n : Nat} (e : F.depth.isSome = true) : 1 ≤ n := by rcases h with rfl | ⟨r, rfl⟩ <;> cases e
theorem Open.steps {F : Fence} (h : Open F) {P : Program} {m m' : Machine} (k : Steps P m m') : StepsIn (Machine.fenced P F) P m m' := by
  rcases h with rfl | ⟨r, rfl⟩
  · exact stepsIn_wide.2 k
  · exact stepsIn_wide.2 k
theorem wpOps_in {F : Fence} (hF : Open F) {n : Nat} {ops : Array Oper} {Q : Exit → Act → World → Prop} (hd : ∀ (i : Nat) (o : Oper), ops[i]? = some o → ∀ c, o.op ≠ .defer c) (hQ : ¬ LetsOut Q) : ∀ (l : List Nat) (a : Act) (w : World), wpOps P ops Q l a w → wpOpsIn F n P ops Q l a w
  | [], _, _, h => h
  | i :: l, a, w, h => by
    unfold wpOps at h
    unfold wpOpsIn
    cases ho : ops[i]? with
    | none =>
      rw [ho] at h
      exact wpOps_in hF hd hQ l a w h
    | some o =>
      rw [ho] at h
      simp only at h ⊢
      by_cases hw : Region.wanted o (yielded ops a.tmps) = true
      · rw [if_pos hw] at h ⊢
        replace h := h.resolve_right fun e => hQ e.2
        refine ⟨fun f _ => hF.fn f, ?_⟩
        rw [Oper.semAt_eq _ _ _ (hd i o ho)]
        unfold Oper.wp at h
        generalize (execOp a.eval o).run P w = res at h
        have ih := wpOps_in hF (n := n) hd hQ l
        unfold Oper.upon at h
        split at h
        · exact ih _ _ h
        · exact ih _ _ h
        · exact ih _ _ h
        · rename_i f args w'
          rw [Oper.uponIn_enter]
          refine ⟨hF.depth, hF.calls (Calls.mono h (fun e w2 h2 => ?_))⟩
          cases e with
          | returned v => exact ih _ _ h2
          | panicked chain => exact h2
          | outgrown => exact h2
        · rename_i row args w'
          exact ⟨hF.depth, fun c cs _ => let ⟨v, w2, h1, h2⟩ := h c cs; ⟨v, w2, ih _ _ h1, hF.steps h2⟩⟩
        · exact h
        · exact h.elim
      · rw [if_neg hw] at h ⊢
        exact ⟨fun f _ => hF.fn f, wpOps_in hF hd hQ l _ w h⟩
theorem post_lets {Q : Ex → St → Prop} {nx : Nat} {c : Cf} {ds : List Deferred} : ¬ LetsOut (fun e a' w' => Post g N Q nx c e a' w' ∧ a'.defers = ds) := fun ⟨_, _, ⟨ex, _, _, h, _⟩, _⟩ => by cases ex <;> cases h
theorem W_soundIn (ht : TabOk P tab) (hm : P.follows .mixedOrders = true) {F : Fence} (hF : Open F) (n : Nat) : ∀ (code : Code) (Q : Ex → St → Prop) (s : St) (c : Cf) (a : Act), ndB code = true → dstsB N code = true → W P tab code Q s → Sim g s c a N → code.wpIn F n P (fun e a' w' => Post g N Q s.nx c e a' w' ∧ a'.defers = a.defers) a c.w := by
  intro code
  have here : ∀ {Q : Ex → St → Prop} {s : St} {c : Cf} {a : Act} (ex : Ex), Q ex s → Sim g s c a N → Post g N Q s.nx c ex.up a c.w ∧ a.defers = a.defers := fun ex hq hs => ⟨⟨ex, _, _, rfl, hq, hs, rfl, Ext.refl _, Nat.le_refl _, fun _ h => .inl h⟩, rfl⟩
  induction code with
  | skip => exact fun Q s c a _ _ h hs => wpIn_skip (here .normal h hs)
  | label l => exact fun Q s c a _ _ h hs => wpIn_label (here .normal h hs)
  | ret => exact fun Q s c a _ _ h hs => wpIn_ret (here .ret h hs)
  | exit n => exact fun Q s c a _ _ h hs => wpIn_exit (here (.exit n) h hs)
  | region id ops draw =>
    intro Q s c a hn hd h hs
    have hdef : ∀ (i : Nat) (o : Oper), ops[i]? = some o → ∀ c, o.op ≠ .defer c := fun i o ho c e => by
      simp only [ndB, Array.all_eq_true'] at hn
      have := hn o (Array.mem_of_getElem? ho)
      rw [e] at this
      cases this
    cases draw with
    | false => exact wpIn_region (wpOps_in hF hdef post_lets _ _ _ (region_soundD ht hd ⟨List.nodup_range, fun i hi => List.mem_range.1 hi⟩ hs (Ext.refl c) (fun _ h => h) h))
    | true =>
      refine wpIn_region_draw fun t => ?_
      simp only [Region.schedule, hm, Bool.true_or, if_true]
      obtain ⟨he, hr⟩ := Ext.world hs.hr (w' := { c.w with drawn := c.w.drawn + 1 }) rfl rfl rfl rfl
      exact wpOps_in hF hdef post_lets _ _ _ (region_soundD (id := id) (c := ⟨c.hp, c.φ, { c.w with drawn := c.w.drawn + 1 }, c.kn⟩) ht hd (lin_ok ops t) ⟨hs.hp, hr, hs.kn, fun t => (hs.fr t).ext he, hs.size, hs.dfs.ext hs.hr he⟩ he (fun _ h => h) (h t))
  | seq x y ihx ihy =>
    intro Q s c a hn hd h hs
    simp only [dstsB, ndB, Bool.and_eq_true] at hd hn
    refine wpIn_seq (wpIn_mono (ihx _ s c a hn.1 hd.1 h hs) (fun e a' w' ⟨hp, hds⟩ => ?_))
    obtain ⟨ex, s', c', h1, h2, h3, h4, h5, h6, h7⟩ := hp
    subst h1; subst h4
    cases ex with
    | normal => exact wpIn_mono (ihy _ s' c' a' hn.2 hd.2 h2 h3) (fun e a2 w' hp => ⟨Post.after hp.1 h5 h6 h7, hp.2.trans hds⟩)
    | ret => exact ⟨⟨.ret, s', c', rfl, h2, h3, rfl, h5, h6, h7⟩, hds⟩
    | exit n => exact ⟨⟨.exit n, s', c', rfl, h2, h3, rfl, h5, h6, h7⟩, hds⟩
  | cond x y z ihy ihz =>
    intro Q s c a hn hd h hs
    simp only [dstsB, ndB, Bool.and_eq_true] at hd hn
    unfold W at h
    split at h
    · rename_i t e
      have hv := (show RAt g c (.v (.bool t)) (a.eval x) by rw [← e]; exact ev_ok hs.fr x).v.1
      exact wpIn_cond_split hv (fun ht' => ihy Q s c a hn.1 hd.1 (h.1 ht') hs) fun ht' => ihz Q s c a hn.2 hd.2 (h.2 ht') hs
    · exact h.elim
  | block n x ih =>
    intro Q s c a hn hd h hs
    refine wpIn_block (wpIn_mono (ih _ s c a hn hd h hs) (fun e a' w' ⟨hp, hds⟩ => ?_))
    obtain ⟨ex, s', c', h1, h2, h3, h4, h5, h6, h7⟩ := hp
    subst h1
    cases ex with
    | normal => exact ⟨⟨.normal, s', c', rfl, h2, h3, h4, h5, h6, h7⟩, hds⟩
    | ret => exact ⟨⟨.ret, s', c', rfl, h2, h3, h4, h5, h6, h7⟩, hds⟩
    | exit m =>
      simp only [Ex.up, Exit.inBlock]
      by_cases e : m = n
      · rw [if_pos e]
        simp only [if_pos e] at h2
        exact ⟨⟨.normal, s', c', rfl, h2, h3, h4, h5, h6, h7⟩, hds⟩
      · rw [if_neg e]
        simp only [if_neg e] at h2
        exact ⟨⟨.exit m, s', c', rfl, h2, h3, h4, h5, h6, h7⟩, hds⟩
  | _ => exact fun Q s c a h => by cases h
end
end Go.Proofs.YtjfpmgdbkhooeaaDoor.Ab

namespace Go.Proofs.YtjfpmgdbkhooeaaDoor.Ab
open Go.RowKit

/-- From here to there, but for some blocks. -/
structure Fgn (M : Nat → Prop) (w w' : World) : Prop where
  os : w'.os = w.os
  tape : w'.tape = w.tape
  output : w'.output = w.output
  size : w.heap.size ≤ w'.heap.size
  drawn : w.drawn ≤ w'.drawn
  mem : ∀ k, k < w.heap.size → ¬ M k → w'.heap[k]? = w.heap[k]?
theorem Fgn.put {M : Nat → Prop} (w : World) (r : Nat) (o : Obj) (h : M r) : Fgn M w (w.putObj r o) :=
  ⟨rfl, rfl, rfl, by simp, Nat.le_refl _, fun _ _ hk => World.putObj_heap_other fun e => hk (e ▸ h)⟩
/-- An iterator over texts, for whatever body. B: its own blocks. -/
def IterOK (P : Program) (gf : FuncId) (lb : Array Value) (B : Nat → Prop) (xs : List ByteArray) (w0 : World) : Prop :=
  ∀ (l : Nat) (J : Nat → World → Prop) (Jx : World → Prop) (W : World),
    (∀ b, B b → W.heap[b]? = w0.heap[b]?) → (∀ k W1 W2, J k W1 → Fgn B W1 W2 → J k W2) → (∀ W1 W2, Jx W1 → Fgn B W1 W2 → Jx W2) →
    (∀ k x W1, xs[k]? = some x → J k W1 → YieldAt Fence.wide 0 P l #[.string x] W1 fun e W2 =>
      ((e = .returned (.bool true) ∧ J (k + 1) W2) ∨ (e = .returned (.bool false) ∧ Jx W2)) ∧ ∀ b, B b → W2.heap[b]? = W1.heap[b]?) →
    J 0 W → Calls P gf (#[.func (.yield l) #[] #[]] ++ lb) W fun e W2 => (∃ v, e = .returned v) ∧ (J xs.length W2 ∨ Jx W2)
def hide (ids : List Nat) (hp : Hp) : Hp := fun i => if ids.elem i = true then none else hp i

section
variable {P : Program} {tab : Nat → TI} {g : Gh} {N : Nat}
theorem ExtR.fgn {n : Nat} {c0 c : Cf} {M : Nat → Prop} {w' : World} (h : ExtR n c0 c) (hr : HR g c) (hf : Fgn M c.w w') (h1 : ∀ k, k < c0.w.heap.size → M k → ∃ id o, c0.hp id = some o ∧ o.fz = false ∧ c0.φ id = k) (h2 : ∀ k, M k → g.M0 k) : ExtR n c0 ⟨c.hp, c.φ, w', c.kn⟩ := by
  refine ⟨hf.os.trans h.os, hf.tape.trans h.tape, hf.output.trans h.output, Nat.le_trans h.size hf.size, h.kn, fun k hk hm => ?_, h.muts, h.keep, fun id es' sz v' br' fz' hl hn hrw => ?_, Nat.le_trans h.drawn hf.drawn⟩
  · refine (hf.mem k (Nat.lt_of_lt_of_le hk h.size) fun hM => ?_).trans (h.block k hk hm)
    obtain ⟨id, o, e1, e2, e3⟩ := h1 k hk hM
    exact hm id o e1 e2 e3
  · obtain ⟨es, v, br, fz, k1, k2, k3⟩ := h.rows id es' sz v' br' fz' hl hn hrw
    refine ⟨es, v, br, fz, k1, k2, fun e => ?_⟩
    obtain ⟨k4, k5, k6⟩ := k3 e
    refine ⟨k4, k5, fun cur T hc => ?_⟩
    obtain ⟨cur', k7, k8⟩ := k6 cur T hc
    obtain ⟨_, q2, q3⟩ := hr.dom id _ hrw
    rw [k4] at q2 q3
    exact ⟨cur', (hf.mem _ q3 fun hM => q2.2 (h2 _ hM)).trans k7, k8⟩
theorem Trp.fgn {c : Cf} {M : Nat → Prop} {w' : World} (hr : HR g c) (hf : Fgn M c.w w') (h2 : ∀ k, M k → g.M0 k) : Trp g g c ⟨c.hp, c.φ, w', c.kn⟩ where
  im _ _ hk := ⟨Nat.lt_of_lt_of_le hk.1 hf.size, hk.2⟩
  mem _ k hk := .inl (hf.mem k hk.1 fun hM => hk.2.1 (h2 k hM))
  kn _ h := ⟨h, rfl⟩
  hp _ _ h := h
  row id o ho := by
    obtain ⟨_, q2, q3⟩ := hr.dom id o ho
    exact hf.mem _ q3 fun hM => q2.2 (h2 _ hM)
theorem HR.fgn {c : Cf} {M : Nat → Prop} {w' : World} (hr : HR g c) (hf : Fgn M c.w w') (h2 : ∀ k, M k → g.M0 k) : HR g ⟨c.hp, c.φ, w', c.kn⟩ :=
  hr.tr (Trp.fgn hr hf h2) (Nat.le_trans hr.le hf.size) (fun k hk => Nat.lt_of_lt_of_le (hr.m0 k hk) hf.size) (fun id o ho => (hr.dom id o ho).2.1) hf.size
theorem Sim.fgn {s : St} {c : Cf} {a : Act} {M : Nat → Prop} {w' : World} (hs : Sim g s c a N) (hf : Fgn M c.w w') (h2 : ∀ k, M k → g.M0 k) (h3 : ∀ d ∈ a.defers, ∀ r, d.target = .collected r → ¬ M r) : Sim g s ⟨c.hp, c.φ, w', c.kn⟩ a N :=
  ⟨hs.hp, hs.hr.fgn hf h2, hs.kn, fun t => (hs.fr t).tr (Trp.fgn hs.hr hf h2), hs.size, Nat.le_trans hs.dfs.1 hf.size, hs.dfs.2.to fun d hd r hr hm => hf.mem r (Array.getElem?_eq_some_iff.1 hm).1 (h3 d hd r hr)⟩
/-- Marks lie in the memory. -/
theorem Marks.lt {B : Nat} : ∀ {ds : List Deferred} {w : World}, Marks B ds w → ∀ d ∈ ds, ∀ r, d.target = .collected r → w.heap[r]? = some (.deferred (some []))
  | [], _, _, d, hd, _, _ => by cases hd
  | e :: ds, w, ⟨⟨q, h1, h2, h3, h4⟩, h5⟩, d, hd, r, hr => by
    rcases List.mem_cons.1 hd with rfl | hd
    · rw [h2] at hr
      cases hr
      exact h3
    · exact h5.lt d hd r hr
/-- What is known in the middle of a range over a function. -/
structure Mid (g g' : Gh) (N n : Nat) (s : St) (c0 : Cf) (act : Act) (M : Nat → Prop) (hp : Hp) (nx : Nat) (c : Cf) : Prop where
  sim : Sim g' ⟨s.fr, hp, nx⟩ c act N
  ext : ExtR n c0 c
  nx : n ≤ nx
  kn : ∀ i, c.kn i → c0.kn i ∨ n ≤ i
structure Hid (g g' : Gh) (c0 : Cf) (act : Act) (M : Nat → Prop) : Prop where
  m : ∀ k, M k → g'.M0 k
  m1 : ∀ k, k < c0.w.heap.size → M k → ∃ id o, c0.hp id = some o ∧ o.fz = false ∧ c0.φ id = k
  far : ∀ d ∈ act.defers, ∀ r, d.target = .collected r → ¬ M r
  base : g'.base = g.base
  fb : g'.fb = g.fb
  m0 : ∀ k, g.M0 k → g'.M0 k
theorem Mid.fgn {g g' : Gh} {N n : Nat} {s : St} {c0 : Cf} {act : Act} {M B : Nat → Prop} {hp : Hp} {nx : Nat} {c : Cf} {w' : World} (hH : Hid g g' c0 act M) (h : Mid g g' N n s c0 act M hp nx c) (hf : Fgn B c.w w') (hB : ∀ k, B k → M k) : Mid g g' N n s c0 act M hp nx ⟨c.hp, c.φ, w', c.kn⟩ :=
  ⟨h.sim.fgn hf (fun k hk => hH.m k (hB k hk)) (fun d hd r hr hk => hH.far d hd r hr (hB r hk)), h.ext.fgn h.sim.hr hf (fun k h1 h2 => hH.m1 k h1 (hB k h2)) (fun k hk => hH.m k (hB k hk)), h.nx, h.kn⟩
theorem Mid.weakR {g g' : Gh} {N n : Nat} {s : St} {c0 : Cf} {act : Act} {M : Nat → Prop} {hp hp2 : Hp} {nx nx2 : Nat} {c : Cf} (h : Mid g g' N n s c0 act M hp nx c) (hw : WeakR n ⟨s.fr, hp2, nx2⟩ ⟨s.fr, hp, nx⟩) : ∃ c', c'.w = c.w ∧ Mid g g' N n s c0 act M hp2 nx2 c' := by
  obtain ⟨c3, h1, h2, h3, h4, h5⟩ := h.sim.weakR h.nx hw
  refine ⟨c3, h2, h1, h.ext.trans h3, h4, fun i hi => ?_⟩
  rcases h5 i hi with h6 | h6
  · exact h.kn i h6
  · exact .inr h6
/-- One round. -/
theorem round_in {g g' : Gh} {N n : Nat} {s : St} {c0 : Cf} {act : Act} {M : Nat → Prop} (ht : TabOk P tab) (hm : P.follows .mixedOrders = true) (hH : Hid g g' c0 act M) {l : Nat} (hMl : M l) {hp : Hp} {nx : Nat} {c : Cf} (h : Mid g g' N n s c0 act M hp nx c) (hM : ∀ k, M k → k < c.w.heap.size)
    {rec : Loop} (hrdy : rec.state = .ready) (hl : c.w.heap[l]? = some (.loop rec)) {fn : FuncId} {x : ByteArray} {p : Nat} {assign body : Code} (hna : ndB assign = true) (hnb : ndB body = true) (hp_ : p < N) (hda : dstsB N assign = true) (hdb : dstsB N body = true) {N1 : Hp → Nat → Prop} {R1 : Hp → Nat → Prop}
    (hW : W P tab assign (fun e s1 => match e with
      | .normal => W P tab body (fun e s2 => match e with
        | .normal => N1 s2.hp s2.nx
        | .ret => R1 s2.hp s2.nx
        | .exit _ => False) s1
      | _ => False) ⟨upd p (.v (.string x)) s.fr, hp, nx⟩)
    {R : Ending → World → Prop}
    (hn1 : ∀ hp2 nx2 c2, N1 hp2 nx2 → Mid g g' N n s c0 act M hp2 nx2 c2 → c2.w.heap[l]? = some (.loop { rec with state := .busy }) → (∀ k, M k → k ≠ l → c2.w.heap[k]? = c.w.heap[k]?) → c.w.heap.size ≤ c2.w.heap.size → R (.returned (.bool true)) (c2.w.putObj l (.loop { rec with state := .ready, pending := none })))
    (hr1 : ∀ hp2 nx2 c2, R1 hp2 nx2 → Mid g g' N n s c0 act M hp2 nx2 c2 → c2.w.heap[l]? = some (.loop { rec with state := .busy }) → (∀ k, M k → k ≠ l → c2.w.heap[k]? = c.w.heap[k]?) → c.w.heap.size ≤ c2.w.heap.size → R (.returned (.bool false)) (c2.w.putObj l (.loop { rec with state := .done, pending := some .ret }))) :
    RoundIn Fence.wide 0 P l fn (act.tmps.setIfInBounds p (.string x)) assign body c.w R := by
  refine roundIn_of_wpIn trivial ?_
  -- the round's own beginning
  have hr2 : HR ⟨g'.base, g'.M0, c.w.heap.size⟩ c := h.sim.hr.fb _
  have t2 := Trp.fb g' c c.w.heap.size
  have hfr2 : ∀ t, RAt ⟨g'.base, g'.M0, c.w.heap.size⟩ c (s.fr t) (act.tmps.getD t undef) := fun t => (h.sim.fr t).tr t2
  have hs2 : Sim ⟨g'.base, g'.M0, c.w.heap.size⟩ ⟨upd p (.v (.string x)) s.fr, hp, nx⟩ c { tmps := act.tmps.setIfInBounds p (.string x), defers := [] } N :=
    ⟨h.sim.hp, hr2, h.sim.kn, fr_put (s := s) (a := act) (d := some p) (v := .v (.string x)) (u := .string x) hfr2 (Ext.refl c) (fun t e => by cases e; rw [h.sim.size]; exact hp_) (show RA _ c (.v (.string x)) (.string x) from .v _ rfl), by simpa using h.sim.size, Nat.le_refl _, trivial⟩
  refine wpIn_mono (W_soundIn (N := N) ht hm (.inr ⟨l, rfl⟩) 0 assign _ _ c _ hna hda hW hs2) ?_
  rintro e a1 w1 ⟨⟨ex, s1, c1, he, hq, hs1, hw, hext, hnx, hkn⟩, hds1⟩
  subst he; subst hw
  cases ex with
  | ret => exact hq.elim
  | exit m => exact hq.elim
  | normal =>
  have hown : ∀ {c' : Cf}, HR ⟨g'.base, g'.M0, c.w.heap.size⟩ c' → ∀ k, M k → ∀ id o, c'.hp id = some o → o.fz = false → c'.φ id ≠ k := fun hr k hk id o ho _ e => (hr.dom id o ho).2.1.2 (e ▸ hH.m k hk)
  have hk1 : ∀ k, M k → c1.w.heap[k]? = c.w.heap[k]? := fun k hk => hext.block k (hM k hk) (hown hr2 k hk)
  have hl1 := (hk1 l hMl).trans hl
  refine ⟨_, run_beginRound hl1 hrdy, ?_⟩
  have hlt1 : l < c1.w.heap.size := (Array.getElem?_eq_some_iff.1 hl1).1
  have hfb : Fgn M c1.w (c1.w.putObj l (.loop { rec with state := .busy })) := Fgn.put _ _ _ hMl
  have hfar1 : ∀ d ∈ a1.defers, ∀ r, d.target = .collected r → ¬ M r := fun d hd => by rw [hds1] at hd; cases hd
  have hsb := hs1.fgn hfb (fun k hk => hH.m k hk) hfar1
  refine wpIn_mono (W_soundIn (N := N) ht hm (.inr ⟨l, rfl⟩) 0 body _ s1 ⟨c1.hp, c1.φ, c1.w.putObj l (.loop { rec with state := .busy }), c1.kn⟩ a1 hnb hdb hq hsb) ?_
  rintro e a2 w2 ⟨⟨ex, s2, c2, he, hq2, hs2', hw, hext2, hnx2, hkn2⟩, _⟩
  subst he; subst hw
  have hk2 : ∀ k, M k → k ≠ l → c2.w.heap[k]? = c.w.heap[k]? := fun k hk hne => (hext2.block k (by simp; exact Nat.lt_of_lt_of_le (hM k hk) hext.size) (hown hsb.hr k hk)).trans ((World.putObj_heap_other hne).trans (hk1 k hk))
  have hl2 : c2.w.heap[l]? = some (.loop { rec with state := .busy }) := (hext2.block l (by simpa using hlt1) (hown hsb.hr l hMl)).trans (World.putObj_heap_same hlt1)
  have hsz : c.w.heap.size ≤ c2.w.heap.size := Nat.le_trans hext.size (Nat.le_trans (by simp) hext2.size)
  have tu := Trp.unfb g' c2 c.w.heap.size
  have hmid : Mid g g' N n s c0 act M s2.hp s2.nx c2 := by
    refine ⟨⟨hs2'.hp, hs2'.hr.tr tu hs2'.hr.le hs2'.hr.m0 (fun id o ho => (hs2'.hr.dom id o ho).2.1) (Nat.le_refl _), hs2'.kn, fun t => (((((hfr2 t).ext hext).tr (Trp.fgn hs1.hr hfb fun k hk => hH.m k hk)).ext hext2).tr tu), h.sim.size, ?_, ?_⟩, ?_, ?_, ?_⟩
    · exact Nat.le_trans h.sim.dfs.1 hsz
    · refine Marks.ext (hr := hsb.hr) (he := hext2) ?_
      refine Marks.to (fun d hd r hr hh => ?_) (h.sim.dfs.2.ext hr2 hext)
      exact World.putObj_heap_other fun e => hH.far d hd r hr (e ▸ hMl)
    · exact ((h.ext.trans hext.toR).fgn hs1.hr hfb hH.m1 fun k hk => hH.m k hk).trans hext2.toR
    · exact Nat.le_trans h.nx (Nat.le_trans hnx hnx2)
    · intro i hi
      rcases hkn2 i hi with h6 | h6
      · rcases hkn i h6 with h7 | h7
        · exact h.kn i h7
        · exact .inr (Nat.le_trans h.nx h7)
      · exact .inr (Nat.le_trans h.nx (Nat.le_trans hnx h6))
  cases ex with
  | normal => exact ⟨_, _, run_endRound none hl2, hn1 _ _ c2 hq2 hmid hl2 hk2 hsz⟩
  | ret => exact ⟨_, _, run_endRound (some .ret) hl2, hr1 _ _ c2 hq2 hmid hl2 hk2 hsz⟩
  | exit m => exact hq2.elim
theorem semR_range (ht : TabOk P tab) (hm : P.follows .mixedOrders = true) {n : Nat} {s : St} {Q : Ex → St → Prop} {gop : Operand} {p : Nat} {assign body : Code} {gf : FuncId} {caps : List AV} {ids : List Nat} {xs : List ByteArray} {α : Type} (fr1 : Fr) (σ : α → Hp × Nat) (I : Nat → α → Prop)
    (hg : ev s.fr gop = .fn gf caps) (hen : Enters P gf)
    (hit : ∀ (g : Gh) (c : Cf) (us : Array Value), c.hp = s.hp → HR g c → us.size = caps.length → (∀ (j : Nat) (x : AV), caps[j]? = some x → ∃ u, us[j]? = some u ∧ RA g c x u) → IterOK P gf us (fun k => ∃ id ∈ ids, k = c.φ id) xs c.w)
    (hids : ∀ id ∈ ids, ∃ o, s.hp id = some o ∧ o.fz = false)
    (h0 : ∃ y, I 0 y ∧ WeakR n ⟨fr1, (σ y).1, (σ y).2⟩ ⟨s.fr, hide ids s.hp, s.nx⟩)
    (hround : ∀ k x y, xs[k]? = some x → I k y → W P tab assign (fun e s1 => match e with
      | .normal => W P tab body (fun e s2 => match e with
        | .normal => ∃ y', I (k + 1) y' ∧ WeakR n ⟨fr1, (σ y').1, (σ y').2⟩ ⟨fr1, s2.hp, s2.nx⟩
        | .ret => Q .ret ⟨fr1, s2.hp, s2.nx⟩
        | .exit _ => False) s1
      | _ => False) ⟨upd p (.v (.string x)) fr1, (σ y).1, (σ y).2⟩)
    (hend : ∀ y, I xs.length y → Q .normal ⟨fr1, (σ y).1, (σ y).2⟩) (hna : ndB assign = true) (hnb : ndB body = true) : SemR n P (.rangeFunc gop #[p] assign body) Q s := by
  intro g N c0 act hd hs hn
  simp only [dstsB, Bool.and_eq_true] at hd
  obtain ⟨⟨hdp, hda⟩, hdb⟩ := hd
  have hdp : p < N := by simpa using hdp
  refine (wpIn_wide (n := 0)).1 (wpIn_rangeFunc fun fn _ => ?_)
  have hfv := ev_ok hs.fr gop
  rw [hg] at hfv
  generalize hF : act.eval gop = fv at hfv
  cases (show RA g c0 (.fn gf caps) fv from hfv) with
  | fn _ _ us m hmm hus =>
  obtain ⟨lb, hlb⟩ : ∃ lb, lb = Array.ofFn (n := m) fun j => us j := ⟨_, rfl⟩
  rw [← hlb] at hF
  obtain ⟨rec, hrec⟩ : ∃ rec : LoopState → Option Code → Loop, rec = fun st pe => { state := st, pending := pe, fn, tmps := act.tmps, params := #[p], assign, body, defers := c0.w.heap.size } := ⟨_, rfl⟩
  obtain ⟨W1, hW1⟩ : ∃ W1, (c0.w.alloc (.deferred (some []))).alloc (.loop (rec .ready none)) = W1 := ⟨_, rfl⟩
  have hL1 : W1.heap[c0.w.heap.size + 1]? = some (.loop (rec .ready none)) := by
    rw [← hW1]; have := World.alloc_heap_new (c0.w.alloc (.deferred (some []))) (.loop (rec .ready none)); rwa [World.size_alloc] at this
  have hK1 : W1.heap[c0.w.heap.size]? = some (.deferred (some [])) := by
    rw [← hW1]; exact (Below.heap_alloc _ _ _ (by simp)).trans (World.alloc_heap_new c0.w _)
  have hsz1 : W1.heap.size = c0.w.heap.size + 2 := by rw [← hW1]; simp
  have hold : ∀ k, k < c0.w.heap.size → W1.heap[k]? = c0.w.heap[k]? := fun k hk => by
    rw [← hW1]; exact (Below.heap_alloc _ _ _ (by simp; omega)).trans (Below.heap_alloc _ _ _ hk)
  -- the blocks that the machine does not see
  obtain ⟨M, hM⟩ : ∃ M : Nat → Prop, M = fun k => k = c0.w.heap.size ∨ k = c0.w.heap.size + 1 ∨ ∃ id ∈ ids, k = c0.φ id := ⟨_, rfl⟩
  have hid0 : ∀ id ∈ ids, ∃ o, c0.hp id = some o ∧ o.fz = false := fun id hi => by rw [hs.hp]; exact hids id hi
  have hBlt : ∀ k, (∃ id ∈ ids, k = c0.φ id) → k < c0.w.heap.size := fun k ⟨id, hi, e⟩ => by
    obtain ⟨o, h1, _⟩ := hid0 id hi
    rw [e]; exact (hs.hr.dom id o h1).2.2
  have hMlt : ∀ k, M k → k < W1.heap.size := fun k hk => by
    rw [hM] at hk
    rcases hk with h | h | h
    · omega
    · omega
    · have := hBlt k h; omega
  obtain ⟨g', hg'⟩ : ∃ g' : Gh, g' = ⟨g.base, fun k => g.M0 k ∨ M k, g.fb⟩ := ⟨_, rfl⟩
  have hH : Hid g g' c0 act M := by
    subst hg'
    refine ⟨fun k hk => .inr hk, fun k hk hk2 => ?_, fun d hd r hr hk => ?_, rfl, rfl, fun k hk => .inl hk⟩
    · rw [hM] at hk2
      rcases hk2 with h | h | ⟨id, hi, e⟩
      · omega
      · omega
      · obtain ⟨o, h1, h2⟩ := hid0 id hi
        exact ⟨id, o, h1, h2, e.symm⟩
    · have h1 := hs.dfs.2.lt d hd r hr
      have h2 := (Array.getElem?_eq_some_iff.1 h1).1
      rw [hM] at hk
      rcases hk with h | h | ⟨id, hi, e⟩
      · omega
      · omega
      · obtain ⟨o, h3, _⟩ := hid0 id hi
        exact hs.hr.not_mark h3 (e ▸ h1)
  have hsub : ∀ id o, hide ids c0.hp id = some o → id ∉ ids ∧ c0.hp id = some o := fun id o h => by
    unfold hide at h
    split at h
    · cases h
    · rename_i hn
      exact ⟨fun hm => hn (List.elem_eq_true_of_mem hm), h⟩
  have t1 : Trp g g' c0 ⟨hide ids c0.hp, c0.φ, W1, c0.kn⟩ := by
    subst hg'
    refine ⟨fun b k hk => ⟨by simp only [hsz1]; have := hk.1; omega, fun h => ?_, fun id o ho hf => hk.2.2.1 id o (hsub id o ho).2 hf, hk.2.2.2⟩, fun b k hk => .inl (hold k hk.1), fun id h => ⟨h, rfl⟩, fun id o h => (hsub id o h).2, fun id o h => hold _ (hs.hr.dom id o (hsub id o h).2).2.2⟩
    rcases h with h | h
    · exact hk.2.1 h
    · rw [hM] at h
      have := hk.1
      rcases h with h | h | ⟨id, hi, e⟩
      · omega
      · omega
      · obtain ⟨o, h1, h2⟩ := hid0 id hi
        exact hk.2.2.1 id o h1 h2 e.symm
  have hr1 : HR g' ⟨hide ids c0.hp, c0.φ, W1, c0.kn⟩ := by
    refine hs.hr.tr t1 ?_ (fun k hk => ?_) (fun id o ho => ?_) (by simp only [hsz1]; omega)
    · rw [hH.base]; simp only [hsz1]; have := hs.hr.le; omega
    · subst hg'
      rcases hk with h | h
      · simp only [hsz1]; have := hs.hr.m0 k h; omega
      · exact hMlt k h
    · obtain ⟨h1, h2⟩ := hsub id o ho
      obtain ⟨_, h3, h4⟩ := hs.hr.dom id o h2
      subst hg'
      refine ⟨h3.1, fun h => ?_⟩
      rcases h with h | h
      · exact h3.2 h
      · rw [hM] at h
        rcases h with h | h | ⟨id2, hi, e⟩
        · omega
        · omega
        · obtain ⟨o2, h5, _⟩ := hid0 id2 hi
          exact hs.hr.inj id id2 o o2 h2 h5 (fun e2 => h1 (e2 ▸ hi)) e
  have hs1 : Sim g' ⟨s.fr, hide ids s.hp, s.nx⟩ ⟨hide ids c0.hp, c0.φ, W1, c0.kn⟩ act N := by
    refine Sim.tr t1 hs hr1 (by simp only [hs.hp]) hs.kn rfl ⟨?_, ?_⟩
    · rw [hH.fb]; simp only [hsz1]; have := hs.dfs.1; omega
    · rw [hH.fb]
      exact hs.dfs.2.to fun d hd r hr hh => hold r (Array.getElem?_eq_some_iff.1 hh).1
  have hm0 : ExtR n c0 ⟨hide ids c0.hp, c0.φ, W1, c0.kn⟩ := by
    refine ⟨by rw [← hW1]; rfl, by rw [← hW1]; rfl, by rw [← hW1]; rfl, by simp only [hsz1]; omega, fun _ _ h => h, fun k hk _ => hold k hk, fun id o h hf => .inr ⟨id, o, .inl rfl, (hsub id o h).2, hf, rfl⟩, fun id _ _ h => ⟨rfl, fun o h2 => h o (hsub id o h2).2⟩, fun id es sz v br fz _ _ h => ⟨es, v, br, fz, (hsub id _ h).2, Nat.le_refl _, fun _ => ⟨rfl, rfl, fun cur T hc => ⟨cur, (hold _ (Array.getElem?_eq_some_iff.1 hc).1).trans hc, rfl⟩⟩⟩, by rw [← hW1]; exact Nat.le_refl _⟩
  have hB : ∀ k, (∃ id ∈ ids, k = c0.φ id) → M k := fun k h => by rw [hM]; exact .inr (.inr h)
  have hDM : M c0.w.heap.size := by rw [hM]; exact .inl rfl
  have hlM : M (c0.w.heap.size + 1) := by rw [hM]; exact .inr (.inl rfl)
  refine ⟨c0.w.heap.size + 1, [{ target := .collected c0.w.heap.size, args := #[] }], W1, { target := .fn (.func gf) lb, args := #[.func (.yield (c0.w.heap.size + 1)) #[] #[]] }, W1, gf,
    #[.func (.yield (c0.w.heap.size + 1)) #[] #[]] ++ lb, W1, ?_, ?_, fun _ _ => trivial, ?_, (fun e => by cases e), ?_⟩
  · rw [← hW1, hrec]; exact run_enterLoop_outer _ _ _ _ _
  · simp only [resolve, hF]
    simp [go_sem]
  · obtain ⟨fn0, q1, q2, q3⟩ := hen
    obtain ⟨b0, q4⟩ := Option.isSome_iff_exists.1 q3
    have q5 : ¬ fn0.name = "runtime.NumGoroutine" := by simpa using q2
    simp [invoke, callFunc, program, Sem.run, q1, q5, q4]
  · refine callsIn_wide.2 ((hit g c0 lb hs.hp hs.hr (by rw [hlb]; simp [hmm]) (fun j x hj => ?_) (c0.w.heap.size + 1)
      (fun k W => ∃ y c, I k y ∧ c.w = W ∧ Mid g g' N n ⟨fr1, s.hp, s.nx⟩ c0 act M (σ y).1 (σ y).2 c ∧ W.heap[c0.w.heap.size + 1]? = some (.loop (rec .ready none)) ∧ W.heap[c0.w.heap.size]? = some (.deferred (some [])) ∧ W1.heap.size ≤ W.heap.size)
      (fun W => ∃ hp nx c, Q .ret ⟨fr1, hp, nx⟩ ∧ c.w = W ∧ Mid g g' N n ⟨fr1, s.hp, s.nx⟩ c0 act M hp nx c ∧ W.heap[c0.w.heap.size + 1]? = some (.loop (rec .done (some .ret))) ∧ W.heap[c0.w.heap.size]? = some (.deferred (some [])))
      W1 (fun b hb => hold b (hBlt b hb)) ?_ ?_ ?_ ?_).mono ?_)
    · have hlt : j < m := by rw [← hmm]; exact (List.getElem?_eq_some_iff.1 hj).1
      exact ⟨us j, by rw [hlb]; simp [hlt], hus j x hj⟩
    · rintro k Wa Wb ⟨y, c, h1, rfl, h2, h3, h4, h5⟩ hf
      have hnB : ∀ k, c0.w.heap.size ≤ k → ¬ ∃ id ∈ ids, k = c0.φ id := fun k hk h => by have := hBlt k h; omega
      exact ⟨y, _, h1, rfl, h2.fgn hH hf hB, (hf.mem _ (Array.getElem?_eq_some_iff.1 h3).1 (hnB _ (by omega))).trans h3, (hf.mem _ (Array.getElem?_eq_some_iff.1 h4).1 (hnB _ (Nat.le_refl _))).trans h4, Nat.le_trans h5 hf.size⟩
    · rintro Wa Wb ⟨hp, nx, c, h1, rfl, h2, h3, h4⟩ hf
      have hnB : ∀ k, c0.w.heap.size ≤ k → ¬ ∃ id ∈ ids, k = c0.φ id := fun k hk h => by have := hBlt k h; omega
      exact ⟨hp, nx, _, h1, rfl, h2.fgn hH hf hB, (hf.mem _ (Array.getElem?_eq_some_iff.1 h3).1 (hnB _ (by omega))).trans h3, (hf.mem _ (Array.getElem?_eq_some_iff.1 h4).1 (hnB _ (Nat.le_refl _))).trans h4⟩
    · rintro k x Wa hx ⟨y, c, h1, rfl, h2, h3, h4, h5⟩
      have hy := run_yield (P := P) (args := #[.string x]) h3 (by rw [hrec]; rfl)
      have e1 : ((rec .ready none).params.zip #[Value.string x]).foldl (fun tmps (t, a) => tmps.setIfInBounds t a) (rec .ready none).tmps = act.tmps.setIfInBounds p (.string x) := by rw [hrec]; simp
      have e2 : (rec .ready none).assign = assign := by rw [hrec]
      have e3 : (rec .ready none).body = body := by rw [hrec]
      rw [e1, e2, e3] at hy
      refine ⟨_, _, assign, body, hy, round_in ht hm hH hlM h2 (fun k hk => Nat.lt_of_lt_of_le (hMlt k hk) h5) (by rw [hrec]) h3 hna hnb hdp hda hdb
        (N1 := fun hp nx => ∃ y', I (k + 1) y' ∧ WeakR n ⟨fr1, (σ y').1, (σ y').2⟩ ⟨fr1, hp, nx⟩) (R1 := fun hp nx => Q .ret ⟨fr1, hp, nx⟩) (hround k x y hx h1) ?_ ?_⟩
      · rintro hp2 nx2 c2 ⟨y', q1, q2⟩ q3 q4 q5 q6
        obtain ⟨c3, q7, q8⟩ := q3.weakR q2
        rw [← q7] at q4 q5 q6 ⊢
        have hlt := (Array.getElem?_eq_some_iff.1 q4).1
        refine ⟨.inl ⟨rfl, y', _, q1, rfl, q8.fgn hH (Fgn.put (M := M) _ _ _ hlM) (fun _ h => h), ?_, ?_, ?_⟩, fun b hb => ?_⟩
        · rw [show ({ rec .ready none with state := .ready, pending := none } : Loop) = rec .ready none by rw [hrec]]
          exact World.putObj_heap_same hlt
        · exact (World.putObj_heap_other (by omega)).trans ((q5 _ hDM (by omega)).trans h4)
        · simp; omega
        · have := hBlt b hb
          exact (World.putObj_heap_other (by omega)).trans (q5 b (hB b hb) (by omega))
      · rintro hp2 nx2 c2 q2 q3 q4 q5 q6
        have hlt := (Array.getElem?_eq_some_iff.1 q4).1
        refine ⟨.inr ⟨rfl, hp2, nx2, _, q2, rfl, q3.fgn hH (Fgn.put (M := M) _ _ _ hlM) (fun _ h => h), ?_, ?_⟩, fun b hb => ?_⟩
        · rw [show ({ rec .ready none with state := .done, pending := some .ret } : Loop) = rec .done (some .ret) by rw [hrec]]
          exact World.putObj_heap_same hlt
        · exact (World.putObj_heap_other (by omega)).trans ((q5 _ hDM (by omega)).trans h4)
        · have := hBlt b hb
          exact (World.putObj_heap_other (by omega)).trans (q5 b (hB b hb) (by omega))
    · obtain ⟨y, q1, q2⟩ := h0
      obtain ⟨c2, q3, q4, q5, q6, q7⟩ := hs1.weakR hn q2
      exact ⟨y, c2, q1, q4, ⟨q3, hm0.trans q5, q6, q7⟩, hL1, hK1, Nat.le_refl _⟩
    · -- behind the loop
      have fin : ∀ (hp : Hp) (nx : Nat) (c : Cf) (o : Obj), Mid g g' N n ⟨fr1, s.hp, s.nx⟩ c0 act M hp nx c → c.w.heap[c0.w.heap.size]? = some (.deferred (some [])) →
          Mid g g' N n ⟨fr1, s.hp, s.nx⟩ c0 act M hp nx ⟨c.hp, c.φ, c.w.putObj (c0.w.heap.size + 1) o, c.kn⟩ ∧ Sim g ⟨fr1, hp, nx⟩ ⟨c.hp, c.φ, c.w.putObj (c0.w.heap.size + 1) o, c.kn⟩ { act with defers := [{ target := .collected c0.w.heap.size, args := #[] }] ++ act.defers } N := by
        intro hp nx c o h2 h4
        have h6 := h2.fgn hH (Fgn.put (M := M) c.w (c0.w.heap.size + 1) o hlM) (fun _ h => h)
        refine ⟨h6, ?_⟩
        have tu : Trp g' g ⟨c.hp, c.φ, c.w.putObj (c0.w.heap.size + 1) o, c.kn⟩ ⟨c.hp, c.φ, c.w.putObj (c0.w.heap.size + 1) o, c.kn⟩ :=
          ⟨fun b k hk => ⟨hk.1, fun h => hk.2.1 (hH.m0 k h), hk.2.2.1, fun e => hH.base ▸ hk.2.2.2 e⟩, fun _ _ _ => .inl rfl, fun _ h => ⟨h, rfl⟩, fun _ _ h => h, fun _ _ _ => rfl⟩
        refine ⟨h6.sim.hp, h6.sim.hr.tr tu (hH.base ▸ h6.sim.hr.le) (fun k hk => h6.sim.hr.m0 k (hH.m0 k hk)) (fun id o ho => ⟨hH.base ▸ (h6.sim.hr.dom id o ho).2.1.1, fun h => (h6.sim.hr.dom id o ho).2.1.2 (hH.m0 _ h)⟩) (Nat.le_refl _), h6.sim.kn, fun t => (h6.sim.fr t).tr tu, h6.sim.size, hH.fb ▸ h6.sim.dfs.1, ⟨c0.w.heap.size, hs.dfs.1, rfl, ?_, fun e he h => hH.far e he _ h hDM⟩, hH.fb ▸ h6.sim.dfs.2⟩
        exact (World.putObj_heap_other (by omega)).trans h4
      rintro e W2 ⟨⟨v, rfl⟩, ⟨y, c, h1, rfl, h2, h3, h4, _⟩ | ⟨hp, nx, c, h1, rfl, h2, h3, h4⟩⟩
      · refine ⟨_, _, run_endLoop h3 (by rw [hrec]; simp), ?_⟩
        rw [show (rec .ready none).pending = none by rw [hrec]]
        exact ⟨.normal, _, _, rfl, hend y h1, (fin _ _ c _ h2 h4).2, rfl, (fin _ _ c _ h2 h4).1.ext, h2.nx, h2.kn⟩
      · refine ⟨_, _, run_endLoop h3 (by rw [hrec]; simp), ?_⟩
        rw [show (rec .done (some .ret)).pending = some .ret by rw [hrec]]
        exact wpIn_ret ⟨.ret, _, _, rfl, h1, (fin _ _ c _ h2 h4).2, rfl, (fin _ _ c _ h2 h4).1.ext, h2.nx, h2.kn⟩
/-- What is asked behind a round. -/
def RQ (n : Nat) (P : Program) (k : List It) (Q : Ex → St → Prop) {τ γ β : Type} (fr1 : Fr) (σ : τ × γ → Hp × Nat) (F : List ByteArray → τ → Option β) (e : β) (ys : List ByteArray) : Ex → St → Prop := fun ex s =>
  match ex with
  | .normal => ∃ y' : τ × γ, F ys y'.1 = some e ∧ WeakR n ⟨fr1, (σ y').1, (σ y').2⟩ ⟨fr1, s.hp, s.nx⟩
  | .ret => contR n P k Q .ret ⟨fr1, s.hp, s.nx⟩
  | .exit _ => False
theorem rq_next {n : Nat} {k : List It} {Q : Ex → St → Prop} {τ γ β : Type} {fr1 : Fr} {σ : τ × γ → Hp × Nat} {F : List ByteArray → τ → Option β} {e : β} {ys : List ByteArray} {s : St} (y : τ × γ) (h : F ys y.1 = some e) (hw : WeakR n ⟨fr1, (σ y).1, (σ y).2⟩ ⟨fr1, s.hp, s.nx⟩) : RQ n P k Q fr1 σ F e ys .normal s := ⟨y, h, hw⟩
theorem rq_ret {n : Nat} {k : List It} {Q : Ex → St → Prop} {τ γ β : Type} {fr1 : Fr} {σ : τ × γ → Hp × Nat} {F : List ByteArray → τ → Option β} {e : β} {ys : List ByteArray} {s : St} (h : contR n P k Q .ret ⟨fr1, s.hp, s.nx⟩) : RQ n P k Q fr1 σ F e ys .ret s := h
def isReg : Code → Bool
  | .region _ _ _ => true
  | _ => false
/-- A range over a function, whose rounds are told plainly. -/
theorem runR_range (ht : TabOk P tab) (hm : P.follows .mixedOrders = true) {n : Nat} {s : St} {k : List It} {Q : Ex → St → Prop} {gop : Operand} {p : Nat} {assign body : Code} {gf : FuncId} {caps : List AV} {ids : List Nat} {xs : List ByteArray} {τ γ β : Type} (fr1 : Fr) (σ : τ × γ → Hp × Nat) (F : List ByteArray → τ → Option β) (e : β)
    (hg : ev s.fr gop = .fn gf caps) (hen : Enters P gf)
    (hit : ∀ (g : Gh) (c : Cf) (us : Array Value), c.hp = s.hp → HR g c → us.size = caps.length → (∀ (j : Nat) (x : AV), caps[j]? = some x → ∃ u, us[j]? = some u ∧ RA g c x u) → IterOK P gf us (fun k => ∃ id ∈ ids, k = c.φ id) xs c.w)
    (hids : ∀ id ∈ ids, ∃ o, s.hp id = some o ∧ o.fz = false)
    (h0 : ∃ y : τ × γ, F xs y.1 = some e ∧ WeakR n ⟨fr1, (σ y).1, (σ y).2⟩ ⟨s.fr, hide ids s.hp, s.nx⟩)
    (hround : ∀ x ys (y : τ × γ), F (x :: ys) y.1 = some e → run P tab [.c assign, .c body] (RQ n P k Q fr1 σ F e ys) ⟨upd p (.v (.string x)) fr1, (σ y).1, (σ y).2⟩)
    (hend : ∀ y : τ × γ, F [] y.1 = some e → contR n P k Q .normal ⟨fr1, (σ y).1, (σ y).2⟩) (hreg : isReg assign = true) (hna : ndB assign = true) (hnb : ndB body = true) : runR n P (.c (.rangeFunc gop #[p] assign body) :: k) Q s := by
  refine semR_range ht hm fr1 σ (fun j y => F (xs.drop j) y.1 = some e) hg hen hit hids (by simpa using h0) (fun j x y hx hI => ?_) (fun y hI => hend y (by simpa using hI)) hna hnb
  obtain ⟨hlt, hx⟩ := List.getElem?_eq_some_iff.1 hx
  have hI : F (xs.drop j) y.1 = some e := hI
  rw [List.drop_eq_getElem_cons hlt, hx] at hI
  have h := hround x (xs.drop (j + 1)) y hI
  cases assign with
  | region id ops dr =>
    have h1 : W2 P tab (.region id ops dr) (cont P tab [.c body] (RQ n P k Q fr1 σ F e (xs.drop (j + 1)))) ⟨upd p (.v (.string x)) fr1, (σ y).1, (σ y).2⟩ := h
    have h2 := W2_W (P := P) (tab := tab) (.region id ops dr) _ (fun ex s1 => match ex with
      | .normal => W P tab body (RQ n P k Q fr1 σ F e (xs.drop (j + 1))) s1
      | ex => RQ n P k Q fr1 σ F e (xs.drop (j + 1)) ex s1) _ (fun ex s1 h => by
        cases ex with
        | normal => exact W2_W body _ _ _ (fun _ _ h => h) h
        | ret => exact h
        | exit m => exact h) h1
    have h3 : W P tab (.region id ops dr) (fun ex s1 => match ex with
      | .normal => W P tab body (RQ n P k Q fr1 σ F e (xs.drop (j + 1))) s1
      | _ => False) ⟨upd p (.v (.string x)) fr1, (σ y).1, (σ y).2⟩ := h2
    refine W_mono _ _ _ _ (fun ex s1 h => ?_) h3
    cases ex with
    | normal =>
      refine W_mono _ _ _ _ (fun ex s2 h => ?_) h
      cases ex with
      | normal => exact h
      | ret => exact h
      | exit m => exact h
    | ret => exact h
    | exit m => exact h
  | _ => cases hreg
end
end Go.Proofs.YtjfpmgdbkhooeaaDoor.Ab
