/-
  strings.SplitSeq at one byte: the iterator, for whatever body.
-/
import Derived.Test.YtjfpmgdbkhooeaaDoorLsa
import Derived.Test.YtjfpmgdbkhooeaaDoorAbR
import Derived.Lib.SplitLaws
namespace Go.Proofs.YtjfpmgdbkhooeaaDoor.Ab
open Go.RowKit Go.Shelf
/-! ### a text that is cut -/
/-- A text cut at each byte c. -/
def splitT (c : UInt8) (s : ByteArray) : List ByteArray := Lib.splitB ⟨#[c]⟩ 0 (Lib.countB s ⟨#[c]⟩) s
theorem idxB_one (s : ByteArray) (c : UInt8) : Lib.indexB s ⟨#[c]⟩ = Lib.indexByte s.data.toList c := Lib.index_one _ _
theorem splitT_miss {c : UInt8} {s : ByteArray} (h : Lib.indexByte s.data.toList c = -1) : splitT c s = [s] := Lib.splitB_miss _ _ _ _ ((idxB_one s c).trans h)
theorem splitT_hit {c : UInt8} {s : ByteArray} {i : Nat} (h : Lib.indexByte s.data.toList c = i) : splitT c s = s.extract 0 i :: splitT c (s.extract (i + 1) s.size) := by
  have h0 := (idxB_one s c).trans h
  have h1 := Lib.countB_hit s ⟨#[c]⟩ i (Nat.le_refl _) h0
  unfold splitT
  rw [h1, Nat.add_comm 1, Lib.splitB_hit _ _ _ _ i h0]
  rfl
/-! ### an operation of the iterator's -/
section
variable {P : Program} {ops : Array Oper} {Q : Exit → Act → World → Prop} {i : Nat} {r : List Nat} {a : Act} {w : World} {o : Oper}
theorem opIn_val (ho : ops[i]? = some o) (hg : o.guard = none) (hd : ∀ c, o.op ≠ .defer c) {v : Value} (hrun : (execOp a.eval o).run P w = .ok (.value v) w) (h : wpOpsIn Fence.wide 0 P ops Q r (a.put o.dst v) w) : wpOpsIn Fence.wide 0 P ops Q (i :: r) a w := by
  unfold wpOpsIn
  rw [ho]
  simp only
  rw [if_pos (by simp [Region.wanted, hg])]
  refine ⟨fun _ _ => trivial, ?_⟩
  rw [Oper.semAt_eq _ _ _ hd, hrun]
  exact h
theorem opIn_yield (ho : ops[i]? = some o) (hg : o.guard = none) {f x : Operand} {ts : Array TypeId} (hop : o.op = .call { callee := .value f, args := #[x], argTypes := ts }) {l : Nat} (hf : a.eval f = .func (.yield l) #[] #[]) {v : Value} (hx : a.eval x = v) {R : Ending → World → Prop} (hy : YieldAt Fence.wide 0 P l #[v] w R)
    (hR : ∀ e w', R e w' → ∃ b, e = .returned (.bool b)) (h : ∀ b w', R (.returned (.bool b)) w' → wpOpsIn Fence.wide 0 P ops Q r (a.put o.dst (.bool b)) w') : wpOpsIn Fence.wide 0 P ops Q (i :: r) a w := by
  obtain ⟨fn, tmps, assign, body, h1, h2⟩ := hy
  have hrun : (execOp a.eval o).run P w = .ok (.round l fn tmps assign body) w := by
    unfold execOp
    simp [hop, resolve, hf, hx, Deferred.ofValue, invoke, h1]
  unfold wpOpsIn
  rw [ho]
  simp only
  rw [if_pos (by simp [Region.wanted, hg])]
  refine ⟨fun _ _ => trivial, ?_⟩
  rw [Oper.semAt_eq _ _ _ (fun c e => by rw [hop] at e; cases e), hrun, Oper.uponIn_round]
  refine ⟨(fun e => by cases e), h2.mono fun e w' hr => ?_⟩
  obtain ⟨b, rfl⟩ := hR e w' hr
  exact h b w' hr
end
/-! ### the iterator's state -/
def gI : Gh := ⟨0, fun _ => False, 0⟩
def phI (b1 b0 b2 : Nat) : Nat → Nat := fun i => if i = 0 then b1 else if i = 1 then b0 else b2
def hpI (c : UInt8) (r : ByteArray) : Hp := upd 0 (some (.bx [.v (.string ⟨#[c]⟩)])) (upd 1 (some (.bx [.v (.string r)])) (upd 2 (some (.bx [.v (.int .i64 0)])) noHp))
def frI (l : Nat) (L : List (Nat × Value)) : Fr := L.foldr (fun p f => upd p.1 (.v p.2) f) (upd 0 (.v (.func (.yield l) #[] #[])) (upd 1 (.pt 0 0) (upd 2 (.pt 1 0) (upd 3 (.pt 2 0) noFr))))
structure IS (l b1 b0 b2 : Nat) (c : UInt8) (L : List (Nat × Value)) (r : ByteArray) (a : Act) (W : World) : Prop where
  sz : a.tmps.size = 52
  df : a.defers = []
  t0 : a.tmps.getD 0 undef = .func (.yield l) #[] #[]
  t1 : a.tmps.getD 1 undef = .pointer (some ⟨b1, 0, none⟩)
  t2 : a.tmps.getD 2 undef = .pointer (some ⟨b0, 0, none⟩)
  t3 : a.tmps.getD 3 undef = .pointer (some ⟨b2, 0, none⟩)
  kn : ∀ p ∈ L, a.tmps.getD p.1 undef = p.2 ∧ p.2.oneCell' = true
  h1 : ∃ T, W.heap[b1]? = some (.cells #[.string ⟨#[c]⟩] T (0, 0))
  h0 : ∃ T, W.heap[b0]? = some (.cells #[.string r] T (0, 0))
  h2 : ∃ T, W.heap[b2]? = some (.cells #[.int .i64 0] T (0, 0))
section
variable {l b1 b0 b2 : Nat} {c : UInt8} {L : List (Nat × Value)} {r : ByteArray} {a : Act} {W : World}
theorem hpI_some {id : Nat} {o : AO} (h : hpI c r id = some o) : id < 3 ∧ o = .bx [if id = 0 then .v (.string ⟨#[c]⟩) else if id = 1 then .v (.string r) else .v (.int .i64 0)] := by
  unfold hpI upd noHp at h
  by_cases e0 : id = 0
  · subst e0
    simp only [if_true, Option.some.injEq] at h
    exact ⟨by decide, h.symm⟩
  · by_cases e1 : id = 1
    · subst e1
      simp only [if_true, Option.some.injEq, if_neg e0] at h
      exact ⟨by decide, h.symm⟩
    · by_cases e2 : id = 2
      · subst e2
        simp only [if_true, Option.some.injEq, if_neg e0, if_neg e1] at h
        exact ⟨by decide, h.symm⟩
      · rw [if_neg e0, if_neg e1, if_neg e2] at h
        cases h
theorem IS.sim (hd : b1 ≠ b0 ∧ b1 ≠ b2 ∧ b0 ≠ b2) (h : IS l b1 b0 b2 c L r a W) : Sim gI ⟨frI l L, hpI c r, 3⟩ ⟨hpI c r, phI b1 b0 b2, W, fun i => i < 3⟩ a 52 := by
  obtain ⟨T1, q1⟩ := h.h1
  obtain ⟨T0, q0⟩ := h.h0
  obtain ⟨T2, q2⟩ := h.h2
  have hobj : ∀ id o, hpI c r id = some o → OK gI ⟨hpI c r, phI b1 b0 b2, W, fun i => i < 3⟩ id o ∧ phI b1 b0 b2 id < W.heap.size := by
    intro id o ho
    obtain ⟨hid, rfl⟩ := hpI_some ho
    have one : ∀ (T : TypeId) (x : Value) (b : Nat), x.oneCell' = true → phI b1 b0 b2 id = b → W.heap[b]? = some (.cells #[x] T (0, 0)) → OK gI ⟨hpI c r, phI b1 b0 b2, W, fun i => i < 3⟩ id (.bx [.v x]) ∧ phI b1 b0 b2 id < W.heap.size := by
      intro T x b hx hb hw
      refine ⟨⟨T, #[x], by rw [← hw, ← hb], rfl, fun j y hj => ?_⟩, by rw [hb]; exact (Array.getElem?_eq_some_iff.1 hw).1⟩
      rcases j with _ | j
      · cases hj
        exact ⟨x, rfl, .v x hx⟩
      · cases hj
    rcases id with _ | _ | _ | id
    · exact one T1 _ b1 rfl rfl q1
    · exact one T0 _ b0 rfl rfl q0
    · exact one T2 _ b2 rfl rfl q2
    · omega
  refine ⟨rfl, ⟨Nat.zero_le _, fun _ hk => hk.elim, fun id o ho => ⟨(hpI_some ho).1, ⟨Nat.zero_le _, fun hk => hk⟩, (hobj id o ho).2⟩, fun i j o p hi hj hne => ?_, fun id o ho => (hobj id o ho).1⟩, fun i hi => hi, fun t => ?_, h.sz, Nat.zero_le _, by rw [h.df]; trivial⟩
  · have h1 := (hpI_some hi).1
    have h2 := (hpI_some hj).1
    rcases i with _ | _ | _ | i <;> rcases j with _ | _ | _ | j <;> first | omega | (exact absurd rfl hne) | (show b1 ≠ b0; exact hd.1) | (show b1 ≠ b2; exact hd.2.1) | (show b0 ≠ b2; exact hd.2.2) | (show b0 ≠ b1; exact hd.1.symm) | (show b2 ≠ b1; exact hd.2.1.symm) | (show b2 ≠ b0; exact hd.2.2.symm)
  · have pt : ∀ (id b : Nat), id < 3 → phI b1 b0 b2 id = b → RA gI ⟨hpI c r, phI b1 b0 b2, W, fun i => i < 3⟩ (.pt id 0) (.pointer (some ⟨b, 0, none⟩)) := by
      rintro id b hid rfl
      exact .pt id 0 hid fun o ho => by rw [(hpI_some ho).2]; rfl
    have base : RAt gI ⟨hpI c r, phI b1 b0 b2, W, fun i => i < 3⟩ (frI l [] t) (a.tmps.getD t undef) := by
      show RAt gI _ (upd 0 _ (upd 1 _ (upd 2 _ (upd 3 _ noFr))) t) _
      unfold upd noFr
      by_cases e0 : t = 0
      · subst e0; rw [if_pos rfl, h.t0]; exact RA.v (.func (.yield l) #[] #[]) rfl
      · by_cases e1 : t = 1
        · subst e1; rw [if_neg e0, if_pos rfl, h.t1]; exact pt 0 b1 (by decide) rfl
        · by_cases e2 : t = 2
          · subst e2; rw [if_neg e0, if_neg e1, if_pos rfl, h.t2]; exact pt 1 b0 (by decide) rfl
          · by_cases e3 : t = 3
            · subst e3; rw [if_neg e0, if_neg e1, if_neg e2, if_pos rfl, h.t3]; exact pt 2 b2 (by decide) rfl
            · rw [if_neg e0, if_neg e1, if_neg e2, if_neg e3]; trivial
    have hk := h.kn
    clear h
    induction L with
    | nil => exact base
    | cons p L ih =>
      show RAt gI _ (upd p.1 (.v p.2) (frI l L) t) _
      unfold upd
      by_cases e : t = p.1
      · subst e
        rw [if_pos rfl, (hk p (List.mem_cons_self ..)).1]
        exact (RA.v _ (hk p (List.mem_cons_self ..)).2 : RA _ _ _ _)
      · rw [if_neg e]
        exact ih fun q hq => hk q (List.mem_cons_of_mem _ hq)
/-- A piece of the iterator's code that calls no yield. -/
theorem IS.step (hd : b1 ≠ b0 ∧ b1 ≠ b2 ∧ b0 ≠ b2) (h : IS l b1 b0 b2 c L r a W) {code : Code} {Q : Ex → St → Prop} (hn : ndB code = true) (hds : dstsB 52 code = true) (hrun : run Tryd.prog tab [.c code] Q ⟨frI l L, hpI c r, 3⟩) :
    code.wpIn Fence.wide 0 Tryd.prog (fun e a' W' => ∃ ex s', e = ex.up ∧ Q ex s' ∧ Fgn (fun k => k = b1 ∨ k = b0 ∨ k = b2) W W' ∧
      ∀ L' r', (∀ p ∈ L', s'.fr p.1 = .v p.2) → s'.fr 0 = .v (.func (.yield l) #[] #[]) → s'.fr 1 = .pt 0 0 → s'.fr 2 = .pt 1 0 → s'.fr 3 = .pt 2 0 → s'.hp 0 = some (.bx [.v (.string ⟨#[c]⟩)]) → s'.hp 1 = some (.bx [.v (.string r')]) → s'.hp 2 = some (.bx [.v (.int .i64 0)]) → IS l b1 b0 b2 c L' r' a' W') a W := by
  have hs := h.sim hd
  have hW : Go.Proofs.YtjfpmgdbkhooeaaDoor.Ab.W Tryd.prog tab code Q ⟨frI l L, hpI c r, 3⟩ := W2_W code (cont Tryd.prog tab [] Q) Q _ (fun _ _ h => h) hrun
  refine wpIn_mono (W_soundIn (N := 52) tab_ok fol (.inl rfl) 0 code Q _ _ a hn hds hW hs) ?_
  rintro e a' W' ⟨⟨ex, s', c', h1, h2, h3, rfl, h5, h6, h7⟩, hdf⟩
  refine ⟨ex, s', h1, h2, ⟨h5.os, h5.tape, h5.output, h5.size, h5.drawn, fun k hk hB => h5.block k hk fun id o ho _ e => hB ?_⟩, ?_⟩
  · have hid := (hpI_some ho).1
    rcases id with _ | _ | _ | id
    · exact .inl e.symm
    · exact .inr (.inl e.symm)
    · exact .inr (.inr e.symm)
    · omega
  · intro L' r' hL f0 f1 f2 f3 g0 g1 g2
    have hφ : ∀ id, id < 3 → c'.φ id = phI b1 b0 b2 id := fun id hid => (h5.keep id hid fun o ho => by rw [(hpI_some ho).2]; rfl).1
    have hv : ∀ (t : Nat) (x : Value), s'.fr t = .v x → a'.tmps.getD t undef = x ∧ x.oneCell' = true := fun t x e => by
      have := h3.fr t
      rw [e] at this
      cases (show RA gI c' (.v x) _ from this) with
      | v _ hx => exact ⟨rfl, hx⟩
    have hp : ∀ (t id : Nat), id < 3 → s'.fr t = .pt id 0 → a'.tmps.getD t undef = .pointer (some ⟨phI b1 b0 b2 id, 0, none⟩) := fun t id hid e => by
      have := h3.fr t
      rw [e] at this
      rw [← hφ id hid]
      exact this.pt.1
    have hb : ∀ (id : Nat) (x : Value), id < 3 → s'.hp id = some (.bx [.v x]) → ∃ T, c'.w.heap[phI b1 b0 b2 id]? = some (.cells #[x] T (0, 0)) := fun id x hid e => by
      obtain ⟨T, vs, q1, q2, q3⟩ := h3.hr.obj id _ (h3.hp ▸ e)
      obtain ⟨u, q4, q5⟩ := q3 0 _ rfl
      cases (show RA gI c' (.v x) u from q5) with
      | v _ _ =>
      rw [hφ id hid] at q1
      refine ⟨T, ?_⟩
      rw [q1]
      have : vs = #[x] := by
        apply Array.ext
        · simpa using q2
        · intro i h1 h2
          have hi : i = 0 := by simp at h2; exact h2
          subst hi
          rw [Array.getElem?_eq_getElem h1, Option.some.injEq] at q4
          simpa using q4
      rw [this]
    exact ⟨h3.size, hdf.trans h.df, (hv 0 _ f0).1, hp 1 0 (by decide) f1, hp 2 1 (by decide) f2, hp 3 2 (by decide) f3, fun p hpL => hv p.1 p.2 (hL p hpL), hb 0 _ (by decide) g0, hb 1 _ (by decide) g1, hb 2 _ (by decide) g2⟩
/-- Behind a call of yield. -/
theorem IS.put {W' : World} (h : IS l b1 b0 b2 c L r a W) (hw : ∀ b, b = b1 ∨ b = b0 ∨ b = b2 → W'.heap[b]? = W.heap[b]?) {t : Nat} {v : Value} (ht : 4 ≤ t) (ht2 : t < 52) (hv : v.oneCell' = true) (hL : ∀ p ∈ L, p.1 ≠ t) : IS l b1 b0 b2 c ((t, v) :: L) r (a.put (some t) v) W' := by
  have hget : ∀ k, k ≠ t → (a.put (some t) v).tmps.getD k undef = a.tmps.getD k undef := fun k hk => by
    simp only [Act.put, Array.getD_eq_getD_getElem?]
    rw [Array.getElem?_setIfInBounds_ne (Ne.symm hk)]
  refine ⟨by rw [put_size]; exact h.sz, by rw [put_defers]; exact h.df, (hget 0 (by omega)).trans h.t0, (hget 1 (by omega)).trans h.t1, (hget 2 (by omega)).trans h.t2, (hget 3 (by omega)).trans h.t3, fun p hp => ?_, ?_, ?_, ?_⟩
  · rcases List.mem_cons.1 hp with rfl | hp
    · refine ⟨?_, hv⟩
      simp only [Act.put, Array.getD_eq_getD_getElem?]
      rw [Array.getElem?_setIfInBounds_self_of_lt (by rw [h.sz]; exact ht2)]
      rfl
    · rw [hget p.1 (hL p hp)]
      exact h.kn p hp
  · obtain ⟨T, q⟩ := h.h1; exact ⟨T, (hw b1 (.inl rfl)).trans q⟩
  · obtain ⟨T, q⟩ := h.h0; exact ⟨T, (hw b0 (.inr (.inl rfl))).trans q⟩
  · obtain ⟨T, q⟩ := h.h2; exact ⟨T, (hw b2 (.inr (.inr rfl))).trans q⟩
end
end Go.Proofs.YtjfpmgdbkhooeaaDoor.Ab
