/-
 A statement whose order Go leaves open, walked once: each operation by itself, from what the operations that it waits for have left, in whatever world has grown meanwhile. No program in sight.
-/
import Derived.StillTail
import Derived.Orders
import Derived.Below
import Derived.WalkKit
namespace Go.Proofs.Ytjkdbakgnnhdnaa
open Go.RowKit
namespace Fr
def uponV (P : Program) (K : Value → World → Prop) : Result Next → Prop
 | .ok (.value v) w' => K v w'
 | .ok .skip w' => K undef w'
 | .ok (.enter f args) w' => Calls P f args w' fun e w'' => ∃ v, e = .returned v ∧ K v w''
 | _ => False
def opV (P : Program) (o : Oper) (ρ : Operand → Value) (w : World) (K : Value → World → Prop) : Prop := uponV P K ((execOp ρ o).run P w)
theorem uponV_value (P : Program) (K : Value → World → Prop) (v : Value) (w : World) : uponV P K (.ok (.value v) w) = K v w := rfl
theorem uponV_skip (P : Program) (K : Value → World → Prop) (w : World) : uponV P K (.ok .skip w) = K undef w := rfl
theorem uponV_enter (P : Program) (K : Value → World → Prop) (f : FuncId) (args : Array Value) (w : World) : uponV P K (.ok (.enter f args) w) = Calls P f args w fun e w'' => ∃ v, e = .returned v ∧ K v w'' := rfl
attribute [go_sem] uponV_value uponV_skip uponV_enter opV
structure Sp where
 ds : List Nat
 sl : List Nat
 fact : List Value → Value → World → Prop
def dstOf (ops : Array Oper) (k : Nat) : Option Nat := (ops[k]?).bind (·.dst)
def factAt (S : List Sp) (f : Nat → Value) (k : Nat) (w : World) : Prop :=
 match S[k]? with
 | none => True
 | some s => s.fact (s.ds.map f) (f k) w
def factsOf (S : List Sp) (f : Nat → Value) (w : World) : List Nat → Prop
 | [] => True
 | k :: r => factAt S f k w ∧ factsOf S f w r
def puts (f : Nat → Value) : List (Option Nat) → Nat → Act → Act
 | [], _, a => a
 | d :: r, k, a => puts f r (k + 1) (a.put d (f k))
def lit (ops : Array Oper) (a0 : Act) (f : Nat → Value) : List Nat → Act
 | [] => a0
 | k :: r => (lit ops a0 f r).put (dstOf ops k) (f k)
def stepGoal (P : Program) (ops : Array Oper) (o : Oper) (a : Act) (w : World) (K : Value → World → Prop) : Prop :=
 if Region.wanted o (yielded ops a.tmps) = true then opV P o a.eval w K else K undef w
attribute [go_sem] stepGoal
def StepAt (P : Program) (ops : Array Oper) (a0 : Act) (w0 : World) (S : List Sp) (o : Oper) (s : Sp) : Prop :=
 ∀ (f : Nat → Value) (a : Act) (w : World) (K : Value → World → Prop), Below w0.heap.size w0 w → (∀ k ∈ s.ds, ∀ d, dstOf ops k = some d → a.tmps[d]? = some (f k)) → (∀ t ∈ s.sl, a.tmps[t]? = a0.tmps[t]?) →
  factsOf S f w s.ds → (∀ v w', Below w.heap.size w w' → s.fact (s.ds.map f) v w' → K v w') → stepGoal P ops o a w K
def Steps (P : Program) (ops : Array Oper) (a0 : Act) (w0 : World) (S : List Sp) : List Oper → List Sp → Prop
 | o :: os, s :: ss => StepAt P ops a0 w0 S o s ∧ Steps P ops a0 w0 S os ss
 | _, _ => True
def Stable (s : Sp) : Prop := ∀ xs v w w', Below w.heap.size w w' → s.fact xs v w → s.fact xs v w'
def Stables : List Sp → Prop
 | [] => True
 | s :: ss => Stable s ∧ Stables ss
def reachB (ops : Array Oper) : Nat → Nat → Nat → Bool
 | 0, i, k => Region.waitsFor .any ops i k
 | n + 1, i, k => Region.waitsFor .any ops i k || ((List.range ops.size).any fun j => Region.waitsFor .any ops i j && reachB ops n j k)
def earlyB (i : Nat) (o : Oper) : Bool := o.after.all fun e => !Region.binds .any e || decide (e.on < i)
def dstB (ops : Array Oper) (N m i : Nat) : Bool :=
 match dstOf ops i with
 | none => true
 | some d => decide (d < N) && ((List.range m).all fun k => decide (k = i) || decide (dstOf ops k ≠ some d))
def spB (ops : Array Oper) (m i : Nat) (s : Sp) (o : Oper) : Bool :=
 earlyB i o &&
 (s.ds.all fun k => decide (k < m) && reachB ops 2 i k) &&
 (s.sl.all fun t => (s.ds.all fun k => decide (dstOf ops k ≠ some t)) && ((List.range m).all fun k => decide (dstOf ops k ≠ some t) || reachB ops 2 k i))
def spsB (ops : Array Oper) (m i : Nat) : List Sp → List Oper → Bool
 | s :: ss, o :: os => spB ops m i s o && spsB ops m (i + 1) ss os
 | [], _ => true
 | _ :: _, [] => false
def headB (ops : Array Oper) (N : Nat) (S : List Sp) : Bool :=
 Region.noSelect ops && decide (S.length ≤ ops.size) && ((List.range S.length).all (dstB ops N S.length)) && spsB ops S.length 0 S ops.toList &&
 (decide (S.length = ops.size) || (Region.sinkB .any ops S.length && Region.chainB .any ops S.length)) &&
 Region.seqB .any ops (ops.size - S.length) S.length (Array.replicate S.length true ++ Array.replicate (ops.size - S.length) false)
section
variable {P : Program} {ops : Array Oper} {Q : Exit → Act → World → Prop} {a0 : Act} {w0 : World} {S : List Sp} {N : Nat}
theorem steps_at : ∀ {os : List Oper} {ss : List Sp}, Steps P ops a0 w0 S os ss → ∀ {i : Nat} {o : Oper} {s : Sp}, os[i]? = some o → ss[i]? = some s → StepAt P ops a0 w0 S o s
 | [], _, _, i, o, s, ho, _ => by simp at ho
 | _ :: _, [], _, i, o, s, _, hs => by simp at hs
 | _ :: os, _ :: ss, h, 0, o, s, ho, hs => by
  simp at ho hs
  subst ho; subst hs
  exact h.1
 | _ :: os, _ :: ss, h, i + 1, o, s, ho, hs => steps_at h.2 (by simpa using ho) (by simpa using hs)
theorem stables_at : ∀ {ss : List Sp}, Stables ss → ∀ {i : Nat} {s : Sp}, ss[i]? = some s → Stable s
 | [], _, i, s, hs => by simp at hs
 | _ :: ss, h, 0, s, hs => by
  simp at hs
  subst hs
  exact h.1
 | _ :: ss, h, i + 1, s, hs => stables_at h.2 (by simpa using hs)
theorem factAt_stable (hst : Stables S) {f : Nat → Value} {k : Nat} {w w' : World} (hb : Below w.heap.size w w') (h : factAt S f k w) : factAt S f k w' := by
 unfold factAt at *
 split
 ·trivial
 ·rename_i s hs
  rw [hs] at h
  exact stables_at hst hs _ _ _ _ hb h
theorem factAt_congr {f f' : Nat → Value} {k : Nat} {w : World} (h : ∀ s, S[k]? = some s → ∀ j, (j = k ∨ j ∈ s.ds) → f j = f' j) (hf : factAt S f k w) : factAt S f' k w := by
 unfold factAt at *
 split
 ·trivial
 ·rename_i s hs
  rw [hs] at hf
  have e1 : s.ds.map f = s.ds.map f' := List.map_congr_left fun j hj => h s hs j (.inr hj)
  have e2 : f k = f' k := h s hs k (.inl rfl)
  rw [← e1, ← e2]
  exact hf
theorem factsOf_of {f : Nat → Value} {w : World} : ∀ {l : List Nat}, (∀ k ∈ l, factAt S f k w) → factsOf S f w l
 | [], _ => trivial
 | k :: _, h => ⟨h k (List.mem_cons_self ..), factsOf_of fun j hj => h j (List.mem_cons_of_mem _ hj)⟩
theorem put_defers' (a : Act) (d : Option Nat) (v : Value) : (a.put d v).defers = a.defers := by cases d <;> rfl
theorem put_size (a : Act) (d : Option Nat) (v : Value) : (a.put d v).tmps.size = a.tmps.size := by cases d <;> simp [Act.put]
theorem put_get (a : Act) (d : Nat) (v : Value) (h : d < a.tmps.size) : (a.put (some d) v).tmps[d]? = some v := by simp [Act.put, h]
theorem put_get_ne (a : Act) (d : Option Nat) (t : Nat) (v : Value) (h : d ≠ some t) : (a.put d v).tmps[t]? = a.tmps[t]? := by
 cases d with
 | none => rfl
 | some d => simp [Act.put, Array.getElem?_setIfInBounds_ne (show d ≠ t from fun e => h (by rw [e]))]
theorem lit_size (f : Nat → Value) : ∀ l, (lit ops a0 f l).tmps.size = a0.tmps.size
 | [] => rfl
 | k :: r => by rw [lit, put_size, lit_size f r]
theorem lit_none (f : Nat → Value) {t : Nat} : ∀ l, (∀ k ∈ l, dstOf ops k ≠ some t) → (lit ops a0 f l).tmps[t]? = a0.tmps[t]?
 | [], _ => rfl
 | k :: r, h => by rw [lit, put_get_ne _ _ _ _ (h k (List.mem_cons_self ..)), lit_none f r fun j hj => h j (List.mem_cons_of_mem _ hj)]
theorem lit_some (f : Nat → Value) {t k : Nat} (ht : t < a0.tmps.size) (hk : dstOf ops k = some t) : ∀ l, k ∈ l → (∀ j ∈ l, dstOf ops j = some t → j = k) → (lit ops a0 f l).tmps[t]? = some (f k)
 | [], h, _ => by cases h
 | j :: r, h, hu => by
  by_cases hj : dstOf ops j = some t
  ·have := hu j (List.mem_cons_self ..) hj
   subst this
   rw [lit, hj, put_get _ _ _ (by rw [lit_size]; exact ht)]
  ·rw [lit, put_get_ne _ _ _ _ hj]
   refine lit_some f ht hk r ?_ fun i hi => hu i (List.mem_cons_of_mem _ hi)
   rcases List.mem_cons.1 h with e | e
   ·subst e; exact absurd hk hj
   ·exact e
theorem wp_of_opV {o : Oper} {a : Act} {w : World} {K : Value → World → Prop} {K' : Act → World → Prop} (h : ∀ v w', K v w' → K' (a.put o.dst v) w') (hh : opV P o a.eval w K) : o.wp P a w K' Q := by
 unfold Oper.wp
 unfold opV at hh
 generalize (execOp a.eval o).run P w = r at *
 cases r with
 | ok n w' =>
  cases n with
  | value v => exact h _ _ hh
  | skip => exact h _ _ hh
  | enter f args =>
   simp only [uponV_enter] at hh
   simp only [Oper.upon]
   refine Calls.mono hh fun e w'' he => ?_
   obtain ⟨v, rfl, hv⟩ := he
   exact h _ _ hv
  | _ => exact hh.elim
 | halt x w' => exact hh.elim
theorem wpOp_of_step {i : Nat} {o : Oper} {a : Act} {w : World} {K : Value → World → Prop} {K' : Act → World → Prop} (ho : ops[i]? = some o)
  (h : ∀ v w', K v w' → K' (a.put o.dst v) w') (hh : stepGoal P ops o a w K) : wpOp P ops Q i K' a w := by
 unfold wpOp
 rw [ho]
 unfold stepGoal at hh
 show if Region.wanted o (yielded ops a.tmps) = true then _ else _
 split
 ·rename_i hw
  rw [if_pos hw] at hh
  exact .inl (wp_of_opV h hh)
 ·rename_i hw
  rw [if_neg hw] at hh
  exact h _ _ hh
theorem reach_listed {m : Nat} {listed : Array Bool} (inv : HeadInv .any ops m listed) : ∀ (n i k : Nat), reachB ops n i k = true → listed.getD i false = true → listed.getD k false = true
 | 0, i, k, h, hi => by
  obtain ⟨oi, hoi, e, he, hb, rfl⟩ := Region.waitsFor_spec h
  exact inv.closed i oi hoi hi e he hb
 | n + 1, i, k, h, hi => by
  simp only [reachB, Bool.or_eq_true] at h
  rcases h with h | h
  ·exact reach_listed inv 0 i k h hi
  ·obtain ⟨j, _, hj⟩ := List.any_eq_true.1 h
   simp only [Bool.and_eq_true] at hj
   exact reach_listed inv n j k hj.2 (reach_listed inv 0 i j hj.1 hi)
theorem reach_ready {m : Nat} {listed : Array Bool} (inv : HeadInv .any ops m listed) {i k n : Nat} (h : reachB ops n i k = true) (hr : i ∈ Region.ready .any ops listed) : listed.getD k false = true := by
 obtain ⟨_, oi, hoi, hall⟩ := mem_ready.1 hr
 have direct : ∀ j, Region.waitsFor .any ops i j = true → listed.getD j false = true := fun j hj => by
  obtain ⟨o', ho', e, he, hb, rfl⟩ := Region.waitsFor_spec hj
  have : o' = oi := Option.some.inj (ho'.symm.trans hoi)
  subst this
  exact hall e he hb
 cases n with
 | zero => exact direct k h
 | succ n =>
  simp only [reachB, Bool.or_eq_true] at h
  rcases h with h | h
  ·exact direct k h
  ·obtain ⟨j, _, hj⟩ := List.any_eq_true.1 h
   simp only [Bool.and_eq_true] at hj
   exact reach_listed inv n j k hj.2 (direct j hj.1)
structure Inv (ops : Array Oper) (a0 : Act) (w0 : World) (S : List Sp) (listed : Array Bool) (f : Nat → Value) (a : Act) (w : World) : Prop where
 defers : a.defers = a0.defers
 size : a.tmps.size = a0.tmps.size
 below : Below w0.heap.size w0 w
 vals : ∀ k d, k < S.length → listed.getD k false = true → dstOf ops k = some d → a.tmps[d]? = some (f k)
 facts : ∀ k, k < S.length → listed.getD k false = true → factAt S f k w
 old : ∀ t, (∀ k, k < S.length → listed.getD k false = true → dstOf ops k ≠ some t) → a.tmps[t]? = a0.tmps[t]?
end
def cnt : Nat → Array Bool → Nat
 | 0, _ => 0
 | m + 1, l => cnt m l + if l.getD m true = false then 1 else 0
theorem cnt_set {listed : Array Bool} {i : Nat} (hl : listed.getD i true = false) : ∀ m, cnt m (listed.setIfInBounds i true) + (if i < m then 1 else 0) = cnt m listed
 | 0 => by simp [cnt]
 | m + 1 => by
  have ih := cnt_set hl m
  have hs : i < listed.size := by
   rcases Nat.lt_or_ge i listed.size with h | h
   ·exact h
   ·simp [Array.getElem?_eq_none h] at hl
  simp only [cnt]
  by_cases h1 : i = m
  ·subst h1
   have e1 : (listed.setIfInBounds i true).getD i true = true := by simp [hs]
   have e2 : ¬ i < i := Nat.lt_irrefl i
   rw [if_neg e2] at ih
   rw [e1, hl, if_pos (Nat.lt_succ_self i), if_neg (by simp), if_pos rfl]
   omega
  ·have e1 : (listed.setIfInBounds i true).getD m true = listed.getD m true := getD_set_ne true h1
   rw [e1]
   by_cases h2 : i < m
   ·rw [if_pos h2] at ih
    rw [if_pos (show i < m + 1 by omega)]
    omega
   ·rw [if_neg h2] at ih
    rw [if_neg (show ¬ i < m + 1 by omega)]
    omega
theorem cnt_zero {listed : Array Bool} : ∀ {m : Nat}, cnt m listed = 0 → ∀ k, k < m → listed.getD k true = true
 | 0, _, k, hk => by omega
 | m + 1, h, k, hk => by
  simp only [cnt] at h
  by_cases e : k = m
  ·subst e
   cases hb : listed.getD k true with
   | true => rfl
   | false => rw [hb] at h; simp at h
  ·exact cnt_zero (m := m) (by omega) k (by omega)
theorem cnt_pos {listed : Array Bool} : ∀ {m : Nat}, 0 < cnt m listed → ∃ k, k < m ∧ listed.getD k true = false
 | 0, h => by simp [cnt] at h
 | m + 1, h => by
  simp only [cnt] at h
  cases hb : listed.getD m true with
  | false => exact ⟨m, by omega, hb⟩
  | true =>
   rw [hb] at h
   obtain ⟨k, hk, h2⟩ := cnt_pos (m := m) (by simpa using h)
   exact ⟨k, by omega, h2⟩
theorem least {p : Nat → Prop} : ∀ (n k : Nat), k ≤ n → p k → ∃ j, p j ∧ ∀ i, i < j → ¬ p i
 | n, k, hk, h => by
  induction n generalizing k with
  | zero =>
   have : k = 0 := by omega
   subst this
   exact ⟨0, h, fun i hi => by omega⟩
  | succ n ih =>
   by_cases h2 : ∃ i, i < k ∧ p i
   ·obtain ⟨i, hi, hp⟩ := h2
    exact ih i (by omega) hp
   ·exact ⟨k, h, fun i hi hp => h2 ⟨i, hi, hp⟩⟩
theorem getD_tf {listed : Array Bool} {k : Nat} (hs : k < listed.size) : listed.getD k true = listed.getD k false := by simp [hs]
section
variable {P : Program} {ops : Array Oper} {Q : Exit → Act → World → Prop} {a0 : Act} {w0 : World} {S : List Sp}
structure Fine (ops : Array Oper) (N : Nat) (S : List Sp) : Prop where
 sel : Region.noSelect ops = true
 len : S.length ≤ ops.size
 early : ∀ i, i < S.length → ∀ k, Region.waitsFor .any ops i k = true → k < i
 dst : ∀ i d, i < S.length → dstOf ops i = some d → d < N ∧ ∀ k, k < S.length → dstOf ops k = some d → k = i
 ds : ∀ (i : Nat) (s : Sp), S[i]? = some s → ∀ k ∈ s.ds, k < S.length ∧ reachB ops 2 i k = true
 sl : ∀ (i : Nat) (s : Sp), S[i]? = some s → ∀ t ∈ s.sl, (∀ k ∈ s.ds, dstOf ops k ≠ some t) ∧ ∀ k, k < S.length → dstOf ops k = some t → reachB ops 2 k i = true
 tail : S.length = ops.size ∨ (Region.sinkB .any ops S.length = true ∧ Region.chainB .any ops S.length = true)
 seq : Region.seqB .any ops (ops.size - S.length) S.length (Array.replicate S.length true ++ Array.replicate (ops.size - S.length) false) = true
theorem spsB_at {m : Nat} : ∀ (ss : List Sp) (os : List Oper) (i0 : Nat), spsB ops m i0 ss os = true → ∀ (i : Nat) (s : Sp), ss[i]? = some s → ∃ o, os[i]? = some o ∧ spB ops m (i0 + i) s o = true
 | [], _, _, _, i, s, hs => by simp at hs
 | _ :: _, [], _, h, _, _, _ => by simp [spsB] at h
 | s' :: ss, o' :: os, i0, h, 0, s, hs => by
  simp only [spsB, Bool.and_eq_true] at h
  simp at hs
  subst hs
  exact ⟨o', by simp, h.1⟩
 | s' :: ss, o' :: os, i0, h, i + 1, s, hs => by
  simp only [spsB, Bool.and_eq_true] at h
  obtain ⟨o, ho, hb⟩ := spsB_at ss os (i0 + 1) h.2 i s (by simpa using hs)
  exact ⟨o, by simpa using ho, by rw [show i0 + (i + 1) = i0 + 1 + i by omega]; exact hb⟩
theorem fine_of {N : Nat} (h : headB ops N S = true) : Fine ops N S := by
 simp only [headB, Bool.and_eq_true, Bool.or_eq_true, decide_eq_true_eq] at h
 obtain ⟨⟨⟨⟨⟨h1, h2⟩, h4⟩, h5⟩, h6⟩, h7⟩ := h
 have at5 : ∀ (i : Nat) (s : Sp), S[i]? = some s → ∃ o, ops[i]? = some o ∧ spB ops S.length i s o = true := fun i s hs => by
  obtain ⟨o, ho, hb⟩ := spsB_at S ops.toList 0 h5 i s hs
  exact ⟨o, by simpa using ho, by simpa using hb⟩
 refine ⟨h1, h2, fun i hi k hk => ?_, fun i d hi hd => ?_, fun i s hs k hk => ?_, fun i s hs t ht => ?_, h6, h7⟩
 ·obtain ⟨o, ho, hb⟩ := at5 i _ (List.getElem?_eq_getElem hi)
  obtain ⟨o', ho', e, he, hbd, rfl⟩ := Region.waitsFor_spec hk
  obtain rfl : o' = o := Option.some.inj (ho'.symm.trans ho)
  simp only [spB, Bool.and_eq_true] at hb
  have h8 := hb.1.1
  unfold earlyB at h8
  have := Array.all_eq_true'.1 h8 e he
  rw [hbd] at this
  simpa using this
 ·have := List.all_eq_true.1 h4 i (List.mem_range.2 hi)
  simp only [dstB, hd, Bool.and_eq_true, decide_eq_true_eq] at this
  refine ⟨this.1, fun k hk hkd => ?_⟩
  have h9 := List.all_eq_true.1 this.2 k (List.mem_range.2 hk)
  simp only [Bool.or_eq_true, decide_eq_true_eq] at h9
  rcases h9 with e | e
  ·exact e
  ·exact absurd hkd e
 ·obtain ⟨o, ho, hh⟩ := at5 i s hs
  simp only [spB, Bool.and_eq_true] at hh
  have := List.all_eq_true.1 hh.1.2 k hk
  simpa using this
 ·obtain ⟨o', ho', hh⟩ := at5 i s hs
  simp only [spB, Bool.and_eq_true] at hh
  have := List.all_eq_true.1 hh.2 t ht
  simp only [Bool.and_eq_true] at this
  refine ⟨fun k hk => ?_, fun k hk hkd => ?_⟩
  ·have := List.all_eq_true.1 this.1 k hk
   simpa using this
  ·have := List.all_eq_true.1 this.2 k (List.mem_range.2 hk)
   simp only [Bool.or_eq_true, decide_eq_true_eq] at this
   rcases this with e | e
   ·exact absurd hkd e
   ·exact e
theorem lit_defers (f : Nat → Value) : ∀ l, (lit ops a0 f l).defers = a0.defers
 | [] => rfl
 | k :: r => by rw [lit, put_defers', lit_defers f r]
theorem canon {listed : Array Bool} (inv : HeadInv .any ops S.length listed) (hl : S.length ≤ ops.size) (h : cnt S.length listed = 0) :
  listed = Array.replicate S.length true ++ Array.replicate (ops.size - S.length) false := by
 apply Array.ext
 ·simp [inv.size]; omega
 ·intro k h1 h2
  have hk : k < ops.size := by rw [← inv.size]; exact h1
  by_cases hm : k < S.length
  ·have := cnt_zero h k hm
   rw [Array.getElem_append_left (by simpa using hm)]
   simp [h1] at this
   simpa using this
  ·have := inv.tail k (by omega) hk
   rw [Array.getElem_append_right (by simpa using hm)]
   simp [h1] at this
   simpa using this
theorem go (F : Fine ops a0.tmps.size S) (hst : Stables S) (hsteps : Steps P ops a0 w0 S ops.toList S)
  (hfin : ∀ f w, Below w0.heap.size w0 w → factsOf S f w (List.range S.length) → wpList P ops Q (ops.toList.drop S.length) (lit ops a0 f (List.range S.length)) w) :
  ∀ (fuel : Nat) (listed : Array Bool) (f : Nat → Value) (a : Act) (w : World), HeadInv .any ops S.length listed → Inv ops a0 w0 S listed f a w → cnt S.length listed = fuel →
   wpAny P .any ops Q (fuel + (ops.size - S.length)) listed a w := by
 have hds : ∀ l : List Nat, (∀ k ∈ l, k < S.length) → ∀ (f : Nat → Value) (k d : Nat), k ∈ l → dstOf ops k = some d → (lit ops a0 f l).tmps[d]? = some (f k) := fun l hl f k d hk hd =>
  lit_some f (F.dst k d (hl k hk) hd).1 hd l hk fun j hj hjd => (F.dst k d (hl k hk) hd).2 j (hl j hj) hjd
 intro fuel
 induction fuel with
 | zero =>
  intro listed f a w inv I hc
  have hcan := canon inv F.len hc
  have hls : ∀ k, k < S.length → listed.getD k false = true := fun k hk => by
   have h1 := cnt_zero hc k hk
   rwa [getD_tf (by rw [inv.size]; have := F.len; omega)] at h1
  have ha : a = lit ops a0 f (List.range S.length) := by
   have hd := I.defers.trans (lit_defers (ops := ops) f (List.range S.length)).symm
   have ht : a.tmps = (lit ops a0 f (List.range S.length)).tmps := by
    apply Array.ext_getElem?
    intro t
    by_cases hx : ∃ k, k < S.length ∧ dstOf ops k = some t
    ·obtain ⟨k, hk, hkd⟩ := hx
     rw [I.vals k t hk (hls k hk) hkd, hds _ (fun j hj => List.mem_range.1 hj) f k t (List.mem_range.2 hk) hkd]
    ·have hx' : ∀ k, k < S.length → dstOf ops k ≠ some t := fun k hk hkd => hx ⟨k, hk, hkd⟩
     rw [I.old t fun k hk _ => hx' k hk, lit_none f _ fun k hk => hx' k (List.mem_range.1 hk)]
   cases a
   cases hL : lit ops a0 f (List.range S.length)
   rw [hL] at hd ht
   simp only at hd ht
   rw [hd, ht]
  have hw := hfin f w I.below (factsOf_of fun k hk => I.facts k (List.mem_range.1 hk) (hls k (List.mem_range.1 hk)))
  rw [← ha] at hw
  have h2 := wpAny_of_seq (md := .any) (Q' := Q) (ops.toList.drop S.length) S.length listed a w (fun j => by simp [List.getElem?_drop]) (by
   rw [hcan]
   have : (ops.toList.drop S.length).length = ops.size - S.length := by simp
   rw [this]
   exact F.seq) hw
  have e : (ops.toList.drop S.length).length = 0 + (ops.size - S.length) := by simp
  rwa [e] at h2
 | succ fuel ih =>
  intro listed f a w inv I hc
  rw [show fuel + 1 + (ops.size - S.length) = fuel + (ops.size - S.length) + 1 by omega]
  obtain ⟨k0, hk0, hu0⟩ := cnt_pos (m := S.length) (listed := listed) (by omega)
  have hlen := F.len
  obtain ⟨i0, hi0, hmin⟩ := least (p := fun k => k < S.length ∧ listed.getD k true = false) k0 k0 (Nat.le_refl _) ⟨hk0, hu0⟩
  have hne : Region.ready .any ops listed ≠ [] := by
   intro hnil
   have hio : i0 < ops.size := by omega
   have : i0 ∈ Region.ready .any ops listed := mem_ready.2 ⟨hi0.2, ops[i0], Array.getElem?_eq_getElem hio, fun e he hb => by
    have hlt : e.on < i0 := F.early i0 hi0.1 e.on (by
     unfold Region.waitsFor
     rw [Array.getElem?_eq_getElem hio]
     exact Array.any_eq_true'.2 ⟨e, he, by simp [hb]⟩)
    cases hb2 : listed.getD e.on true with
    | false => exact absurd ⟨by omega, hb2⟩ (hmin e.on hlt)
    | true => rwa [getD_tf (by rw [inv.size]; omega)] at hb2⟩
   rw [hnil] at this
   cases this
  refine ⟨fun h => absurd h hne, fun i hi => ?_⟩
  obtain ⟨hun, o, ho, hall⟩ := mem_ready.1 hi
  have hio : i < ops.size := (Array.getElem?_eq_some_iff.1 ho).1
  have him : i < S.length := by
   rcases F.tail with h | ⟨h1, h2⟩
   ·omega
   ·rcases Nat.lt_or_ge i S.length with h | h
    ·exact h
    ·rcases Nat.lt_or_ge S.length ops.size with h3 | h3
     ·exact absurd hi (tail_waits h1 h2 h3 inv _ k0 rfl hk0 hu0 i h)
     ·omega
  have hs : S[i]? = some S[i] := List.getElem?_eq_getElem him
  have hnot : listed.getD i false = false := by rw [← getD_tf (by rw [inv.size]; exact hio)]; exact hun
  have hdsl : ∀ k ∈ S[i].ds, k < S.length ∧ listed.getD k false = true := fun k hk => ⟨(F.ds i _ hs k hk).1, reach_ready inv (F.ds i _ hs k hk).2 hi⟩
  have hstep := steps_at hsteps (i := i) (o := o) (s := S[i]) (by simpa using ho) hs
  have hK := hstep f a w (fun v w' => Below w.heap.size w w' ∧ S[i].fact (S[i].ds.map f) v w') I.below (fun k hk d hd => I.vals k d (hdsl k hk).1 (hdsl k hk).2 hd) (fun t ht => by
    obtain ⟨_, g2⟩ := F.sl i _ hs t ht
    refine I.old t fun k hk hkl hkd => ?_
    have := reach_listed inv 2 k i (g2 k hk hkd) hkl
    rw [hnot] at this
    cases this) (factsOf_of fun k hk => I.facts k (hdsl k hk).1 (hdsl k hk).2) fun v w' h1 h2 => ⟨h1, h2⟩
  have hdst : ∀ k d, k < S.length → listed.getD k false = true → dstOf ops k = some d → dstOf ops i ≠ some d := fun k d hk hkl hkd hid => by
   have := (F.dst k d hk hkd).2 i him hid
   subst this
   rw [hkl] at hnot
   cases hnot
  refine wpOp_of_step ho (fun v w' hv => ?_) hK
  ·skip
   refine ih (listed.setIfInBounds i true) (fun j => if j = i then v else f j) _ w' (inv.set hi him) ?_ (by have := cnt_set hun S.length; rw [if_pos him] at this; omega)
   have hlist : ∀ k, (listed.setIfInBounds i true).getD k false = true → k = i ∨ listed.getD k false = true := fun k hk => by
    by_cases hki : i = k
    ·exact .inl hki.symm
    ·rw [getD_set_ne false hki] at hk
     exact .inr hk
   have hod : o.dst = dstOf ops i := by simp [dstOf, ho]
   refine ⟨by rw [put_defers']; exact I.defers, by rw [put_size]; exact I.size, I.below.trans (hv.1.mono I.below.size), fun k d hk hkl hkd => ?_, fun k hk hkl => ?_, fun t ht => ?_⟩
   ·rcases hlist k hkl with rfl | hkl'
    ·rw [hod, hkd, put_get _ _ _ (by rw [I.size]; exact (F.dst k d hk hkd).1)]
     simp
    ·have hki : k ≠ i := fun e => by subst e; rw [hkl'] at hnot; cases hnot
     rw [put_get_ne _ _ _ _ (by rw [hod]; exact hdst k d hk hkl' hkd), I.vals k d hk hkl' hkd]
     simp [hki]
   ·rcases hlist k hkl with rfl | hkl'
    ·unfold factAt
     rw [hs]
     simp only
     have e1 : S[k].ds.map (fun j => if j = k then v else f j) = S[k].ds.map f := List.map_congr_left fun j hj => by
      have : j ≠ k := fun e => by subst e; have := (hdsl j hj).2; rw [this] at hnot; cases hnot
      simp [this]
     rw [e1]
     simpa using hv.2
    ·have hki : k ≠ i := fun e => by subst e; rw [hkl'] at hnot; cases hnot
     refine factAt_congr (f := f) (fun s hsk j hj => ?_) (factAt_stable hst hv.1 (I.facts k hk hkl'))
     have : j ≠ i := fun e => by
      subst e
      rcases hj with e | e
      ·exact hki e.symm
      ·have := reach_listed inv 2 k j (F.ds k s hsk j e).2 hkl'
       rw [this] at hnot
       cases hnot
     simp [this]
   ·rw [put_get_ne _ _ _ _ (by
     intro e
     exact ht i him (by simp [inv.size, hio]) (by rw [← hod]; exact e))]
    exact I.old t fun k hk hkl => ht k hk (getD_set_true hkl)
theorem puts_defers (f : Nat → Value) : ∀ (D : List (Option Nat)) (k : Nat) (a : Act), (puts f D k a).defers = a.defers
 | [], _, _ => rfl
 | d :: r, k, a => by rw [puts, puts_defers f r, put_defers']
theorem puts_none (f : Nat → Value) {t : Nat} : ∀ (D : List (Option Nat)) (k : Nat) (a : Act), some t ∉ D → (puts f D k a).tmps[t]? = a.tmps[t]?
 | [], _, _, _ => rfl
 | d :: r, k, a, h => by
  rw [puts, puts_none f r _ _ (fun e => h (List.mem_cons_of_mem _ e)), put_get_ne _ _ _ _ (fun e => h (by rw [e]; exact List.mem_cons_self ..))]
theorem puts_some (f : Nat → Value) {t : Nat} : ∀ (D : List (Option Nat)) (k j : Nat) (a : Act), t < a.tmps.size → D[j]? = some (some t) → (∀ i, D[i]? = some (some t) → i = j) → (puts f D k a).tmps[t]? = some (f (k + j))
 | [], _, _, _, _, h, _ => by simp at h
 | d :: r, k, 0, a, ht, h, hu => by
  simp at h
  subst h
  rw [puts, puts_none f r _ _ (fun e => by
   obtain ⟨i, hi⟩ := List.getElem?_of_mem e
   have := hu (i + 1) (by simpa using hi)
   omega), put_get _ _ _ ht]
  rfl
 | d :: r, k, j + 1, a, ht, h, hu => by
  rw [puts, puts_some f r (k + 1) j _ (by rw [put_size]; exact ht) (by simpa using h) (fun i hi => by
   have := hu (i + 1) (by simpa using hi)
   omega)]
  congr 1
  congr 1
  omega
theorem lit_puts {N : Nat} (F : Fine ops N S) (hN : N = a0.tmps.size) (f : Nat → Value) {D : List (Option Nat)} (hD : (List.range S.length).map (dstOf ops) = D) : lit ops a0 f (List.range S.length) = puts f D 0 a0 := by
 subst hN
 have hd : (lit ops a0 f (List.range S.length)).defers = (puts f D 0 a0).defers := by rw [lit_defers, puts_defers]
 have ht : (lit ops a0 f (List.range S.length)).tmps = (puts f D 0 a0).tmps := by
  apply Array.ext_getElem?
  intro t
  have hDj : ∀ (j : Nat) (t : Nat), D[j]? = some (some t) ↔ j < S.length ∧ dstOf ops j = some t := fun j t => by
   rw [← hD, List.getElem?_map]
   by_cases hj : j < S.length
   ·simp [hj]
   ·simp [hj]
  by_cases hx : ∃ k, k < S.length ∧ dstOf ops k = some t
  ·obtain ⟨k, hk, hkd⟩ := hx
   rw [lit_some f (F.dst k t hk hkd).1 hkd _ (List.mem_range.2 hk) (fun j hj hjd => (F.dst k t hk hkd).2 j (List.mem_range.1 hj) hjd),
    puts_some f D 0 k a0 (F.dst k t hk hkd).1 ((hDj k t).2 ⟨hk, hkd⟩) (fun i hi => (F.dst k t hk hkd).2 i ((hDj i t).1 hi).1 ((hDj i t).1 hi).2)]
   simp
  ·rw [lit_none f _ fun k hk hkd => hx ⟨k, List.mem_range.1 hk, hkd⟩, puts_none f D 0 a0 (fun e => by
    obtain ⟨j, hj⟩ := List.getElem?_of_mem e
    obtain ⟨h1, h2⟩ := (hDj j t).1 hj
    exact hx ⟨j, h1, h2⟩)]
 cases hL : lit ops a0 f (List.range S.length)
 cases hR : puts f D 0 a0
 rw [hL, hR] at hd ht
 simp only at hd ht
 rw [hd, ht]
theorem wp_region_free {id : Nat} {l : List Oper} (hm : P.follows .mixedOrders = true) (S : List Sp) (D : List (Option Nat)) (hB : headB l.toArray a0.tmps.size S = true) (hD : (List.range S.length).map (dstOf l.toArray) = D) (hst : Stables S)
  (hsteps : Steps P l.toArray a0 w0 S l S)
  (hfin0 : ∀ f w, Below w0.heap.size w0 w → factsOf S f w (List.range S.length) → wpList P l.toArray Q (l.drop S.length) (puts f D 0 a0) w) :
  (Code.region id l.toArray true).wp P Q a0 w0 := by
 refine wp_region_any hm ?_
 have F := fine_of hB
 have hfin : ∀ f w, Below w0.heap.size w0 w → factsOf S f w (List.range S.length) → wpList P l.toArray Q (l.drop S.length) (lit l.toArray a0 f (List.range S.length)) w := fun f w h1 h2 => by
  rw [lit_puts F rfl f hD]
  exact hfin0 f w h1 h2
 have inv0 : HeadInv .any l.toArray S.length (Array.replicate l.toArray.size false) :=
  ⟨by simp, fun j oj _ hl => (by rw [getD_replicate_false] at hl; cases hl), fun t _ ht => getD_in (by simpa using ht) (getD_replicate_false _ _)⟩
 have c0 : ∀ m, m ≤ l.toArray.size → cnt m (Array.replicate l.toArray.size false) = m := fun m => by
  induction m with
  | zero => intro _; rfl
  | succ m ih =>
   intro hm
   rw [cnt, ih (by omega), if_pos (getD_in (by rw [Array.size_replicate]; omega) (getD_replicate_false _ _))]
 have := go (P := P) (ops := l.toArray) (Q := Q) (a0 := a0) (w0 := w0) (S := S) F hst (by simpa using hsteps) (by simpa using hfin) S.length (Array.replicate l.toArray.size false) (fun _ => undef) a0 w0.drew inv0
  ⟨rfl, rfl, (Below.refl _ _).drew, fun k d _ hl => (by rw [getD_replicate_false] at hl; cases hl), fun k _ hl => (by rw [getD_replicate_false] at hl; cases hl), fun t _ => rfl⟩ (c0 _ F.len)
 have hl := F.len
 rw [show S.length + (l.toArray.size - S.length) = l.toArray.size by omega] at this
 exact this
end
end Fr
end Go.Proofs.Ytjkdbakgnnhdnaa
