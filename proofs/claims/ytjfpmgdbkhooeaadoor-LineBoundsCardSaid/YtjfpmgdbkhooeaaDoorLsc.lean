/-
  strings.SplitSeq at one byte: the iterator's walk.
-/
import Derived.Test.YtjfpmgdbkhooeaaDoorLsb
import Derived.Test.YtjfpmgdbkhooeaaDoorLns
import Derived.LoopNIn
namespace Go.Proofs.YtjfpmgdbkhooeaaDoor.Ab
open Go.RowKit Go.Shelf
section
variable {a : Act} {w : World} {o : Oper}
theorem op_move {x : Operand} (ho : o.op = .move x) : (execOp a.eval o).run Tryd.prog w = .ok (.value (a.eval x)) w := by simp [execOp, ho]
theorem op_not {T : TypeId} {x : Operand} {b : Bool} (ho : o.op = .unOp .not T x) (hx : a.eval x = .bool b) : (execOp a.eval o).run Tryd.prog w = .ok (.value (.bool !b)) w := by
  unfold execOp
  simp [ho, hx, Op.unary]
theorem op_load {T : TypeId} {x : Operand} {b : Nat} {u : Value} (ho : o.op = .load T x) (hok : (tab T).ok = true) (hg : (tab T).agg = false) (hx : a.eval x = .pointer (some ⟨b, 0, none⟩)) (hc : ∃ T', w.heap[b]? = some (.cells #[u] T' (0, 0))) : (execOp a.eval o).run Tryd.prog w = .ok (.value u) w := by
  obtain ⟨T', hc⟩ := hc
  have h := run_load_one tab_ok hok hg w ⟨b, 0, none⟩ u (by simp [World.cell?, hc])
  unfold execOp
  simp only [ho, hx, Instr.loadAt, Instr.sureAddr, Sem.run_bind, Sem.run_pure, Result.andThen_ok, h]
end
section
variable {l b1 b0 b2 : Nat} {c : UInt8}
/-- What a round says. -/
def YR (b1 b0 b2 : Nat) (J : Nat → World → Prop) (Jx : World → Prop) (k : Nat) (W1 : World) (e : Ending) (W2 : World) : Prop :=
  ((e = .returned (.bool true) ∧ J (k + 1) W2) ∨ (e = .returned (.bool false) ∧ Jx W2)) ∧ ∀ b, b = b1 ∨ b = b0 ∨ b = b2 → W2.heap[b]? = W1.heap[b]?
theorem yr_bool {J : Nat → World → Prop} {Jx : World → Prop} {k : Nat} {W1 : World} : ∀ e w', YR b1 b0 b2 J Jx k W1 e w' → ∃ b, e = .returned (.bool b) := by
  rintro e w' ⟨⟨rfl, _⟩ | ⟨rfl, _⟩, _⟩
  · exact ⟨_, rfl⟩
  · exact ⟨_, rfl⟩
def knF (s : St) : List (Nat × Value) → Prop
  | [] => True
  | p :: L => s.fr p.1 = .v p.2 ∧ knF s L
theorem knF_all {s : St} : ∀ {L : List (Nat × Value)}, knF s L → ∀ p ∈ L, s.fr p.1 = .v p.2
  | [], _, p, h => by cases h
  | q :: L, h, p, hp => by
    rcases List.mem_cons.1 hp with rfl | hp
    · exact h.1
    · exact knF_all h.2 p hp
/-- What a piece leaves. -/
def IQ (l : Nat) (c : UInt8) (L : List (Nat × Value)) (r : ByteArray) : Ex → St → Prop := fun e s => e = .normal ∧ knF s L ∧ s.fr 0 = .v (.func (.yield l) #[] #[]) ∧ s.fr 1 = .pt 0 0 ∧ s.fr 2 = .pt 1 0 ∧ s.fr 3 = .pt 2 0 ∧ s.hp 0 = some (.bx [.v (.string ⟨#[c]⟩)]) ∧ s.hp 1 = some (.bx [.v (.string r)]) ∧ s.hp 2 = some (.bx [.v (.int .i64 0)])
theorem IS.go {L : List (Nat × Value)} {r : ByteArray} {a : Act} {W : World} (h : IS l b1 b0 b2 c L r a W) (hd : b1 ≠ b0 ∧ b1 ≠ b2 ∧ b0 ≠ b2) {code : Code} {Q : Exit → Act → World → Prop} (L' : List (Nat × Value)) (r' : ByteArray) (hrun : run Tryd.prog tab [.c code] (IQ l c L' r') ⟨frI l L, hpI c r, 3⟩)
    (k : ∀ a' W', IS l b1 b0 b2 c L' r' a' W' → Fgn (fun k => k = b1 ∨ k = b0 ∨ k = b2) W W' → Q .normal a' W') (hn : ndB code = true := by kernel_rfl) (hds : dstsB 52 code = true := by kernel_rfl) : code.wpIn Fence.wide 0 Tryd.prog Q a W := by
  refine wpIn_mono (h.step hd hn hds hrun) ?_
  rintro e a' W' ⟨ex, s', rfl, ⟨rfl, q1, q2, q3, q4, q5, q6, q7, q8⟩, hf, hi⟩
  exact k a' W' (hi L' r' (knF_all q1) q2 q3 q4 q5 q6 q7 q8) hf
theorem IS.val {L : List (Nat × Value)} {r : ByteArray} {a : Act} {W : World} (h : IS l b1 b0 b2 c L r a W) (t : Nat) (v : Value) (hm : (t, v) ∈ L) : a.eval (.tmp t) = v := (h.kn (t, v) hm).1
set_option maxHeartbeats 1000000 in
theorem split_core (hd : b1 ≠ b0 ∧ b1 ≠ b2 ∧ b0 ≠ b2) {s : ByteArray} (hsz : s.size < 4611686018427387904) {J : Nat → World → Prop} {Jx : World → Prop} {W : World}
    (hJ : ∀ k W1 W2, J k W1 → Fgn (fun k => k = b1 ∨ k = b0 ∨ k = b2) W1 W2 → J k W2) (hJx : ∀ W1 W2, Jx W1 → Fgn (fun k => k = b1 ∨ k = b0 ∨ k = b2) W1 W2 → Jx W2)
    (hY : ∀ k x W1, (splitT c s)[k]? = some x → J k W1 → YieldAt Fence.wide 0 Tryd.prog l #[.string x] W1 (YR b1 b0 b2 J Jx k W1))
    (h1 : ∃ T, W.heap[b1]? = some (.cells #[.string ⟨#[c]⟩] T (0, 0))) (h0 : ∃ T, W.heap[b0]? = some (.cells #[.string s] T (0, 0))) (h2 : ∃ T, W.heap[b2]? = some (.cells #[.int .i64 0] T (0, 0))) (hJ0 : J 0 W) :
    Calls Tryd.prog 38 #[.func (.yield l) #[] #[], .pointer (some ⟨b1, 0, none⟩), .pointer (some ⟨b0, 0, none⟩), .pointer (some ⟨b2, 0, none⟩)] W fun e W2 => (∃ v, e = .returned v) ∧ (J (splitT c s).length W2 ∨ Jx W2) := by
  refine (callsIn_wide (n := 0)).1 (callsIn_of_wp Tryd.func38 rfl trivial ?_ rfl)
  have hnt : Tryd.f38.ntmps = 52 := by kernel_rfl
  rw [hnt]
  obtain ⟨a0, ha0⟩ : ∃ a0 : Act, a0 = { tmps := #[.func (.yield l) #[] #[], .pointer (some ⟨b1, 0, none⟩), .pointer (some ⟨b0, 0, none⟩), .pointer (some ⟨b2, 0, none⟩)] ++ Array.replicate (52 - (#[Value.func (.yield l) #[] #[], .pointer (some ⟨b1, 0, none⟩), .pointer (some ⟨b0, 0, none⟩), .pointer (some ⟨b2, 0, none⟩)]).size) undef, defers := [] } := ⟨_, rfl⟩
  rw [← ha0]
  have i0 : IS l b1 b0 b2 c [] s a0 W := by
    subst ha0
    exact ⟨by simp, rfl, by simp, by simp, by simp, by simp, (fun p hp => by cases hp), h1, h0, h2⟩
  clear ha0
  -- the separator is not empty
  refine wpIn_seq (wpIn_seq ?_)
  refine i0.go hd [(11, .bool false)] s (by simp only [frI, hpI, IQ, knF, List.foldr_nil]; refine Z0 ?_; trivial) fun a W1 i1 f1 => ?_
  refine wpIn_cond_false (i1.val 11 _ (by simp)) (wpIn_skip ?_)
  have j1 := hJ _ _ _ hJ0 f1
  have fin : ∀ (a : Act) (w : World), a.defers = [] → J (splitT c s).length w ∨ Jx w → a.defers = [] ∧ ∃ v, (results Tryd.f38 a.tmps).run Tryd.prog w = .ok v w ∧ (∃ u, Ending.returned v = .returned u) ∧ (J (splitT c s).length w ∨ Jx w) := fun a w ha hj => ⟨ha, .tuple #[], by
    have hrs : Tryd.f38.results = #[] := by kernel_rfl
    unfold results
    rw [hrs]
    simp, ⟨_, rfl⟩, hj⟩
  refine wpIn_seq (wpIn_block (wpIn_loop_rounds ((splitT c s).length + 1) ?_))
  refine (?key : ∀ (m k : Nat) (r : ByteArray) (L : List (Nat × Value)) (a : Act) (W : World), IS l b1 b0 b2 c L r a W → J k W → (splitT c s).drop k = splitT c r → r.size ≤ s.size → (splitT c r).length ≤ m → Code.roundsIn Fence.wide 0 Tryd.prog _ _ m a W) _ 0 s _ a W1 i1 j1 rfl (Nat.le_refl _) (Nat.le_succ _)
  intro m
  induction m with
  | zero =>
    intro k r L a W _ _ _ _ hm
    have : 1 ≤ (splitT c r).length := by unfold splitT; rw [Lib.splitB_all _ (Nat.le_refl _) 0 _ r rfl]; omega
    omega
  | succ m ih =>
    intro k r L a W hi hj hk hrs hm
    rw [roundsIn_succ]
    refine wpIn_block (wpIn_seq ?_)
    have hix : strings_Index 0 r ⟨#[c]⟩ = some (Lib.indexByte r.data.toList c) := rfl
    obtain ⟨ix, hixe⟩ : ∃ ix, ix = Lib.indexByte r.data.toList c := ⟨_, rfl⟩
    rw [← hixe] at hix
    have i0' : IS l b1 b0 b2 c [] r a W := ⟨hi.sz, hi.df, hi.t0, hi.t1, hi.t2, hi.t3, (fun p hp => by cases hp), hi.h1, hi.h0, hi.h2⟩
    refine i0'.go hd [(7, .int .i64 ix)] r (by simp only [frI, hpI, List.foldr_nil]; refine Z0 ?_; refine ZC0 (strings_Index_ok hix) ?_; refine Z0 ?_; trivial) fun a W2 i2 f2 => ?_
    have j2 := hJ _ _ _ hj f2
    refine wpIn_seq (wpIn_seq ?_)
    refine i2.go hd [(7, .int .i64 ix), (33, .bool (decide (ix < 0)))] r (by simp only [frI, hpI, List.foldr_nil, List.foldr_cons]; refine Z0 ?_; trivial) fun a W3 i3 f3 => ?_
    have j3 := hJ _ _ _ j2 f3
    have hge := Lib.indexByte_ge r.data.toList c
    rw [← hixe] at hge
    by_cases hneg : ix < 0
    · refine wpIn_cond_true ((i3.val 33 (.bool (decide (ix < 0))) (by simp)).trans (congrArg Value.bool (decide_eq_true hneg))) (wpIn_exit ?_)
      have hone : splitT c r = [r] := splitT_miss (by omega)
      -- the last piece
      have hlast : (splitT c s)[k]? = some r := by rw [← List.head?_drop, hk, hone]; rfl
      have hlen : (splitT c s).length = k + 1 := by
        have h1 := congrArg List.length hk
        rw [hone, List.length_drop, List.length_singleton] at h1
        omega
      simp only [Exit.then, Exit.inBlock]
      rw [if_neg (by decide), if_pos trivial]
      refine wpIn_region ?_
      have i5 : ∀ (v : Value), v.oneCell' = true → IS l b1 b0 b2 c [(49, v), (7, .int .i64 ix), (33, .bool (decide (ix < 0)))] r (a.put (some 49) v) W3 := fun v hv => i3.put (fun _ _ => rfl) (by decide) (by decide) hv (by simp)
      refine opIn_val rfl rfl (fun _ e => by cases e) (op_move rfl) ?_
      have i5 := i5 (a.eval (.tmp 0)) (by rw [show a.eval (.tmp 0) = _ from i3.t0]; rfl)
      refine opIn_val rfl rfl (fun _ e => by cases e) (op_load rfl (by rw [tab9]) (by rw [tab9]; rfl) i5.t2 i5.h0) ?_
      have i6 := i5.put (t := 50) (v := .string r) (W' := W3) (fun _ _ => rfl) (by decide) (by decide) rfl (by simp)
      refine opIn_yield rfl rfl rfl ((i6.val 49 (a.eval (.tmp 0)) (by simp)).trans i3.t0) (i6.val 50 (.string r) (by simp)) (hY k r W3 hlast j3) yr_bool fun b W5 hb => ?_
      refine fin _ _ (by rw [put_defers, put_defers, put_defers]; exact i3.df) ?_
      rcases hb.1 with ⟨e, h⟩ | ⟨e, h⟩
      · exact .inl (hlen ▸ h)
      · exact .inr h
    · refine wpIn_cond_false ((i3.val 33 (.bool (decide (ix < 0))) (by simp)).trans (congrArg Value.bool (decide_eq_false hneg))) (wpIn_skip ?_)
      obtain ⟨i, rfl⟩ : ∃ i : Nat, ix = i := ⟨ix.toNat, by omega⟩
      have hhit := splitT_hit (c := c) (s := r) (i := i) hixe.symm
      have hlt : i < r.size := by
        have := (List.getElem?_eq_some_iff.1 (Lib.indexByte_some hixe.symm).1).1
        simpa using this
      refine wpIn_seq ?_
      have hw0 : IntKind.i64.wrap ((i : Int) + 0) = (i : Int) := by rw [Int.add_zero]; exact wrap_nat (by omega)
      have hb0 : 0 ≤ i := Nat.zero_le _
      have hb1 : i ≤ r.size := Nat.le_of_lt hlt
      refine i3.go hd [(7, .int .i64 (i : Int)), (8, .string (r.extract 0 i))] r (by simp only [frI, hpI, List.foldr_nil, List.foldr_cons]; refine Z1 (Y3 hw0 hb0 hb1) ?_; trivial) fun a W4 i4 f4 => ?_
      have j4 := hJ _ _ _ j3 f4
      refine wpIn_seq (wpIn_seq (wpIn_region ?_))
      have hpiece : (splitT c s)[k]? = some (r.extract 0 i) := by rw [← List.head?_drop, hk, hhit]; rfl
      refine opIn_val rfl rfl (fun _ e => by cases e) (op_move rfl) ?_
      have i5 := i4.put (t := 39) (v := a.eval (.tmp 0)) (W' := W4) (fun _ _ => rfl) (by decide) (by decide) (by rw [show a.eval (.tmp 0) = _ from i4.t0]; rfl) (by simp)
      refine opIn_val rfl rfl (fun _ e => by cases e) (op_move rfl) ?_
      have i6 := i5.put (t := 40) (v := (a.put (some 39) (a.eval (.tmp 0))).eval (.tmp 8)) (W' := W4) (fun _ _ => rfl) (by decide) (by decide) (by rw [i5.val 8 (.string (r.extract 0 i)) (by simp)]; rfl) (by simp)
      refine opIn_yield rfl rfl rfl ((i6.val 39 (a.eval (.tmp 0)) (by simp)).trans i4.t0) ((i6.val 40 ((a.put (some 39) (a.eval (.tmp 0))).eval (.tmp 8)) (by simp)).trans (i5.val 8 (.string (r.extract 0 i)) (by simp))) (hY k _ W4 hpiece j4) yr_bool fun b W5 hb => ?_
      have i7 := i6.put (t := 41) (v := .bool b) (W' := W5) hb.2 (by decide) (by decide) rfl (by simp)
      refine opIn_val rfl rfl (fun _ e => by cases e) (op_not rfl (i7.val 41 (.bool b) (by simp))) ?_
      have i8 := i7.put (t := 42) (v := .bool !b) (W' := W5) (fun _ _ => rfl) (by decide) (by decide) rfl (by simp)
      cases b with
      | false =>
        refine wpIn_cond_true (i8.val 42 (.bool true) (by simp)) (wpIn_ret ?_)
        refine fin _ _ i8.df ?_
        rcases hb.1 with ⟨e, h⟩ | ⟨e, h⟩
        · cases e
        · exact .inr h
      | true =>
        refine wpIn_cond_false (i8.val 42 (.bool false) (by simp)) (wpIn_skip ?_)
        have j5 : J (k + 1) W5 := by
          rcases hb.1 with ⟨e, h⟩ | ⟨e, h⟩
          · exact h
          · cases e
        have hw1 : IntKind.i64.wrap ((i : Int) + 1) = ((i + 1 : Nat) : Int) := wrap_one (by omega)
        have hb2 : i + 1 ≤ r.size := hlt
        have hb3 : r.size ≤ r.size := Nat.le_refl _
        have hone : (ByteArray.mk #[c]).size = 1 := rfl
        have i9 : IS l b1 b0 b2 c [(7, .int .i64 (i : Int))] r _ W5 := ⟨i8.sz, i8.df, i8.t0, i8.t1, i8.t2, i8.t3, (fun p hp => i8.kn p (by simp at hp; subst hp; simp)), i8.h1, i8.h0, i8.h2⟩
        refine i9.go hd [] (r.extract (i + 1) r.size) (by simp only [frI, hpI, List.foldr_nil, List.foldr_cons]; refine Z1 (Y4 hw1 hb2 hb3 hone) ?_; trivial) fun a W6 i10 f6 => ?_
        have j6 := hJ _ _ _ j5 f6
        have hk2 : (splitT c s).drop (k + 1) = splitT c (r.extract (i + 1) r.size) := by
          rw [← List.drop_drop, hk, hhit]
          rfl
        refine ih (k + 1) _ _ a W6 i10 j6 hk2 ?_ ?_
        · rw [ByteArray.size_extract]; omega
        · have := congrArg List.length hhit
          rw [List.length_cons] at this
          omega
theorem Fgn.to {M M' : Nat → Prop} {w w' : World} (h : Fgn M w w') (hM : ∀ k, M k → M' k) : Fgn M' w w' := ⟨h.os, h.tape, h.output, h.size, h.drawn, fun k hk hn => h.mem k hk fun h2 => hn (hM k h2)⟩
theorem split_en : Enters Tryd.prog 38 := ⟨_, Tryd.func38, by kernel_rfl, by kernel_rfl⟩
theorem ids3 {s : St} {i1 i0 i2 : Nat} {x1 x0 x2 : List AV} (h1 : s.hp i1 = some (.bx x1)) (h0 : s.hp i0 = some (.bx x0)) (h2 : s.hp i2 = some (.bx x2)) : ∀ id ∈ [i1, i0, i2], ∃ o, s.hp id = some o ∧ o.fz = false := by
  intro id h
  simp only [List.mem_cons, List.not_mem_nil, or_false] at h
  rcases h with rfl | rfl | rfl
  · exact ⟨_, h1, rfl⟩
  · exact ⟨_, h0, rfl⟩
  · exact ⟨_, h2, rfl⟩
/-- What the iterator does, in the machine's words. -/
theorem split_hit {s : St} {i1 i0 i2 : Nat} {x : ByteArray} (c : UInt8) (hsz : x.size < 4611686018427387904) (h1 : s.hp i1 = some (.bx [.v (.string ⟨#[c]⟩)])) (h0 : s.hp i0 = some (.bx [.v (.string x)])) (h2 : s.hp i2 = some (.bx [.v (.int .i64 0)])) (hne : i1 ≠ i0 ∧ i1 ≠ i2 ∧ i0 ≠ i2 := by decide) :
    ∀ (g : Gh) (cc : Cf) (us : Array Value), cc.hp = s.hp → HR g cc → us.size = [AV.pt i1 0, .pt i0 0, .pt i2 0].length → (∀ (j : Nat) (x : AV), [AV.pt i1 0, .pt i0 0, .pt i2 0][j]? = some x → ∃ u, us[j]? = some u ∧ RA g cc x u) → IterOK Tryd.prog 38 us (fun k => ∃ id ∈ [i1, i0, i2], k = cc.φ id) (splitT c x) cc.w := by
  intro g cc us hhp hr hus hcap l J Jx W hB hJ hJx hY hJ0
  have hu : us = #[.pointer (some ⟨cc.φ i1, 0, none⟩), .pointer (some ⟨cc.φ i0, 0, none⟩), .pointer (some ⟨cc.φ i2, 0, none⟩)] := by
    have pt : ∀ (j id : Nat), [AV.pt i1 0, .pt i0 0, .pt i2 0][j]? = some (.pt id 0) → us[j]? = some (.pointer (some ⟨cc.φ id, 0, none⟩)) := fun j id h => by
      obtain ⟨u, q1, q2⟩ := hcap j _ h
      rw [q1]
      cases q2
      rfl
    apply Array.ext
    · simpa using hus
    · intro j q1 q2
      have hj : j < 3 := by simpa using q2
      have e : us[j]? = some us[j] := Array.getElem?_eq_getElem q1
      rcases j with _ | _ | _ | j
      · rw [pt 0 i1 rfl] at e; simpa using (Option.some.inj e).symm
      · rw [pt 1 i0 rfl] at e; simpa using (Option.some.inj e).symm
      · rw [pt 2 i2 rfl] at e; simpa using (Option.some.inj e).symm
      · omega
  have hb : ∀ (id : Nat) (v : Value), cc.hp id = some (.bx [.v v]) → id ∈ [i1, i0, i2] → ∃ T, W.heap[cc.φ id]? = some (.cells #[v] T (0, 0)) := fun id v h hm => by
    obtain ⟨T, vs, q1, q2, q3⟩ := hr.obj id _ h
    obtain ⟨u, q4, q5⟩ := q3 0 _ rfl
    cases (show RA g cc (.v v) u from q5) with
    | v _ _ =>
    refine ⟨T, (hB _ ⟨id, hm, rfl⟩).trans (q1.trans ?_)⟩
    have : vs = #[v] := by
      apply Array.ext
      · simpa using q2
      · intro i h1 h2
        have hi : i = 0 := by simp at h2; exact h2
        subst hi
        rw [Array.getElem?_eq_getElem h1, Option.some.injEq] at q4
        simpa using q4
    rw [this]
  rw [← hhp] at h1 h0 h2
  have n1 := hr.inj i1 i0 _ _ h1 h0 hne.1
  have n2 := hr.inj i1 i2 _ _ h1 h2 hne.2.1
  have n3 := hr.inj i0 i2 _ _ h0 h2 hne.2.2
  have hM : ∀ k, (k = cc.φ i1 ∨ k = cc.φ i0 ∨ k = cc.φ i2) → ∃ id ∈ [i1, i0, i2], k = cc.φ id := fun k h => by
    rcases h with h | h | h
    · exact ⟨i1, by simp, h⟩
    · exact ⟨i0, by simp, h⟩
    · exact ⟨i2, by simp, h⟩
  rw [hu]
  exact split_core ⟨n1, n2, n3⟩ hsz (fun k W1 W2 h hf => hJ k W1 W2 h (hf.to hM)) (fun W1 W2 h hf => hJx W1 W2 h (hf.to hM)) (fun k x W1 hx hj => by
    obtain ⟨fn, tmps, assign, body, q1, q2⟩ := hY k x W1 hx hj
    exact ⟨fn, tmps, assign, body, q1, q2.mono fun e W2 h => ⟨h.1, fun b hb => h.2 b (hM b hb)⟩⟩) (hb i1 _ h1 (by simp)) (hb i0 _ h0 (by simp)) (hb i2 _ h2 (by simp)) hJ0
end
end Go.Proofs.YtjfpmgdbkhooeaaDoor.Ab
