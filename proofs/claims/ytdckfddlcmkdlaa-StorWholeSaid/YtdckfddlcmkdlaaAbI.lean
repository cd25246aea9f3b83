/-
  Loops over what stands; the library's walks over lists.
-/
import Derived.Test.YtdckfddlcmkdlaaAbH
namespace Go.Proofs.Ytdckfddlcmkdlaa.Ab
open Go.RowKit

/-- Slots of these spans are forgotten. -/
def forget : List (Nat × Nat) → Fr → Fr
  | [], fr => fr
  | p :: r, fr => fun t => if p.1 ≤ t ∧ t ≤ p.2 then .un else forget r fr t
def inSp : List (Nat × Nat) → Nat → Bool
  | [], _ => false
  | p :: r, t => (Nat.ble p.1 t && Nat.ble t p.2) || inSp r t
theorem forget_in : ∀ {D : List (Nat × Nat)} {fr : Fr} {t : Nat}, inSp D t = true → forget D fr t = .un
  | [], _, _, h => by cases h
  | p :: r, fr, t, h => by
    simp only [inSp, Bool.or_eq_true, Bool.and_eq_true, Nat.ble_eq] at h
    simp only [forget]
    split
    · rfl
    · rename_i hn
      rcases h with h | h
      · exact absurd h hn
      · exact forget_in h
theorem forget_or : ∀ (D : List (Nat × Nat)) (fr : Fr) (t : Nat), forget D fr t = .un ∨ forget D fr t = fr t
  | [], _, _ => .inr rfl
  | p :: r, fr, t => by
    simp only [forget]
    split
    · exact .inl rfl
    · exact forget_or r fr t
theorem forget_at (p : Nat × Nat) (r : List (Nat × Nat)) (fr : Fr) (t : Nat) : forget (p :: r) fr t = if p.1 ≤ t ∧ t ≤ p.2 then .un else forget r fr t := rfl
theorem forget_nil (fr : Fr) : forget [] fr = fr := rfl
theorem wk_self (D : List (Nat × Nat)) (fr : Fr) : ∀ t, forget D fr t = .un ∨ forget D fr t = fr t := forget_or D fr
theorem wk_base (D : List (Nat × Nat)) (fr : Fr) : ∀ t, forget D fr t = .un ∨ forget D fr t = forget D fr t := fun _ => .inr rfl
theorem wk_skip {D : List (Nat × Nat)} {fr f : Fr} {k : Nat} {v : AV} (hk : inSp D k = true) (h : ∀ t, forget D fr t = .un ∨ forget D fr t = f t) : ∀ t, forget D fr t = .un ∨ forget D fr t = upd k v f t := fun t => by
  unfold upd
  split
  · rename_i e; subst e; exact .inl (forget_in hk)
  · exact h t
/-- Things of these numbers, and what is new, are forgotten. -/
def cutH (N : Nat) : List Nat → Hp → Hp
  | [], hp => fun t => if N ≤ t then none else hp t
  | k :: M, hp => fun t => if t = k then none else cutH N M hp t
theorem cutH_nil (N : Nat) (hp : Hp) (t : Nat) : cutH N [] hp t = if N ≤ t then none else hp t := rfl
theorem cutH_cons (N k : Nat) (M : List Nat) (hp : Hp) (t : Nat) : cutH N (k :: M) hp t = if t = k then none else cutH N M hp t := rfl
theorem cutH_new {N : Nat} {t : Nat} (hp : Hp) (h : N ≤ t) : ∀ (M : List Nat), cutH N M hp t = none
  | [] => if_pos h
  | k :: M => by
    simp only [cutH]
    split
    · rfl
    · exact cutH_new hp h M
theorem cutH_mem {N : Nat} {t : Nat} (hp : Hp) : ∀ {M : List Nat}, t ∈ M → cutH N M hp t = none
  | k :: M, h => by
    simp only [cutH]
    split
    · rfl
    · rename_i e
      exact cutH_mem hp ((List.mem_cons.1 h).resolve_left e)
theorem cutH_or (N : Nat) (hp : Hp) (t : Nat) : ∀ (M : List Nat), cutH N M hp t = none ∨ cutH N M hp t = hp t
  | [] => by
    simp only [cutH]
    split
    · exact .inl rfl
    · exact .inr rfl
  | k :: M => by
    simp only [cutH]
    split
    · exact .inl rfl
    · exact cutH_or N hp t M
theorem wh_cut (N : Nat) (M : List Nat) (hp : Hp) : ∀ t, cutH N M hp t = none ∨ cutH N M hp t = hp t := fun t => cutH_or N hp t M
theorem wh_base (N : Nat) (M : List Nat) (hp : Hp) : ∀ t, cutH N M hp t = none ∨ cutH N M hp t = cutH N M hp t := fun _ => .inr rfl
theorem wh_skip {N : Nat} {M : List Nat} {hp h' : Hp} {k : Nat} {v : Option AO} (hk : N ≤ k ∨ k ∈ M) (h : ∀ t, cutH N M hp t = none ∨ cutH N M hp t = h' t) : ∀ t, cutH N M hp t = none ∨ cutH N M hp t = upd k v h' t := fun t => by
  unfold upd
  split
  · rename_i e
    subst e
    exact .inl (hk.elim (fun h => cutH_new hp h M) fun h => cutH_mem hp h)
  · exact h t
section
variable {P : Program} {tab : Nat → TI} {k : List It} {Q : Ex → St → Prop} {a : Code}
/-- A loop, over what stands where it begins. -/
theorem run_loopA {α : Type} {fr : Fr} {hp : Hp} {nx : Nat} (D : List (Nat × Nat)) (M : List Nat) (f : α → Fr → Fr) (o : α → Hp → Hp) (m : α → Nat) (μ : α → Nat) (x0 : α)
    (h0 : Weak ⟨f x0 (forget D fr), o x0 (cutH nx M hp), nx + m x0⟩ ⟨fr, hp, nx⟩)
    (step : ∀ x, run P tab [.c a, .lp fun s' => ∃ x', Weak ⟨f x' (forget D fr), o x' (cutH nx M hp), nx + m x'⟩ s' ∧ μ x' < μ x] (cont P tab k Q) ⟨f x (forget D fr), o x (cutH nx M hp), nx + m x⟩) : run P tab (.c (.loop a) :: k) Q ⟨fr, hp, nx⟩ :=
  run_loop (fun x => ⟨f x (forget D fr), o x (cutH nx M hp), nx + m x⟩) μ x0 h0 step
/-- A loop that leaves the heap as it is. -/
theorem run_loopH {α : Type} {fr : Fr} {hp : Hp} {nx : Nat} (D : List (Nat × Nat)) (f : α → Fr → Fr) (m : α → Nat) (μ : α → Nat) (x0 : α)
    (h0 : Weak ⟨f x0 (forget D fr), hp, nx + m x0⟩ ⟨fr, hp, nx⟩)
    (step : ∀ x, run P tab [.c a, .lp fun s' => ∃ x', Weak ⟨f x' (forget D fr), hp, nx + m x'⟩ s' ∧ μ x' < μ x] (cont P tab k Q) ⟨f x (forget D fr), hp, nx + m x⟩) : run P tab (.c (.loop a) :: k) Q ⟨fr, hp, nx⟩ :=
  run_loop (fun x => ⟨f x (forget D fr), hp, nx + m x⟩) μ x0 h0 step
end
attribute [go_sem] forget_at forget_nil cutH_nil cutH_cons

theorem keep_self (hp : Hp) : ∀ i, hp i = none ∨ hp i = hp i := fun _ => .inr rfl
theorem keep_new {hp h' : Hp} {nx k : Nat} {v : Option AO} (hf : ∀ j, nx ≤ j → hp j = none) (hk : nx ≤ k) (h : ∀ i, hp i = none ∨ hp i = h' i) : ∀ i, hp i = none ∨ hp i = upd k v h' i := fun i => by
  unfold upd
  split
  · rename_i e; subst e; exact .inl (hf _ hk)
  · exact h i
/-- The end of a function that forgets what it has made. -/
theorem end_retL {tab : Nat → TI} {rs : Array ResultVar} {R : AV → Hp → Nat → Prop} {s : St} {v : AV} {hp' : Hp} (h1 : resA tab rs s = some v) (hL : ∀ i, hp' i = none ∨ hp' i = s.hp i) (h2 : R v hp' s.nx) : EndW tab rs R .ret s := ⟨v, hp', h1, ⟨hL⟩, h2⟩
theorem old_lt {hp : Hp} {nx i : Nat} {o : AO} (hf : ∀ j, nx ≤ j → hp j = none) (h : hp i = some o) : i < nx := Nat.lt_of_not_le fun hn => by rw [hf i hn] at h; cases h

/-! ### guards that hang on what is not known -/
section
variable {P : Program} {tab : Nat → TI} {ops : Array Oper} {nx0 nx i j d : Nat} {k : List It} {Q : Ex → St → Prop} {r : List Oper} {s : St} {dst : Option Nat} {acc : List Rec} {fr : Fr} {hp : Hp} {op : Op} {T : TypeId} {pos : String} {after : Array Edge} {t c : Bool}
theorem Rt_gS (h1 : gAt ops j = some d) (h2 : s.fr d = .v (.bool c)) (hy : c = t → onOp P tab ops nx0 k Q i r dst s op) (hn : c = !t → Rt P tab ops nx0 k Q (i + 1) r ⟨putS dst (.tu []) s.fr, s.hp, s.nx⟩) : Rt P tab ops nx0 k Q i (⟨dst, op, T, pos, after, some (j, t)⟩ :: r) s := by
  rw [Rt_guard2, h1, onGx_some, h2]
  exact onG_split hy hn
theorem Rd_gS (h1 : gAt ops j = some d) (h2 : fr d = .v (.bool c)) (hy : c = t → onOpD P tab ops nx0 nx k Q i r dst acc fr hp op) (hn : c = !t → Rd P tab ops nx0 nx k Q (i + 1) r (⟨[], [], false⟩ :: acc) (putS dst (.tu []) fr) hp) : Rd P tab ops nx0 nx k Q i (⟨dst, op, T, pos, after, some (j, t)⟩ :: r) acc fr hp := by
  rw [Rd_guard2, h1, onGx_some, h2]
  exact onGD_split hy hn
end

/-! ### arithmetic that a walk meets -/
theorem wrap_nat {n : Nat} (h : n < 9223372036854775808) : IntKind.i64.wrap (n : Int) = n := IntWalk.i64_in _ (by omega)
theorem wrap_add {a b : Nat} (h : a + b < 9223372036854775808) : IntKind.i64.wrap ((a : Int) + (b : Int)) = ((a + b : Nat) : Int) := by rw [IntWalk.i64_in _ (by omega)]; omega
theorem wrap_one {a : Nat} (h : a + 1 < 9223372036854775808) : IntKind.i64.wrap ((a : Int) + 1) = ((a + 1 : Nat) : Int) := by rw [IntWalk.i64_in _ (by omega)]; omega
theorem at_map {α β : Type} {f : α → β} {xs : List α} {k : Nat} (h : k < xs.length) : (xs.map f)[k]? = some (f xs[k]) := by simp [h]
theorem dec_lt {a b : Nat} (h : a < b) : decide ((a : Int) < (b : Int)) = true := by simp; omega
theorem dec_nlt {a b : Nat} (h : b ≤ a) : decide ((a : Int) < (b : Int)) = false := by simp; omega
end Go.Proofs.Ytdckfddlcmkdlaa.Ab

namespace Go.Proofs.Ytdckfddlcmkdlaa.Ab
open Go.RowKit

def ixfBody (T E I B F V : TypeId) : Code :=
  (Go.Code.seq (Go.Code.region 0 #[{ dst := (some 4), op := (Go.Op.assign (Go.Operand.const (Go.Value.int Go.IntKind.i64 0))), type := I, pos := "slices.go:107", after := #[], guard := none }] false) (Go.Code.seq (Go.Code.seq (Go.Code.region 1 #[{ dst := (some 6), op := (Go.Op.move (Go.Operand.tmp 0)), type := T, pos := "slices.go:108", after := #[], guard := none }, { dst := (some 7), op := (Go.Op.call { callee := (Go.Callee.builtin Go.Builtin.len), args := #[(Go.Operand.tmp 6)], argTypes := #[T] }), type := I, pos := "slices.go:108", after := #[{ on := 0, ground := Go.Ground.data }], guard := none }, { dst := (some 8), op := (Go.Op.move (Go.Operand.const (Go.Value.int Go.IntKind.i64 0))), type := I, pos := "slices.go:108", after := #[], guard := none }] false) (Go.Code.block 0 (Go.Code.loop (Go.Code.seq (Go.Code.region 2 #[{ dst := (some 9), op := (Go.Op.binOp Go.BinOp.lss I (Go.Operand.tmp 8) (Go.Operand.tmp 7) I), type := B, pos := "slices.go:108", after := #[], guard := none }] false) (Go.Code.seq (Go.Code.cond (Go.Operand.tmp 9) Go.Code.skip (Go.Code.exit 0)) (Go.Code.seq (Go.Code.block 1 (Go.Code.seq (Go.Code.region 3 #[{ dst := (some 10), op := (Go.Op.move (Go.Operand.tmp 8)), type := I, pos := "slices.go:108", after := #[], guard := none }, { dst := (some 5), op := (Go.Op.assign (Go.Operand.tmp 10)), type := I, pos := "slices.go:108", after := #[{ on := 0, ground := Go.Ground.data }, { on := 0, ground := Go.Ground.phase }], guard := none }] false) (Go.Code.seq (Go.Code.region 4 #[{ dst := (some 11), op := (Go.Op.move (Go.Operand.tmp 1)), type := F, pos := "slices.go:109", after := #[], guard := none }, { dst := (some 12), op := (Go.Op.move (Go.Operand.tmp 0)), type := T, pos := "slices.go:109", after := #[], guard := none }, { dst := (some 13), op := (Go.Op.move (Go.Operand.tmp 5)), type := I, pos := "slices.go:109", after := #[], guard := none }, { dst := (some 14), op := (Go.Op.indexAddr T (Go.Operand.tmp 12) (Go.Operand.tmp 13)), type := B, pos := "slices.go:109", after := #[{ on := 1, ground := Go.Ground.data }, { on := 2, ground := Go.Ground.data }], guard := none }, { dst := (some 15), op := (Go.Op.load E (Go.Operand.tmp 14)), type := E, pos := "slices.go:109", after := #[{ on := 3, ground := Go.Ground.data }], guard := none }, { dst := (some 16), op := (Go.Op.call { callee := (Go.Callee.value (Go.Operand.tmp 11)), args := #[(Go.Operand.tmp 15)], argTypes := #[E] }), type := V, pos := "slices.go:109", after := #[{ on := 0, ground := Go.Ground.data }, { on := 4, ground := Go.Ground.data }], guard := none }] false) (Go.Code.cond (Go.Operand.tmp 16) (Go.Code.seq (Go.Code.region 5 #[{ dst := (some 17), op := (Go.Op.move (Go.Operand.tmp 5)), type := I, pos := "slices.go:110", after := #[], guard := none }, { dst := (some 4), op := (Go.Op.assign (Go.Operand.tmp 17)), type := I, pos := "slices.go:110", after := #[{ on := 0, ground := Go.Ground.data }, { on := 0, ground := Go.Ground.phase }], guard := none }] false) Go.Code.ret) Go.Code.skip)))) (Go.Code.region 6 #[{ dst := (some 18), op := (Go.Op.binOp Go.BinOp.add I (Go.Operand.tmp 8) (Go.Operand.const (Go.Value.int Go.IntKind.i64 1)) I), type := I, pos := "slices.go:108", after := #[], guard := none }, { dst := (some 8), op := (Go.Op.move (Go.Operand.tmp 18)), type := I, pos := "slices.go:108", after := #[{ on := 0, ground := Go.Ground.data }], guard := none }] false))))))) (Go.Code.seq (Go.Code.region 7 #[{ dst := (some 4), op := (Go.Op.assign (Go.Operand.const (Go.Value.int Go.IntKind.i64 (-1)))), type := I, pos := "slices.go:113", after := #[], guard := none }] false) Go.Code.ret)))
def ctfBody (T _ I _ F V : TypeId) (g : FuncId) : Code :=
  (Go.Code.seq (Go.Code.region 0 #[{ dst := (some 4), op := (Go.Op.assign (Go.Operand.const (Go.Value.bool false))), type := V, pos := "slices.go:124", after := #[], guard := none }] false) (Go.Code.seq (Go.Code.region 1 #[{ dst := (some 5), op := (Go.Op.move (Go.Operand.tmp 0)), type := T, pos := "slices.go:125", after := #[], guard := none }, { dst := (some 6), op := (Go.Op.move (Go.Operand.tmp 1)), type := F, pos := "slices.go:125", after := #[], guard := none }, { dst := (some 7), op := (Go.Op.call { callee := (Go.Callee.value (Go.Operand.func g)), args := #[(Go.Operand.tmp 5), (Go.Operand.tmp 6)], argTypes := #[T, F] }), type := I, pos := "slices.go:125", after := #[{ on := 0, ground := Go.Ground.data }, { on := 1, ground := Go.Ground.data }], guard := none }, { dst := (some 8), op := (Go.Op.binOp Go.BinOp.geq I (Go.Operand.tmp 7) (Go.Operand.const (Go.Value.int Go.IntKind.i64 0)) I), type := V, pos := "slices.go:125", after := #[{ on := 2, ground := Go.Ground.data }], guard := none }, { dst := (some 4), op := (Go.Op.assign (Go.Operand.tmp 8)), type := V, pos := "slices.go:125", after := #[{ on := 3, ground := Go.Ground.data }, { on := 2, ground := Go.Ground.chain }, { on := 0, ground := Go.Ground.phase }, { on := 1, ground := Go.Ground.phase }, { on := 2, ground := Go.Ground.phase }, { on := 3, ground := Go.Ground.phase }], guard := none }] false) Go.Code.ret))
def eqlBody (T E I B V : TypeId) : Code :=
  (Go.Code.seq (Go.Code.region 0 #[{ dst := (some 4), op := (Go.Op.assign (Go.Operand.const (Go.Value.bool false))), type := V, pos := "slices.go:20", after := #[], guard := none }] false) (Go.Code.seq (Go.Code.seq (Go.Code.region 1 #[{ dst := (some 6), op := (Go.Op.move (Go.Operand.tmp 0)), type := T, pos := "slices.go:21", after := #[], guard := none }, { dst := (some 7), op := (Go.Op.call { callee := (Go.Callee.builtin Go.Builtin.len), args := #[(Go.Operand.tmp 6)], argTypes := #[T] }), type := I, pos := "slices.go:21", after := #[{ on := 0, ground := Go.Ground.data }], guard := none }, { dst := (some 8), op := (Go.Op.move (Go.Operand.tmp 1)), type := T, pos := "slices.go:21", after := #[], guard := none }, { dst := (some 9), op := (Go.Op.call { callee := (Go.Callee.builtin Go.Builtin.len), args := #[(Go.Operand.tmp 8)], argTypes := #[T] }), type := I, pos := "slices.go:21", after := #[{ on := 2, ground := Go.Ground.data }], guard := none }, { dst := (some 10), op := (Go.Op.binOp Go.BinOp.neq I (Go.Operand.tmp 7) (Go.Operand.tmp 9) I), type := V, pos := "slices.go:21", after := #[{ on := 1, ground := Go.Ground.data }, { on := 3, ground := Go.Ground.data }], guard := none }] false) (Go.Code.cond (Go.Operand.tmp 10) (Go.Code.seq (Go.Code.region 2 #[{ dst := (some 4), op := (Go.Op.assign (Go.Operand.const (Go.Value.bool false))), type := V, pos := "slices.go:22", after := #[], guard := none }] false) Go.Code.ret) Go.Code.skip)) (Go.Code.seq (Go.Code.seq (Go.Code.region 3 #[{ dst := (some 11), op := (Go.Op.move (Go.Operand.tmp 0)), type := T, pos := "slices.go:24", after := #[], guard := none }, { dst := (some 12), op := (Go.Op.call { callee := (Go.Callee.builtin Go.Builtin.len), args := #[(Go.Operand.tmp 11)], argTypes := #[T] }), type := I, pos := "slices.go:24", after := #[{ on := 0, ground := Go.Ground.data }], guard := none }, { dst := (some 13), op := (Go.Op.move (Go.Operand.const (Go.Value.int Go.IntKind.i64 0))), type := I, pos := "slices.go:24", after := #[], guard := none }] false) (Go.Code.block 0 (Go.Code.loop (Go.Code.seq (Go.Code.region 4 #[{ dst := (some 14), op := (Go.Op.binOp Go.BinOp.lss I (Go.Operand.tmp 13) (Go.Operand.tmp 12) I), type := B, pos := "slices.go:24", after := #[], guard := none }] false) (Go.Code.seq (Go.Code.cond (Go.Operand.tmp 14) Go.Code.skip (Go.Code.exit 0)) (Go.Code.seq (Go.Code.block 1 (Go.Code.seq (Go.Code.region 5 #[{ dst := (some 15), op := (Go.Op.move (Go.Operand.tmp 13)), type := I, pos := "slices.go:24", after := #[], guard := none }, { dst := (some 5), op := (Go.Op.assign (Go.Operand.tmp 15)), type := I, pos := "slices.go:24", after := #[{ on := 0, ground := Go.Ground.data }, { on := 0, ground := Go.Ground.phase }], guard := none }] false) (Go.Code.seq (Go.Code.region 6 #[{ dst := (some 16), op := (Go.Op.move (Go.Operand.tmp 0)), type := T, pos := "slices.go:25", after := #[], guard := none }, { dst := (some 17), op := (Go.Op.move (Go.Operand.tmp 5)), type := I, pos := "slices.go:25", after := #[], guard := none }, { dst := (some 18), op := (Go.Op.indexAddr T (Go.Operand.tmp 16) (Go.Operand.tmp 17)), type := B, pos := "slices.go:25", after := #[{ on := 0, ground := Go.Ground.data }, { on := 1, ground := Go.Ground.data }], guard := none }, { dst := (some 19), op := (Go.Op.load E (Go.Operand.tmp 18)), type := E, pos := "slices.go:25", after := #[{ on := 2, ground := Go.Ground.data }], guard := none }, { dst := (some 20), op := (Go.Op.move (Go.Operand.tmp 1)), type := T, pos := "slices.go:25", after := #[], guard := none }, { dst := (some 21), op := (Go.Op.move (Go.Operand.tmp 5)), type := I, pos := "slices.go:25", after := #[], guard := none }, { dst := (some 22), op := (Go.Op.indexAddr T (Go.Operand.tmp 20) (Go.Operand.tmp 21)), type := B, pos := "slices.go:25", after := #[{ on := 4, ground := Go.Ground.data }, { on := 5, ground := Go.Ground.data }], guard := none }, { dst := (some 23), op := (Go.Op.load E (Go.Operand.tmp 22)), type := E, pos := "slices.go:25", after := #[{ on := 6, ground := Go.Ground.data }], guard := none }, { dst := (some 24), op := (Go.Op.binOp Go.BinOp.neq E (Go.Operand.tmp 19) (Go.Operand.tmp 23) E), type := V, pos := "slices.go:25", after := #[{ on := 3, ground := Go.Ground.data }, { on := 7, ground := Go.Ground.data }], guard := none }] true) (Go.Code.cond (Go.Operand.tmp 24) (Go.Code.seq (Go.Code.region 7 #[{ dst := (some 4), op := (Go.Op.assign (Go.Operand.const (Go.Value.bool false))), type := V, pos := "slices.go:26", after := #[], guard := none }] false) Go.Code.ret) Go.Code.skip)))) (Go.Code.region 8 #[{ dst := (some 25), op := (Go.Op.binOp Go.BinOp.add I (Go.Operand.tmp 13) (Go.Operand.const (Go.Value.int Go.IntKind.i64 1)) I), type := I, pos := "slices.go:24", after := #[], guard := none }, { dst := (some 13), op := (Go.Op.move (Go.Operand.tmp 25)), type := I, pos := "slices.go:24", after := #[{ on := 0, ground := Go.Ground.data }], guard := none }] false))))))) (Go.Code.seq (Go.Code.region 9 #[{ dst := (some 4), op := (Go.Op.assign (Go.Operand.const (Go.Value.bool true))), type := V, pos := "slices.go:29", after := #[], guard := none }] false) Go.Code.ret))))
def cptBody (T E I B V : TypeId) : Code :=
  (Go.Code.seq (Go.Code.region 0 #[{ dst := (some 2), op := (Go.Op.assign (Go.Operand.const (Go.Value.slice none 0 0))), type := T, pos := "slices.go:371", after := #[], guard := none }] false) (Go.Code.seq (Go.Code.seq (Go.Code.region 1 #[{ dst := (some 6), op := (Go.Op.move (Go.Operand.tmp 0)), type := T, pos := "slices.go:372", after := #[], guard := none }, { dst := (some 7), op := (Go.Op.call { callee := (Go.Callee.builtin Go.Builtin.len), args := #[(Go.Operand.tmp 6)], argTypes := #[T] }), type := I, pos := "slices.go:372", after := #[{ on := 0, ground := Go.Ground.data }], guard := none }, { dst := (some 8), op := (Go.Op.binOp Go.BinOp.lss I (Go.Operand.tmp 7) (Go.Operand.const (Go.Value.int Go.IntKind.i64 2)) I), type := V, pos := "slices.go:372", after := #[{ on := 1, ground := Go.Ground.data }], guard := none }] false) (Go.Code.cond (Go.Operand.tmp 8) (Go.Code.seq (Go.Code.region 2 #[{ dst := (some 9), op := (Go.Op.move (Go.Operand.tmp 0)), type := T, pos := "slices.go:373", after := #[], guard := none }, { dst := (some 2), op := (Go.Op.assign (Go.Operand.tmp 9)), type := T, pos := "slices.go:373", after := #[{ on := 0, ground := Go.Ground.data }, { on := 0, ground := Go.Ground.phase }], guard := none }] false) Go.Code.ret) Go.Code.skip)) (Go.Code.seq (Go.Code.seq (Go.Code.region 3 #[{ dst := (some 3), op := (Go.Op.assign (Go.Operand.const (Go.Value.int Go.IntKind.i64 1))), type := I, pos := "slices.go:375", after := #[], guard := none }] false) (Go.Code.block 0 (Go.Code.loop (Go.Code.seq (Go.Code.seq (Go.Code.region 4 #[{ dst := (some 10), op := (Go.Op.move (Go.Operand.tmp 3)), type := I, pos := "slices.go:375", after := #[], guard := none }, { dst := (some 11), op := (Go.Op.move (Go.Operand.tmp 0)), type := T, pos := "slices.go:375", after := #[], guard := none }, { dst := (some 12), op := (Go.Op.call { callee := (Go.Callee.builtin Go.Builtin.len), args := #[(Go.Operand.tmp 11)], argTypes := #[T] }), type := I, pos := "slices.go:375", after := #[{ on := 1, ground := Go.Ground.data }], guard := none }, { dst := (some 13), op := (Go.Op.binOp Go.BinOp.lss I (Go.Operand.tmp 10) (Go.Operand.tmp 12) I), type := V, pos := "slices.go:375", after := #[{ on := 0, ground := Go.Ground.data }, { on := 2, ground := Go.Ground.data }], guard := none }] false) (Go.Code.cond (Go.Operand.tmp 13) Go.Code.skip (Go.Code.exit 0))) (Go.Code.seq (Go.Code.block 1 (Go.Code.seq (Go.Code.region 6 #[{ dst := (some 16), op := (Go.Op.move (Go.Operand.tmp 0)), type := T, pos := "slices.go:376", after := #[], guard := none }, { dst := (some 17), op := (Go.Op.move (Go.Operand.tmp 3)), type := I, pos := "slices.go:376", after := #[], guard := none }, { dst := (some 18), op := (Go.Op.indexAddr T (Go.Operand.tmp 16) (Go.Operand.tmp 17)), type := B, pos := "slices.go:376", after := #[{ on := 0, ground := Go.Ground.data }, { on := 1, ground := Go.Ground.data }], guard := none }, { dst := (some 19), op := (Go.Op.load E (Go.Operand.tmp 18)), type := E, pos := "slices.go:376", after := #[{ on := 2, ground := Go.Ground.data }], guard := none }, { dst := (some 20), op := (Go.Op.move (Go.Operand.tmp 0)), type := T, pos := "slices.go:376", after := #[], guard := none }, { dst := (some 21), op := (Go.Op.move (Go.Operand.tmp 3)), type := I, pos := "slices.go:376", after := #[], guard := none }, { dst := (some 22), op := (Go.Op.binOp Go.BinOp.sub I (Go.Operand.tmp 21) (Go.Operand.const (Go.Value.int Go.IntKind.i64 1)) I), type := I, pos := "slices.go:376", after := #[{ on := 5, ground := Go.Ground.data }], guard := none }, { dst := (some 23), op := (Go.Op.indexAddr T (Go.Operand.tmp 20) (Go.Operand.tmp 22)), type := B, pos := "slices.go:376", after := #[{ on := 4, ground := Go.Ground.data }, { on := 6, ground := Go.Ground.data }], guard := none }, { dst := (some 24), op := (Go.Op.load E (Go.Operand.tmp 23)), type := E, pos := "slices.go:376", after := #[{ on := 7, ground := Go.Ground.data }], guard := none }, { dst := (some 25), op := (Go.Op.binOp Go.BinOp.eql E (Go.Operand.tmp 19) (Go.Operand.tmp 24) E), type := V, pos := "slices.go:376", after := #[{ on := 3, ground := Go.Ground.data }, { on := 8, ground := Go.Ground.data }], guard := none }] true) (Go.Code.cond (Go.Operand.tmp 25) (Go.Code.seq (Go.Code.region 7 #[{ dst := (some 26), op := (Go.Op.move (Go.Operand.tmp 0)), type := T, pos := "slices.go:377", after := #[], guard := none }, { dst := (some 27), op := (Go.Op.move (Go.Operand.tmp 3)), type := I, pos := "slices.go:377", after := #[], guard := none }, { dst := (some 28), op := (Go.Op.slice T (Go.Operand.tmp 26) (some (Go.Operand.tmp 27)) none none), type := T, pos := "slices.go:377", after := #[{ on := 0, ground := Go.Ground.data }, { on := 1, ground := Go.Ground.data }], guard := none }, { dst := (some 4), op := (Go.Op.assign (Go.Operand.tmp 28)), type := T, pos := "slices.go:377", after := #[{ on := 2, ground := Go.Ground.data }, { on := 0, ground := Go.Ground.phase }, { on := 1, ground := Go.Ground.phase }, { on := 2, ground := Go.Ground.phase }], guard := none }] false) (Go.Code.seq (Go.Code.seq (Go.Code.region 8 #[{ dst := (some 5), op := (Go.Op.assign (Go.Operand.const (Go.Value.int Go.IntKind.i64 1))), type := I, pos := "slices.go:378", after := #[], guard := none }] false) (Go.Code.block 2 (Go.Code.loop (Go.Code.seq (Go.Code.seq (Go.Code.region 9 #[{ dst := (some 29), op := (Go.Op.move (Go.Operand.tmp 5)), type := I, pos := "slices.go:378", after := #[], guard := none }, { dst := (some 30), op := (Go.Op.move (Go.Operand.tmp 4)), type := T, pos := "slices.go:378", after := #[], guard := none }, { dst := (some 31), op := (Go.Op.call { callee := (Go.Callee.builtin Go.Builtin.len), args := #[(Go.Operand.tmp 30)], argTypes := #[T] }), type := I, pos := "slices.go:378", after := #[{ on := 1, ground := Go.Ground.data }], guard := none }, { dst := (some 32), op := (Go.Op.binOp Go.BinOp.lss I (Go.Operand.tmp 29) (Go.Operand.tmp 31) I), type := V, pos := "slices.go:378", after := #[{ on := 0, ground := Go.Ground.data }, { on := 2, ground := Go.Ground.data }], guard := none }] false) (Go.Code.cond (Go.Operand.tmp 32) Go.Code.skip (Go.Code.exit 2))) (Go.Code.seq (Go.Code.block 3 (Go.Code.seq (Go.Code.region 11 #[{ dst := (some 35), op := (Go.Op.move (Go.Operand.tmp 4)), type := T, pos := "slices.go:379", after := #[], guard := none }, { dst := (some 36), op := (Go.Op.move (Go.Operand.tmp 5)), type := I, pos := "slices.go:379", after := #[], guard := none }, { dst := (some 37), op := (Go.Op.indexAddr T (Go.Operand.tmp 35) (Go.Operand.tmp 36)), type := B, pos := "slices.go:379", after := #[{ on := 0, ground := Go.Ground.data }, { on := 1, ground := Go.Ground.data }], guard := none }, { dst := (some 38), op := (Go.Op.load E (Go.Operand.tmp 37)), type := E, pos := "slices.go:379", after := #[{ on := 2, ground := Go.Ground.data }], guard := none }, { dst := (some 39), op := (Go.Op.move (Go.Operand.tmp 4)), type := T, pos := "slices.go:379", after := #[], guard := none }, { dst := (some 40), op := (Go.Op.move (Go.Operand.tmp 5)), type := I, pos := "slices.go:379", after := #[], guard := none }, { dst := (some 41), op := (Go.Op.binOp Go.BinOp.sub I (Go.Operand.tmp 40) (Go.Operand.const (Go.Value.int Go.IntKind.i64 1)) I), type := I, pos := "slices.go:379", after := #[{ on := 5, ground := Go.Ground.data }], guard := none }, { dst := (some 42), op := (Go.Op.indexAddr T (Go.Operand.tmp 39) (Go.Operand.tmp 41)), type := B, pos := "slices.go:379", after := #[{ on := 4, ground := Go.Ground.data }, { on := 6, ground := Go.Ground.data }], guard := none }, { dst := (some 43), op := (Go.Op.load E (Go.Operand.tmp 42)), type := E, pos := "slices.go:379", after := #[{ on := 7, ground := Go.Ground.data }], guard := none }, { dst := (some 44), op := (Go.Op.binOp Go.BinOp.neq E (Go.Operand.tmp 38) (Go.Operand.tmp 43) E), type := V, pos := "slices.go:379", after := #[{ on := 3, ground := Go.Ground.data }, { on := 8, ground := Go.Ground.data }], guard := none }] true) (Go.Code.cond (Go.Operand.tmp 44) (Go.Code.seq (Go.Code.region 12 #[{ dst := (some 45), op := (Go.Op.move (Go.Operand.tmp 0)), type := T, pos := "slices.go:380", after := #[], guard := none }, { dst := (some 46), op := (Go.Op.move (Go.Operand.tmp 3)), type := I, pos := "slices.go:380", after := #[], guard := none }, { dst := (some 47), op := (Go.Op.move (Go.Operand.tmp 4)), type := T, pos := "slices.go:380", after := #[], guard := none }, { dst := (some 48), op := (Go.Op.move (Go.Operand.tmp 5)), type := I, pos := "slices.go:380", after := #[], guard := none }, { dst := (some 49), op := (Go.Op.indexAddr T (Go.Operand.tmp 47) (Go.Operand.tmp 48)), type := B, pos := "slices.go:380", after := #[{ on := 2, ground := Go.Ground.data }, { on := 3, ground := Go.Ground.data }], guard := none }, { dst := (some 50), op := (Go.Op.load E (Go.Operand.tmp 49)), type := E, pos := "slices.go:380", after := #[{ on := 4, ground := Go.Ground.data }], guard := none }, { dst := (some 51), op := (Go.Op.indexAddr T (Go.Operand.tmp 45) (Go.Operand.tmp 46)), type := B, pos := "slices.go:380", after := #[{ on := 0, ground := Go.Ground.data }, { on := 1, ground := Go.Ground.data }, { on := 0, ground := Go.Ground.phase }, { on := 1, ground := Go.Ground.phase }, { on := 2, ground := Go.Ground.phase }, { on := 3, ground := Go.Ground.phase }, { on := 4, ground := Go.Ground.phase }, { on := 5, ground := Go.Ground.phase }], guard := none }, { dst := none, op := (Go.Op.store E (Go.Operand.tmp 51) (Go.Operand.tmp 50)), type := B, pos := "slices.go:380", after := #[{ on := 6, ground := Go.Ground.data }, { on := 5, ground := Go.Ground.data }, { on := 0, ground := Go.Ground.phase }, { on := 1, ground := Go.Ground.phase }, { on := 2, ground := Go.Ground.phase }, { on := 3, ground := Go.Ground.phase }, { on := 4, ground := Go.Ground.phase }, { on := 5, ground := Go.Ground.phase }], guard := none }] false) (Go.Code.region 13 #[{ dst := (some 52), op := (Go.Op.move (Go.Operand.tmp 3)), type := I, pos := "slices.go:381", after := #[], guard := none }, { dst := (some 53), op := (Go.Op.binOp Go.BinOp.add I (Go.Operand.tmp 52) (Go.Operand.const (Go.Value.int Go.IntKind.i64 1)) I), type := I, pos := "slices.go:381", after := #[{ on := 0, ground := Go.Ground.data }], guard := none }, { dst := (some 3), op := (Go.Op.assign (Go.Operand.tmp 53)), type := I, pos := "slices.go:381", after := #[{ on := 1, ground := Go.Ground.data }, { on := 0, ground := Go.Ground.phase }, { on := 1, ground := Go.Ground.phase }], guard := none }] false)) Go.Code.skip))) (Go.Code.region 10 #[{ dst := (some 33), op := (Go.Op.move (Go.Operand.tmp 5)), type := I, pos := "slices.go:378", after := #[], guard := none }, { dst := (some 34), op := (Go.Op.binOp Go.BinOp.add I (Go.Operand.tmp 33) (Go.Operand.const (Go.Value.int Go.IntKind.i64 1)) I), type := I, pos := "slices.go:378", after := #[{ on := 0, ground := Go.Ground.data }], guard := none }, { dst := (some 5), op := (Go.Op.assign (Go.Operand.tmp 34)), type := I, pos := "slices.go:378", after := #[{ on := 1, ground := Go.Ground.data }, { on := 0, ground := Go.Ground.phase }, { on := 1, ground := Go.Ground.phase }], guard := none }] false)))))) (Go.Code.seq (Go.Code.region 14 #[{ dst := (some 54), op := (Go.Op.move (Go.Operand.tmp 0)), type := T, pos := "slices.go:385", after := #[], guard := none }, { dst := (some 55), op := (Go.Op.move (Go.Operand.tmp 3)), type := I, pos := "slices.go:385", after := #[], guard := none }, { dst := (some 56), op := (Go.Op.slice T (Go.Operand.tmp 54) (some (Go.Operand.tmp 55)) none none), type := T, pos := "slices.go:385", after := #[{ on := 0, ground := Go.Ground.data }, { on := 1, ground := Go.Ground.data }], guard := none }, { dst := none, op := (Go.Op.call { callee := (Go.Callee.builtin Go.Builtin.clear), args := #[(Go.Operand.tmp 56)], argTypes := #[T] }), type := B, pos := "slices.go:385", after := #[{ on := 2, ground := Go.Ground.data }], guard := none }] false) (Go.Code.seq (Go.Code.region 15 #[{ dst := (some 57), op := (Go.Op.move (Go.Operand.tmp 0)), type := T, pos := "slices.go:386", after := #[], guard := none }, { dst := (some 58), op := (Go.Op.move (Go.Operand.tmp 3)), type := I, pos := "slices.go:386", after := #[], guard := none }, { dst := (some 59), op := (Go.Op.slice T (Go.Operand.tmp 57) none (some (Go.Operand.tmp 58)) none), type := T, pos := "slices.go:386", after := #[{ on := 0, ground := Go.Ground.data }, { on := 1, ground := Go.Ground.data }], guard := none }, { dst := (some 2), op := (Go.Op.assign (Go.Operand.tmp 59)), type := T, pos := "slices.go:386", after := #[{ on := 2, ground := Go.Ground.data }, { on := 0, ground := Go.Ground.phase }, { on := 1, ground := Go.Ground.phase }, { on := 2, ground := Go.Ground.phase }], guard := none }] false) Go.Code.ret)))) Go.Code.skip))) (Go.Code.region 5 #[{ dst := (some 14), op := (Go.Op.move (Go.Operand.tmp 3)), type := I, pos := "slices.go:375", after := #[], guard := none }, { dst := (some 15), op := (Go.Op.binOp Go.BinOp.add I (Go.Operand.tmp 14) (Go.Operand.const (Go.Value.int Go.IntKind.i64 1)) I), type := I, pos := "slices.go:375", after := #[{ on := 0, ground := Go.Ground.data }], guard := none }, { dst := (some 3), op := (Go.Op.assign (Go.Operand.tmp 15)), type := I, pos := "slices.go:375", after := #[{ on := 1, ground := Go.Ground.data }, { on := 0, ground := Go.Ground.phase }, { on := 1, ground := Go.Ground.phase }], guard := none }] false)))))) (Go.Code.seq (Go.Code.region 16 #[{ dst := (some 60), op := (Go.Op.move (Go.Operand.tmp 0)), type := T, pos := "slices.go:389", after := #[], guard := none }, { dst := (some 2), op := (Go.Op.assign (Go.Operand.tmp 60)), type := T, pos := "slices.go:389", after := #[{ on := 0, ground := Go.Ground.data }, { on := 0, ground := Go.Ground.phase }], guard := none }] false) Go.Code.ret))))
def idxBody (T E I B V : TypeId) : Code :=
  (Go.Code.seq (Go.Code.region 0 #[{ dst := (some 4), op := (Go.Op.assign (Go.Operand.const (Go.Value.int Go.IntKind.i64 0))), type := I, pos := "slices.go:96", after := #[], guard := none }] false) (Go.Code.seq (Go.Code.seq (Go.Code.region 1 #[{ dst := (some 6), op := (Go.Op.move (Go.Operand.tmp 0)), type := T, pos := "slices.go:97", after := #[], guard := none }, { dst := (some 7), op := (Go.Op.call { callee := (Go.Callee.builtin Go.Builtin.len), args := #[(Go.Operand.tmp 6)], argTypes := #[T] }), type := I, pos := "slices.go:97", after := #[{ on := 0, ground := Go.Ground.data }], guard := none }, { dst := (some 8), op := (Go.Op.move (Go.Operand.const (Go.Value.int Go.IntKind.i64 0))), type := I, pos := "slices.go:97", after := #[], guard := none }] false) (Go.Code.block 0 (Go.Code.loop (Go.Code.seq (Go.Code.region 2 #[{ dst := (some 9), op := (Go.Op.binOp Go.BinOp.lss I (Go.Operand.tmp 8) (Go.Operand.tmp 7) I), type := B, pos := "slices.go:97", after := #[], guard := none }] false) (Go.Code.seq (Go.Code.cond (Go.Operand.tmp 9) Go.Code.skip (Go.Code.exit 0)) (Go.Code.seq (Go.Code.block 1 (Go.Code.seq (Go.Code.region 3 #[{ dst := (some 10), op := (Go.Op.move (Go.Operand.tmp 8)), type := I, pos := "slices.go:97", after := #[], guard := none }, { dst := (some 5), op := (Go.Op.assign (Go.Operand.tmp 10)), type := I, pos := "slices.go:97", after := #[{ on := 0, ground := Go.Ground.data }, { on := 0, ground := Go.Ground.phase }], guard := none }] false) (Go.Code.seq (Go.Code.region 4 #[{ dst := (some 11), op := (Go.Op.move (Go.Operand.tmp 1)), type := E, pos := "slices.go:98", after := #[], guard := none }, { dst := (some 12), op := (Go.Op.move (Go.Operand.tmp 0)), type := T, pos := "slices.go:98", after := #[], guard := none }, { dst := (some 13), op := (Go.Op.move (Go.Operand.tmp 5)), type := I, pos := "slices.go:98", after := #[], guard := none }, { dst := (some 14), op := (Go.Op.indexAddr T (Go.Operand.tmp 12) (Go.Operand.tmp 13)), type := B, pos := "slices.go:98", after := #[{ on := 1, ground := Go.Ground.data }, { on := 2, ground := Go.Ground.data }], guard := none }, { dst := (some 15), op := (Go.Op.load E (Go.Operand.tmp 14)), type := E, pos := "slices.go:98", after := #[{ on := 3, ground := Go.Ground.data }], guard := none }, { dst := (some 16), op := (Go.Op.binOp Go.BinOp.eql E (Go.Operand.tmp 11) (Go.Operand.tmp 15) E), type := V, pos := "slices.go:98", after := #[{ on := 0, ground := Go.Ground.data }, { on := 4, ground := Go.Ground.data }], guard := none }] false) (Go.Code.cond (Go.Operand.tmp 16) (Go.Code.seq (Go.Code.region 5 #[{ dst := (some 17), op := (Go.Op.move (Go.Operand.tmp 5)), type := I, pos := "slices.go:99", after := #[], guard := none }, { dst := (some 4), op := (Go.Op.assign (Go.Operand.tmp 17)), type := I, pos := "slices.go:99", after := #[{ on := 0, ground := Go.Ground.data }, { on := 0, ground := Go.Ground.phase }], guard := none }] false) Go.Code.ret) Go.Code.skip)))) (Go.Code.region 6 #[{ dst := (some 18), op := (Go.Op.binOp Go.BinOp.add I (Go.Operand.tmp 8) (Go.Operand.const (Go.Value.int Go.IntKind.i64 1)) I), type := I, pos := "slices.go:97", after := #[], guard := none }, { dst := (some 8), op := (Go.Op.move (Go.Operand.tmp 18)), type := I, pos := "slices.go:97", after := #[{ on := 0, ground := Go.Ground.data }], guard := none }] false))))))) (Go.Code.seq (Go.Code.region 7 #[{ dst := (some 4), op := (Go.Op.assign (Go.Operand.const (Go.Value.int Go.IntKind.i64 (-1)))), type := I, pos := "slices.go:102", after := #[], guard := none }] false) Go.Code.ret)))
def ctnBody (T E I _ V : TypeId) (g : FuncId) : Code :=
  (Go.Code.seq (Go.Code.region 0 #[{ dst := (some 4), op := (Go.Op.assign (Go.Operand.const (Go.Value.bool false))), type := V, pos := "slices.go:117", after := #[], guard := none }] false) (Go.Code.seq (Go.Code.region 1 #[{ dst := (some 5), op := (Go.Op.move (Go.Operand.tmp 0)), type := T, pos := "slices.go:118", after := #[], guard := none }, { dst := (some 6), op := (Go.Op.move (Go.Operand.tmp 1)), type := E, pos := "slices.go:118", after := #[], guard := none }, { dst := (some 7), op := (Go.Op.call { callee := (Go.Callee.value (Go.Operand.func g)), args := #[(Go.Operand.tmp 5), (Go.Operand.tmp 6)], argTypes := #[T, E] }), type := I, pos := "slices.go:118", after := #[{ on := 0, ground := Go.Ground.data }, { on := 1, ground := Go.Ground.data }], guard := none }, { dst := (some 8), op := (Go.Op.binOp Go.BinOp.geq I (Go.Operand.tmp 7) (Go.Operand.const (Go.Value.int Go.IntKind.i64 0)) I), type := V, pos := "slices.go:118", after := #[{ on := 2, ground := Go.Ground.data }], guard := none }, { dst := (some 4), op := (Go.Op.assign (Go.Operand.tmp 8)), type := V, pos := "slices.go:118", after := #[{ on := 3, ground := Go.Ground.data }, { on := 2, ground := Go.Ground.chain }, { on := 0, ground := Go.Ground.phase }, { on := 1, ground := Go.Ground.phase }, { on := 2, ground := Go.Ground.phase }, { on := 3, ground := Go.Ground.phase }], guard := none }] false) Go.Code.ret))


/-- What is known of an element's type. -/
structure ElOK (tab : Nat → TI) (T E : Nat) (n : Nat) : Prop where
  sl : (tab T).kind = .slice
  el : (tab T).elem = E
  ok : (tab E).ok = true
  size : (tab E).size = n
  agg : (tab E).agg = true ∨ ((tab E).agg = false ∧ n = 1)
/-- An element, loaded. -/
def ldE (tab : Nat → TI) (E : Nat) (b : Bool) (cs : List D) : AV := if (tab E).agg then .d (.ag cs) b else match cs with
  | c :: _ => lift b c
  | [] => .un
/-- A function that says yes or no of an element, called from wherever some things stand as they stood. -/
def PrdOK {α : Type} (P : Program) (f : FuncId) (caps : List AV) (ld : α → AV) (S : α → Prop) (pr : α → Bool) (ids : List Nat) (hp0 : Hp) : Prop :=
  ∀ (x : α), S x → ∀ (nx : Nat), ∃ nx', nx ≤ nx' ∧ ∀ hp : Hp, (∀ i ∈ ids, hp i = hp0 i) → InlOK P f ([ld x] ++ caps) hp nx fun v2 hp2 nx2 => v2 = .v (.bool (pr x)) ∧ hp2 = hp ∧ nx2 = nx'
open Classical in
noncomputable def PrdOK.nx {α : Type} {P : Program} {f : FuncId} {caps : List AV} {ld : α → AV} {S : α → Prop} {pr : α → Bool} {ids : List Nat} {hp0 : Hp} (h : PrdOK P f caps ld S pr ids hp0) (x : α) (n : Nat) : Nat := if hx : S x then (h x hx n).choose else n
theorem PrdOK.le {α : Type} {P : Program} {f : FuncId} {caps : List AV} {ld : α → AV} {S : α → Prop} {pr : α → Bool} {ids : List Nat} {hp0 : Hp} (h : PrdOK P f caps ld S pr ids hp0) (x : α) (n : Nat) : n ≤ h.nx x n := by
  unfold PrdOK.nx
  split
  · rename_i hx
    exact (h x hx n).choose_spec.1
  · exact Nat.le_refl _
theorem PrdOK.inl {α : Type} {P : Program} {f : FuncId} {caps : List AV} {ld : α → AV} {S : α → Prop} {pr : α → Bool} {ids : List Nat} {hp0 : Hp} (h : PrdOK P f caps ld S pr ids hp0) (x : α) (hx : S x) (n : Nat) {hp : Hp} (hh : ∀ i ∈ ids, hp i = hp0 i) : InlOK P f ([ld x] ++ caps) hp n fun v2 hp2 nx2 => v2 = .v (.bool (pr x)) ∧ hp2 = hp ∧ nx2 = h.nx x n := by
  have := (h x hx n).choose_spec.2 hp hh
  unfold PrdOK.nx
  rw [dif_pos hx]
  exact this
/-- Where the first stands; below 0: nowhere. -/
def idxB {α : Type} (pr : α → Bool) : List α → Nat → Int
  | [], _ => -1
  | x :: r, k => if pr x then k else idxB pr r (k + 1)
theorem idxB_any {α : Type} (pr : α → Bool) : ∀ (l : List α) (k : Nat), decide (idxB pr l k ≥ 0) = l.any pr
  | [], _ => rfl
  | x :: r, k => by
    have ih := idxB_any pr r (k + 1)
    by_cases e : pr x = true
    · simp [idxB, e]
    · simpa [idxB, e] using ih
/-- The numbers that such a walk uses up. -/
noncomputable def ixNx {α : Type} (pr : α → Bool) (nxf : α → Nat → Nat) : List α → Nat → Nat
  | [], n => n + 2
  | x :: r, n => if pr x then nxf x (n + 9) + 2 else ixNx pr nxf r (nxf x (n + 9) + 2)
section
variable {P : Program} {tab : Nat → TI}
theorem ixNx_le {α : Type} {pr : α → Bool} {nxf : α → Nat → Nat} (h : ∀ x n, n ≤ nxf x n) : ∀ (l : List α) (n : Nat), n ≤ ixNx pr nxf l n
  | [], n => by simp [ixNx]
  | x :: r, n => by
    unfold ixNx
    have h1 := h x (n + 9)
    split
    · omega
    · have := ixNx_le (pr := pr) h r (nxf x (n + 9) + 2)
      omega
theorem sub_all {cs : List D} {n : Nat} (h : cs.length = n) : sub 0 n cs = some cs := by subst h; simp [sub]
theorem ixf_struct (ht : TabOk P tab) (hm : P.follows .mixedOrders = true) {f : FuncId} {fn : Func} {T E I B F V n : Nat} (hf : P.funcs[f]? = some fn) (hb : fn.body = some (ixfBody T E I B F V)) (hname : (fn.name == "runtime.NumGoroutine") = false) (hd : dstsB fn.ntmps (ixfBody T E I B F V) = true) (hl : 2 ≤ fn.ntmps) (hr : fn.results = #[.tmp 4])
    (hE : ElOK tab T E n) (hkE : (tab E).kind = .struct) {α : Type} (enc : α → List D) (hn : ∀ x, (enc x).length = n) (pr : α → Bool) {g : FuncId} {caps : List AV} {ids : List Nat} {hp0 : Hp} {b : Bool} (S : α → Prop) (hP : PrdOK P g caps (fun x => .d (.ag (enc x)) b) S pr ids hp0) (xs : List α) (hS : ∀ x ∈ xs, S x) (hx : xs.length < 4611686018427387904) (nx : Nat) :
    ∃ nx', nx ≤ nx' ∧ ∀ hp : Hp, (∀ i ∈ ids, hp i = hp0 i) → InlOK P f [.d (.sl (xs.map enc)) b, .fn g caps] hp nx fun v hp2 nx2 => v = .v (.int .i64 (idxB pr xs 0)) ∧ hp2 = hp ∧ nx2 = nx' := by
  refine ⟨ixNx pr hP.nx xs (nx + 4), Nat.le_trans (by omega) (ixNx_le hP.le xs (nx + 4)), fun hp hh => ?_⟩
  refine InlOK.up (inl_run ht hm hf hb hname hd (by simpa using hl) ?_)
  rw [hr]
  unfold ixfBody
  have e1 := hE.sl
  have e2 := hE.el
  have e3 := hE.ok
  have e4 := hE.size
  simp -implicitDefEqProofs only [go_sem, Nat.reduceAdd, reduceCtorEq, ↓reduceIte, e1]
  refine run_loopH (α := { p : Nat × Nat // p.1 ≤ xs.length ∧ idxB pr (xs.drop p.1) p.1 = idxB pr xs 0 ∧ ixNx pr hP.nx (xs.drop p.1) (nx + 4 + p.2) = ixNx pr hP.nx xs (nx + 4) }) [(4, 5), (8, 18)] (fun p fr => upd 8 (.v (.int .i64 (p.1.1 : Int))) fr) (fun p => p.1.2) (fun p => xs.length - p.1.1) ⟨(0, 0), by simp⟩ ⟨wk_upd (by first | rfl | simp [upd_at, forget_at]) (wk_self _ _), wh_self _, by simp⟩ ?_
  rintro ⟨⟨k, m⟩, hI⟩
  simp only at hI
  obtain ⟨hk1, hk2, hk3⟩ := hI
  by_cases hk : k < xs.length
  · have c1 := dec_lt hk
    rw [List.drop_eq_getElem_cons hk] at hk2 hk3
    simp only [idxB, ixNx] at hk2 hk3
    have tk : (enc xs[k]).take n = enc xs[k] := List.take_of_length_le (by rw [hn]; exact Nat.le_refl _)
    simp -implicitDefEqProofs only [go_sem, Nat.reduceEqDiff, Nat.reduceAdd, Nat.reduceLeDiff, reduceCtorEq, ↓reduceIte, c1, e1, e2, e3, e4, hkE, at_map hk, hn, tk, Nat.le_refl]
    refine onCall_inl ?_
    refine (hP.inl xs[k] (hS _ (List.getElem_mem _)) _ hh).mono fun v2 hp2 nx2 hq => ?_
    obtain ⟨rfl, rfl, rfl⟩ := hq
    simp -implicitDefEqProofs only [go_sem, ↓reduceIte]
    refine onC_split (fun h => ?_) (fun h => ?_)
    · rw [if_pos h] at hk2 hk3
      simp -implicitDefEqProofs only [go_sem, Nat.reduceEqDiff, Nat.reduceAdd, ↓reduceIte]
      exact end_ret (by simp -implicitDefEqProofs only [go_sem, ↓reduceIte] <;> rfl) ⟨_, by rw [← hk3, show nx + 1 + 3 + m + 1 + 2 + 6 = nx + 4 + m + 9 by omega]; exact Nat.le_refl _, by rw [hk2], rfl, rfl⟩
    · rw [if_neg (by simp [h])] at hk2 hk3
      have hle := hP.le xs[k] (nx + 4 + m + 9)
      have w1 : IntKind.i64.wrap ((k : Int) + 1) = ((k + 1 : Nat) : Int) := wrap_one (by omega)
      have e6 : nx + 1 + 3 + m + 1 + 2 + 6 = nx + 4 + m + 9 := by omega
      simp -implicitDefEqProofs only [go_sem, Nat.reduceEqDiff, Nat.reduceAdd, ↓reduceIte, h, w1, e6]
      exact ⟨⟨(k + 1, hP.nx xs[k] (nx + 4 + m + 9) + 2 - (nx + 4)), ⟨by omega, hk2, by simp only; rw [show nx + 4 + (hP.nx xs[k] (nx + 4 + m + 9) + 2 - (nx + 4)) = hP.nx xs[k] (nx + 4 + m + 9) + 2 by omega]; exact hk3⟩⟩, ⟨wk_upd (by first | rfl | simp [upd_at, forget_at]) ((by repeat first | exact wk_base _ _ | refine wk_skip rfl ?_)), wh_self _, by simp only; omega⟩, by simp only; omega⟩
  · have c1 := dec_nlt (Nat.le_of_not_lt hk)
    rw [List.drop_eq_nil_of_le (by omega)] at hk2 hk3
    simp only [idxB, ixNx] at hk2 hk3
    simp -implicitDefEqProofs only [go_sem, Nat.reduceEqDiff, Nat.reduceLeDiff, ↓reduceIte, c1]
    exact end_ret (by simp -implicitDefEqProofs only [go_sem, ↓reduceIte] <;> rfl) ⟨_, Nat.le_of_eq hk3, by rw [hk2], rfl, rfl⟩
theorem ixf_one (ht : TabOk P tab) (hm : P.follows .mixedOrders = true) {f : FuncId} {fn : Func} {T E I B F V : Nat} (hf : P.funcs[f]? = some fn) (hb : fn.body = some (ixfBody T E I B F V)) (hname : (fn.name == "runtime.NumGoroutine") = false) (hd : dstsB fn.ntmps (ixfBody T E I B F V) = true) (hl : 2 ≤ fn.ntmps) (hr : fn.results = #[.tmp 4])
    (hE : ElOK tab T E 1) (hkE : (tab E).kind = .string) {α : Type} (val : α → Value) (pr : α → Bool) {g : FuncId} {caps : List AV} {ids : List Nat} {hp0 : Hp} {b : Bool} (S : α → Prop) (hP : PrdOK P g caps (fun x => .v (val x)) S pr ids hp0) (xs : List α) (hS : ∀ x ∈ xs, S x) (hx : xs.length < 4611686018427387904) (nx : Nat) :
    ∃ nx', nx ≤ nx' ∧ ∀ hp : Hp, (∀ i ∈ ids, hp i = hp0 i) → InlOK P f [.d (.sl (xs.map fun x => [D.v (val x)])) b, .fn g caps] hp nx fun v hp2 nx2 => v = .v (.int .i64 (idxB pr xs 0)) ∧ hp2 = hp ∧ nx2 = nx' := by
  refine ⟨ixNx pr hP.nx xs (nx + 4), Nat.le_trans (by omega) (ixNx_le hP.le xs (nx + 4)), fun hp hh => ?_⟩
  refine InlOK.up (inl_run ht hm hf hb hname hd (by simpa using hl) ?_)
  rw [hr]
  unfold ixfBody
  have e1 := hE.sl
  have e2 := hE.el
  have e3 := hE.ok
  have e4 := hE.size
  simp -implicitDefEqProofs only [go_sem, Nat.reduceAdd, reduceCtorEq, ↓reduceIte, e1]
  refine run_loopH (α := { p : Nat × Nat // p.1 ≤ xs.length ∧ idxB pr (xs.drop p.1) p.1 = idxB pr xs 0 ∧ ixNx pr hP.nx (xs.drop p.1) (nx + 4 + p.2) = ixNx pr hP.nx xs (nx + 4) }) [(4, 5), (8, 18)] (fun p fr => upd 8 (.v (.int .i64 (p.1.1 : Int))) fr) (fun p => p.1.2) (fun p => xs.length - p.1.1) ⟨(0, 0), by simp⟩ ⟨wk_upd (by first | rfl | simp [upd_at, forget_at]) (wk_self _ _), wh_self _, by simp⟩ ?_
  rintro ⟨⟨k, m⟩, hI⟩
  simp only at hI
  obtain ⟨hk1, hk2, hk3⟩ := hI
  by_cases hk : k < xs.length
  · have c1 := dec_lt hk
    rw [List.drop_eq_getElem_cons hk] at hk2 hk3
    simp only [idxB, ixNx] at hk2 hk3
    simp -implicitDefEqProofs only [go_sem, Nat.reduceEqDiff, Nat.reduceAdd, Nat.reduceLeDiff, reduceCtorEq, ↓reduceIte, c1, e1, e2, e3, e4, hkE, at_map hk]
    refine onCall_inl ?_
    refine (hP.inl xs[k] (hS _ (List.getElem_mem _)) _ hh).mono fun v2 hp2 nx2 hq => ?_
    obtain ⟨rfl, rfl, rfl⟩ := hq
    simp -implicitDefEqProofs only [go_sem, ↓reduceIte]
    refine onC_split (fun h => ?_) (fun h => ?_)
    · rw [if_pos h] at hk2 hk3
      simp -implicitDefEqProofs only [go_sem, Nat.reduceEqDiff, Nat.reduceAdd, ↓reduceIte]
      exact end_ret (by simp -implicitDefEqProofs only [go_sem, ↓reduceIte] <;> rfl) ⟨_, by rw [← hk3, show nx + 1 + 3 + m + 1 + 2 + 6 = nx + 4 + m + 9 by omega]; exact Nat.le_refl _, by rw [hk2], rfl, rfl⟩
    · rw [if_neg (by simp [h])] at hk2 hk3
      have hle := hP.le xs[k] (nx + 4 + m + 9)
      have w1 : IntKind.i64.wrap ((k : Int) + 1) = ((k + 1 : Nat) : Int) := wrap_one (by omega)
      have e6 : nx + 1 + 3 + m + 1 + 2 + 6 = nx + 4 + m + 9 := by omega
      simp -implicitDefEqProofs only [go_sem, Nat.reduceEqDiff, Nat.reduceAdd, ↓reduceIte, h, w1, e6]
      exact ⟨⟨(k + 1, hP.nx xs[k] (nx + 4 + m + 9) + 2 - (nx + 4)), ⟨by omega, hk2, by simp only; rw [show nx + 4 + (hP.nx xs[k] (nx + 4 + m + 9) + 2 - (nx + 4)) = hP.nx xs[k] (nx + 4 + m + 9) + 2 by omega]; exact hk3⟩⟩, ⟨wk_upd (by first | rfl | simp [upd_at, forget_at]) ((by repeat first | exact wk_base _ _ | refine wk_skip rfl ?_)), wh_self _, by simp only; omega⟩, by simp only; omega⟩
  · have c1 := dec_nlt (Nat.le_of_not_lt hk)
    rw [List.drop_eq_nil_of_le (by omega)] at hk2 hk3
    simp only [idxB, ixNx] at hk2 hk3
    simp -implicitDefEqProofs only [go_sem, Nat.reduceEqDiff, Nat.reduceLeDiff, ↓reduceIte, c1]
    exact end_ret (by simp -implicitDefEqProofs only [go_sem, ↓reduceIte] <;> rfl) ⟨_, Nat.le_of_eq hk3, by rw [hk2], rfl, rfl⟩
theorem ctf_ok (ht : TabOk P tab) (hm : P.follows .mixedOrders = true) {f gi : FuncId} {fn : Func} {T E I B F V : Nat} (hf : P.funcs[f]? = some fn) (hb : fn.body = some (ctfBody T E I B F V gi)) (hname : (fn.name == "runtime.NumGoroutine") = false) (hd : dstsB fn.ntmps (ctfBody T E I B F V gi) = true) (hl : 2 ≤ fn.ntmps) (hr : fn.results = #[.tmp 4])
    {L : List (List D)} {b : Bool} {g : FuncId} {caps : List AV} {ids : List Nat} {hp0 : Hp} {z : Int} (hix : ∀ nx, ∃ nx', nx ≤ nx' ∧ ∀ hp : Hp, (∀ i ∈ ids, hp i = hp0 i) → InlOK P gi [.d (.sl L) b, .fn g caps] hp nx fun v hp2 nx2 => v = .v (.int .i64 z) ∧ hp2 = hp ∧ nx2 = nx') (nx : Nat) :
    ∃ nx', nx ≤ nx' ∧ ∀ hp : Hp, (∀ i ∈ ids, hp i = hp0 i) → InlOK P f [.d (.sl L) b, .fn g caps] hp nx fun v hp2 nx2 => v = .v (.bool (decide (z ≥ 0))) ∧ hp2 = hp ∧ nx2 = nx' := by
  obtain ⟨n2, h1, h2⟩ := hix (nx + 1 + 5)
  refine ⟨n2, by omega, fun hp hh => inl_run ht hm hf hb hname hd (by simpa using hl) ?_⟩
  rw [hr]
  unfold ctfBody
  simp -implicitDefEqProofs only [go_sem, Nat.reduceEqDiff, Nat.reduceAdd, reduceCtorEq, ↓reduceIte]
  refine onCall_inl ?_
  refine (h2 _ hh).mono fun v2 hp2 nx2 hq => ?_
  obtain ⟨rfl, rfl, rfl⟩ := hq
  simp -implicitDefEqProofs only [go_sem, Nat.reduceAdd, ↓reduceIte]
  exact end_ret (by simp -implicitDefEqProofs only [go_sem, ↓reduceIte] <;> rfl) ⟨rfl, rfl, rfl⟩
/-- Where a text stands first. -/
def eqS (a b : ByteArray) : Bool := a.toList == b.toList
theorem idx_ok (ht : TabOk P tab) (hm : P.follows .mixedOrders = true) {f : FuncId} {fn : Func} {T E I B V : Nat} (hf : P.funcs[f]? = some fn) (hb : fn.body = some (idxBody T E I B V)) (hname : (fn.name == "runtime.NumGoroutine") = false) (hd : dstsB fn.ntmps (idxBody T E I B V) = true) (hl : 2 ≤ fn.ntmps) (hr : fn.results = #[.tmp 4])
    (hE : ElOK tab T E 1) (hkE : (tab E).kind = .string) (xs : List ByteArray) (v : ByteArray) (hx : xs.length < 4611686018427387904) : PureOK P f [.sl (xs.map fun x => [D.v (.string x)]), .v (.string v)] (.v (.int .i64 (idxB (eqS v) xs 0))) true := by
  refine pure_run ht hm hf hb hname hd (by simpa using hl) ?_
  rw [hr]
  unfold idxBody
  have e1 := hE.sl
  have e2 := hE.el
  have e3 := hE.ok
  have e4 := hE.size
  simp -implicitDefEqProofs only [go_sem, Nat.reduceAdd, reduceCtorEq, ↓reduceIte, e1]
  refine run_loopH (α := { p : Nat × Nat // p.1 ≤ xs.length ∧ idxB (eqS v) (xs.drop p.1) p.1 = idxB (eqS v) xs 0 }) [(4, 5), (8, 18)] (fun p fr => upd 8 (.v (.int .i64 (p.1.1 : Int))) fr) (fun p => p.1.2) (fun p => xs.length - p.1.1) ⟨(0, 0), by simp⟩ ⟨wk_upd (by first | rfl | simp [upd_at, forget_at]) (wk_self _ _), wh_self _, by simp⟩ ?_
  rintro ⟨⟨k, m⟩, hI⟩
  simp only at hI
  obtain ⟨hk1, hk2⟩ := hI
  by_cases hk : k < xs.length
  · have c1 := dec_lt hk
    rw [List.drop_eq_getElem_cons hk] at hk2
    simp only [idxB] at hk2
    have w1 : IntKind.i64.wrap ((k : Int) + 1) = ((k + 1 : Nat) : Int) := wrap_one (by omega)
    simp -implicitDefEqProofs only [go_sem, Nat.reduceEqDiff, Nat.reduceAdd, Nat.reduceLeDiff, reduceCtorEq, ↓reduceIte, c1, e1, e2, e3, e4, hkE, at_map hk]
    refine onC_split (fun h => ?_) (fun h => ?_)
    · rw [if_pos (show eqS v xs[k] = true from h)] at hk2
      simp -implicitDefEqProofs only [go_sem, Nat.reduceEqDiff, Nat.reduceAdd, ↓reduceIte]
      exact end_pure (by simp -implicitDefEqProofs only [go_sem, ↓reduceIte] <;> rfl) rfl (by rw [hk2]) (fun _ => rfl)
    · rw [if_neg (by rw [show eqS v xs[k] = false from h]; decide)] at hk2
      simp -implicitDefEqProofs only [go_sem, Nat.reduceEqDiff, Nat.reduceAdd, ↓reduceIte, w1]
      exact ⟨⟨(k + 1, m + 11), ⟨by omega, hk2⟩⟩, ⟨wk_upd (by first | rfl | simp [upd_at, forget_at]) ((by repeat first | exact wk_base _ _ | refine wk_skip rfl ?_)), wh_self _, by simp only; omega⟩, by simp only; omega⟩
  · have c1 := dec_nlt (Nat.le_of_not_lt hk)
    rw [List.drop_eq_nil_of_le (by omega)] at hk2
    simp only [idxB] at hk2
    simp -implicitDefEqProofs only [go_sem, Nat.reduceEqDiff, Nat.reduceLeDiff, ↓reduceIte, c1]
    exact end_pure (by simp -implicitDefEqProofs only [go_sem, ↓reduceIte] <;> rfl) rfl (by rw [hk2]) (fun _ => rfl)
theorem ctn_ok (ht : TabOk P tab) (hm : P.follows .mixedOrders = true) {f gi : FuncId} {fn : Func} {T E I B V : Nat} (hf : P.funcs[f]? = some fn) (hb : fn.body = some (ctnBody T E I B V gi)) (hname : (fn.name == "runtime.NumGoroutine") = false) (hd : dstsB fn.ntmps (ctnBody T E I B V gi) = true) (hl : 2 ≤ fn.ntmps) (hr : fn.results = #[.tmp 4])
    {L : List (List D)} {v : ByteArray} {z : Int} (hix : PureOK P gi [.sl L, .v (.string v)] (.v (.int .i64 z)) true) : PureOK P f [.sl L, .v (.string v)] (.v (.bool (decide (z ≥ 0)))) true := by
  refine pure_run ht hm hf hb hname hd (by simpa using hl) ?_
  rw [hr]
  unfold ctnBody
  simp -implicitDefEqProofs only [go_sem, Nat.reduceEqDiff, Nat.reduceAdd, reduceCtorEq, ↓reduceIte]
  refine onCall_pure (by simp -implicitDefEqProofs only [go_sem] <;> rfl) hix (.inr rfl) ?_
  simp -implicitDefEqProofs only [go_sem, Nat.reduceAdd, ↓reduceIte]
  exact end_pure (by simp -implicitDefEqProofs only [go_sem, ↓reduceIte] <;> rfl) rfl rfl (fun _ => rfl)
end
end Go.Proofs.Ytdckfddlcmkdlaa.Ab

namespace Go.Proofs.Ytdckfddlcmkdlaa.Ab
open Go.RowKit

def accV (id ver : Nat) : List (List D) → AV
  | [] => .v (.slice none 0 0)
  | _ :: r => .so id ver 0 (r.length + 1)
def accO (sz ver : Nat) (br : Bool) : List (List D) → Option AO
  | [] => none
  | e :: r => some (.rw (e :: r) sz ver br false)
def accI (nid id : Nat) : List (List D) → Nat
  | [] => nid
  | _ :: _ => id
def accN (ver : Nat) : List (List D) → Nat
  | [] => 0
  | _ :: _ => ver + 1
theorem accV_nil (id ver : Nat) : accV id ver [] = .v (.slice none 0 0) := rfl
theorem accO_nil (sz ver : Nat) (br : Bool) : accO sz ver br [] = none := rfl
theorem accV_app (id ver : Nat) (es : List (List D)) (e : List D) : accV id ver (es ++ [e]) = .so id ver 0 (es.length + 1) := by
  cases es with
  | nil => rfl
  | cons x r => simp [accV]
theorem accO_app (sz ver : Nat) (br : Bool) (es : List (List D)) (e : List D) : accO sz ver br (es ++ [e]) = some (.rw (es ++ [e]) sz ver br false) := by
  cases es with
  | nil => rfl
  | cons x r => rfl
theorem accI_le {N nid id : Nat} (es : List (List D)) (h1 : N ≤ nid) (h2 : N ≤ id) : N ≤ accI nid id es := by cases es <;> simp [accI, h1, h2]
theorem accI_lt {M nid id : Nat} (es : List (List D)) (h1 : nid < M) (h2 : id < M) : accI nid id es < M := by cases es <;> simp [accI, h1, h2]
section
variable {tab : Nat → TI} {ρ : Operand → AV} {hp : Hp} {nid id ver T sz : Nat} {x y : Operand} {es : List (List D)} {e : List D} {b : Bool} {is : List Nat}
/-- One more. -/
theorem acc_app (hk : (tab T).kind = .slice) (hok : (tab (tab T).elem).ok = true) (hs : (tab (tab T).elem).size = sz) (hs0 : 0 < sz) (hby : (tab (tab T).elem).bytes ≤ 32768) (hx : ρ x = accV id ver es) (hh : hp id = accO sz ver false es) (hy : rowOf hp (ρ y) = some ([e], b, is)) (he : e.length = sz) (hl : es.length + 1 ≤ 4294967296) :
    evalOp tab ρ hp nid (.call { callee := .builtin .append, args := #[x, y], argTypes := #[T, T] }) = some (.so (accI nid id es) (accN ver es) 0 (es.length + 1), [(accI nid id es, .rw (es ++ [e]) sz (accN ver es) b false)]) := by
  cases es with
  | nil =>
    simp only [accV] at hx
    simp [evalOp, hk, hok, hs, hs0, hy, hx, chk, he, hby, accI, accN]
  | cons z r =>
    simp only [accV] at hx
    simp only [accO] at hh
    have : r.length + 1 + 1 ≤ 4294967296 := by simpa using hl
    simp [evalOp, hk, hok, hs, hs0, hy, hx, hh, chk, he, hby, accI, accN, this]
theorem acc_row (h : hp id = accO sz ver false es) : rowOf hp (accV id ver es) = some (es, false, match es with | [] => [] | _ :: _ => [id]) := by
  cases es with
  | nil => rfl
  | cons z r =>
    simp only [accO] at h
    simp [accV, rowOf, h]
theorem acc_toD (h : hp id = accO sz ver false es) : toD hp (accV id ver es) = some (.sl es, false, match es with | [] => [] | _ :: _ => [id]) := by
  cases es with
  | nil => rfl
  | cons z r =>
    simp only [accO] at h
    simp [accV, toD, toD1, h]
theorem acc_toD1 (h : hp id = accO sz ver false es) : toD1 hp (accV id ver es) = some (.sl es, false, match es with | [] => [] | _ :: _ => [id]) := by
  cases es with
  | nil => rfl
  | cons z r =>
    simp only [accO] at h
    simp [accV, toD1, h]
theorem acc_toR (h : hp id = accO sz ver false es) : toR hp (accV id ver es) = some (.sl es, false, match es with | [] => [] | _ :: _ => [id]) := by
  cases es with
  | nil => rfl
  | cons z r =>
    simp only [accO] at h
    simp [accV, toR, toD, toD1, h]
theorem acc_isVal : isVal (accV id ver es) = true := by cases es <;> rfl
theorem acc_isCell : isCell (accV id ver es) = true := by cases es <;> rfl
theorem acc_cells : cellsA (accV id ver es) = some [accV id ver es] := by cases es <;> rfl
end
theorem accV_cons (id ver : Nat) (e : List D) (r : List (List D)) : accV id ver (e :: r) = .so id ver 0 (r.length + 1) := rfl
theorem accO_cons (sz ver : Nat) (br : Bool) (e : List D) (r : List (List D)) : accO sz ver br (e :: r) = some (.rw (e :: r) sz ver br false) := rfl
theorem take_map {α β : Type} (f : α → β) (r : List α) : (r.map f).take r.length = r.map f := List.take_of_length_le (by simp)
attribute [go_sem] accV_cons accO_cons take_map
attribute [go_sem] accV_nil accO_nil acc_isVal acc_isCell acc_cells
theorem end_pureN {tab : Nat → TI} {rs : Array ResultVar} {d d' : D} {fr b : Bool} {is : List Nat} {s : St} {v : AV} (h1 : resA tab rs s = some v) (h2 : toR s.hp v = some (d', b, is)) (h3 : d' = d) (h4 : fr = true → b = false) : EndW tab rs (EndP d fr) .normal s :=
  end_norm h1 ⟨b, is, by rw [h2, h3], h4⟩
/-! ### bits -/
/-- Some bits of a number, as a natural one. -/
def an (n m : Int) : Nat := (BitVec.ofInt 64 n &&& BitVec.ofInt 64 m).toNat
theorem an_le (n m : Int) : an n m ≤ (BitVec.ofInt 64 m).toNat := by
  unfold an
  rw [BitVec.toNat_and]
  exact Nat.and_le_right
theorem wrap_an (n m : Int) (h : (BitVec.ofInt 64 m).toNat < 9223372036854775808) : IntKind.i64.wrap (an n m : Int) = (an n m : Int) := by
  have := an_le n m
  exact wrap_nat (show an n m < _ by omega)
/-- A number, shifted. -/
def sh (n : Int) (k : Nat) : Int := n.fdiv (2 ^ (min k 64))
@[go_sem ↓ high] theorem intV_and (a b : Int) : intV .and .i64 a b = some (.int .i64 (IntKind.i64.wrap (an a b : Int))) := rfl
@[go_sem ↓ high] theorem binV_shr (a b : Int) (k : IntKind) : binV .shr (.int .i64 a) (.int k b) = if b < 0 then none else some (.int .i64 (sh a b.toNat)) := rfl
@[go_sem] theorem cast_neg (n : Nat) : ((n : Int) < 0) = False := by simp
attribute [go_sem] Int.toNat_natCast
theorem tmod_nat (a b : Nat) : ((a : Int)).tmod (b : Int) = ((a % b : Nat) : Int) := by rw [Int.tmod_eq_emod_of_nonneg (by omega)]; omega
end Go.Proofs.Ytdckfddlcmkdlaa.Ab
