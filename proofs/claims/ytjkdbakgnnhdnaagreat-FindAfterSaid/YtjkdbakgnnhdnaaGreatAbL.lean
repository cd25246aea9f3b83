/-
 The library's walks over lists.
-/
import Derived.Test.YtjkdbakgnnhdnaaGreatAbW
namespace Go.Proofs.YtjkdbakgnnhdnaaGreat.Ab
open Go.RowKit
def ixfBody (T E I B F V : TypeId) : Code :=
  (Go.Code.seq (Go.Code.region 0 #[{ dst := (some 4), op := (Go.Op.assign (Go.Operand.const (Go.Value.int Go.IntKind.i64 0))), type := I, pos := "slices.go:107", after := #[], guard := none }] false) (Go.Code.seq (Go.Code.seq (Go.Code.region 1 #[{ dst := (some 6), op := (Go.Op.move (Go.Operand.tmp 0)), type := T, pos := "slices.go:108", after := #[], guard := none }, { dst := (some 7), op := (Go.Op.call { callee := (Go.Callee.builtin Go.Builtin.len), args := #[(Go.Operand.tmp 6)], argTypes := #[T] }), type := I, pos := "slices.go:108", after := #[{ on := 0, ground := Go.Ground.data }], guard := none }, { dst := (some 8), op := (Go.Op.move (Go.Operand.const (Go.Value.int Go.IntKind.i64 0))), type := I, pos := "slices.go:108", after := #[], guard := none }] false) (Go.Code.block 0 (Go.Code.loop (Go.Code.seq (Go.Code.region 2 #[{ dst := (some 9), op := (Go.Op.binOp Go.BinOp.lss I (Go.Operand.tmp 8) (Go.Operand.tmp 7) I), type := B, pos := "slices.go:108", after := #[], guard := none }] false) (Go.Code.seq (Go.Code.cond (Go.Operand.tmp 9) Go.Code.skip (Go.Code.exit 0)) (Go.Code.seq (Go.Code.block 1 (Go.Code.seq (Go.Code.region 3 #[{ dst := (some 10), op := (Go.Op.move (Go.Operand.tmp 8)), type := I, pos := "slices.go:108", after := #[], guard := none }, { dst := (some 5), op := (Go.Op.assign (Go.Operand.tmp 10)), type := I, pos := "slices.go:108", after := #[{ on := 0, ground := Go.Ground.data }, { on := 0, ground := Go.Ground.phase }], guard := none }] false) (Go.Code.seq (Go.Code.region 4 #[{ dst := (some 11), op := (Go.Op.move (Go.Operand.tmp 1)), type := F, pos := "slices.go:109", after := #[], guard := none }, { dst := (some 12), op := (Go.Op.move (Go.Operand.tmp 0)), type := T, pos := "slices.go:109", after := #[], guard := none }, { dst := (some 13), op := (Go.Op.move (Go.Operand.tmp 5)), type := I, pos := "slices.go:109", after := #[], guard := none }, { dst := (some 14), op := (Go.Op.indexAddr T (Go.Operand.tmp 12) (Go.Operand.tmp 13)), type := B, pos := "slices.go:109", after := #[{ on := 1, ground := Go.Ground.data }, { on := 2, ground := Go.Ground.data }], guard := none }, { dst := (some 15), op := (Go.Op.load E (Go.Operand.tmp 14)), type := E, pos := "slices.go:109", after := #[{ on := 3, ground := Go.Ground.data }], guard := none }, { dst := (some 16), op := (Go.Op.call { callee := (Go.Callee.value (Go.Operand.tmp 11)), args := #[(Go.Operand.tmp 15)], argTypes := #[E] }), type := V, pos := "slices.go:109", after := #[{ on := 0, ground := Go.Ground.data }, { on := 4, ground := Go.Ground.data }], guard := none }] false) (Go.Code.cond (Go.Operand.tmp 16) (Go.Code.seq (Go.Code.region 5 #[{ dst := (some 17), op := (Go.Op.move (Go.Operand.tmp 5)), type := I, pos := "slices.go:110", after := #[], guard := none }, { dst := (some 4), op := (Go.Op.assign (Go.Operand.tmp 17)), type := I, pos := "slices.go:110", after := #[{ on := 0, ground := Go.Ground.data }, { on := 0, ground := Go.Ground.phase }], guard := none }] false) Go.Code.ret) Go.Code.skip)))) (Go.Code.region 6 #[{ dst := (some 18), op := (Go.Op.binOp Go.BinOp.add I (Go.Operand.tmp 8) (Go.Operand.const (Go.Value.int Go.IntKind.i64 1)) I), type := I, pos := "slices.go:108", after := #[], guard := none }, { dst := (some 8), op := (Go.Op.move (Go.Operand.tmp 18)), type := I, pos := "slices.go:108", after := #[{ on := 0, ground := Go.Ground.data }], guard := none }] false))))))) (Go.Code.seq (Go.Code.region 7 #[{ dst := (some 4), op := (Go.Op.assign (Go.Operand.const (Go.Value.int Go.IntKind.i64 (-1)))), type := I, pos := "slices.go:113", after := #[], guard := none }] false) Go.Code.ret)))
def ctfBody (T _ I _ F V : TypeId) (g : FuncId) : Code :=
  (Go.Code.seq (Go.Code.region 0 #[{ dst := (some 4), op := (Go.Op.assign (Go.Operand.const (Go.Value.bool false))), type := V, pos := "slices.go:124", after := #[], guard := none }] false) (Go.Code.seq (Go.Code.region 1 #[{ dst := (some 5), op := (Go.Op.move (Go.Operand.tmp 0)), type := T, pos := "slices.go:125", after := #[], guard := none }, { dst := (some 6), op := (Go.Op.move (Go.Operand.tmp 1)), type := F, pos := "slices.go:125", after := #[], guard := none }, { dst := (some 7), op := (Go.Op.call { callee := (Go.Callee.value (Go.Operand.func g)), args := #[(Go.Operand.tmp 5), (Go.Operand.tmp 6)], argTypes := #[T, F] }), type := I, pos := "slices.go:125", after := #[{ on := 0, ground := Go.Ground.data }, { on := 1, ground := Go.Ground.data }], guard := none }, { dst := (some 8), op := (Go.Op.binOp Go.BinOp.geq I (Go.Operand.tmp 7) (Go.Operand.const (Go.Value.int Go.IntKind.i64 0)) I), type := V, pos := "slices.go:125", after := #[{ on := 2, ground := Go.Ground.data }], guard := none }, { dst := (some 4), op := (Go.Op.assign (Go.Operand.tmp 8)), type := V, pos := "slices.go:125", after := #[{ on := 3, ground := Go.Ground.data }, { on := 2, ground := Go.Ground.chain }, { on := 0, ground := Go.Ground.phase }, { on := 1, ground := Go.Ground.phase }, { on := 2, ground := Go.Ground.phase }, { on := 3, ground := Go.Ground.phase }], guard := none }] false) Go.Code.ret))
structure ElOK (tab : Nat → TI) (T E : Nat) (n : Nat) : Prop where
 sl : (tab T).kind = .slice
 el : (tab T).elem = E
 ok : (tab E).ok = true
 size : (tab E).size = n
 agg : (tab E).agg = true ∨ ((tab E).agg = false ∧ n = 1)
def PrdOK {α : Type} (P : Program) (f : FuncId) (caps : List AV) (ld : α → AV) (S : α → Prop) (pr : α → Bool) (ids : List Nat) (hp0 : Hp) : Prop :=
 ∀ (x : α), S x → ∀ (nx : Nat), ∃ nx', nx ≤ nx' ∧ ∀ hp : Hp, (∀ i ∈ ids, hp i = hp0 i) → InlOK P f ([ld x] ++ caps) hp nx fun v2 hp2 nx2 => v2 = .v (.bool (pr x)) ∧ hp2 = hp ∧ nx2 = nx'
open Classical in
noncomputable def PrdOK.nx {α : Type} {P : Program} {f : FuncId} {caps : List AV} {ld : α → AV} {S : α → Prop} {pr : α → Bool} {ids : List Nat} {hp0 : Hp} (h : PrdOK P f caps ld S pr ids hp0) (x : α) (n : Nat) : Nat := if hx : S x then (h x hx n).choose else n
theorem PrdOK.le {α : Type} {P : Program} {f : FuncId} {caps : List AV} {ld : α → AV} {S : α → Prop} {pr : α → Bool} {ids : List Nat} {hp0 : Hp} (h : PrdOK P f caps ld S pr ids hp0) (x : α) (n : Nat) : n ≤ h.nx x n := by
 unfold PrdOK.nx
 split
 ·rename_i hx
  exact (h x hx n).choose_spec.1
 ·exact Nat.le_refl _
theorem PrdOK.inl {α : Type} {P : Program} {f : FuncId} {caps : List AV} {ld : α → AV} {S : α → Prop} {pr : α → Bool} {ids : List Nat} {hp0 : Hp} (h : PrdOK P f caps ld S pr ids hp0) (x : α) (hx : S x) (n : Nat) {hp : Hp} (hh : ∀ i ∈ ids, hp i = hp0 i) : InlOK P f ([ld x] ++ caps) hp n fun v2 hp2 nx2 => v2 = .v (.bool (pr x)) ∧ hp2 = hp ∧ nx2 = h.nx x n := by
 have := (h x hx n).choose_spec.2 hp hh
 unfold PrdOK.nx
 rw [dif_pos hx]
 exact this
def idxB {α : Type} (pr : α → Bool) : List α → Nat → Int
 | [], _ => -1
 | x :: r, k => if pr x then k else idxB pr r (k + 1)
theorem idxB_any {α : Type} (pr : α → Bool) : ∀ (l : List α) (k : Nat), decide (idxB pr l k ≥ 0) = l.any pr
 | [], _ => rfl
 | x :: r, k => by
  have ih := idxB_any pr r (k + 1)
  by_cases e : pr x = true
  ·simp [idxB, e]
  ·simpa [idxB, e] using ih
noncomputable def ixNx {α : Type} (pr : α → Bool) (nxf : α → Nat → Nat) : List α → Nat → Nat
 | [], n => n + 2
 | x :: r, n => if pr x then nxf x (n + 9) + 2 else ixNx pr nxf r (nxf x (n + 9) + 2)
section
variable {P : Program} {tab : Nat → TI}
theorem ixNx_le {α : Type} {pr : α → Bool} {nxf : α → Nat → Nat} (h : ∀ x n, n ≤ nxf x n) : ∀ (l : List α) (n : Nat), n ≤ ixNx pr nxf l n
 | [], n => by simp [ixNx]
 | x :: r, n => by
  unfold ixNx
  have h1 := h x (n + 9)
  split
  ·omega
  ·have := ixNx_le (pr := pr) h r (nxf x (n + 9) + 2)
   omega
theorem ixf_struct (ht : TabOk P tab) (hm : P.follows .mixedOrders = true) {f : FuncId} {fn : Func} {T E I B F V n : Nat} (hf : P.funcs[f]? = some fn) (hb : fn.body = some (ixfBody T E I B F V)) (hname : (fn.name == "runtime.NumGoroutine") = false) (hd : dstsB fn.ntmps (ixfBody T E I B F V) = true) (hl : 2 ≤ fn.ntmps) (hr : fn.results = #[.tmp 4])
  (hE : ElOK tab T E n) (hkE : (tab E).kind = .struct) {α : Type} (enc : α → List D) (hn : ∀ x, (enc x).length = n) (pr : α → Bool) {g : FuncId} {caps : List AV} {ids : List Nat} {hp0 : Hp} {b : Bool} (S : α → Prop) (hP : PrdOK P g caps (fun x => .d (.ag (enc x)) b) S pr ids hp0) (xs : List α) (hS : ∀ x ∈ xs, S x) (hx : xs.length < 4611686018427387904) (nx : Nat) :
  ∃ nx', nx ≤ nx' ∧ ∀ hp : Hp, (∀ i ∈ ids, hp i = hp0 i) → InlOK P f [.d (.sl (xs.map enc)) b, .fn g caps] hp nx fun v hp2 nx2 => v = .v (.int .i64 (idxB pr xs 0)) ∧ hp2 = hp ∧ nx2 = nx' := by
 refine ⟨ixNx pr hP.nx xs (nx + 4), Nat.le_trans (by omega) (ixNx_le hP.le xs (nx + 4)), fun hp hh => ?_⟩
 refine InlOK.up (inl_run ht hm hf hb hname hd (by simpa using hl) ?_)
 rw [hr]
 unfold ixfBody
 have e1 := hE.sl
 have e2 := hE.el
 have e3 := hE.ok
 have e4 := hE.size
 simp -implicitDefEqProofs only [go_sem, Nat.reduceAdd, reduceCtorEq, ↓reduceIte, e1]
 refine run_loopH (α := { p : Nat × Nat // p.1 ≤ xs.length ∧ idxB pr (xs.drop p.1) p.1 = idxB pr xs 0 ∧ ixNx pr hP.nx (xs.drop p.1) (nx + 4 + p.2) = ixNx pr hP.nx xs (nx + 4) }) [(4, 5), (8, 18)] (fun p fr => upd 8 (.v (.int .i64 (p.1.1 : Int))) fr) (fun p => p.1.2) (fun p => xs.length - p.1.1) ⟨(0, 0), by simp⟩ ⟨wk_upd (by first | rfl | simp [upd_at, forget_at]) (wk_self _ _), wh_self _, by simp⟩ ?_
 rintro ⟨⟨k, m⟩, hI⟩
 simp only at hI
 obtain ⟨hk1, hk2, hk3⟩ := hI
 by_cases hk : k < xs.length
 ·have c1 := dec_lt hk
  rw [List.drop_eq_getElem_cons hk] at hk2 hk3
  simp only [idxB, ixNx] at hk2 hk3
  have tk : (enc xs[k]).take n = enc xs[k] := List.take_of_length_le (by rw [hn]; exact Nat.le_refl _)
  simp -implicitDefEqProofs only [go_sem, Nat.reduceEqDiff, Nat.reduceAdd, Nat.reduceLeDiff, reduceCtorEq, ↓reduceIte, c1, e1, e2, e3, e4, hkE, at_map hk, hn, tk, Nat.le_refl]
  refine onCall_inl ?_
  refine (hP.inl xs[k] (hS _ (List.getElem_mem _)) _ hh).mono fun v2 hp2 nx2 hq => ?_
  obtain ⟨rfl, rfl, rfl⟩ := hq
  simp -implicitDefEqProofs only [go_sem, ↓reduceIte]
  refine onC_split (fun h => ?_) (fun h => ?_)
  ·rw [if_pos h] at hk2 hk3
   simp -implicitDefEqProofs only [go_sem, Nat.reduceEqDiff, Nat.reduceAdd, ↓reduceIte]
   exact end_ret (by simp -implicitDefEqProofs only [go_sem, ↓reduceIte] <;> rfl) ⟨_, by rw [← hk3, show nx + 1 + 3 + m + 1 + 2 + 6 = nx + 4 + m + 9 by omega]; exact Nat.le_refl _, by rw [hk2], rfl, rfl⟩
  ·rw [if_neg (by simp [h])] at hk2 hk3
   have hle := hP.le xs[k] (nx + 4 + m + 9)
   have w1 : IntKind.i64.wrap ((k : Int) + 1) = ((k + 1 : Nat) : Int) := wrap_one (by omega)
   have e6 : nx + 1 + 3 + m + 1 + 2 + 6 = nx + 4 + m + 9 := by omega
   simp -implicitDefEqProofs only [go_sem, Nat.reduceEqDiff, Nat.reduceAdd, ↓reduceIte, h, w1, e6]
   exact ⟨⟨(k + 1, hP.nx xs[k] (nx + 4 + m + 9) + 2 - (nx + 4)), ⟨by omega, hk2, by simp only; rw [show nx + 4 + (hP.nx xs[k] (nx + 4 + m + 9) + 2 - (nx + 4)) = hP.nx xs[k] (nx + 4 + m + 9) + 2 by omega]; exact hk3⟩⟩, ⟨wk_upd (by first | rfl | simp [upd_at, forget_at]) ((by repeat first | exact wk_base _ _ | refine wk_skip rfl ?_)), wh_self _, by simp only; omega⟩, by simp only; omega⟩
 ·have c1 := dec_nlt (Nat.le_of_not_lt hk)
  rw [List.drop_eq_nil_of_le (by omega)] at hk2 hk3
  simp only [idxB, ixNx] at hk2 hk3
  simp -implicitDefEqProofs only [go_sem, Nat.reduceEqDiff, Nat.reduceLeDiff, ↓reduceIte, c1]
  exact end_ret (by simp -implicitDefEqProofs only [go_sem, ↓reduceIte] <;> rfl) ⟨_, Nat.le_of_eq hk3, by rw [hk2], rfl, rfl⟩
theorem ctf_ok (ht : TabOk P tab) (hm : P.follows .mixedOrders = true) {f gi : FuncId} {fn : Func} {T E I B F V : Nat} (hf : P.funcs[f]? = some fn) (hb : fn.body = some (ctfBody T E I B F V gi)) (hname : (fn.name == "runtime.NumGoroutine") = false) (hd : dstsB fn.ntmps (ctfBody T E I B F V gi) = true) (hl : 2 ≤ fn.ntmps) (hr : fn.results = #[.tmp 4])
  {L : List (List D)} {b : Bool} {g : FuncId} {caps : List AV} {ids : List Nat} {hp0 : Hp} {z : Int} (hix : ∀ nx, ∃ nx', nx ≤ nx' ∧ ∀ hp : Hp, (∀ i ∈ ids, hp i = hp0 i) → InlOK P gi [.d (.sl L) b, .fn g caps] hp nx fun v hp2 nx2 => v = .v (.int .i64 z) ∧ hp2 = hp ∧ nx2 = nx') (nx : Nat) :
  ∃ nx', nx ≤ nx' ∧ ∀ hp : Hp, (∀ i ∈ ids, hp i = hp0 i) → InlOK P f [.d (.sl L) b, .fn g caps] hp nx fun v hp2 nx2 => v = .v (.bool (decide (z ≥ 0))) ∧ hp2 = hp ∧ nx2 = nx' := by
 obtain ⟨n2, h1, h2⟩ := hix (nx + 1 + 5)
 refine ⟨n2, by omega, fun hp hh => inl_run ht hm hf hb hname hd (by simpa using hl) ?_⟩
 rw [hr]
 unfold ctfBody
 simp -implicitDefEqProofs only [go_sem, Nat.reduceEqDiff, Nat.reduceAdd, reduceCtorEq, ↓reduceIte]
 refine onCall_inl ?_
 refine (h2 _ hh).mono fun v2 hp2 nx2 hq => ?_
 obtain ⟨rfl, rfl, rfl⟩ := hq
 simp -implicitDefEqProofs only [go_sem, Nat.reduceAdd, ↓reduceIte]
 exact end_ret (by simp -implicitDefEqProofs only [go_sem, ↓reduceIte] <;> rfl) ⟨rfl, rfl, rfl⟩
end
end Go.Proofs.YtjkdbakgnnhdnaaGreat.Ab
