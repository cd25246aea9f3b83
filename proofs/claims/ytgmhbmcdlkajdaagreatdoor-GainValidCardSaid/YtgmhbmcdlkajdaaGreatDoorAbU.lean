/-
 Lists of texts: Clone, Sort, Compact of the library.
-/
import Derived.Sort.EncStr
import Derived.Lib.OwnBridge
import Derived.Sort.Grow
import Derived.Test.YtgmhbmcdlkajdaaGreatDoorAbJ
namespace Go.Proofs.YtgmhbmcdlkajdaaGreatDoor.Ab
section
open Go.RowKit Go.Sort Go.Proofs
section
variable {P : Program} {tab : Nat → TI}
theorem clone_inl (ht : TabOk P tab) (hm : P.follows .mixedOrders = true) {f : FuncId} {fn : Func} {T B : TypeId} (hf : P.funcs[f]? = some fn) (hb : fn.body = some (cloneBody T B)) (hname : (fn.name == "runtime.NumGoroutine") = false) (hd : dstsB fn.ntmps (cloneBody T B) = true) (hl : 1 ≤ fn.ntmps) (hr : fn.results = #[.tmp 2])
  (hk : (tab T).kind = .slice) (ho : (tab (tab T).elem).ok = true) (hs : 0 < (tab (tab T).elem).size) (hbt : (tab (tab T).elem).bytes ≤ 32768) {x : List D} {es : List (List D)} {b : Bool} {hp : Hp} {nx : Nat}
  (hz : (x.length == (tab (tab T).elem).size && es.all fun e => e.length == (tab (tab T).elem).size) = true) (hn : es.length + 1 ≤ 4294967296) :
  InlOK P f [.d (.sl (x :: es)) b] hp nx fun v hp2 nx2 => nx2 = nx + 7 ∧ v = .so (nx + 3) 1 0 (es.length + 1) ∧ hp2 = upd (nx + 3) (some (.rw (x :: es) (tab (tab T).elem).size 1 (b && !(plainC x && plainR es)) false)) hp := by
 refine inl_run (tab := tab) ht hm hf hb hname hd (by simpa using hl) ?_
 rw [hr]
 unfold cloneBody
 simp -implicitDefEqProofs only [go_sem, Nat.reduceEqDiff, Nat.reduceAdd, reduceCtorEq, ↓reduceIte, hk, ho, hs, hbt, Nat.zero_mul, Nat.zero_le, and_self, true_and, List.map, List.all, chk, frz, toDl]
 rw [if_pos ⟨hz, hn⟩]
 simp -implicitDefEqProofs only [go_sem, Nat.reduceAdd, ↓reduceIte]
 exact end_ret (by simp -implicitDefEqProofs only [go_sem, ↓reduceIte] <;> rfl) ⟨rfl, rfl, upd_upd _ _ _ _⟩
end
end
section
open Go.RowKit
def EndJ {α : Type} (n : Nat) (σ : α → St) (e : Ex) (s : St) : Prop :=
 match e with
 | .exit _ => False
 | _ => ∃ y, WeakR n (σ y) s
theorem endJ_ret {α : Type} {n : Nat} {σ : α → St} {s : St} (y : α) (h : WeakR n (σ y) s) : EndJ n σ .ret s := ⟨y, h⟩
section
variable {P : Program} {tab : Nat → TI}
theorem inl_runRJ (ht : TabOk P tab) {f : FuncId} {fn : Func} {code : Code} (hf : P.funcs[f]? = some fn) (hb : fn.body = some code) (hname : (fn.name == "runtime.NumGoroutine") = false) (hd : dstsB fn.ntmps code = true) {vs : List AV} {hp : Hp} {nx : Nat}
  (hlen : vs.length ≤ fn.ntmps) {α : Type} (σ : α → St) (V : α → AV) (hV : ∀ y, resA tab fn.results (σ y) = some (V y)) (h : runR nx P [.c code] (EndJ nx σ) ⟨frOf vs, hp, nx⟩) :
  InlOK P f vs hp nx fun v hp2 nx2 => ∃ y, v = V y ∧ hp2 = (σ y).hp ∧ nx2 = (σ y).nx := by
 refine inl_runR ht hf hb hname hd hlen ?_
 intro g N c act hd' hs hn
 refine Code.wp_mono (fun e a' w' hp => ?_) ((show SemR nx P code (contR nx P [] (EndJ nx σ)) _ from h) g N c act hd' hs hn)
 obtain ⟨ex, s', c', h1, h2, h3, h4, h5, h6, h7⟩ := hp
 have key : (∃ y, WeakR nx (σ y) s') → PostR g N (contR nx P [] (EndW tab fn.results fun v hp2 nx2 => ∃ y, v = V y ∧ hp2 = (σ y).hp ∧ nx2 = (σ y).nx)) nx c e a' w' := by
  rintro ⟨y, hw⟩
  obtain ⟨c2, q1, q2, q3, q4, q5⟩ := h3.weakR h6 hw
  have fin : EndW tab fn.results (fun v hp2 nx2 => ∃ y, v = V y ∧ hp2 = (σ y).hp ∧ nx2 = (σ y).nx) .ret (σ y) := ⟨V y, (σ y).hp, hV y, ⟨fun _ => .inr rfl⟩, y, rfl, rfl, rfl⟩
  have kn : ∀ i, c2.kn i → c.kn i ∨ nx ≤ i := fun i hi => by
   rcases q5 i hi with h8 | h8
   ·exact h7 i h8
   ·exact .inr h8
  cases ex with
  | normal => exact ⟨.normal, σ y, c2, h1, fin, q1, q2.trans h4, h5.trans q3, q4, kn⟩
  | ret => exact ⟨.ret, σ y, c2, h1, fin, q1, q2.trans h4, h5.trans q3, q4, kn⟩
  | exit m => exact (show False from h2).elim
 cases ex with
 | normal => exact key h2
 | ret => exact key h2
 | exit m => exact (show False from h2).elim
variable {ops : Array Oper} {nx0 nx : Nat} {k : List It} {Q : Ex → St → Prop} {i : Nat} {r : List Oper} {dst : Option Nat} {acc : List Rec} {ids : List Nat} {fr : Fr} {hp : Hp}
end
end
section
open Go.RowKit
section
variable {P : Program} {tab : Nat → TI}
theorem clone_map (ht : TabOk P tab) (hm : P.follows .mixedOrders = true) {f : FuncId} {fn : Func} {T B : TypeId} (hf : P.funcs[f]? = some fn) (hb : fn.body = some (cloneBody T B)) (hname : (fn.name == "runtime.NumGoroutine") = false) (hd : dstsB fn.ntmps (cloneBody T B) = true) (hl : 1 ≤ fn.ntmps) (hr : fn.results = #[.tmp 2])
  (hk : (tab T).kind = .slice) (ho : (tab (tab T).elem).ok = true) {k : Nat} (hs0 : (tab (tab T).elem).size = k) (hs : 0 < k) (hbt : (tab (tab T).elem).bytes ≤ 32768) {α : Type} {e : α → List D} (he : ∀ x, (e x).length = k) (xs : List α) (h0 : 0 < xs.length) (hn : xs.length ≤ 4294967296) {b : Bool} {hp : Hp} {nx : Nat} :
  InlOK P f [.d (.sl (xs.map e)) b] hp nx fun v hp2 nx2 => v = .so (nx + 3) 1 0 xs.length ∧ hp2 = upd (nx + 3) (some (.rw (xs.map e) k 1 (b && !(plainR (xs.map e))) false)) hp ∧ nx2 = nx + 7 := by
 subst hs0
 obtain ⟨x, r, rfl⟩ : ∃ x r, xs = x :: r := by cases xs with | nil => simp at h0 | cons x r => exact ⟨x, r, rfl⟩
 have h := clone_inl (x := e x) (es := r.map e) (b := b) (hp := hp) (nx := nx) ht hm hf hb hname hd hl hr hk ho hs hbt (by simp [he]) (by simp at hn ⊢; omega)
 refine h.mono ?_
 rintro v hp2 nx2 ⟨h1, h2, h3⟩
 exact ⟨by simpa using h2, h3, h1⟩
end
end
section
section
theorem valsOf_nil : valsOf [] = some [] := rfl
theorem valsOf_cons (x : Value) (r : List AV) : valsOf (.v x :: r) = (valsOf r).map (x :: ·) := rfl
theorem map_some_cons (x : Value) (r : List Value) : (some r).map (x :: ·) = some (x :: r) := rfl
theorem eqK_one (k : TK) (x y : Value) : eqK [k] [x] [y] = eq1 k x y := by
 show (match eq1 k x y, some true with
  | some b, some c => some (b && c)
  | _, _ => none) = _
 cases eq1 k x y <;> simp
theorem eqK_two (k k2 : TK) (ks : List TK) (x x2 y y2 : Value) (xs ys : List Value) : eqK (k :: k2 :: ks) (x :: x2 :: xs) (y :: y2 :: ys) = match eq1 k x y, eqK (k2 :: ks) (x2 :: xs) (y2 :: ys) with
  | some b, some c => some (b && c)
  | _, _ => none := rfl
theorem eq1_string (a b : ByteArray) : eq1 .string (.string a) (.string b) = some (a == b) := rfl
theorem eq1_bool (a b : Bool) : eq1 .bool (.bool a) (.bool b) = some (a == b) := rfl
theorem eq1_int (k : IntKind) (a b : Int) : eq1 (.int k) (.int k a) (.int k b) = some (a == b) := if_pos ⟨rfl, rfl⟩
attribute [go_sem] valsOf_nil valsOf_cons map_some_cons eqK_one eqK_two eq1_string eq1_bool eq1_int
end
end
section
open Go.RowKit
def isAggV : AV → Bool
 | .ag _ => true
 | .d (.ag _) _ => true
 | _ => false
def cellsX : AV → List AV
 | .ag cs => cs
 | .d (.ag cs) b => cs.map (lift b)
 | x => [x]
inductive ToX (hp : Hp) (b : Bool) : AV → D → Prop
 | one {x : AV} {d : D} {b' : Bool} {is : List Nat} (h : toD1 hp x = some (d, b', is)) (hb : b' = true → b = true) : ToX hp b x d
 | pt {id off : Nat} {cs : List AV} {ds : List D} (h : hp id = some (.bx cs)) (hl : ds.length = cs.length) (hc : ∀ (j : Nat) (x : AV) (d : D), cs[j]? = some x → ds[j]? = some d → ToX hp b x d) : ToX hp b (.pt id off) (.pt ds off)
 | mo {id : Nat} {es : List (Value × AV)} {dl : Bool} {ms : List (Value × Bool × List D)} (h : hp id = some (.mo es dl)) (hl : ms.length = es.length)
   (hk : ∀ (j : Nat) (k : Value) (v : AV) (k' : Value) (ag : Bool) (ds : List D), es[j]? = some (k, v) → ms[j]? = some (k', ag, ds) → k' = k ∧ ag = isAggV v ∧ ds.length = (cellsX v).length ∧ (ag = false → isCell v = true))
   (hc : ∀ (j : Nat) (k : Value) (v : AV) (k' : Value) (ag : Bool) (ds : List D) (i : Nat) (x : AV) (d : D), es[j]? = some (k, v) → ms[j]? = some (k', ag, ds) → (cellsX v)[i]? = some x → ds[i]? = some d → ToX hp b x d) : ToX hp b (.mo id) (.mp ms)
 | rb {x : AV} {ds : List D} {off : Nat} (m : Nat) (h : ToX hp b x (.pt ds off)) : ToX hp b x (.pt ((ds.drop off).take m) 0)
section
variable {P : Program} {tab : Nat → TI} {g : Gh} {c : Cf}
theorem cells_one {u : Value} (h : u.oneCell' = true) : u.cells = #[u] := by
 cases u <;> first | rfl | cases h
theorem cellsX_ok {v : AV} {u : Value} (hv : isAggV v = true ∨ isCell v = true) (h : RA1 g c v u) : u.cells.size = (cellsX v).length ∧ (isAggV v = true → ∃ vs, u = .agg vs) ∧ (isAggV v = false → u.cells = #[u]) ∧ ∀ (j : Nat) (x : AV), (cellsX v)[j]? = some x → ∃ y, u.cells[j]? = some y ∧ RA g c x y := by
 have one : ∀ {v : AV}, RA g c v u → u.cells.size = [v].length ∧ (u.cells = #[u]) ∧ ∀ (j : Nat) (x : AV), [v][j]? = some x → ∃ y, u.cells[j]? = some y ∧ RA g c x y := fun {v} h => by
  have h1 := cells_one h.one
  refine ⟨by rw [h1]; rfl, h1, fun j x hj => ?_⟩
  cases j with
  | zero => cases hj; exact ⟨u, by rw [h1]; rfl, h⟩
  | succ j => simp at hj
 have fin : ∀ {v : AV}, isAggV v = false → cellsX v = [v] → RA g c v u → u.cells.size = (cellsX v).length ∧ (isAggV v = true → ∃ vs, u = .agg vs) ∧ (isAggV v = false → u.cells = #[u]) ∧ ∀ (j : Nat) (x : AV), (cellsX v)[j]? = some x → ∃ y, u.cells[j]? = some y ∧ RA g c x y := fun {v} h1 h2 h3 => by
  obtain ⟨q1, q2, q3⟩ := one h3
  rw [h2]
  exact ⟨q1, fun h => by rw [h1] at h; (cases h), fun _ => q2, q3⟩
 cases v with
 | ag cs =>
  obtain ⟨vs, rfl, h2, h3⟩ := h
  exact ⟨h2, fun _ => ⟨vs, rfl⟩, fun h => (by cases h), h3⟩
 | d x b =>
  cases x with
  | ag cs =>
   obtain ⟨vs, rfl, h2, h3⟩ := h
   refine ⟨by show vs.size = (cs.map (lift b)).length; rw [List.length_map]; exact h2, fun _ => ⟨vs, rfl⟩, fun h => (by cases h), fun j x hj => ?_⟩
   simp only [cellsX] at hj
   rw [List.getElem?_map, Option.map_eq_some_iff] at hj
   obtain ⟨d, h4, rfl⟩ := hj
   obtain ⟨y, h5, h6⟩ := h3 j d h4
   exact ⟨y, h5, RC.toRA h6⟩
  | tu cs => rcases hv with hv | hv <;> cases hv
  | v x => exact fin rfl rfl h
  | sl x => exact fin rfl rfl h
  | pt x o => exact fin rfl rfl h
  | mp x => exact fin rfl rfl h
 | tu cs => rcases hv with hv | hv <;> cases hv
 | un => rcases hv with hv | hv <;> cases hv
 | v x => exact fin rfl rfl h
 | pt i o => exact fin rfl rfl h
 | pr i v k o => exact fin rfl rfl h
 | so i v o n => exact fin rfl rfl h
 | mo i => exact fin rfl rfl h
 | fn f cs => exact fin rfl rfl h
theorem ToX.ok {hp : Hp} (hr : HR g c) (hhp : c.hp = hp) {b : Bool} {x : AV} {d : D} (h : ToX hp b x d) {u : Value} (hu : RA g c x u) (I : Nat → Prop) (hI : ∀ k, Im g c b k → I k) (hO : ∀ i o, hp i = some o → I (c.φ i)) : RC c.w I d u := by
 induction h generalizing u with
 | @one x d b' is h hb =>
  refine toD1_ok hr hhp hu h I (fun k hk => hI k ?_) fun i hi => ?_
  ·cases b' with
   | true => rw [hb rfl]; exact hk
   | false => cases b with
    | true => exact hk.weak
    | false => exact hk
  ·obtain ⟨es, sz, v, fz, h4⟩ := toD1_rows h i hi
   exact hO i _ h4
 | @pt id off cs ds h hl hc ih =>
  cases hu with
  | pt _ _ hn ho =>
   have h' := h
   rw [← hhp] at h'
   obtain ⟨T, vs, h1, h2, h3⟩ := hr.obj id _ h'
   have key : RC c.w I (.pt ds off) (.pointer (some ⟨c.φ id, 0 + off, none⟩)) := by
    refine RC.pt ds off (c.φ id) 0 (fun j => vs.getD j undef) (hO id _ h) (fun j d hj => ?_) fun j d hj => ?_
    ·have hlt : j < vs.size := by
      have := (List.getElem?_eq_some_iff.1 hj).1
      omega
     simp [World.cell?, h1, Array.getD, hlt]
    ·have hlt : j < cs.length := by
      have := (List.getElem?_eq_some_iff.1 hj).1
      omega
     obtain ⟨y, k1, k2⟩ := h3 j cs[j] (by simp [hlt])
     have := ih j cs[j] d (by simp [hlt]) hj k2
     rwa [Array.getD_eq_getD_getElem?, k1]
   rwa [Nat.zero_add] at key
 | @mo id es dl ms h hl hk hc ih =>
  cases hu with
  | mo _ hn ho =>
   have h' := h
   rw [← hhp] at h'
   obtain ⟨en, k, h1, h2, _, h3⟩ := hr.obj id _ h'
   have at_ : ∀ {j : Nat} {p : Value × Bool × List D}, ms[j]? = some p → ∃ k v, es[j]? = some (k, v) := fun {j p} hj => by
    have := (List.getElem?_eq_some_iff.1 hj).1
    exact ⟨_, _, List.getElem?_eq_getElem (by omega)⟩
   have val : ∀ {j : Nat} {k0 : Value} {v : AV} {k' : Value} {ag : Bool} {ds : List D} {e : MapEntry}, es[j]? = some (k0, v) → ms[j]? = some (k', ag, ds) → en[j]? = some e → e.key = k0 ∧ RA1 g c v e.val := fun {j k0 v k' ag ds e} q1 _ q3 => by
    obtain ⟨e', g1, g2, g3⟩ := h3 j k0 v q1
    rw [q3] at g1
    cases g1
    exact ⟨g2, g3⟩
   refine RC.mp ms (c.φ id) en k (hO id _ h) h1 (by omega) (fun j x ag ds e q1 q2 => ?_) fun j i x ag ds e d u q1 q2 q3 q4 => ?_
   ·obtain ⟨k0, v, q3⟩ := at_ q1
    obtain ⟨r1, r2, r3, r4⟩ := hk j k0 v x ag ds q3 q1
    obtain ⟨s1, s2⟩ := val q3 q1 q2
    have hv : isAggV v = true ∨ isCell v = true := by
     cases ag with
     | true => exact .inl r2.symm
     | false => exact .inr (r4 rfl)
    obtain ⟨t1, t2, t3, _⟩ := cellsX_ok hv s2
    exact ⟨s1.trans r1.symm, by omega, fun e => t2 (by rw [← r2, e]), fun e => t3 (by rw [← r2, e])⟩
   ·obtain ⟨k0, v, q5⟩ := at_ q1
    obtain ⟨r1, r2, r3, r4⟩ := hk j k0 v x ag ds q5 q1
    obtain ⟨s1, s2⟩ := val q5 q1 q2
    have hv : isAggV v = true ∨ isCell v = true := by
     cases ag with
     | true => exact .inl r2.symm
     | false => exact .inr (r4 rfl)
    obtain ⟨_, _, _, t4⟩ := cellsX_ok hv s2
    have hlt : i < (cellsX v).length := by
     have := (List.getElem?_eq_some_iff.1 q3).1
     omega
    obtain ⟨y, t5, t6⟩ := t4 i (cellsX v)[i] (by simp [hlt])
    rw [t5] at q4
    cases q4
    exact ih j k0 v x ag ds i _ d q5 q1 (by simp [hlt]) q3 t6
 | @rb x ds off m h ih =>
  have h1 := ih hu
  cases h1 with
  | pt _ _ bl o us hI hm hd =>
   have at_ : ∀ {j : Nat} {d : D}, ((ds.drop off).take m)[j]? = some d → ds[off + j]? = some d := fun {j d} hj => by
    rw [List.getElem?_take] at hj
    split at hj
    ·rwa [List.getElem?_drop] at hj
    ·cases hj
   have key : RC c.w I (.pt ((ds.drop off).take m) 0) (.pointer (some ⟨bl, (o + off) + 0, none⟩)) :=
    RC.pt _ 0 bl (o + off) (fun j => us (off + j)) hI (fun j d hj => by rw [Nat.add_assoc]; exact hm _ d (at_ hj)) fun j d hj => hd _ d (at_ hj)
   exact key
inductive ToXV (hp : Hp) (b : Bool) : AV → D → Prop
 | one {x : AV} {d : D} (h : ToX hp b x d) (hx : isCell x = true) : ToXV hp b x d
 | ag {cs : List AV} {ds : List D} (hl : ds.length = cs.length) (hc : ∀ (j : Nat) (x : AV) (d : D), cs[j]? = some x → ds[j]? = some d → ToX hp b x d) : ToXV hp b (.ag cs) (.ag ds)
 | dag {cs : List D} {b' : Bool} (hb : b' = true → b = true ∨ plainC cs = true) : ToXV hp b (.d (.ag cs) b') (.ag cs)
def PW {α β : Type} (R : α → β → Prop) (xs : List α) (ds : List β) : Prop := ds.length = xs.length ∧ ∀ (j : Nat) (x : α) (d : β), xs[j]? = some x → ds[j]? = some d → R x d
theorem PW.nil {α β : Type} {R : α → β → Prop} : PW R [] [] := ⟨rfl, fun j x d h => by simp at h⟩
theorem PW.cons {α β : Type} {R : α → β → Prop} {x : α} {d : β} {xs : List α} {ds : List β} (h : R x d) (hs : PW R xs ds) : PW R (x :: xs) (d :: ds) := ⟨by simp [hs.1], fun j y e hy he => by
 cases j with
 | zero => simp at hy he; subst hy; subst he; exact h
 | succ j => exact hs.2 j y e (by simpa using hy) (by simpa using he)⟩
theorem ToX.place {hp : Hp} {b : Bool} {id off : Nat} {cs : List AV} {ds : List D} (h : hp id = some (.bx cs)) (hc : PW (ToX hp b) cs ds) : ToX hp b (.pt id off) (.pt ds off) := .pt h hc.1 hc.2
theorem RV1.of {w : World} {I : Nat → Prop} {d : D} {u : Value} (h : RC w I d u) : RV1 w I d u := by
 cases d <;> first | exact h | cases h
theorem RV.of {w : World} {I : Nat → Prop} {d : D} {u : Value} (h : RV1 w I d u) (hd : ∀ ds, d ≠ .tu ds) : RV w I d u := by
 cases d with
 | tu ds => exact absurd rfl (hd ds)
 | _ => exact h
theorem ToXV.ok {hp : Hp} (hr : HR g c) (hhp : c.hp = hp) {b : Bool} {x : AV} {d : D} (h : ToXV hp b x d) {u : Value} (hu : RAt g c x u) (I : Nat → Prop) (hI : ∀ k, Im g c b k → I k) (hO : ∀ i o, hp i = some o → I (c.φ i)) : RV1 c.w I d u ∧ ∀ ds, d ≠ .tu ds := by
 cases h with
 | one h hx =>
  have h1 := h.ok hr hhp (isCell_ok hx hu) I hI hO
  exact ⟨RV1.of h1, fun ds e => by subst e; cases h1⟩
 | ag hl hc =>
  obtain ⟨vs, rfl, h2, h3⟩ := hu
  rename_i cs ds
  refine ⟨⟨vs, rfl, by omega, fun j d hj => ?_⟩, fun _ e => by cases e⟩
  have hlt : j < cs.length := by
   have := (List.getElem?_eq_some_iff.1 hj).1
   omega
  obtain ⟨y, h4, h5⟩ := h3 j cs[j] (by simp [hlt])
  exact ⟨y, h4, (hc j cs[j] d (by simp [hlt]) hj).ok hr hhp h5 I hI hO⟩
 | @dag cs b' hb =>
  obtain ⟨vs, rfl, h2, h3⟩ := hu
  refine ⟨⟨vs, rfl, h2, fun j d hj => ?_⟩, fun _ e => by cases e⟩
  obtain ⟨y, h4, h5⟩ := h3 j d hj
  refine ⟨y, h4, ?_⟩
  cases b' with
  | false => exact h5.mono (fun _ _ => rfl) fun k hk => hI k (by cases b with | true => exact hk.weak | false => exact hk)
  | true =>
   rcases hb rfl with hb | hb
   ·subst hb
    exact h5.mono (fun _ _ => rfl) hI
   ·exact RC.plain (by simp only [plainC, List.all_eq_true] at hb; exact hb d (List.mem_of_getElem? hj)) h5
inductive ToXR (hp : Hp) (b : Bool) : AV → D → Prop
 | val {x : AV} {d : D} (h : ToXV hp b x d) : ToXR hp b x d
 | tu {cs : List AV} {ds : List D} (hc : PW (ToXV hp b) cs ds) : ToXR hp b (.tu cs) (.tu ds)
theorem ToXR.ok {hp : Hp} (hr : HR g c) (hhp : c.hp = hp) {b : Bool} {x : AV} {d : D} (h : ToXR hp b x d) {u : Value} (hu : RAt g c x u) (I : Nat → Prop) (hI : ∀ k, Im g c b k → I k) (hO : ∀ i o, hp i = some o → I (c.φ i)) : RV c.w I d u := by
 cases h with
 | val h =>
  obtain ⟨h1, h2⟩ := h.ok hr hhp hu I hI hO
  exact RV.of h1 h2
 | @tu cs ds hc =>
  obtain ⟨vs, rfl, h2, h3⟩ := hu
  have hl := hc.1
  refine ⟨vs, rfl, by omega, fun j d hj => ?_⟩
  have hlt : j < cs.length := by
   have := (List.getElem?_eq_some_iff.1 hj).1
   omega
  obtain ⟨y, h4, h5⟩ := h3 j cs[j] (by simp [hlt])
  exact ⟨y, h4, ((hc.2 j cs[j] d (by simp [hlt]) hj).ok hr hhp h5.toAt I hI hO).1⟩
inductive ToXA (hp : Hp) (b : Bool) : AV → DA → Prop
 | d {x : AV} {d : D} (h : ToXV hp b x d) : ToXA hp b x (.d d)
 | fn {f : FuncId} {caps : List AV} {ds : List D} (h : PW (ToX hp b) caps ds) : ToXA hp b (.fn f caps) (.fn f ds)
theorem ToXA.ok {hp : Hp} (hr : HR g c) (hhp : c.hp = hp) {b : Bool} {x : AV} {d : DA} (h : ToXA hp b x d) {u : Value} (hu : RAt g c x u) (I : Nat → Prop) (hI : ∀ k, Im g c b k → I k) (hO : ∀ i o, hp i = some o → I (c.φ i)) : RVA c.w I d u := by
 cases h with
 | d h => exact (h.ok hr hhp hu I hI hO).1
 | @fn f caps ds h =>
  cases (show RA g c (.fn f caps) u from hu) with
  | fn _ _ us n hn hus =>
   have hl := h.1
   refine ⟨us, n, by omega, rfl, fun j x hj => ?_⟩
   have hlt : j < caps.length := by
    have := (List.getElem?_eq_some_iff.1 hj).1
    omega
   exact (h.2 j caps[j] x (by simp [hlt]) hj).ok hr hhp (hus j caps[j] (by simp [hlt])) I hI hO
section
variable {ops : Array Oper} {nx0 nx i : Nat} {k : List It} {Q : Ex → St → Prop} {r : List Oper} {s : St} {dst : Option Nat} {acc : List Rec} {fr : Fr} {hp : Hp} {ids : List Nat}
end
end
end
section
open Go.RowKit
instance baLawful : LawfulBEq ByteArray where
 eq_of_beq {a b} h := by
  cases a; cases b
  have h' : ByteArray.beq _ _ = true := h
  unfold ByteArray.beq at h'
  simpa using h'
 rfl {a} := by
  show ByteArray.beq a a = true
  unfold ByteArray.beq
  simp
section
variable {K α : Type} [BEq K]
end
section
variable {K α : Type} {kv : K → Value} {B : Nat} {vs : Nat → Nat} {f : α → List D} {sz : Nat}
variable [BEq K] [LawfulBEq K] {q : Bool × List TK}
end
section
variable {q : Bool × List TK}
end
section
variable {K α : Type} {kv : K → Value} {B : Nat} {vs : Nat → Nat} {f : α → List D} {sz : Nat}
end
section
variable {P : Program} {tab : Nat → TI} {ops : Array Oper} {nx0 nx i : Nat} {k : List It} {Q : Ex → St → Prop} {r : List Oper} {s : St} {dst : Option Nat} {acc : List Rec} {fr : Fr} {hp : Hp}
end
section
variable (ρ : Operand → AV)
end
section
variable {J R : Nat}
end
theorem valX_t (b : Bool) (cs : List D) : valX b (true, cs) = .d (.ag cs) b := rfl
theorem valX_f (b : Bool) (c : D) : valX b (false, [c]) = lift b c := rfl
theorem zeroC_nil : zeroC (.slice none 0 0) = .sl [] := rfl
theorem zeroC_int (k : IntKind) (n : Int) : zeroC (.int k n) = .v (.int k n) := rfl
theorem zeroC_str (x : ByteArray) : zeroC (.string x) = .v (.string x) := rfl
theorem zeroC_bool (x : Bool) : zeroC (.bool x) = .v (.bool x) := rfl
theorem zeroC_ptr (x : Option Addr) : zeroC (.pointer x) = .v (.pointer x) := rfl
theorem zeroC_map (x : Option Nat) : zeroC (.map x) = .v (.map x) := rfl
attribute [go_sem] zeroX valX_t valX_f zeroC_nil zeroC_int zeroC_str zeroC_bool zeroC_ptr zeroC_map
section
variable {K V : Type} [BEq K] {q : Bool × List TK} {kv : K → Value} {ag b : Bool} {enc : V → List D}
end
section
variable {K α V : Type} {kv : K → Value} {B : Nat} {vs : Nat → Nat} {f : α → List D} {sz : Nat}
end
end
end Go.Proofs.YtgmhbmcdlkajdaaGreatDoor.Ab
