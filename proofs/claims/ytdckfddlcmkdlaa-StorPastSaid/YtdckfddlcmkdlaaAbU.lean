/-
  Lists of texts: Clone, Sort, Compact of the library.
-/
import Derived.Sort.EncStr
import Derived.Lib.OwnBridge
import Derived.Sort.Grow
import Derived.Test.YtdckfddlcmkdlaaAbJ
namespace Go.Proofs.Ytdckfddlcmkdlaa.Ab
open Go.RowKit Go.Sort Go.Proofs
section
variable {P : Program} {tab : Nat → TI}
/-- Clone of a list that is not empty: a list of one's own. -/
theorem clone_inl (ht : TabOk P tab) (hm : P.follows .mixedOrders = true) {f : FuncId} {fn : Func} {T B : TypeId} (hf : P.funcs[f]? = some fn) (hb : fn.body = some (cloneBody T B)) (hname : (fn.name == "runtime.NumGoroutine") = false) (hd : dstsB fn.ntmps (cloneBody T B) = true) (hl : 1 ≤ fn.ntmps) (hr : fn.results = #[.tmp 2])
    (hk : (tab T).kind = .slice) (ho : (tab (tab T).elem).ok = true) (hs : 0 < (tab (tab T).elem).size) (hbt : (tab (tab T).elem).bytes ≤ 32768) {x : List D} {es : List (List D)} {b : Bool} {hp : Hp} {nx : Nat}
    (hz : (x.length == (tab (tab T).elem).size && es.all fun e => e.length == (tab (tab T).elem).size) = true) (hn : es.length + 1 ≤ 4294967296) :
    InlOK P f [.d (.sl (x :: es)) b] hp nx fun v hp2 nx2 => nx2 = nx + 7 ∧ v = .so (nx + 3) 1 0 (es.length + 1) ∧ hp2 = upd (nx + 3) (some (.rw (x :: es) (tab (tab T).elem).size 1 (b && !(plainC x && plainR es)) false)) hp := by
  refine inl_run (tab := tab) ht hm hf hb hname hd (by simpa using hl) ?_
  rw [hr]
  unfold cloneBody
  simp -implicitDefEqProofs only [go_sem, Nat.reduceEqDiff, Nat.reduceAdd, reduceCtorEq, ↓reduceIte, hk, ho, hs, hbt, Nat.zero_mul, Nat.zero_le, and_self, true_and, List.map, List.all, chk, frz, toDl]
  rw [if_pos ⟨hz, hn⟩]
  simp -implicitDefEqProofs only [go_sem, Nat.reduceAdd, ↓reduceIte]
  exact end_ret (by simp -implicitDefEqProofs only [go_sem, ↓reduceIte] <;> rfl) ⟨rfl, rfl, upd_upd _ _ _ _⟩

end
end Go.Proofs.Ytdckfddlcmkdlaa.Ab

namespace Go.Proofs.Ytdckfddlcmkdlaa.Ab
open Go.RowKit

/-- A called function's ends, told as one state. -/
def EndJ {α : Type} (n : Nat) (σ : α → St) (e : Ex) (s : St) : Prop :=
  match e with
  | .exit _ => False
  | _ => ∃ y, WeakR n (σ y) s
theorem endJ_ret {α : Type} {n : Nat} {σ : α → St} {s : St} (y : α) (h : WeakR n (σ y) s) : EndJ n σ .ret s := ⟨y, h⟩
section
variable {P : Program} {tab : Nat → TI}
theorem inl_runRJ (ht : TabOk P tab) {f : FuncId} {fn : Func} {code : Code} (hf : P.funcs[f]? = some fn) (hb : fn.body = some code) (hname : (fn.name == "runtime.NumGoroutine") = false) (hd : dstsB fn.ntmps code = true) {vs : List AV} {hp : Hp} {nx : Nat}
    (hlen : vs.length ≤ fn.ntmps) {α : Type} (σ : α → St) (V : α → AV) (hV : ∀ y, resA tab fn.results (σ y) = some (V y)) (h : runR nx P [.c code] (EndJ nx σ) ⟨frOf vs, hp, nx⟩) :
    InlOK P f vs hp nx fun v hp2 nx2 => ∃ y, v = V y ∧ hp2 = (σ y).hp ∧ nx2 = (σ y).nx := by
  refine inl_runR ht hf hb hname hd hlen ?_
  intro g N c act hd' hs hn
  refine Code.wp_mono (fun e a' w' hp => ?_) ((show SemR nx P code (contR nx P [] (EndJ nx σ)) _ from h) g N c act hd' hs hn)
  obtain ⟨ex, s', c', h1, h2, h3, h4, h5, h6, h7⟩ := hp
  have key : (∃ y, WeakR nx (σ y) s') → PostR g N (contR nx P [] (EndW tab fn.results fun v hp2 nx2 => ∃ y, v = V y ∧ hp2 = (σ y).hp ∧ nx2 = (σ y).nx)) nx c e a' w' := by
    rintro ⟨y, hw⟩
    obtain ⟨c2, q1, q2, q3, q4, q5⟩ := h3.weakR h6 hw
    have fin : EndW tab fn.results (fun v hp2 nx2 => ∃ y, v = V y ∧ hp2 = (σ y).hp ∧ nx2 = (σ y).nx) .ret (σ y) := ⟨V y, (σ y).hp, hV y, ⟨fun _ => .inr rfl⟩, y, rfl, rfl, rfl⟩
    have kn : ∀ i, c2.kn i → c.kn i ∨ nx ≤ i := fun i hi => by
      rcases q5 i hi with h8 | h8
      · exact h7 i h8
      · exact .inr h8
    cases ex with
    | normal => exact ⟨.normal, σ y, c2, h1, fin, q1, q2.trans h4, h5.trans q3, q4, kn⟩
    | ret => exact ⟨.ret, σ y, c2, h1, fin, q1, q2.trans h4, h5.trans q3, q4, kn⟩
    | exit m => exact (show False from h2).elim
  cases ex with
  | normal => exact key h2
  | ret => exact key h2
  | exit m => exact (show False from h2).elim
variable {ops : Array Oper} {nx0 nx : Nat} {k : List It} {Q : Ex → St → Prop} {i : Nat} {r : List Oper} {dst : Option Nat} {acc : List Rec} {ids : List Nat} {fr : Fr} {hp : Hp}
/-- A call that may look at all and change all, in an open order: where nothing else may stand beside it. -/
theorem onCallD_one {g : FuncId} {caps vs : List AV} {v : AV} {δ : List (Nat × AO)} {nx' : Nat} (h1 : InlOK P g (vs ++ caps) hp nx fun v2 hp2 nx2 => v2 = v ∧ hp2 = upds δ hp ∧ nx2 = nx') (h : Rd P tab ops nx0 nx' k Q i r (⟨[sent], δ.map (·.1), true⟩ :: acc) (putS dst v fr) (upds δ hp)) :
    onCallD P tab ops nx0 nx k Q i r dst acc ids fr hp (.fn g caps) vs :=
  onCallD_det (ids' := [sent]) (fun hp1 hq => by rw [hq.2 (List.mem_singleton.2 rfl)]; exact h1) h
end
end Go.Proofs.Ytdckfddlcmkdlaa.Ab

namespace Go.Proofs.Ytdckfddlcmkdlaa.Ab
open Go.RowKit
section
variable {P : Program} {tab : Nat → TI}
/-- A row of one's own may be told as less than it holds, under a new version. -/
theorem inl_cut {f : FuncId} {vs : List AV} {hp0 hp : Hp} {nx id ver sz m : Nat} {br : Bool} {es : List (List D)} (h : InlOK P f vs hp0 nx fun v hp2 _ => ∃ es', m ≤ es'.length ∧ es'.take m = es ∧ v = .so id ver 0 m ∧ hp2 = upd id (some (.rw es' sz ver br false)) hp) :
    InlOK P f vs hp0 nx fun v hp2 _ => v = .so id (ver + 1) 0 m ∧ hp2 = upd id (some (.rw es sz (ver + 1) br false)) hp := by
  refine ⟨h.1, fun g c args hhp hkn hr hsz hargs => (h.2 g c args hhp hkn hr hsz hargs).mono ?_⟩
  rintro e w' ⟨u, v, c', nx', he, ⟨es', hm, rfl, rfl, e2⟩, rfl, e5, e6, e7, e8, e9⟩
  have hi : c'.hp id = some (.rw es' sz ver br false) := by rw [e2, upd_same]
  obtain ⟨hk0, hz, T, cur, C, h3, h4, h5, h6, h7⟩ := e6.obj id _ hi
  obtain ⟨_, _, hbs⟩ := e6.dom id _ hi
  have hext : Ext c' ⟨upd id (some (.rw (es'.take m) sz (ver + 1) br false)) c'.hp, upd id (c'.φ id) c'.φ, c'.w, c'.kn⟩ := by
    refine Ext.chg e6 hi rfl rfl rfl rfl (Nat.le_refl _) (fun _ _ _ => rfl) (.inl rfl) (fun _ h => h) (fun h => by cases h) (fun es2 sz2 v2 br2 fz2 e => ?_) (Nat.le_refl _)
    cases e
    exact ⟨es', ver, br, false, rfl, Nat.le_succ _, fun e => by omega⟩
  have hh : HR g ⟨upd id (some (.rw (es'.take m) sz (ver + 1) br false)) c'.hp, upd id (c'.φ id) c'.φ, c'.w, c'.kn⟩ := by
    refine HR.chg e6 hi hext (fun _ _ _ => rfl) (.inl rfl) hbs ⟨hk0, fun i cs hi2 => ?_, T, cur, C, by simp only [upd_same]; exact h3, h4, by rw [List.length_take]; omega, h6, fun i j cs d hi2 hj => ?_⟩
    · rw [List.getElem?_take] at hi2
      split at hi2
      · exact hz i cs hi2
      · cases hi2
    · rw [List.getElem?_take] at hi2
      split at hi2
      · obtain ⟨u2, k1, k2⟩ := h7 i j cs d hi2 hj
        exact ⟨u2, k1, k2.ext hext⟩
      · cases hi2
  refine ⟨u, .so id (ver + 1) 0 m, ⟨upd id (some (.rw (es'.take m) sz (ver + 1) br false)) c'.hp, upd id (c'.φ id) c'.φ, c'.w, c'.kn⟩, nx', he, ⟨rfl, ?_⟩, rfl, e5.trans hext, hh, ?_, e8, e9⟩
  · show upd id (some (.rw (es'.take m) sz (ver + 1) br false)) c'.hp = _
    rw [e2, upd_upd]
  · have h8 : RA g c' (.so id ver 0 m) u := e7
    cases h8 with
    | so _ _ _ _ _ hkn2 hp2 h9 =>
      obtain ⟨_, k2⟩ := h9 _ _ _ _ _ hi
      obtain ⟨k3, cur2, T2, C2, k4, k5, k6⟩ := k2 rfl
      refine (show RA g _ (.so id (ver + 1) 0 m) _ from RA.so id (ver + 1) 0 m _ hkn2 hp2 fun es2 sz2 v2 br2 fz2 e => ?_)
      have e' := (upd_same id (some (AO.rw (es'.take m) sz (ver + 1) br false)) c'.hp).symm.trans e
      cases e'
      refine ⟨Nat.le_refl _, fun _ => ⟨by rw [List.length_take]; omega, cur2, T2, C2, ?_, k5, ?_⟩⟩
      · simp only [upd_same]; exact k4
      · simp only [upd_same]; exact k6
/-- Clone of a list that is not empty. -/
theorem clone_map (ht : TabOk P tab) (hm : P.follows .mixedOrders = true) {f : FuncId} {fn : Func} {T B : TypeId} (hf : P.funcs[f]? = some fn) (hb : fn.body = some (cloneBody T B)) (hname : (fn.name == "runtime.NumGoroutine") = false) (hd : dstsB fn.ntmps (cloneBody T B) = true) (hl : 1 ≤ fn.ntmps) (hr : fn.results = #[.tmp 2])
    (hk : (tab T).kind = .slice) (ho : (tab (tab T).elem).ok = true) {k : Nat} (hs0 : (tab (tab T).elem).size = k) (hs : 0 < k) (hbt : (tab (tab T).elem).bytes ≤ 32768) {α : Type} {e : α → List D} (he : ∀ x, (e x).length = k) (xs : List α) (h0 : 0 < xs.length) (hn : xs.length ≤ 4294967296) {b : Bool} {hp : Hp} {nx : Nat} :
    InlOK P f [.d (.sl (xs.map e)) b] hp nx fun v hp2 nx2 => v = .so (nx + 3) 1 0 xs.length ∧ hp2 = upd (nx + 3) (some (.rw (xs.map e) k 1 (b && !(plainR (xs.map e))) false)) hp ∧ nx2 = nx + 7 := by
  subst hs0
  obtain ⟨x, r, rfl⟩ : ∃ x r, xs = x :: r := by cases xs with | nil => simp at h0 | cons x r => exact ⟨x, r, rfl⟩
  have h := clone_inl (x := e x) (es := r.map e) (b := b) (hp := hp) (nx := nx) ht hm hf hb hname hd hl hr hk ho hs hbt (by simp [he]) (by simp at hn ⊢; omega)
  refine h.mono ?_
  rintro v hp2 nx2 ⟨h1, h2, h3⟩
  exact ⟨by simpa using h2, h3, h1⟩
/-- Clone of an empty list: nil, or an empty row of one's own. -/
theorem clone_none (ht : TabOk P tab) (hm : P.follows .mixedOrders = true) {f : FuncId} {fn : Func} {T B : TypeId} (hf : P.funcs[f]? = some fn) (hb : fn.body = some (cloneBody T B)) (hname : (fn.name == "runtime.NumGoroutine") = false) (hd : dstsB fn.ntmps (cloneBody T B) = true) (hl : 1 ≤ fn.ntmps) (hr : fn.results = #[.tmp 2])
    (hk : (tab T).kind = .slice) (ho : (tab (tab T).elem).ok = true) {k : Nat} (hs0 : (tab (tab T).elem).size = k) (hs : 0 < k) (hbt : (tab (tab T).elem).bytes ≤ 32768) {b : Bool} {hp : Hp} {nx : Nat} :
    InlOK P f [.d (.sl []) b] hp nx fun v hp2 nx2 => (v = .v (.slice none 0 0) ∧ hp2 = hp ∧ nx2 = nx + 4) ∨ (v = .so (nx + 3) 1 0 0 ∧ hp2 = upd (nx + 3) (some (.rw [] k 1 false false)) hp ∧ nx2 = nx + 7) := by
  subst hs0
  refine inl_runS ht hf hb hname hd (by simpa using hl) ?_
  rw [hr]
  unfold cloneBody
  refine runS_seq (runS_step ht hm ?_)
  simp -implicitDefEqProofs only [go_sem]
  refine runS_seq (runS_seq (runS_regionN ht ?_))
  rw [show List.range (Array.size _) = [0, 1] from rfl, WLN_step (o := _) rfl rfl, execN_no rfl]
  refine Eq.mpr execW_move ?_
  rw [WLN_step (o := _) rfl rfl, execN_yes (by simp [nilCmp, ev, putS, upd_at, hk, ofV, frOf])]
  intro t
  refine runS_plain ht hm ?_
  show run P tab _ _ ⟨upd 4 (.v (.bool t)) (upd 3 (.d (.sl []) b) (upd 2 (.v (.slice none 0 0)) (frOf [.d (.sl []) b]))), _, _⟩
  cases t with
  | true =>
    simp -implicitDefEqProofs only [go_sem, Nat.reduceAdd, ↓reduceIte]
    exact end_ret (v := .v (.slice none 0 0)) rfl (.inl ⟨rfl, rfl, rfl⟩)
  | false =>
    simp -implicitDefEqProofs only [go_sem, Nat.reduceEqDiff, Nat.reduceAdd, reduceCtorEq, ↓reduceIte, hk, ho, hs, hbt, Nat.zero_mul, Nat.zero_le, and_self, List.map, List.all, chk, frz, toDl]
    exact end_ret (v := .so (nx + 3) 1 0 0) rfl (.inr ⟨rfl, upd_upd _ _ _ _, rfl⟩)
theorem inl_upd {f : FuncId} {vs : List AV} {hp : Hp} {nx id : Nat} {o : AO} {R : AV → Hp → Nat → Prop} (hi : hp id = some o) (h : InlOK P f vs (upd id (some o) hp) nx R) : InlOK P f vs hp nx R := by
  rwa [upd_self hi] at h
end
end Go.Proofs.Ytdckfddlcmkdlaa.Ab
namespace Go.Proofs.Ytdckfddlcmkdlaa.Ab
section
/-! ### Structures compared -/
theorem valsOf_nil : valsOf [] = some [] := rfl
theorem valsOf_cons (x : Value) (r : List AV) : valsOf (.v x :: r) = (valsOf r).map (x :: ·) := rfl
theorem map_some_cons (x : Value) (r : List Value) : (some r).map (x :: ·) = some (x :: r) := rfl
theorem eqK_one (k : TK) (x y : Value) : eqK [k] [x] [y] = eq1 k x y := by
  show (match eq1 k x y, some true with
    | some b, some c => some (b && c)
    | _, _ => none) = _
  cases eq1 k x y <;> simp
theorem eqK_two (k k2 : TK) (ks : List TK) (x x2 y y2 : Value) (xs ys : List Value) : eqK (k :: k2 :: ks) (x :: x2 :: xs) (y :: y2 :: ys) = match eq1 k x y, eqK (k2 :: ks) (x2 :: xs) (y2 :: ys) with
    | some b, some c => some (b && c)
    | _, _ => none := rfl
theorem eq1_string (a b : ByteArray) : eq1 .string (.string a) (.string b) = some (a == b) := rfl
theorem eq1_bool (a b : Bool) : eq1 .bool (.bool a) (.bool b) = some (a == b) := rfl
theorem eq1_int (k : IntKind) (a b : Int) : eq1 (.int k) (.int k a) (.int k b) = some (a == b) := if_pos ⟨rfl, rfl⟩
attribute [go_sem] valsOf_nil valsOf_cons map_some_cons eqK_one eqK_two eq1_string eq1_bool eq1_int
end
end Go.Proofs.Ytdckfddlcmkdlaa.Ab
