/-
  rows.Plus; the document's Less.
-/
import Derived.Test.YtdckfddlcmkdlaaRo
namespace Go.Proofs.Ytdckfddlcmkdlaa.Ab
open Go.Shelf Go.RowKit

theorem toList_inj {a b : ByteArray} (h : a.toList = b.toList) : a = b := by
  rw [Lib.toList_data, Lib.toList_data] at h
  exact ByteArray.ext (Array.ext' h)
def qD (x : GTuple) : List D := eGTuple x
@[go_sem] theorem qD_len (x : GTuple) : (qD x).length = 6 := rfl
@[go_sem] theorem qD_plain (x : GTuple) : plainC (qD x) = true := rfl
@[go_sem] theorem qD_sub (x : GTuple) : sub 0 6 (qD x) = some (qD x) := rfl
@[go_sem] theorem qD_drop (x : GTuple) : (qD x).drop 6 = [] := rfl
@[go_sem] theorem qD_take (x : GTuple) : (qD x).take 6 = qD x := rfl
def qA (x : GTuple) : List AV := [.v (.string x.obj.type_), .v (.string x.obj.id_), .v (.string x.rel), .v (.string x.sub_.type_), .v (.string x.sub_.id_), .v (.string x.sub_.rel)]
@[go_sem] theorem qD_lift (x : GTuple) (b : Bool) : (qD x).map (lift b) = qA x := rfl
@[go_sem] theorem qA_len (x : GTuple) : (qA x).length = 6 := rfl
@[go_sem] theorem qA_take (x : GTuple) : (qA x).take 6 = qA x := rfl
@[go_sem] theorem qA_drop (x : GTuple) : (qA x).drop 6 = [] := rfl
@[go_sem] theorem qA_ds (hp : Hp) (x : GTuple) : toDs hp (qA x) = some (qD x, false, []) := rfl
theorem six (x : GTuple) : PureOK Try.prog 74 [.ag (qD x)] (.ag (qD x)) true := by
  refine pure_run (tab := tab) tab_ok fol Try.func74 rfl (by kernel_rfl) (by kernel_rfl) (by simp [Try.f74]) ?_
  unfold qD
  simp -implicitDefEqProofs only [go_sem, Nat.reduceEqDiff, Nat.reduceAdd, Nat.reduceLeDiff, reduceCtorEq, ↓reduceIte]
  exact end_pure (by simp -implicitDefEqProofs only [go_sem, Nat.reduceEqDiff, Nat.reduceAdd, ↓reduceIte, Try.f74] <;> rfl) rfl rfl (fun _ => rfl)
theorem qA_at (x : GTuple) {k : Nat} (hk : k < 6) : ∃ s, (tk x)[k]? = some s ∧ (qA x)[k]? = some (.v (.string s)) := by
  match k, hk with
  | 0, _ => exact ⟨_, rfl, rfl⟩
  | 1, _ => exact ⟨_, rfl, rfl⟩
  | 2, _ => exact ⟨_, rfl, rfl⟩
  | 3, _ => exact ⟨_, rfl, rfl⟩
  | 4, _ => exact ⟨_, rfl, rfl⟩
  | 5, _ => exact ⟨_, rfl, rfl⟩
theorem cf_first : ∀ {k : Nat} {X Y : List ByteArray} {s t : ByteArray}, X.take k = Y.take k → X[k]? = some s → Y[k]? = some t → s ≠ t → cfL X Y = cmS s t
  | 0, a :: X, b :: Y, s, t, _, h2, h3, h4 => by
    cases h2
    cases h3
    have : ¬ cmS a b = 0 := fun e => h4 ((cm_zero a b).1 e)
    simp [cfL, orI, this]
  | k + 1, a :: X, b :: Y, s, t, h1, h2, h3, h4 => by
    rw [List.take_succ_cons, List.take_succ_cons] at h1
    injection h1 with e1 e2
    subst e1
    have ih := cf_first (k := k) e2 (by simpa using h2) (by simpa using h3) h4
    unfold cfL at *
    rw [List.zipWith_cons_cons, orI, if_pos ((cm_zero a a).2 rfl), ih]
  | _, [], _, _, _, _, h2, _, _ => by simp at h2
  | _, _ :: _, [], _, _, _, _, h3, _ => by simp at h3
theorem take_more {k : Nat} {X Y : List ByteArray} {s t : ByteArray} (h1 : X.take k = Y.take k) (h2 : X[k]? = some s) (h3 : Y[k]? = some t) (h : s = t) : X.take (k + 1) = Y.take (k + 1) := by
  subst h
  rw [List.take_add_one, List.take_add_one, h1, h2, h3]
theorem less (x y : GTuple) : PureOK Try.prog 54 [.ag (qD x), .ag (qD y)] (.v (.bool (tO.lt x y))) true := by
  refine pure_run (tab := tab) tab_ok fol Try.func54 rfl (by kernel_rfl) (by kernel_rfl) (by simp [Try.f54]) ?_
  simp -implicitDefEqProofs only [go_sem, Nat.reduceEqDiff, Nat.reduceAdd, reduceCtorEq, ↓reduceIte]
  refine onCallD_pure (by simp -implicitDefEqProofs only [go_sem]; rfl) (six x) (.inr rfl) ?_
  simp -implicitDefEqProofs only [go_sem, Bool.and_self, Nat.reduceEqDiff, Nat.reduceAdd, ↓reduceIte]
  refine onCallD_pure (by simp -implicitDefEqProofs only [go_sem]; rfl) (six y) (.inr rfl) ?_
  simp -implicitDefEqProofs only [go_sem, Bool.and_self, Nat.reduceEqDiff, Nat.reduceAdd, ↓reduceIte]
  refine Rd_end (by rfl) ?_
  simp -implicitDefEqProofs only [go_sem, Nat.reduceAdd]
  refine run_loop (fun p : { p : Nat × Nat // p.1 ≤ 6 ∧ (tk x).take p.1 = (tk y).take p.1 } => ⟨upd 7 (.v (.int .i64 (p.1.1 : Int))) (upd 6 (.pt 8 0) (upd 5 (.pt 7 0) (upd 4 (.v (.bool false)) noFr))), upd 8 (some (.bx (qA y))) (upd 7 (some (.bx (qA x))) noHp), p.1.2 + 12⟩) (fun p => 7 - p.1.1) ⟨(0, 0), by simp⟩ ⟨wk_upd rfl (wk_upd rfl (wk_upd rfl (wk_upd rfl (wk_no _)))), wh_upd rfl (wh_upd rfl (wh_no _)), by simp⟩ ?_
  rintro ⟨⟨k, m⟩, hk0, hB⟩
  simp only at hk0 hB
  by_cases hk : k < 6
  · have c1 : decide ((k : Int) < 6) = true := by simp; omega
    obtain ⟨s, e1, e2⟩ := qA_at x hk
    obtain ⟨t, e3, e4⟩ := qA_at y hk
    simp -implicitDefEqProofs only [go_sem, Nat.reduceEqDiff, Nat.reduceAdd, reduceCtorEq, ↓reduceIte, c1, hk, e2, e4]
    refine Rd_end (by rfl) ?_
    simp -implicitDefEqProofs only [go_sem, ↓reduceIte]
    refine onC_split (fun h => ?_) (fun h => ?_)
    · simp -implicitDefEqProofs only [go_sem, Nat.reduceEqDiff, Nat.reduceAdd, reduceCtorEq, ↓reduceIte, hk, e2, e4]
      refine Rd_end (by rfl) ?_
      simp -implicitDefEqProofs only [go_sem]
      have hne : s ≠ t := by rintro rfl; simp at h
      refine end_pure (by simp -implicitDefEqProofs only [go_sem, ↓reduceIte, Try.f54] <;> rfl) rfl ?_ (fun _ => rfl)
      have e5 : tO.lt x y = tx.lt s t := by
        show decide (cfL (tk x) (tk y) < 0) = _
        rw [cf_first hB e1 e3 hne, cm_lt]
      rw [e5]
      rfl
    · have he : s = t := toList_inj (by simpa using h)
      have w2 : IntKind.i64.wrap ((k : Int) + 1) = ((k + 1 : Nat) : Int) := by rw [wr1 (by omega)]
      simp -implicitDefEqProofs only [go_sem, Nat.reduceEqDiff, Nat.reduceAdd, ↓reduceIte, w2]
      exact ⟨⟨(k + 1, _), by omega, take_more hB e1 e3 he⟩, ⟨wk_upd rfl (wk_upd rfl (wk_upd rfl (wk_upd rfl (wk_no _)))), wh_upd rfl (wh_upd rfl (wh_no _)), Nat.le_refl _⟩, by simp only; omega⟩
  · have c1 : decide ((k : Int) < 6) = false := by simp; omega
    simp -implicitDefEqProofs only [go_sem, Nat.reduceAdd, ↓reduceIte, c1]
    have e5 : tO.lt x y = false := by
      have e6 : k = 6 := by omega
      subst e6
      have e7 : tk x = tk y := hB
      rw [tk_inj _ _ e7]
      exact tO.irrefl _
    exact end_pure (by simp -implicitDefEqProofs only [go_sem, ↓reduceIte, Try.f54] <;> rfl) rfl (by rw [e5]) (fun _ => rfl)
def ref1_Less (_n : Nat) (x y : GTuple) : Option Bool := some (tO.lt x y)
theorem ref1_Less_ok {n : Nat} {x y : GTuple} {r : Bool} (h : ref1_Less n x y = some r) : PureOK Try.prog 54 [.ag (eGTuple x), .ag (eGTuple y)] (.v (.bool r)) true := by
  obtain rfl := Option.some.inj h
  exact less x y
theorem cloneT_none {b : Bool} {hp : Hp} {nx : Nat} :
    InlOK Try.prog 55 [.d (.sl []) b] hp nx fun v hp2 nx2 => (v = .v (.slice none 0 0) ∧ hp2 = hp ∧ nx2 = nx + 4) ∨ (v = .so (nx + 3) 1 0 0 ∧ hp2 = upd (nx + 3) (some (.rw [] 6 1 false false)) hp ∧ nx2 = nx + 7) :=
  clone_none (k := 6) (b := b) (hp := hp) (nx := nx) tab_ok fol Try.func55 (T := 23) (B := 4) rfl (by kernel_rfl) (by kernel_rfl) (by decide) rfl (by simp only [go_sem]) (by simp only [go_sem]) (by simp only [go_sem]) (by decide) (by simp only [go_sem]; decide)
theorem plus_pure (xs l : List GTuple) (hn : xs.length + l.length ≤ 4294967296) : PureOK Try.prog 18 [.sl (xs.map eGTuple), .sl (l.map eGTuple)] (.sl ((tO.ofL (xs ++ l)).map eGTuple)) true := by
  have hc : chk 6 (l.map eGTuple) = true := by simp [chk, eGTuple]
  have hp : plainR (l.map eGTuple) = true := plainR_map (f := eGTuple) (fun _ => rfl) l
  refine pure_run (tab := tab) tab_ok fol Try.func18 rfl (by kernel_rfl) (by kernel_rfl) (by simp [Try.f18]) ?_
  simp -implicitDefEqProofs only [go_sem, Nat.reduceAdd, reduceCtorEq, ↓reduceIte]
  by_cases h0 : 0 < xs.length
  · refine onCall_inl ((cloneT_in xs h0 (by omega)).mono ?_)
    rintro v hp2 nx2 ⟨rfl, rfl, rfl⟩
    simp -implicitDefEqProofs only [go_sem, Nat.reduceLT, Nat.reduceEqDiff, Nat.reduceAdd, Nat.reduceLeDiff, ↓reduceIte]
    rw [if_pos ⟨hc, hn⟩, ← List.map_append, hp]
    simp -implicitDefEqProofs only [go_sem, Nat.reduceAdd, ↓reduceIte]
    have ht : (xs.map eGTuple ++ l.map eGTuple).take (xs.length + l.length) = xs.map eGTuple ++ l.map eGTuple := List.take_of_length_le (by simp)
    refine onCall_pure (by simp -implicitDefEqProofs only [go_sem, ↓reduceIte, ht]; rw [← List.map_append]) (rowsOf_pure (xs ++ l) (by simpa using hn)) (.inr rfl) ?_
    simp -implicitDefEqProofs only [go_sem, Bool.and_self, Nat.reduceAdd, ↓reduceIte]
    exact end_pure (v := .d (.sl ((tO.ofL (xs ++ l)).map eGTuple)) false) (b := false) (is := []) (by simp -implicitDefEqProofs only [go_sem, ↓reduceIte, Try.f18] <;> rfl) rfl rfl (fun _ => rfl)
  · have e : xs = [] := List.eq_nil_of_length_eq_zero (by omega)
    subst e
    have hn' : l.length ≤ 4294967296 := by simpa using hn
    refine onCall_inl (cloneT_none.mono ?_)
    rintro v hp2 nx2 (⟨rfl, rfl, rfl⟩ | ⟨rfl, rfl, rfl⟩)
    · simp -implicitDefEqProofs only [go_sem, Nat.reduceLT, Nat.reduceEqDiff, Nat.reduceAdd, Nat.reduceLeDiff, ↓reduceIte]
      rw [if_pos ⟨hc, hn'⟩, hp]
      cases l with
      | nil =>
        simp -implicitDefEqProofs only [go_sem, Nat.reduceAdd, ↓reduceIte]
        refine onCall_pure (by simp -implicitDefEqProofs only [go_sem] <;> rfl) (rowsOf_pure [] (by simp)) (.inr rfl) ?_
        simp -implicitDefEqProofs only [go_sem, Bool.and_self, Nat.reduceAdd, ↓reduceIte]
        exact end_pure (v := .d (.sl ((tO.ofL ([])).map eGTuple)) false) (b := false) (is := []) (by simp -implicitDefEqProofs only [go_sem, ↓reduceIte, Try.f18] <;> rfl) rfl rfl (fun _ => rfl)
      | cons x r =>
        simp -implicitDefEqProofs only [go_sem, Nat.reduceAdd, ↓reduceIte]
        have ht : ((x :: r).map eGTuple).take (r.length + 1) = (x :: r).map eGTuple := List.take_of_length_le (by simp)
        refine onCall_pure (by simp -implicitDefEqProofs only [go_sem, ↓reduceIte] <;> rfl) (rowsOf_pure (x :: r) hn') (.inr rfl) ?_
        simp -implicitDefEqProofs only [go_sem, Bool.and_self, Nat.reduceAdd, ↓reduceIte]
        exact end_pure (v := .d (.sl ((tO.ofL (x :: r)).map eGTuple)) false) (b := false) (is := []) (by simp -implicitDefEqProofs only [go_sem, ↓reduceIte, Try.f18] <;> rfl) rfl rfl (fun _ => rfl)
    · simp -implicitDefEqProofs only [go_sem, Nat.reduceLT, Nat.reduceEqDiff, Nat.reduceAdd, Nat.reduceLeDiff, ↓reduceIte]
      rw [if_pos ⟨hc, hn'⟩, hp]
      simp -implicitDefEqProofs only [go_sem, Nat.reduceAdd, ↓reduceIte]
      refine onCall_pure (by simp -implicitDefEqProofs only [go_sem, ↓reduceIte] <;> rfl) (rowsOf_pure l hn') (.inr rfl) ?_
      simp -implicitDefEqProofs only [go_sem, Bool.and_self, Nat.reduceAdd, ↓reduceIte]
      exact end_pure (v := .d (.sl ((tO.ofL l).map eGTuple)) false) (b := false) (is := []) (by simp -implicitDefEqProofs only [go_sem, ↓reduceIte, Try.f18] <;> rfl) rfl rfl (fun _ => rfl)
def rows_Plus (_n : Nat) (a l : List GTuple) : Option (List GTuple) := if a.length + l.length ≤ 4294967296 then some (tO.ofL (a ++ l)) else none
theorem rows_Plus_ok {n : Nat} {a l r : List GTuple} (h : rows_Plus n a l = some r) : PureOK Try.prog 18 [D.sl (List.map eGTuple a), D.sl (List.map eGTuple l)] (D.sl (List.map eGTuple r)) true := by
  unfold rows_Plus at h
  split at h
  · rename_i hn
    obtain rfl := Option.some.inj h
    exact plus_pure a l hn
  · cases h
end Go.Proofs.Ytdckfddlcmkdlaa.Ab
