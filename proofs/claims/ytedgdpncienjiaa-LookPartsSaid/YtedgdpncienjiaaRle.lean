/-
  The document's Less.
-/
import Derived.Test.YtedgdpncienjiaaRo
namespace Go.Proofs.Ytedgdpncienjiaa.Ab
open Go.Shelf Go.RowKit

theorem toList_inj {a b : ByteArray} (h : a.toList = b.toList) : a = b := by
  rw [Lib.toList_data, Lib.toList_data] at h
  exact ByteArray.ext (Array.ext' h)
def qD (x : GTuple) : List D := eGTuple x
@[go_sem] theorem qD_len (x : GTuple) : (qD x).length = 6 := rfl
@[go_sem] theorem qD_plain (x : GTuple) : plainC (qD x) = true := rfl
@[go_sem] theorem qD_sub (x : GTuple) : sub 0 6 (qD x) = some (qD x) := rfl
@[go_sem] theorem qD_drop (x : GTuple) : (qD x).drop 6 = [] := rfl
@[go_sem] theorem qD_take (x : GTuple) : (qD x).take 6 = qD x := rfl
def qA (x : GTuple) : List AV := [.v (.string x.obj.type_), .v (.string x.obj.id_), .v (.string x.rel), .v (.string x.sub_.type_), .v (.string x.sub_.id_), .v (.string x.sub_.rel)]
@[go_sem] theorem qD_lift (x : GTuple) (b : Bool) : (qD x).map (lift b) = qA x := rfl
@[go_sem] theorem qA_len (x : GTuple) : (qA x).length = 6 := rfl
@[go_sem] theorem qA_take (x : GTuple) : (qA x).take 6 = qA x := rfl
@[go_sem] theorem qA_drop (x : GTuple) : (qA x).drop 6 = [] := rfl
@[go_sem] theorem qA_ds (hp : Hp) (x : GTuple) : toDs hp (qA x) = some (qD x, false, []) := rfl
theorem six (x : GTuple) : PureOK Try.prog 35 [.ag (qD x)] (.ag (qD x)) true := by
  refine pure_run (tab := tab) tab_ok fol Try.func35 rfl (by kernel_rfl) (by kernel_rfl) (by simp [Try.f35]) ?_
  unfold qD
  simp -implicitDefEqProofs only [go_sem, Nat.reduceEqDiff, Nat.reduceAdd, Nat.reduceLeDiff, reduceCtorEq, ↓reduceIte]
  exact end_pure (by simp -implicitDefEqProofs only [go_sem, Nat.reduceEqDiff, Nat.reduceAdd, ↓reduceIte, Try.f35] <;> rfl) rfl rfl (fun _ => rfl)
theorem qA_at (x : GTuple) {k : Nat} (hk : k < 6) : ∃ s, (tk x)[k]? = some s ∧ (qA x)[k]? = some (.v (.string s)) := by
  match k, hk with
  | 0, _ => exact ⟨_, rfl, rfl⟩
  | 1, _ => exact ⟨_, rfl, rfl⟩
  | 2, _ => exact ⟨_, rfl, rfl⟩
  | 3, _ => exact ⟨_, rfl, rfl⟩
  | 4, _ => exact ⟨_, rfl, rfl⟩
  | 5, _ => exact ⟨_, rfl, rfl⟩
theorem cf_first : ∀ {k : Nat} {X Y : List ByteArray} {s t : ByteArray}, X.take k = Y.take k → X[k]? = some s → Y[k]? = some t → s ≠ t → cfL X Y = cmS s t
  | 0, a :: X, b :: Y, s, t, _, h2, h3, h4 => by
    cases h2
    cases h3
    have : ¬ cmS a b = 0 := fun e => h4 ((cm_zero a b).1 e)
    simp [cfL, orI, this]
  | k + 1, a :: X, b :: Y, s, t, h1, h2, h3, h4 => by
    rw [List.take_succ_cons, List.take_succ_cons] at h1
    injection h1 with e1 e2
    subst e1
    have ih := cf_first (k := k) e2 (by simpa using h2) (by simpa using h3) h4
    unfold cfL at *
    rw [List.zipWith_cons_cons, orI, if_pos ((cm_zero a a).2 rfl), ih]
  | _, [], _, _, _, _, h2, _, _ => by simp at h2
  | _, _ :: _, [], _, _, _, _, h3, _ => by simp at h3
theorem take_more {k : Nat} {X Y : List ByteArray} {s t : ByteArray} (h1 : X.take k = Y.take k) (h2 : X[k]? = some s) (h3 : Y[k]? = some t) (h : s = t) : X.take (k + 1) = Y.take (k + 1) := by
  subst h
  rw [List.take_add_one, List.take_add_one, h1, h2, h3]
theorem less (x y : GTuple) : PureOK Try.prog 26 [.ag (qD x), .ag (qD y)] (.v (.bool (tO.lt x y))) true := by
  refine pure_run (tab := tab) tab_ok fol Try.func26 rfl (by kernel_rfl) (by kernel_rfl) (by simp [Try.f26]) ?_
  simp -implicitDefEqProofs only [go_sem, Nat.reduceEqDiff, Nat.reduceAdd, reduceCtorEq, ↓reduceIte]
  refine onCallD_pure (by simp -implicitDefEqProofs only [go_sem]; rfl) (six x) (.inr rfl) ?_
  simp -implicitDefEqProofs only [go_sem, Bool.and_self, Nat.reduceEqDiff, Nat.reduceAdd, ↓reduceIte]
  refine onCallD_pure (by simp -implicitDefEqProofs only [go_sem]; rfl) (six y) (.inr rfl) ?_
  simp -implicitDefEqProofs only [go_sem, Bool.and_self, Nat.reduceEqDiff, Nat.reduceAdd, ↓reduceIte]
  refine Rd_end (by rfl) ?_
  simp -implicitDefEqProofs only [go_sem, Nat.reduceAdd]
  refine run_loop (fun p : { p : Nat × Nat // p.1 ≤ 6 ∧ (tk x).take p.1 = (tk y).take p.1 } => ⟨upd 7 (.v (.int .i64 (p.1.1 : Int))) (upd 6 (.pt 8 0) (upd 5 (.pt 7 0) (upd 4 (.v (.bool false)) noFr))), upd 8 (some (.bx (qA y))) (upd 7 (some (.bx (qA x))) noHp), p.1.2 + 12⟩) (fun p => 7 - p.1.1) ⟨(0, 0), by simp⟩ ⟨wk_upd rfl (wk_upd rfl (wk_upd rfl (wk_upd rfl (wk_no _)))), wh_upd rfl (wh_upd rfl (wh_no _)), by simp⟩ ?_
  rintro ⟨⟨k, m⟩, hk0, hB⟩
  simp only at hk0 hB
  by_cases hk : k < 6
  · have c1 : decide ((k : Int) < 6) = true := by simp; omega
    obtain ⟨s, e1, e2⟩ := qA_at x hk
    obtain ⟨t, e3, e4⟩ := qA_at y hk
    simp -implicitDefEqProofs only [go_sem, Nat.reduceEqDiff, Nat.reduceAdd, reduceCtorEq, ↓reduceIte, c1, hk, e2, e4]
    refine Rd_end (by rfl) ?_
    simp -implicitDefEqProofs only [go_sem, ↓reduceIte]
    refine onC_split (fun h => ?_) (fun h => ?_)
    · simp -implicitDefEqProofs only [go_sem, Nat.reduceEqDiff, Nat.reduceAdd, reduceCtorEq, ↓reduceIte, hk, e2, e4]
      refine Rd_end (by rfl) ?_
      simp -implicitDefEqProofs only [go_sem]
      have hne : s ≠ t := by rintro rfl; simp at h
      refine end_pure (by simp -implicitDefEqProofs only [go_sem, ↓reduceIte, Try.f26] <;> rfl) rfl ?_ (fun _ => rfl)
      have e5 : tO.lt x y = tx.lt s t := by
        show decide (cfL (tk x) (tk y) < 0) = _
        rw [cf_first hB e1 e3 hne, cm_lt]
      rw [e5]
      rfl
    · have he : s = t := toList_inj (by simpa using h)
      have w2 : IntKind.i64.wrap ((k : Int) + 1) = ((k + 1 : Nat) : Int) := by rw [wr1 (by omega)]
      simp -implicitDefEqProofs only [go_sem, Nat.reduceEqDiff, Nat.reduceAdd, ↓reduceIte, w2]
      exact ⟨⟨(k + 1, _), by omega, take_more hB e1 e3 he⟩, ⟨wk_upd rfl (wk_upd rfl (wk_upd rfl (wk_upd rfl (wk_no _)))), wh_upd rfl (wh_upd rfl (wh_no _)), Nat.le_refl _⟩, by simp only; omega⟩
  · have c1 : decide ((k : Int) < 6) = false := by simp; omega
    simp -implicitDefEqProofs only [go_sem, Nat.reduceAdd, ↓reduceIte, c1]
    have e5 : tO.lt x y = false := by
      have e6 : k = 6 := by omega
      subst e6
      have e7 : tk x = tk y := hB
      rw [tk_inj _ _ e7]
      exact tO.irrefl _
    exact end_pure (by simp -implicitDefEqProofs only [go_sem, ↓reduceIte, Try.f26] <;> rfl) rfl (by rw [e5]) (fun _ => rfl)
def ref1_Less (_n : Nat) (x y : GTuple) : Option Bool := some (tO.lt x y)
theorem ref1_Less_ok {n : Nat} {x y : GTuple} {r : Bool} (h : ref1_Less n x y = some r) : PureOK Try.prog 26 [.ag (eGTuple x), .ag (eGTuple y)] (.v (.bool r)) true := by
  obtain rfl := Option.some.inj h
  exact less x y
end Go.Proofs.Ytedgdpncienjiaa.Ab
