/-
 What the index answers of types and users: rows of one's own, or nil.
-/
import Derived.Test.YtjkdbakgnnhdnaaGreatOlo
namespace Go.Proofs.YtjkdbakgnnhdnaaGreat.Ab
open Go.Shelf Go.RowKit Go.Sort
theorem inl_same1 {P : Program} {f : FuncId} {x y : Value} (hE : Enters P f) (hy : y.oneCell' = true) (h : ∀ w, Calls P f #[x] w fun e w' => e = .returned y ∧ w' = w) {hp : Hp} {nx : Nat} : InlOK P f [.v x] hp nx fun v hp2 nx2 => v = .v y ∧ hp2 = hp ∧ nx2 = nx := by
 refine ⟨hE, fun g c args hhp hkn hr hsz hall => ?_⟩
 obtain ⟨u, h1, h2⟩ := hall 0 _ rfl
 cases (show RA g c (.v x) u from h2)
 have ha : args = #[x] := by
  apply Array.ext
  ·simpa using hsz
  ·intro j h3 h4
   have hj : j = 0 := by simp at h4; omega
   subst hj
   simpa [h3] using h1
 subst ha
 refine (h c.w).mono ?_
 rintro e w' ⟨rfl, rfl⟩
 exact ⟨y, .v y, c, nx, rfl, ⟨rfl, hhp, rfl⟩, rfl, Ext.refl c, hr, RA.v y hy, Nat.le_refl _, fun i hi => .inl hi⟩
theorem clone_nilv {hp : Hp} {nx : Nat} : InlOK Tryz.prog 27 [.v (.slice none 0 0)] hp nx fun v hp2 nx2 => v = .v (.slice none 0 0) ∧ hp2 = hp ∧ nx2 = nx + 4 := by
 refine inl_run (tab := tab) tab_ok fol Tryz.func27 rfl (by kernel_rfl) (by kernel_rfl) (by simp [Tryz.f27]) ?_
 simp -implicitDefEqProofs only [go_sem, Nat.reduceEqDiff, Nat.reduceAdd, Nat.reduceLeDiff, reduceCtorEq, ↓reduceIte]
 exact end_ret (v := .v (.slice none 0 0)) (by simp -implicitDefEqProofs only [go_sem, ↓reduceIte, Tryz.f27] <;> rfl) ⟨rfl, rfl, rfl⟩
theorem compact_nilv {hp : Hp} {nx : Nat} : InlOK Tryz.prog 40 [.v (.slice none 0 0)] hp nx fun v hp2 nx2 => v = .v (.slice none 0 0) ∧ hp2 = hp ∧ nx2 = nx :=
 inl_same1 enCompact rfl fun w => Calls.mono (calls_of_every_depth fun D => AnyS.slices_Compact_string_empty_in Tryz.laysCompact D none 0 w) fun e w' h => h
theorem once_nilv {hp : Hp} {nx : Nat} : InlOK Tryz.prog 24 [.v (.slice none 0 0)] hp nx fun v hp2 nx2 => v = .v (.slice none 0 0) ∧ hp2 = hp ∧ nx2 = nx + 13 := by
 refine inl_run (tab := tab) tab_ok fol Tryz.func24 rfl (by kernel_rfl) (by kernel_rfl) (by simp [Tryz.f24]) ?_
 simp -implicitDefEqProofs only [go_sem, Nat.reduceEqDiff, Nat.reduceAdd, Nat.reduceLeDiff, reduceCtorEq, ↓reduceIte]
 refine onCall_inl (clone_nilv.mono ?_)
 rintro v hp2 nx2 ⟨rfl, rfl, rfl⟩
 simp -implicitDefEqProofs only [go_sem, Nat.reduceEqDiff, Nat.reduceAdd, Nat.reduceLeDiff, reduceCtorEq, ↓reduceIte]
 refine onCall_pure (by simp -implicitDefEqProofs only [go_sem] <;> rfl) sort0_ok (.inr rfl) ?_
 simp -implicitDefEqProofs only [go_sem, Nat.reduceEqDiff, Nat.reduceAdd, Nat.reduceLeDiff, reduceCtorEq, ↓reduceIte]
 refine onCall_inl (compact_nilv.mono ?_)
 rintro v hp2 nx2 ⟨rfl, rfl, rfl⟩
 simp -implicitDefEqProofs only [go_sem, Nat.reduceEqDiff, Nat.reduceAdd, Nat.reduceLeDiff, reduceCtorEq, ↓reduceIte]
 exact end_ret (v := .v (.slice none 0 0)) (by simp -implicitDefEqProofs only [go_sem, ↓reduceIte, Tryz.f24] <;> rfl) ⟨rfl, rfl, rfl⟩
def look_own (n : Nat) (m : List (ByteArray × List ByteArray)) (t : ByteArray) : Option (List ByteArray) :=
 if mhas t m then (if decide ((mgetD t [] m).length = 0) then none else (look_once n (mgetD t [] m)).bind fun r => if decide (r.length = 0) then none else some r) else some []
theorem look_own_has {n : Nat} {m : List (ByteArray × List ByteArray)} {t : ByteArray} {r : List ByteArray} (H : look_own n m t = some r) (h : 0 < r.length) : mhas t m = true ∧ 0 < (mgetD t [] m).length ∧ look_once n (mgetD t [] m) = some r := by
 unfold look_own at H
 cases hm : mhas t m with
 | false => rw [hm, if_neg Bool.false_ne_true] at H; cases H; simp at h
 | true =>
  rw [hm, if_pos rfl] at H
  rcases zit H with ⟨_, h2⟩ | ⟨h1, H⟩
  ·cases h2
  ·obtain ⟨q, hq, H⟩ := zbi H
   rcases zit H with ⟨_, h2⟩ | ⟨_, H⟩
   ·cases h2
   ·cases H
    exact ⟨rfl, by have := of_decide_eq_false h1; omega, hq⟩
theorem look_own_not {n : Nat} {m : List (ByteArray × List ByteArray)} {t : ByteArray} {r : List ByteArray} (H : look_own n m t = some r) (h : decide (r.length = 0) = true) : mhas t m = false := by
 unfold look_own at H
 cases hm : mhas t m with
 | false => rfl
 | true =>
  rw [hm, if_pos rfl] at H
  rcases zit H with ⟨_, h2⟩ | ⟨_, H⟩
  ·cases h2
  ·obtain ⟨q, _, H⟩ := zbi H
   rcases zit H with ⟨_, h2⟩ | ⟨h1, H⟩
   ·cases h2
   ·cases H
    rw [h] at h1
    cases h1
def look_Types (n : Nat) (x : LookIndex) (t : ByteArray) : Option (List ByteArray) := look_own n x.left.objs t
theorem look_Types_in {n : Nat} {x : LookIndex} {t : ByteArray} {r : List ByteArray} (H : look_Types n x t = some r) (h0 : 0 < r.length) {b : Bool} {hp : Hp} {nx : Nat} :
  InlOK Tryz.prog 10 [.d (D.pt (eLookIndex x) 0) b, .v (.string t)] hp nx fun v hp2 nx2 => v = .so (nx + 16) 2 0 r.length ∧ hp2 = upd (nx + 16) (some (.rw (List.map eS r) 1 2 false false)) hp ∧ nx2 = nx + 25 := by
 obtain ⟨hm, hl, h2⟩ := look_own_has H h0
 have h1 : lookA (false, [.string]) (.string t) (.v (.slice none 0 0)) false (dEnts b (encMp Value.string false (eL eS) x.left.objs)) = some (.d (.sl (List.map eS (mgetD t [] x.left.objs))) b, []) := lookD_has (b := b) (ag := false) (enc := (eL eS)) key_str t ([] : List ByteArray) x.left.objs _ hm
 refine inl_run (tab := tab) tab_ok fol Tryz.func10 rfl (by kernel_rfl) (by kernel_rfl) (by simp [Tryz.f10]) ?_
 simp -implicitDefEqProofs only [go_sem, Nat.reduceEqDiff, Nat.reduceAdd, reduceCtorEq, ↓reduceIte, eLookIndex, h1]
 refine onCall_inl ((look_once_in h2 hl).mono ?_)
 rintro v hp2 nx2 ⟨rfl, rfl, rfl⟩
 simp -implicitDefEqProofs only [go_sem, Nat.reduceEqDiff, Nat.reduceAdd, Nat.reduceLeDiff, reduceCtorEq, ↓reduceIte]
 exact end_ret (v := .so (nx + 16) 2 0 r.length) (by simp -implicitDefEqProofs only [go_sem, ↓reduceIte, Tryz.f10] <;> rfl) ⟨rfl, rfl, rfl⟩
theorem look_Types_nil {n : Nat} {x : LookIndex} {t : ByteArray} {r : List ByteArray} (H : look_Types n x t = some r) (h0 : decide (r.length = 0) = true) {b : Bool} {hp : Hp} {nx : Nat} :
  InlOK Tryz.prog 10 [.d (D.pt (eLookIndex x) 0) b, .v (.string t)] hp nx fun v hp2 nx2 => v = .v (.slice none 0 0) ∧ hp2 = hp ∧ nx2 = nx + 22 := by
 have hm := look_own_not H h0
 have h1 : lookA (false, [.string]) (.string t) (.v (.slice none 0 0)) false (dEnts b (encMp Value.string false (eL eS) x.left.objs)) = some (.v (.slice none 0 0), []) := lookD_not (b := b) (ag := false) (enc := (eL eS)) key_str t x.left.objs _ hm
 refine inl_run (tab := tab) tab_ok fol Tryz.func10 rfl (by kernel_rfl) (by kernel_rfl) (by simp [Tryz.f10]) ?_
 simp -implicitDefEqProofs only [go_sem, Nat.reduceEqDiff, Nat.reduceAdd, reduceCtorEq, ↓reduceIte, eLookIndex, h1]
 refine onCall_inl (once_nilv.mono ?_)
 rintro v hp2 nx2 ⟨rfl, rfl, rfl⟩
 simp -implicitDefEqProofs only [go_sem, Nat.reduceEqDiff, Nat.reduceAdd, Nat.reduceLeDiff, reduceCtorEq, ↓reduceIte]
 exact end_ret (v := .v (.slice none 0 0)) (by simp -implicitDefEqProofs only [go_sem, ↓reduceIte, Tryz.f10] <;> rfl) ⟨rfl, rfl, rfl⟩
end Go.Proofs.YtjkdbakgnnhdnaaGreat.Ab
