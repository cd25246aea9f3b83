/-
 look.once, where what it answers is a row of one's own.
-/
import Derived.Test.YtjkdbakgnnhdnaaGreatOlm
namespace Go.Proofs.YtjkdbakgnnhdnaaGreat.Ab
open Go.RowKit
theorem inl_cutN {P : Program} {f : FuncId} {vs : List AV} {hp0 hp : Hp} {nx id ver sz m N : Nat} {br : Bool} {es : List (List D)} (h : InlOK P f vs hp0 nx fun v hp2 nx2 => ∃ es', m ≤ es'.length ∧ es'.take m = es ∧ v = .so id ver 0 m ∧ hp2 = upd id (some (.rw es' sz ver br false)) hp ∧ nx2 = N) :
  InlOK P f vs hp0 nx fun v hp2 nx2 => v = .so id (ver + 1) 0 m ∧ hp2 = upd id (some (.rw es sz (ver + 1) br false)) hp ∧ nx2 = N := by
 refine ⟨h.1, fun g c args hhp hkn hr hsz hargs => (h.2 g c args hhp hkn hr hsz hargs).mono ?_⟩
 rintro e w' ⟨u, v, c', nx', he, ⟨es', hm, rfl, rfl, e2, hN⟩, rfl, e5, e6, e7, e8, e9⟩
 have hi : c'.hp id = some (.rw es' sz ver br false) := by rw [e2, upd_same]
 obtain ⟨hk0, hz, T, cur, C, h3, h4, h5, h6, h7⟩ := e6.obj id _ hi
 obtain ⟨_, _, hbs⟩ := e6.dom id _ hi
 have hext : Ext c' ⟨upd id (some (.rw (es'.take m) sz (ver + 1) br false)) c'.hp, upd id (c'.φ id) c'.φ, c'.w, c'.kn⟩ := by
  refine Ext.chg e6 hi rfl rfl rfl rfl (Nat.le_refl _) (fun _ _ _ => rfl) (.inl rfl) (fun _ h => h) (fun h => by cases h) (fun es2 sz2 v2 br2 fz2 e => ?_) (Nat.le_refl _)
  cases e
  exact ⟨es', ver, br, false, rfl, Nat.le_succ _, fun e => by omega⟩
 have hh : HR g ⟨upd id (some (.rw (es'.take m) sz (ver + 1) br false)) c'.hp, upd id (c'.φ id) c'.φ, c'.w, c'.kn⟩ := by
  refine HR.chg e6 hi hext (fun _ _ _ => rfl) (.inl rfl) hbs ⟨hk0, fun i cs hi2 => ?_, T, cur, C, by simp only [upd_same]; exact h3, h4, by rw [List.length_take]; omega, h6, fun i j cs d hi2 hj => ?_⟩
  ·rw [List.getElem?_take] at hi2
   split at hi2
   ·exact hz i cs hi2
   ·cases hi2
  ·rw [List.getElem?_take] at hi2
   split at hi2
   ·obtain ⟨u2, k1, k2⟩ := h7 i j cs d hi2 hj
    exact ⟨u2, k1, k2.ext hext⟩
   ·cases hi2
 refine ⟨u, .so id (ver + 1) 0 m, ⟨upd id (some (.rw (es'.take m) sz (ver + 1) br false)) c'.hp, upd id (c'.φ id) c'.φ, c'.w, c'.kn⟩, nx', he, ⟨rfl, ?_, hN⟩, rfl, e5.trans hext, hh, ?_, e8, e9⟩
 ·show upd id (some (.rw (es'.take m) sz (ver + 1) br false)) c'.hp = _
  rw [e2, upd_upd]
 ·have h8 : RA g c' (.so id ver 0 m) u := e7
  cases h8 with
  | so _ _ _ _ _ hkn2 hp2 h9 =>
   obtain ⟨_, k2⟩ := h9 _ _ _ _ _ hi
   obtain ⟨k3, cur2, T2, C2, k4, k5, k6⟩ := k2 rfl
   refine (show RA g _ (.so id (ver + 1) 0 m) _ from RA.so id (ver + 1) 0 m _ hkn2 hp2 fun es2 sz2 v2 br2 fz2 e => ?_)
   have e' := (upd_same id (some (AO.rw (es'.take m) sz (ver + 1) br false)) c'.hp).symm.trans e
   cases e'
   refine ⟨Nat.le_refl _, fun _ => ⟨by rw [List.length_take]; omega, cur2, T2, C2, ?_, k5, ?_⟩⟩
   ·simp only [upd_same]; exact k4
   ·simp only [upd_same]; exact k6
theorem look_once_in {n : Nat} {xs r : List ByteArray} (h : look_once n xs = some r) (h0 : 0 < xs.length) {b : Bool} {hp : Hp} {nx : Nat} :
  InlOK Tryz.prog 24 [.d (.sl (List.map eS xs)) b] hp nx fun v hp2 nx2 => v = .so (nx + 7) 2 0 r.length ∧ hp2 = upd (nx + 7) (some (.rw (List.map eS r) 1 2 false false)) hp ∧ nx2 = nx + 16 := by
 unfold look_once at h
 split at h
 ·rename_i hn
  obtain rfl := Option.some.inj h
  refine inl_cutN (inl_run (tab := tab) tab_ok fol Tryz.func24 rfl (by kernel_rfl) (by kernel_rfl) (by simp [Tryz.f24]) ?_)
  simp -implicitDefEqProofs only [go_sem, Nat.reduceEqDiff, Nat.reduceAdd, Nat.reduceLeDiff, reduceCtorEq, ↓reduceIte]
  cases xs with
  | nil => simp at h0
  | cons x r =>
   refine onCall_inl ((cloneT_inl x r (by simp at hn; omega)).mono ?_)
   rintro v hp2 nx2 ⟨rfl, rfl, rfl⟩
   simp -implicitDefEqProofs only [go_sem, Nat.reduceEqDiff, Nat.reduceAdd, Nat.reduceLeDiff, reduceCtorEq, ↓reduceIte]
   refine onCall_inl ((sortT_inl enSort sort_c (x :: r) (by simp at hn ⊢; omega) (by simp -implicitDefEqProofs only [go_sem, ↓reduceIte] <;> rfl)).mono ?_)
   rintro v hp2 nx2 ⟨rfl, rfl, rfl⟩
   simp -implicitDefEqProofs only [go_sem, Nat.reduceEqDiff, Nat.reduceAdd, Nat.reduceLeDiff, reduceCtorEq, ↓reduceIte]
   have hl : r.length + 1 = (srtT (x :: r)).length := by rw [srtT_len]; rfl
   have hb : (srtT (x :: r)).length ≤ 4294967296 := by rw [srtT_len]; exact hn
   unfold onceT
   rw [hl]
   generalize srtT (x :: r) = ys at hb
   refine onCall_inl ((compactT_inl enCompact compact_c ys (by omega) (by simp -implicitDefEqProofs only [go_sem, ↓reduceIte] <;> rfl)).mono ?_)
   rintro v hp2 nx2 ⟨rfl, rfl, rfl⟩
   simp -implicitDefEqProofs only [go_sem, Nat.reduceEqDiff, Nat.reduceAdd, Nat.reduceLeDiff, reduceCtorEq, ↓reduceIte]
   refine end_ret (v := .so (nx + 7) 1 0 (cmpT ys).length) (by simp -implicitDefEqProofs only [go_sem, ↓reduceIte, Tryz.f24] <;> rfl) ⟨(cmpT ys ++ List.replicate (ys.length - (cmpT ys).length) (ofT [])).map eT, ?_, ?_, rfl, ?_, ?_⟩
   ·simp
   ·rw [List.map_append, show (cmpT ys).length = ((cmpT ys).map eT).length from (List.length_map _).symm, List.take_left]
   ·rw [List.map_append]
    exact (upd_upd (nx + 7) _ _ _).trans (upd_upd (nx + 7) _ _ _)
   ·rfl
 ·cases h
end Go.Proofs.YtjkdbakgnnhdnaaGreat.Ab
