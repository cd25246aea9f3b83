/-
  RowsTells: the plain law. No program in sight.
-/
import Derived.Test.YtdckfddlcmkdlaaRtl
namespace Go.Proofs.Ytdckfddlcmkdlaa.Ab
open Go.RowKit
theorem rt_awake : law3_awake 1000 = some true := by kernel_rfl
theorem rt_fold {n : Nat} (a0 s : List GTuple) (hn : 10 < n) (hs : tO.Rises s) (h1 : s.length ≤ 4294967296) (h2 : s.length < n) : ∀ xs : List GTuple, foldK (law3_RowsTells_L2_f n a0 s) (law3_RowsTells_L2_e n a0 s) xs () = some (.inl ())
  | [] => rfl
  | x :: xs => by
    have ih := rt_fold a0 s hn hs h1 h2 xs
    show law3_RowsTells_L2_f n a0 s () x (foldK (law3_RowsTells_L2_f n a0 s) (law3_RowsTells_L2_e n a0 s) xs) = _
    revert ih
    generalize foldK (law3_RowsTells_L2_f n a0 s) (law3_RowsTells_L2_e n a0 s) xs = K
    intro ih
    unfold law3_RowsTells_L2_f
    dsimp only
    rw [rHas_some hn x hs h1 h2, Option.bind_some, dHas_some x hs h1 h2, Option.bind_some, if_pos (by simp), ih]
theorem rt_round {n : Nat} (hn : 300 < n) (a b : List Int) {ta tb : List GTuple} (ha : law2_Tames n a = some ta) (hb : law2_Tames n b = some tb) {l m : List GTuple} (hl : l.length ≤ 80) (hm : m.length ≤ 80) (c i : Nat) (hi : i < 2) : law3_RowsTells_L1 n a b (c + 1) (l, m, (i : Int)) = law3_RowsTells_L1 n a b c (ta, tb, ((i + 1 : Nat) : Int)) := by
  have k1 := ofL_len tO l
  have k2 := ofL_len tO m
  have k3 := ofL_len tO (l ++ m)
  have k4 : (l ++ m).length ≤ 160 := by rw [List.length_append]; omega
  have f1 : ∀ x y : List GTuple, (subT x y).length ≤ x.length := fun x y => List.length_filter_le ..
  have f2 := f1 (tO.ofL l) (tO.ofL m)
  have f3 := f1 (tO.ofL m) (tO.ofL l)
  rw [law3_RowsTells_L1]
  rw [show decide ((i : Int) < 2) = true by simp; omega, if_pos rfl, diff_some (by omega) (by omega) (by omega) (by omega) (by omega), Option.bind_some, of_some (by omega), Option.bind_some, dOf_some _ l n (Nat.le_refl _) (by omega) (by omega), Option.bind_some, dSame_some _ _ (by omega) (by omega), decide_eq_true rfl, Option.bind_some, if_pos rfl,
    rIs_some (by omega) (by omega) (by omega), Option.bind_some, dIs_some (by omega) (by omega), Option.bind_some, if_pos (by simp), plus_some (by omega), Option.bind_some, dPlus_some (by omega) (by omega), Option.bind_some, dSame_some _ _ (by omega) (by omega), decide_eq_true rfl, Option.bind_some, if_pos rfl,
    minus_some (by omega) (by omega) (by omega) (by omega) (by omega), Option.bind_some, dMinus_some (by omega) (by omega) (by omega) (by omega), Option.bind_some, dSame_some _ _ (by omega) (by omega), decide_eq_true rfl, Option.bind_some, if_pos rfl,
    dMinus_some (by omega) (by omega) (by omega) (by omega), Option.bind_some, dSame_some _ _ (by dsimp only; omega) (by dsimp only; omega), decide_eq_true rfl, Option.bind_some, if_pos rfl, Option.bind_some, dSame_some _ _ (by dsimp only; omega) (by dsimp only; omega), decide_eq_true rfl, Option.bind_some, Option.bind_some, if_neg (by decide), Option.bind_some]
  have h : law3_RowsTells_L2 n m (tO.ofL l) n 0 = _ := law3_RowsTells_L2_list n m (tO.ofL l) (by omega) n () 0 (by omega) (by omega)
  rw [h, rt_fold m _ (by omega) (tO.rises_ofL l) (by omega) (by omega), Option.bind_some]
  dsimp only
  rw [ha, Option.bind_some, hb, Option.bind_some, wr1 (by omega)]
theorem law_rowsTells (l m : List GTuple) (a b : List Int) : ∃ n, law3_RowsTells n l m a b = some true := by
  refine ⟨1000, ?_⟩
  obtain ⟨ta, e1, k1⟩ := tames_some (n := 1000) a (by decide)
  obtain ⟨tb, e2, k2⟩ := tames_some (n := 1000) b (by decide)
  unfold law3_RowsTells
  have h : 60 < l.length ∨ 60 < m.length ∨ (l.length ≤ 60 ∧ m.length ≤ 60) := by omega
  rcases h with h | h | ⟨h1, h2⟩
  · rw [if_pos (by simp; omega), Option.bind_some, if_pos rfl, rt_awake]
    rfl
  · by_cases h' : 60 < l.length
    · rw [if_pos (by simp; omega), Option.bind_some, if_pos rfl, rt_awake]
      rfl
    · rw [if_neg (by simp; omega), Option.bind_some, if_pos (by simp; omega), rt_awake]
      rfl
  · rw [if_neg (by simp; omega), Option.bind_some, if_neg (by simp; omega)]
    have r1 : law3_RowsTells_L1 1000 a b 1000 (l, m, 0) = _ := rt_round (n := 1000) (by decide) a b e1 e2 (l := l) (m := m) (by omega) (by omega) 999 0 (by decide)
    have r2 := rt_round (n := 1000) (by decide) a b e1 e2 k1 k2 998 1 (by decide)
    rw [r1, r2]
    rw [law3_RowsTells_L1, if_neg (by decide), Option.bind_some]
    dsimp only
    rw [rt_awake]
    rfl
end Go.Proofs.Ytdckfddlcmkdlaa.Ab
