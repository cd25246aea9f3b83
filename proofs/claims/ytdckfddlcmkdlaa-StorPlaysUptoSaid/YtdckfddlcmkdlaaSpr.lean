/-
  StorPlays: the law. No program in sight.
-/
import Derived.Test.YtdckfddlcmkdlaaSpq
namespace Go.Proofs.Ytdckfddlcmkdlaa.Ab
open Go.RowKit
/-- How a store stands: its sets are short, the last one rises. -/
structure goodW (i : Nat) (w : List (List GTuple)) (now : List GTuple) : Prop where
  n : w.length ≤ i
  s : ∀ x ∈ w, x.length ≤ 1000000
  r : tO.Rises now
  l : now.length ≤ 1000000
theorem goodW.all {i : Nat} {w : List (List GTuple)} {now : List GTuple} (h : goodW i w now) : ∀ x ∈ w ++ [now], x.length ≤ 1000000 := fun x k => by
  rcases List.mem_append.1 k with k | k
  · exact h.s x k
  · rw [List.mem_singleton.1 k]
    exact h.l
theorem refAll1 (n : Nat) {w : List (List GTuple)} (hw : w.length ≤ 100) (now : List GTuple) : law4_StorPlays_C17_ref1_Store_All n (w ++ [now]) = some now := by
  unfold law4_StorPlays_C17_ref1_Store_All
  rw [List.length_append, List.length_singleton, show (((w.length + 1 : Nat) : Int) - 1) = (w.length : Int) by omega, wr (by omega) (by omega), idx_last]
  rfl
theorem refAll2 (n : Nat) {w : List (List GTuple)} (hw : w.length ≤ 100) (now : List GTuple) : law4_StorPlays_C18_ref1_Store_All n (w ++ [now]) = some now := refAll1 n hw now
/-- What both writes make of a state. -/
theorem both_ways (z : Int) {i : Nat} {w : List (List GTuple)} {now : List GTuple} (h : goodW i w now) (b : GBatch) (g : Nat) : ∃ e g2 w2 now2, (if (verP (cl z) now b).2 then some ((0 : Int), g + 1, (w ++ [now]) ++ [nextP now b]) else some ((verP (cl z) now b).1, g, w ++ [now])) = some (e, g2, w2 ++ [now2]) ∧ (e = if (verP (cl z) now b).2 then 0 else (verP (cl z) now b).1) ∧ (w2 ++ [now2] = if (verP (cl z) now b).2 then (w ++ [now]) ++ [nextP now b] else w ++ [now]) ∧ goodW (i + 1) w2 now2 := by
  have hm := cl_le z
  rcases verP_cases (cl z) now b with ⟨e, _, k⟩ | ⟨k, _⟩ | ⟨k, _, q⟩ <;> rw [k]
  · exact ⟨e, g, w, now, rfl, rfl, rfl, ⟨Nat.le_succ_of_le h.n, h.s, h.r, h.l⟩⟩
  · exact ⟨0, g, w, now, rfl, rfl, rfl, ⟨Nat.le_succ_of_le h.n, h.s, h.r, h.l⟩⟩
  · exact ⟨0, g + 1, w ++ [now], nextP now b, rfl, rfl, rfl, ⟨by rw [List.length_append, List.length_singleton]; exact Nat.add_le_add_right h.n 1, h.all, nextP_rises _ _, by omega⟩⟩
theorem sp_loop {n : Nat} (hn : 3000000 ≤ n) (z : Int) (b0 : GBatch) (l : List (List Int)) : ∀ (c i g g' : Nat) (w : List (List GTuple)) (now : List GTuple), i ≤ 30 → 30 - i < c → goodW (i + 1) w now →
    ∃ g2 g2' w2 now2, law4_StorPlays_L7 n b0 l z c (g, w ++ [now], g', w ++ [now], (i : Int)) = some (.inl (g2, w2 ++ [now2], g2', w2 ++ [now2])) ∧ goodW 40 w2 now2
  | 0, _, _, _, _, _, _, h, _ => by omega
  | c + 1, i, g, g', w, now, hi, hc, hg => by
    have hw := hg.n
    have hl := hg.l
    have fin : ∃ g2 g2' w2 now2, (some (.inl (g, w ++ [now], g', w ++ [now])) : Option ((Nat × List (List GTuple) × Nat × List (List GTuple)) ⊕ Bool)) = some (.inl (g2, w2 ++ [now2], g2', w2 ++ [now2])) ∧ goodW 40 w2 now2 := ⟨_, _, _, _, rfl, ⟨by omega, hg.s, hg.r, hg.l⟩⟩
    rw [law4_StorPlays_L7]
    by_cases h : i < l.length
    · rw [dlt h, if_pos rfl, Option.bind_some]
      by_cases h3 : i < 30
      · obtain ⟨b, hb, fb⟩ := batch_some (n := n) l[i] (by omega)
        have gb := fb.good
        rw [show decide ((i : Int) < 30) = true from decide_eq_true (by omega), if_pos rfl, idxS h, Option.bind_some, hb, Option.bind_some, sp_write2 hn z gb g g' (by omega) hg.r hl]
        obtain ⟨e, g2, w2, now2, q1, q2, q3, q4⟩ := both_ways z hg b g
        obtain ⟨e', g2', w2', now2', q1', q2', q3', q4'⟩ := both_ways z hg b g'
        have he : e' = e := q2'.trans q2.symm
        have hw2 : w2' ++ [now2'] = w2 ++ [now2] := q3'.trans q3.symm
        have k1 := q4.n
        have k2 := q4.l
        rw [q1, Option.bind_some]
        dsimp only
        rw [sp_doc2 hn z gb g' g2 (by omega) hg.r hl, q1', Option.bind_some]
        dsimp only
        rw [he, hw2, if_neg (by simp), rev_some n _ w2 now2 (by omega), Option.bind_some, List.length_append, List.length_singleton, show (((w2.length + 1 : Nat) : Int) - 1) = (w2.length : Int) by omega, wr (x := (w2.length : Int)) (by omega) (by omega), if_neg (by simp), len_some n _ w2 now2 (by omega), Option.bind_some, refAll1 n (by omega), Option.bind_some, if_neg (by simp), all_some n _ w2 now2 (by omega) (by omega), Option.bind_some, refAll2 n (by omega), Option.bind_some, dSame_some _ _ (by omega) (by omega), decide_eq_true rfl, Option.bind_some, if_pos rfl, wr1 (by omega)]
        exact sp_loop hn z b0 l c (i + 1) g2 g2' w2 now2 (by omega) (by omega) q4
      · rw [show decide ((i : Int) < 30) = false from decide_eq_false (by omega), if_neg (by decide)]
        exact fin
    · rw [dnlt (by omega), if_neg (by decide), Option.bind_some, if_neg (by decide)]
      exact fin
theorem sp_at {n : Nat} (hn : 3000000 ≤ n) (r z : Int) {w : List (List GTuple)} (hw : w.length ≤ 100) (hx : ∀ x ∈ w, x.length ≤ 1000000) : ∀ (c j : Nat), j ≤ 40 → 40 - j < c → law4_StorPlays_L13 n r z w w c (j : Int) = some (.inl ())
  | 0, _, _, h => by omega
  | c + 1, j, hj, hc => by
    rw [law4_StorPlays_L13]
    by_cases h : j < 40
    · rw [show decide ((j : Int) < 40) = true from decide_eq_true (by omega), if_pos rfl, show decide ((j : Int) < 0) = false from decide_eq_false (by omega), if_neg (by decide), Option.bind_some, at_step _ (by omega) hx (by omega) (j : Int) (law4_StorPlays_L13 n r z w w c (IntKind.i64.wrap ((j : Int) + 1))), wr1 (by omega)]
      exact sp_at hn r z hw hx c (j + 1) (by omega) (by omega)
    · rw [show decide ((j : Int) < 40) = false from decide_eq_false (by omega), if_neg (by decide)]
theorem sp_at0 {n : Nat} (hn : 3000000 ≤ n) (r z : Int) {w : List (List GTuple)} (hw : w.length ≤ 100) (hx : ∀ x ∈ w, x.length ≤ 1000000) : law4_StorPlays_L13 n r z w w n (-1) = some (.inl ()) := by
  obtain ⟨m, rfl⟩ : ∃ m, n = m + 1 := ⟨n - 1, by omega⟩
  rw [law4_StorPlays_L13, if_pos (by decide), if_pos (by decide), Option.bind_some, at_step _ (by omega) hx (by omega) r (law4_StorPlays_L13 (m + 1) r z w w m (IntKind.i64.wrap (-1 + 1)))]
  exact sp_at hn r z hw hx m 0 (by omega) (by omega)
theorem sp_round {n : Nat} (hn : 3000000 ≤ n) {b : GBatch} (hb : goodB b) (l : List (List Int)) (r z : Int) (c i : Nat) (hi : i < 2) : law4_StorPlays_L1 n b l r (c + 1) (z, (i : Int)) = law4_StorPlays_L1 n b l r c (IntKind.i64.wrap (an z 31 : Int), ((i + 1 : Nat) : Int)) := by
  have g0 : goodW 0 [] [] := ⟨Nat.le_refl _, fun x h => by simp at h, List.Pairwise.nil, by simp⟩
  rw [law4_StorPlays_L1]
  rw [show decide ((i : Int) < 2) = true from decide_eq_true (by omega), if_pos rfl, show law4_StorPlays_C1_stor_New n = some () from rfl, Option.bind_some, show law4_StorPlays_C2_ref1_NewStore n = some () from rfl, Option.bind_some, sp_write1 hn z hb]
  obtain ⟨e, g2, w2, now2, q1, q2, q3, q4⟩ := both_ways z g0 b 0
  simp only [List.nil_append, List.singleton_append] at q1
  rw [show (if (verP (cl z) [] b).2 then some ((0 : Int), (1 : Nat), [[], nextP [] b]) else some ((verP (cl z) [] b).1, 0, [[]])) = some (e, g2, w2 ++ [now2]) from q1, Option.bind_some]
  dsimp only
  rw [sp_doc1 hn z hb, show (if (verP (cl z) [] b).2 then some ((0 : Int), (1 : Nat), [[], nextP [] b]) else some ((verP (cl z) [] b).1, 0, [[]])) = some (e, g2, w2 ++ [now2]) from q1, Option.bind_some, Option.bind_some]
  dsimp only
  rw [if_neg (by simp)]
  obtain ⟨a1, a2, w3, now3, p1, p2⟩ := sp_loop hn z b l n 0 g2 g2 w2 now2 (by omega) (by omega) q4
  have p1' : law4_StorPlays_L7 n b l z n (g2, w2 ++ [now2], g2, w2 ++ [now2], 0) = _ := p1
  have k := p2.n
  rw [p1', Option.bind_some]
  dsimp only
  rw [sp_at0 hn r z (by rw [List.length_append, List.length_singleton]; omega) p2.all, Option.bind_some]
  dsimp only
  rw [wr1 (by omega)]
theorem law_storPlays0 (z : Int) {b : GBatch} (l : List (List Int)) (r : Int) (h : 60 < b.add.length + b.drop.length + b.must.length + b.not_.length ∨ goodB b) (ha : b.add.length ≤ 1048576) (hd : b.drop.length ≤ 1048576) (hm : b.must.length ≤ 1048576) (hx : b.not_.length ≤ 1048576) : ∃ n, law4_StorPlays n z b l r = some true := by
  refine ⟨3000000, ?_⟩
  unfold law4_StorPlays
  rw [wr (x := (b.add.length : Int) + (b.drop.length : Int)) (by omega) (by omega), wr (x := (b.add.length : Int) + (b.drop.length : Int) + (b.must.length : Int)) (by omega) (by omega), wr (x := (b.add.length : Int) + (b.drop.length : Int) + (b.must.length : Int) + (b.not_.length : Int)) (by omega) (by omega)]
  by_cases h60 : 60 < b.add.length + b.drop.length + b.must.length + b.not_.length
  · rw [decide_eq_true (by omega), if_pos rfl]
    rfl
  · rcases h with h | hb
    · exact absurd h h60
    · have r1 := sp_round (n := 3000000) (Nat.le_refl _) hb l r z 2999999 0 (by decide)
      have r2 := sp_round (n := 3000000) (Nat.le_refl _) hb l r (IntKind.i64.wrap (an z 31 : Int)) 2999998 1 (by decide)
      have r1' : law4_StorPlays_L1 3000000 b l r 3000000 (z, 0) = _ := r1
      rw [decide_eq_false (by omega), if_neg (by decide), r1', r2, law4_StorPlays_L1, if_neg (by decide), Option.bind_some]
      rfl
end Go.Proofs.Ytdckfddlcmkdlaa.Ab
