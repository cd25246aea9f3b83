/-
  StorWhole: the plain law. No program in sight.
-/
import Derived.Test.YtdckfddlcmkdlaaSwa
import Derived.Test.YtdckfddlcmkdlaaStl
namespace Go.Proofs.Ytdckfddlcmkdlaa.Ab
open Go.RowKit
def mW (z : Int) : Nat := an z 31 + 5
theorem mW_le (z : Int) : mW z ≤ 36 := by
  have : an z 31 ≤ 31 := Nat.le_trans (an_le z 31) (by decide)
  unfold mW
  omega
theorem mW_wrap (z : Int) : IntKind.i64.wrap (IntKind.i64.wrap (an z 31 : Int) + 5) = (mW z : Int) := by
  have := mW_le z
  rw [wrap_an _ _ (by decide), wr (by omega) (by unfold mW at this; omega)]
  unfold mW
  omega
theorem clamp {m : Nat} (h : m ≤ 1000000) : (if (1000000 : Int) < (if (m : Int) < 0 then 0 else (m : Int)) then 1000000 else (if (m : Int) < 0 then 0 else (m : Int))) = (m : Int) := by
  rw [if_neg (show ¬ (m : Int) < 0 by omega), if_neg (by omega)]
theorem few_sz {l : List GTuple} {N : Nat} (h : fewT N l) : ∀ t ∈ l, szT 3 t := h.2
theorem sw_must1 {n : Nat} (hn : 100 < n) {b : GBatch} (hb : fewB b) {now : List GTuple} (hs : tO.Rises now) (h1 : now.length ≤ 80) : law4_StorWhole_C4_slices_ContainsFunc_Tuple n b now = some (b.must.any fun t => !decide (t ∈ now)) := by
  have hl : b.must.length ≤ 12 := hb.2.2.1.1
  unfold law4_StorWhole_C4_slices_ContainsFunc_Tuple
  obtain ⟨v, e1, e2⟩ := ixf_some (n := n) (L := law4_StorWhole_L1 n b now) (xs := b.must) (P := fun t => law4_StorWhole_C6_stor_Store_Write_c2 n now t) (fun t => !decide (t ∈ now)) (fun c i => rfl) (fun t ht => by
    unfold law4_StorWhole_C6_stor_Store_Write_c2 stor_Store_Write_c1
    rw [rHas_some (by omega) t hs (by omega) (by omega)]
    rfl) (by omega) (by omega)
  replace e1 : law4_StorWhole_C5_slices_IndexFunc_Tuple n b now = some v := e1
  rw [e1, Option.bind_some, e2]
theorem sw_must2 {n : Nat} (hn : 100 < n) {b : GBatch} (hb : fewB b) {now : List GTuple} (hs : tO.Rises now) (h1 : now.length ≤ 80) : law4_StorWhole_C9_slices_ContainsFunc_Tuple n b now = some (b.must.any fun t => !decide (t ∈ now)) := by
  have hl : b.must.length ≤ 12 := hb.2.2.1.1
  unfold law4_StorWhole_C9_slices_ContainsFunc_Tuple
  obtain ⟨v, e1, e2⟩ := ixf_some (n := n) (L := law4_StorWhole_L2 n b now) (xs := b.must) (P := fun t => law4_StorWhole_C11_stor_Store_Write_c2 n now t) (fun t => !decide (t ∈ now)) (fun c i => rfl) (fun t ht => by
    unfold law4_StorWhole_C11_stor_Store_Write_c2 stor_Store_Write_c1
    rw [rHas_some (by omega) t hs (by omega) (by omega)]
    rfl) (by omega) (by omega)
  replace e1 : law4_StorWhole_C10_slices_IndexFunc_Tuple n b now = some v := e1
  rw [e1, Option.bind_some, e2]
theorem sw_write1 {n : Nat} (hn : 200 < n) (z : Int) {b : GBatch} (hb : fewB b) : law4_StorWhole_C2_stor_Store_Write n z b = if (verP (mW z) [] b).2 then some (0, [[], nextP [] b]) else some ((verP (mW z) [] b).1, [[]]) := by
  have hN : tO.Rises [] := List.Pairwise.nil
  have hm := mW_le z
  have i1 := hb.1.1
  have i2 := hb.2.1.1
  have i3 := hb.2.2.1.1
  have i4 := hb.2.2.2.1
  unfold law4_StorWhole_C2_stor_Store_Write
  exact write_eq (n := n) (m := mW z) (N := 3) (now := []) (b := b) (Cm := fun t22 => law4_StorWhole_C4_slices_ContainsFunc_Tuple n b t22) (K := fun e => some (e, [[]])) (A := fun t => some (0, [[], t])) (by omega) (by rw [mW_wrap]; exact clamp (by omega))
    (by
      unfold law4_StorWhole_C3_stor_Store_now
      have e := rev_some n (if 1000000 < (if (IntKind.i64.wrap ((IntKind.i64.wrap (an z 31 : Int)) + 5)) < 0 then 0 else (IntKind.i64.wrap ((IntKind.i64.wrap (an z 31 : Int)) + 5))) then 1000000 else (if (IntKind.i64.wrap ((IntKind.i64.wrap (an z 31 : Int)) + 5)) < 0 then 0 else (IntKind.i64.wrap ((IntKind.i64.wrap (an z 31 : Int)) + 5)))) [] [] (by decide)
      rw [List.nil_append] at e
      rw [e]
      rfl)
    (sw_must1 (by omega) hb hN (by simp)) hN (by omega) (by decide) hb.1.2 hb.2.1.2 hb.2.2.1.2 hb.2.2.2.2 (by rw [List.length_nil]; omega) (by omega) (by omega) (by omega) (by omega) (by rw [List.length_nil]; omega) (by omega) (by omega) (by omega)
theorem sw_write2 {n : Nat} (hn : 200 < n) (z : Int) {b : GBatch} (hb : fewB b) {w : List (List GTuple)} {now : List GTuple} (hw : w.length ≤ 1) (hs : tO.Rises now) (hl : now.length ≤ 80) : law4_StorWhole_C7_stor_Store_Write n z (w ++ [now]) b = if (verP (mW z) now b).2 then some (0, (w ++ [now]) ++ [nextP now b]) else some ((verP (mW z) now b).1, w ++ [now]) := by
  have hm := mW_le z
  have i1 := hb.1.1
  have i2 := hb.2.1.1
  have i3 := hb.2.2.1.1
  have i4 := hb.2.2.2.1
  unfold law4_StorWhole_C7_stor_Store_Write
  refine (write_eq (n := n) (m := mW z) (N := 3) (now := now) (b := b) (Cm := fun t22 => law4_StorWhole_C9_slices_ContainsFunc_Tuple n b t22) (K := fun e => some (e, w ++ [now])) (A := fun t => (app (w ++ [now]) [t]).bind fun l => some (0, l)) (by omega) (by rw [mW_wrap]; exact clamp (by omega))
    (by
      unfold law4_StorWhole_C8_stor_Store_now
      rw [rev_some n _ w now (by omega), Option.bind_some, idx_last]
      rfl)
    (sw_must2 (by omega) hb hs (by omega)) hs (by omega) (by decide) hb.1.2 hb.2.1.2 hb.2.2.1.2 hb.2.2.2.2 (by omega) (by omega) (by omega) (by omega) (by omega) (by omega) (by omega) (by omega) (by omega)).trans ?_
  split
  · rw [appS (by simp; omega)]
    rfl
  · rfl
theorem law_storWhole (a b : List Int) (z : Int) : ∃ n, law4_StorWhole n a b z = some true := by
  refine ⟨1000, ?_⟩
  have hm := mW_le z
  obtain ⟨x, hx, fx⟩ := batch_some (n := 1000) a (by decide)
  obtain ⟨y, hy, fy⟩ := batch_some (n := 1000) b (by decide)
  obtain ⟨e1, w, now, h1, hr, hl, hw⟩ : ∃ e w now, law4_StorWhole_C2_stor_Store_Write 1000 z x = some (e, w ++ [now]) ∧ tO.Rises now ∧ now.length ≤ mW z ∧ w.length ≤ 1 := by
    rw [sw_write1 (by decide) z fx]
    rcases verP_cases (mW z) [] x with ⟨e, _, h⟩ | ⟨h, _⟩ | ⟨h, _, k⟩ <;> rw [h]
    · exact ⟨_, [], [], rfl, List.Pairwise.nil, Nat.zero_le _, Nat.zero_le _⟩
    · exact ⟨_, [], [], rfl, List.Pairwise.nil, Nat.zero_le _, Nat.zero_le _⟩
    · exact ⟨_, [[]], _, rfl, nextP_rises _ _, k, Nat.le_refl _⟩
  have aw : law4_awake 1000 = some true := rfl
  have fd := fy.2.1.1
  have fa := fy.1.1
  have lm : (subT (tO.ofL now) (tO.ofL y.drop)).length ≤ now.length := Nat.le_trans (List.length_filter_le ..) (ofL_len tO now)
  unfold law4_StorWhole
  rw [show law4_StorWhole_C1_stor_New 1000 = some () from rfl, Option.bind_some, hx, Option.bind_some, h1, Option.bind_some]
  dsimp only
  rw [all_some _ _ w now (by omega) (by omega), Option.bind_some, rev_some _ _ w now (by omega), Option.bind_some, hy, Option.bind_some, sw_write2 (by decide) z fy hw hr (by omega)]
  rcases verP_cases (mW z) now y with ⟨e, he, h⟩ | ⟨h, hn⟩ | ⟨h, hn, k⟩ <;> rw [h]
  · rw [if_neg (by simp), Option.bind_some]
    dsimp only
    rw [all_some _ _ w now (by omega) (by omega), Option.bind_some, at_some _ _ (w ++ [now]) (by simp; omega) w.length (by simp) (by simp; omega), Option.bind_some]
    rw [if_pos rfl, List.getElem_append_right (Nat.le_refl _)]
    simp only [Nat.sub_self, List.getElem_cons_zero]
    rw [dSame_some _ _ (by omega) (by omega), decide_eq_true rfl, Option.bind_some, Option.bind_some, if_neg (by decide), if_pos (by simpa using he), Option.bind_some, if_pos rfl, rev_some _ _ w now (by omega), Option.bind_some, if_pos (by simp), aw]
    rfl
  · rw [if_neg (by simp), Option.bind_some]
    dsimp only
    rw [all_some _ _ w now (by omega) (by omega), Option.bind_some, at_some _ _ (w ++ [now]) (by simp; omega) w.length (by simp) (by simp; omega), Option.bind_some]
    rw [if_pos rfl, List.getElem_append_right (Nat.le_refl _)]
    simp only [Nat.sub_self, List.getElem_cons_zero]
    rw [dSame_some _ _ (by omega) (by omega), decide_eq_true rfl, Option.bind_some, Option.bind_some, if_neg (by decide), if_neg (by decide), Option.bind_some, dMinus_some (by omega) (by omega) (by omega) (by omega), Option.bind_some, dPlus_some (by omega) (by omega), Option.bind_some, ← nextP_eq, hn, dSame_some _ _ (by omega) (by omega), decide_eq_true rfl, Option.bind_some, if_pos rfl, rev_some _ _ w now (by omega), Option.bind_some, if_pos (by simp), if_pos rfl, len_some _ _ w now (by omega), Option.bind_some, if_pos (by simp), Option.bind_some, mW_wrap, if_pos (by simp; omega), aw]
    rfl
  · have hx := nextP_rises now y
    rw [if_pos rfl, Option.bind_some]
    dsimp only
    rw [all_some _ _ (w ++ [now]) (nextP now y) (by simp; omega) (by omega), Option.bind_some, at_some _ _ (w ++ [now] ++ [nextP now y]) (by simp; omega) w.length (by simp) (by simp; omega), Option.bind_some]
    rw [if_pos rfl]
    have eq1 : (((w ++ [now]).length : Int) == (w.length : Int)) = false := by rw [beq_eq_false_iff_ne, List.length_append, List.length_singleton]; omega
    have eg : (w ++ [now] ++ [nextP now y])[w.length]'(by simp) = now := by simp
    dsimp only
    rw [eg, dSame_some _ _ (by omega) (by omega), decide_eq_true rfl, Option.bind_some, Option.bind_some, if_neg (by decide), if_neg (by decide), dSame_some _ _ (by omega) (by omega), decide_eq_false hn, Option.bind_some, dMinus_some (by omega) (by omega) (by omega) (by omega), Option.bind_some, dPlus_some (by omega) (by omega), Option.bind_some, ← nextP_eq, dSame_some _ _ (by omega) (by omega), decide_eq_true rfl, Option.bind_some, if_pos rfl, rev_some _ _ (w ++ [now]) (nextP now y) (by simp; omega), Option.bind_some, if_pos (by rw [eq1]; rfl), if_neg (by decide), Option.bind_some, if_pos (by rw [wr1 (by omega)]; simp), len_some _ _ (w ++ [now]) (nextP now y) (by simp; omega), Option.bind_some, if_pos (by simp), Option.bind_some, mW_wrap, if_pos (by simp; omega), aw]
    rfl
end Go.Proofs.Ytdckfddlcmkdlaa.Ab
