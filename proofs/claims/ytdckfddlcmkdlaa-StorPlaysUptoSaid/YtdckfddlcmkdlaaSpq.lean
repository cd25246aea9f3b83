/-
  StorPlays: the two stores' writes, and the law. No program in sight.
-/
import Derived.Test.YtdckfddlcmkdlaaSpp
namespace Go.Proofs.Ytdckfddlcmkdlaa.Ab
open Go.RowKit
def cl (z : Int) : Nat := (if 1000000 < (if z < 0 then 0 else z) then 1000000 else (if z < 0 then 0 else z)).toNat
theorem cl_eq (z : Int) : (if 1000000 < (if z < 0 then 0 else z) then 1000000 else (if z < 0 then 0 else z)) = (cl z : Int) := by
  unfold cl
  split <;> split <;> omega
theorem cl_le (z : Int) : cl z ≤ 1000000 := by
  unfold cl
  split <;> split <;> omega
/-- A batch of few, of texts that are not too long. -/
structure goodB (b : GBatch) : Prop where
  a : b.add.length ≤ 60
  d : b.drop.length ≤ 60
  m : b.must.length ≤ 60
  x : b.not_.length ≤ 60
  sa : ∀ t ∈ b.add, szT 1048576 t
  sd : ∀ t ∈ b.drop, szT 1048576 t
  sm : ∀ t ∈ b.must, szT 1048576 t
  sx : ∀ t ∈ b.not_, szT 1048576 t
theorem szT.up {N M : Nat} {t : GTuple} (h : szT N t) (k : N ≤ M) : szT M t := ⟨Nat.le_trans h.1 k, Nat.le_trans h.2.1 k, Nat.le_trans h.2.2.1 k, Nat.le_trans h.2.2.2.1 k, Nat.le_trans h.2.2.2.2.1 k, Nat.le_trans h.2.2.2.2.2 k⟩
theorem fewB.good {b : GBatch} (h : fewB b) : goodB b := ⟨Nat.le_trans h.1.1 (by decide), Nat.le_trans h.2.1.1 (by decide), Nat.le_trans h.2.2.1.1 (by decide), Nat.le_trans h.2.2.2.1 (by decide), fun t k => (h.1.2 t k).up (by decide), fun t k => (h.2.1.2 t k).up (by decide), fun t k => (h.2.2.1.2 t k).up (by decide), fun t k => (h.2.2.2.2 t k).up (by decide)⟩
theorem goodB.all {b : GBatch} (h : goodB b) : ∀ t ∈ b.add ++ b.drop ++ b.must ++ b.not_, szT 1048576 t := fun t k => by
  simp only [List.mem_append] at k
  rcases k with ((k | k) | k) | k
  · exact h.sa t k
  · exact h.sd t k
  · exact h.sm t k
  · exact h.sx t k
theorem sp_must1 {n : Nat} (hn : 3000000 ≤ n) {b : GBatch} (hb : goodB b) (z : Int) {now : List GTuple} (hs : tO.Rises now) (h1 : now.length ≤ 1000000) : law4_StorPlays_C5_slices_ContainsFunc_Tuple n b z now = some (b.must.any fun t => !decide (t ∈ now)) := by
  have hl := hb.m
  unfold law4_StorPlays_C5_slices_ContainsFunc_Tuple
  obtain ⟨v, e1, e2⟩ := ixf_some (n := n) (L := law4_StorPlays_L2 n b z now) (xs := b.must) (P := fun t => law4_StorPlays_C7_stor_Store_Write_c2 n now t) (fun t => !decide (t ∈ now)) (fun c i => rfl) (fun t ht => by
    unfold law4_StorPlays_C7_stor_Store_Write_c2 stor_Store_Write_c1
    rw [rHas_some (by omega) t hs (by omega) (by omega)]
    rfl) (by omega) (by omega)
  replace e1 : law4_StorPlays_C6_slices_IndexFunc_Tuple n b z now = some v := e1
  rw [e1, Option.bind_some, e2]
theorem sp_must2 {n : Nat} (hn : 3000000 ≤ n) {b b0 : GBatch} (hb : goodB b) (z : Int) (g g' : Nat) (w w' : List (List GTuple)) {now : List GTuple} (hs : tO.Rises now) (h1 : now.length ≤ 1000000) : law4_StorPlays_C12_slices_ContainsFunc_Tuple n b0 z g w g' w' b now = some (b.must.any fun t => !decide (t ∈ now)) := by
  have hl := hb.m
  unfold law4_StorPlays_C12_slices_ContainsFunc_Tuple
  obtain ⟨v, e1, e2⟩ := ixf_some (n := n) (L := law4_StorPlays_L8 n b0 z g w g' w' b now) (xs := b.must) (P := fun t => law4_StorPlays_C14_stor_Store_Write_c2 n now t) (fun t => !decide (t ∈ now)) (fun c i => rfl) (fun t ht => by
    unfold law4_StorPlays_C14_stor_Store_Write_c2 stor_Store_Write_c1
    rw [rHas_some (by omega) t hs (by omega) (by omega)]
    rfl) (by omega) (by omega)
  replace e1 : law4_StorPlays_C13_slices_IndexFunc_Tuple n b0 z g w g' w' b now = some v := e1
  rw [e1, Option.bind_some, e2]
theorem sp_write1 {n : Nat} (hn : 3000000 ≤ n) (z : Int) {b : GBatch} (hb : goodB b) : law4_StorPlays_C3_stor_Store_Write n b z = if (verP (cl z) [] b).2 then some (0, 1, [[], nextP [] b]) else some ((verP (cl z) [] b).1, 0, [[]]) := by
  have hN : tO.Rises [] := List.Pairwise.nil
  have i1 := hb.a
  have i2 := hb.d
  have i3 := hb.m
  have i4 := hb.x
  unfold law4_StorPlays_C3_stor_Store_Write
  exact write_eq (n := n) (m := cl z) (N := 1048576) (now := []) (b := b) (Cm := fun t22 => law4_StorPlays_C5_slices_ContainsFunc_Tuple n b z t22) (K := fun e => some (e, 0, [[]])) (A := fun t => some (0, 1, [[], t])) (by omega) (cl_eq z)
    (by
      unfold law4_StorPlays_C4_stor_Store_now
      have e := rev_some n (if 1000000 < (if z < 0 then 0 else z) then 1000000 else (if z < 0 then 0 else z)) [] [] (by decide)
      rw [List.nil_append] at e
      rw [e]
      rfl)
    (sp_must1 hn hb z hN (by simp)) hN (by omega) (by decide) hb.sa hb.sd hb.sm hb.sx (by rw [List.length_nil]; omega) (by omega) (by omega) (by omega) (by omega) (by rw [List.length_nil]; omega) (by omega) (by omega) (by omega)
theorem sp_write2 {n : Nat} (hn : 3000000 ≤ n) (z : Int) {b b0 : GBatch} (hb : goodB b) (g g' : Nat) {w w' : List (List GTuple)} {now : List GTuple} (hw : w.length ≤ 100) (hs : tO.Rises now) (hl : now.length ≤ 1000000) : law4_StorPlays_C10_stor_Store_Write n b0 z g (w ++ [now]) g' w' b = if (verP (cl z) now b).2 then some (0, g + 1, (w ++ [now]) ++ [nextP now b]) else some ((verP (cl z) now b).1, g, w ++ [now]) := by
  have i1 := hb.a
  have i2 := hb.d
  have i3 := hb.m
  have i4 := hb.x
  unfold law4_StorPlays_C10_stor_Store_Write
  refine (write_eq (n := n) (m := cl z) (N := 1048576) (now := now) (b := b) (Cm := fun t22 => law4_StorPlays_C12_slices_ContainsFunc_Tuple n b0 z g (w ++ [now]) g' w' b t22) (K := fun e => some (e, g, w ++ [now])) (A := fun t => (app (w ++ [now]) [t]).bind fun l => some (0, g + 1, l)) (by omega) (cl_eq z)
    (by
      unfold law4_StorPlays_C11_stor_Store_now
      rw [rev_some n _ w now (by omega), Option.bind_some, idx_last]
      rfl)
    (sp_must2 hn hb z g g' _ _ hs (by omega)) hs (by omega) (by decide) hb.sa hb.sd hb.sm hb.sx (by omega) (by omega) (by omega) (by omega) (by omega) (by omega) (by omega) (by omega) (by omega)).trans ?_
  split
  · rw [appS (by simp; omega)]
    rfl
  · rfl
theorem doc_all {X : Type} {n : Nat} (hn : 3000000 ≤ n) {b : GBatch} (hb : goodB b) {L : Nat → Int → Option (Unit ⊕ X)} (r : X) (h : ∀ c i, L (c + 1) i = if decide (i < ((b.add ++ b.drop ++ b.must ++ b.not_).length : Int)) then (idx (b.add ++ b.drop ++ b.must ++ b.not_) i).bind fun t => (ref1_Ok n t).bind fun k => if k then L c (IntKind.i64.wrap (i + 1)) else some (.inr r) else some (.inl ())) : L n 0 = some (if badB b then .inr r else .inl ()) := by
  have i1 := hb.a
  have i2 := hb.d
  have i3 := hb.m
  have i4 := hb.x
  have hlen : (b.add ++ b.drop ++ b.must ++ b.not_).length ≤ 240 := by simp only [List.length_append]; omega
  have hL := find_loop (L := L) (xs := b.add ++ b.drop ++ b.must ++ b.not_) (fun t => !okB t) r (fun c i hi => by
    rw [h, dlt hi, if_pos rfl, idxS hi, Option.bind_some, dOk_some (hb.all _ (List.getElem_mem hi)) (by omega) (by decide), Option.bind_some, wr1 (by omega)]
    cases okB (b.add ++ b.drop ++ b.must ++ b.not_)[i] <;> rfl) (fun c i hi => by rw [h, dnlt hi, if_neg (by decide)]) n 0 (by omega) (by omega)
  rw [List.drop_zero, bad_app] at hL
  exact hL
theorem doc_has {X : Type} {n : Nat} (hn : 3000000 ≤ n) {l s : List GTuple} (hl : l.length ≤ 60) (hs : tO.Rises s) (h1 : s.length ≤ 1000000) {L : Nat → Int → Option (Unit ⊕ X)} (r : X) (h : ∀ c i, L (c + 1) i = if decide (i < (l.length : Int)) then (idx l i).bind fun t => (ref1_Has n s t).bind fun k => if k then some (.inr r) else L c (IntKind.i64.wrap (i + 1)) else some (.inl ())) : L n 0 = some (if l.any fun t => decide (t ∈ s) then .inr r else .inl ()) := by
  have hL := find_loop (L := L) (xs := l) (fun t => decide (t ∈ s)) r (fun c i hi => by
    rw [h, dlt hi, if_pos rfl, idxS hi, Option.bind_some, dHas_some _ hs (by omega) (by omega), Option.bind_some, wr1 (by omega)]) (fun c i hi => by rw [h, dnlt hi, if_neg (by decide)]) n 0 (by omega) (by omega)
  rw [List.drop_zero] at hL
  exact hL
theorem doc_not {X : Type} {n : Nat} (hn : 3000000 ≤ n) {l s : List GTuple} (hl : l.length ≤ 60) (hs : tO.Rises s) (h1 : s.length ≤ 1000000) {L : Nat → Int → Option (Unit ⊕ X)} (r : X) (h : ∀ c i, L (c + 1) i = if decide (i < (l.length : Int)) then (idx l i).bind fun t => (ref1_Has n s t).bind fun k => if k then L c (IntKind.i64.wrap (i + 1)) else some (.inr r) else some (.inl ())) : L n 0 = some (if l.any fun t => !decide (t ∈ s) then .inr r else .inl ()) := by
  have hL := find_loop (L := L) (xs := l) (fun t => !decide (t ∈ s)) r (fun c i hi => by
    rw [h, dlt hi, if_pos rfl, idxS hi, Option.bind_some, dHas_some _ hs (by omega) (by omega), Option.bind_some, wr1 (by omega)]
    cases decide (l[i] ∈ s) <;> rfl) (fun c i hi => by rw [h, dnlt hi, if_neg (by decide)]) n 0 (by omega) (by omega)
  rw [List.drop_zero] at hL
  exact hL
theorem sp_doc1 {n : Nat} (hn : 3000000 ≤ n) (z : Int) {b : GBatch} (hb : goodB b) (g : Nat) (w' : List (List GTuple)) : law4_StorPlays_C8_ref1_Store_Write n b z g w' = if (verP (cl z) [] b).2 then some (0, 1, [[], nextP [] b]) else some ((verP (cl z) [] b).1, 0, [[]]) := by
  have hN : tO.Rises [] := List.Pairwise.nil
  have i1 := hb.a
  have i2 := hb.d
  have i3 := hb.m
  have i4 := hb.x
  have ld := ofL_len tO b.drop
  unfold law4_StorPlays_C8_ref1_Store_Write
  rw [show law4_StorPlays_C9_ref1_Store_All n = some () from rfl, Option.bind_some, appS (by simp; omega), Option.bind_some, appS (by omega), Option.bind_some, appS (by simp only [List.length_append]; omega), Option.bind_some, appS (by simp only [List.length_append]; omega), Option.bind_some]
  rw [doc_all hn hb (L := law4_StorPlays_L3 n b z g w' (b.add ++ b.drop ++ b.must ++ b.not_)) (2, 0, [[]]) (fun c i => rfl), Option.bind_some, ver_doc]
  cases badB b with
  | true => rfl
  | false =>
    simp only [Bool.false_eq_true, ↓reduceIte]
    rw [dOf_some _ b.drop n (Nat.le_refl _) (by omega) (by omega), Option.bind_some, doc_has hn i1 (tO.rises_ofL b.drop) (by omega) (L := law4_StorPlays_L4 n b z g w' (tO.ofL b.drop)) (6, 0, [[]]) (fun c i => rfl), Option.bind_some]
    cases b.add.any fun x => decide (x ∈ tO.ofL b.drop) with
    | true => rfl
    | false =>
      simp only [Bool.false_eq_true, ↓reduceIte]
      rw [doc_not hn i3 hN (by simp) (L := law4_StorPlays_L5 n b z g w') (4, 0, [[]]) (fun c i => rfl), Option.bind_some]
      cases b.must.any fun t => !decide (t ∈ ([] : List GTuple)) with
      | true => rfl
      | false =>
        simp only [Bool.false_eq_true, ↓reduceIte]
        rw [doc_has hn i4 hN (by simp) (L := law4_StorPlays_L6 n b z g w') (3, 0, [[]]) (fun c i => rfl), Option.bind_some]
        cases b.not_.any fun t => decide (t ∈ ([] : List GTuple)) with
        | true => rfl
        | false =>
          simp only [Bool.false_eq_true, ↓reduceIte]
          rw [doc_tail (cl_eq z) (by rw [List.length_nil]; omega) (by omega) (by rw [List.length_nil]; omega) (by omega)]
          split
          · rfl
          · split <;> rfl
theorem sp_doc2 {n : Nat} (hn : 3000000 ≤ n) (z : Int) {b b0 : GBatch} (hb : goodB b) (g g' : Nat) {w w' : List (List GTuple)} {now : List GTuple} (hw : w.length ≤ 100) (hs : tO.Rises now) (hl : now.length ≤ 1000000) : law4_StorPlays_C15_ref1_Store_Write n b0 z g (w ++ [now]) b g' w' = if (verP (cl z) now b).2 then some (0, g + 1, (w ++ [now]) ++ [nextP now b]) else some ((verP (cl z) now b).1, g, w ++ [now]) := by
  have i1 := hb.a
  have i2 := hb.d
  have i3 := hb.m
  have i4 := hb.x
  have ld := ofL_len tO b.drop
  have e16 : law4_StorPlays_C16_ref1_Store_All n (w ++ [now]) = some now := by
    unfold law4_StorPlays_C16_ref1_Store_All
    rw [List.length_append, List.length_singleton, show (((w.length + 1 : Nat) : Int) - 1) = (w.length : Int) by omega, wr (by omega) (by omega), idx_last]
    rfl
  unfold law4_StorPlays_C15_ref1_Store_Write
  rw [e16, Option.bind_some, appS (by simp; omega), Option.bind_some, appS (by omega), Option.bind_some, appS (by simp only [List.length_append]; omega), Option.bind_some, appS (by simp only [List.length_append]; omega), Option.bind_some]
  rw [doc_all hn hb (L := law4_StorPlays_L9 n b0 z g (w ++ [now]) b g' w' (b.add ++ b.drop ++ b.must ++ b.not_)) (2, g, w ++ [now]) (fun c i => rfl), Option.bind_some, ver_doc]
  cases badB b with
  | true => rfl
  | false =>
    simp only [Bool.false_eq_true, ↓reduceIte]
    rw [dOf_some _ b.drop n (Nat.le_refl _) (by omega) (by omega), Option.bind_some, doc_has hn i1 (tO.rises_ofL b.drop) (by omega) (L := law4_StorPlays_L10 n b0 z g (w ++ [now]) b g' w' (tO.ofL b.drop)) (6, g, w ++ [now]) (fun c i => rfl), Option.bind_some]
    cases b.add.any fun x => decide (x ∈ tO.ofL b.drop) with
    | true => rfl
    | false =>
      simp only [Bool.false_eq_true, ↓reduceIte]
      rw [doc_not hn i3 hs hl (L := law4_StorPlays_L11 n b0 z g (w ++ [now]) b g' w' now) (4, g, w ++ [now]) (fun c i => rfl), Option.bind_some]
      cases b.must.any fun t => !decide (t ∈ now) with
      | true => rfl
      | false =>
        simp only [Bool.false_eq_true, ↓reduceIte]
        rw [doc_has hn i4 hs hl (L := law4_StorPlays_L12 n b0 z g (w ++ [now]) b g' w' now) (3, g, w ++ [now]) (fun c i => rfl), Option.bind_some]
        cases b.not_.any fun t => decide (t ∈ now) with
        | true => rfl
        | false =>
          simp only [Bool.false_eq_true, ↓reduceIte]
          rw [doc_tail (cl_eq z) (by omega) (by omega) (by omega) (by omega)]
          split
          · rfl
          · split
            · rfl
            · rw [appS (by simp; omega)]
              rfl
end Go.Proofs.Ytdckfddlcmkdlaa.Ab
