/-
  The store: what its functions answer. No program in sight.
-/
import Derived.Test.YtdckfddlcmkdlaaSta
import Derived.Test.YtdckfddlcmkdlaaOkb
import Derived.Test.YtdckfddlcmkdlaaRtl
namespace Go.Proofs.Ytdckfddlcmkdlaa.Ab
open Go.RowKit
theorem idx_in {α : Type} {xs : List α} {v : Int} {x : α} (k : Nat) (hv : v = (k : Int)) (h : idx xs v = some x) : x ∈ xs := by
  subst hv
  rw [idx_nat] at h
  exact List.mem_of_getElem? h
theorem tame_sz (n : Nat) (z : Int) : ∃ t, law2_Tame n z = some t ∧ szT 3 t := by
  have nm : ∀ v : Int, ∃ s, law1_Nm n v = some s ∧ s.size ≤ 3 := fun v => by
    unfold law1_Nm
    obtain ⟨s, h⟩ := idx_lt (xs := [({ data := #[97] } : ByteArray), { data := #[98] }, { data := #[99] }, { data := #[100] }, { data := #[97, 98] }, { data := #[98, 45, 49] }, { data := #[120, 46, 121] }, { data := #[48] }]) (an v 7) (wrap_an v 7 (by decide)) (Nat.lt_of_le_of_lt (an_le v 7) (by decide))
    rw [h]
    refine ⟨s, rfl, ?_⟩
    have hm := idx_in (an v 7) (wrap_an v 7 (by decide)) h
    simp only [List.mem_cons, List.not_mem_nil, or_false] at hm
    rcases hm with rfl | rfl | rfl | rfl | rfl | rfl | rfl | rfl <;> decide
  have two : ∀ (a b : ByteArray) (v : Int), a.size ≤ 3 → b.size ≤ 3 → ∃ x, idx [a, b] (IntKind.i64.wrap (an v 1 : Int)) = some x ∧ x.size ≤ 3 := fun a b v ha hb => by
    obtain ⟨s, h⟩ := idx_lt (xs := [a, b]) (an v 1) (wrap_an v 1 (by decide)) (Nat.lt_of_le_of_lt (an_le v 1) (show 1 < 2 by decide))
    have hm := idx_in (an v 1) (wrap_an v 1 (by decide)) h
    simp only [List.mem_cons, List.not_mem_nil, or_false] at hm
    exact ⟨s, h, by rcases hm with rfl | rfl <;> assumption⟩
  have three : ∀ (a b c : ByteArray) (v : Int), a.size ≤ 3 → b.size ≤ 3 → c.size ≤ 3 → ∃ x, idx [a, b, c] (Int.tmod (IntKind.i64.wrap (an v 255 : Int)) 3) = some x ∧ x.size ≤ 3 := fun a b c v ha hb hc => by
    have e : Int.tmod (IntKind.i64.wrap (an v 255 : Int)) 3 = ((an v 255 % 3 : Nat) : Int) := by rw [an8]; rfl
    obtain ⟨s, h⟩ := idx_lt (xs := [a, b, c]) (an v 255 % 3) e (Nat.mod_lt _ (by decide))
    have hm := idx_in (an v 255 % 3) e h
    simp only [List.mem_cons, List.not_mem_nil, or_false] at hm
    exact ⟨s, h, by rcases hm with rfl | rfl | rfl <;> assumption⟩
  unfold law2_Tame
  obtain ⟨s1, h1, k1⟩ := nm (sh z 1)
  obtain ⟨s2, h2, k2⟩ := nm (sh z 13)
  obtain ⟨x1, e1, l1⟩ := two { data := #[97] } { data := #[98] } z (by decide) (by decide)
  obtain ⟨x2, e2, l2⟩ := two { data := #[114] } { data := #[115] } (sh z 4) (by decide) (by decide)
  obtain ⟨x3, e3, l3⟩ := three { data := #[117] } { data := #[97] } { data := #[98] } (sh z 5) (by decide) (by decide) (by decide)
  obtain ⟨x4, e4, l4⟩ := two { data := #[114] } { data := #[115] } (sh z 18) (by decide) (by decide)
  rw [e1, Option.bind_some, h1, Option.bind_some, e2, Option.bind_some, e3, Option.bind_some, h2, Option.bind_some]
  split
  · rw [e4]
    exact ⟨_, rfl, l1, k1, l2, l3, k2, l4⟩
  · exact ⟨_, rfl, l1, k1, l2, l3, k2, Nat.zero_le 3⟩
/-! ### a batch of numbers -/
/-- A list of so many at most, of short texts. -/
def fewT (N : Nat) (l : List GTuple) : Prop := l.length ≤ N ∧ ∀ t ∈ l, szT 3 t
theorem fewT.app {N : Nat} {l : List GTuple} {t : GTuple} (h : fewT N l) (ht : szT 3 t) : fewT (N + 1) (l ++ [t]) := ⟨by rw [List.length_append, List.length_singleton]; exact Nat.add_le_add_right h.1 1, fun x hx => by
  rcases List.mem_append.1 hx with h2 | h2
  · exact h.2 x h2
  · rw [List.mem_singleton.1 h2]
    exact ht⟩
theorem fewT.up {N : Nat} {l : List GTuple} (h : fewT N l) : fewT (N + 1) l := ⟨Nat.le_succ_of_le h.1, h.2⟩
theorem ite_tt {A B C D : List GTuple} (c b : Bool) : (if c then some (A, B, C, D, true) else some (A, B, C, D, b)) = some (A, B, C, D, c || b) := by cases c <;> rfl
theorem fewT.mono {N M : Nat} {l : List GTuple} (h : fewT N l) (k : N ≤ M) : fewT M l := ⟨Nat.le_trans h.1 k, h.2⟩
theorem batch_loop {n : Nat} (l : List Int) : ∀ (c i : Nat) (A B C D : List GTuple), i ≤ 12 → 12 - i < c → fewT i A → fewT i B → fewT i C → fewT i D → ∃ A' B' C' D', law4_Batch_L1 n l c (A, B, C, D, (i : Int)) = some (A', B', C', D') ∧ fewT 12 A' ∧ fewT 12 B' ∧ fewT 12 C' ∧ fewT 12 D'
  | 0, _, _, _, _, _, _, h, _, _, _, _ => by omega
  | c + 1, i, A, B, C, D, hi, hc, hA, hB, hC, hD => by
    have ih := batch_loop (n := n) l c (i + 1)
    have fin : ∃ A' B' C' D', some (A, B, C, D) = some (A', B', C', D') ∧ fewT 12 A' ∧ fewT 12 B' ∧ fewT 12 C' ∧ fewT 12 D' := ⟨_, _, _, _, rfl, hA.mono hi, hB.mono hi, hC.mono hi, hD.mono hi⟩
    unfold law4_Batch_L1
    dsimp only
    by_cases h : i < l.length
    · rw [dlt h, if_pos rfl, Option.bind_some]
      dsimp only
      by_cases h3 : i < 12
      · obtain ⟨t, ht, hz⟩ := tame_sz n (sh l[i] 4)
        have ok : ∀ X : List GTuple, fewT i X → app X [t] = some (X ++ [t]) := fun X hX => appS (by have := hX.1; simp; omega)
        have ok2 : ∀ (X : List GTuple) (t : GTuple), fewT i X → app X [t] = some (X ++ [t]) := fun X t hX => appS (by have := hX.1; simp; omega)
        rw [show decide ((i : Int) < 12) = true by simp; omega, if_pos rfl, idxS h, Option.bind_some, ht, Option.bind_some]
        simp only [ite_tt, Option.bind_some, wr1 (show i < 9223372036854775807 by omega)]
        split
        · rw [ok A hA, Option.bind_some]
          exact ih _ _ _ _ (by omega) (by omega) (hA.app hz) hB.up hC.up hD.up
        · split
          · rw [ok B hB, Option.bind_some]
            exact ih _ _ _ _ (by omega) (by omega) hA.up (hB.app hz) hC.up hD.up
          · split
            · rw [ok C hC, Option.bind_some]
              exact ih _ _ _ _ (by omega) (by omega) hA.up hB.up (hC.app hz) hD.up
            · split
              · rw [ok D hD, Option.bind_some]
                exact ih _ _ _ _ (by omega) (by omega) hA.up hB.up hC.up (hD.app hz)
              · rw [ok2 A _ hA, Option.bind_some]
                exact ih _ _ _ _ (by omega) (by omega) (hA.app (by unfold szT; decide)) hB.up hC.up hD.up
      · rw [show decide ((i : Int) < 12) = false by simp; omega, if_neg (by decide)]
        exact fin
    · rw [dnlt (by omega), if_neg (by decide), Option.bind_some]
      dsimp only
      rw [if_neg (by decide)]
      exact fin
/-- A batch of few, of short texts. -/
def fewB (b : GBatch) : Prop := fewT 12 b.add ∧ fewT 12 b.drop ∧ fewT 12 b.must ∧ fewT 12 b.not_
theorem batch_some {n : Nat} (l : List Int) (hn : 12 < n) : ∃ b, law4_Batch n l = some b ∧ fewB b := by
  have e : fewT 0 [] := ⟨Nat.le_refl _, fun t h => by simp at h⟩
  obtain ⟨A, B, C, D, h, k⟩ := batch_loop (n := n) l n 0 [] [] [] [] (by decide) (by omega) e e e e
  unfold law4_Batch
  have h' : law4_Batch_L1 n l n ([], [], [], [], 0) = some (A, B, C, D) := h
  rw [h']
  exact ⟨_, rfl, k⟩
/-! ### a write -/
theorem wrong_some {n N : Nat} {l : List GTuple} (h : ∀ t ∈ l, szT N t) (hn : N < n) (hN : N < 4611686018427387904) (hl : l.length < n) (hl2 : l.length < 4611686018427387904) : stor_wrong n l = some (l.any fun t => !okB t) := by
  unfold stor_wrong slices_ContainsFunc_Tuple__stor_wrong_c1
  obtain ⟨v, e1, e2⟩ := ixf_some (L := slices_IndexFunc_Tuple__stor_wrong_c1_L1 n l) (xs := l) (P := stor_wrong_c1 n) (fun t => !okB t) (fun c i => rfl) (fun t ht => by
    unfold stor_wrong_c1
    rw [tuplOk_some (h t ht) hn hN]
    rfl) hl2 hl
  replace e1 : slices_IndexFunc_Tuple__stor_wrong_c1 n l = some v := e1
  rw [e1, Option.bind_some, e2]
  rfl
theorem has_any {n : Nat} (hn : 10 < n) {l now : List GTuple} (hs : tO.Rises now) (h1 : now.length ≤ 4294967296) (h2 : now.length < n) (hl : l.length < n) (hl2 : l.length < 4611686018427387904) : slices_ContainsFunc_Tuple__stor_Store_Write_c1 n l now = some (l.any fun t => decide (t ∈ now)) := by
  unfold slices_ContainsFunc_Tuple__stor_Store_Write_c1
  obtain ⟨v, e1, e2⟩ := ixf_some (L := slices_IndexFunc_Tuple__stor_Store_Write_c1_L1 n l now) (xs := l) (P := fun t => stor_Store_Write_c1 n t now) (fun t => decide (t ∈ now)) (fun c i => rfl) (fun t ht => by
    unfold stor_Store_Write_c1
    rw [rHas_some hn t hs h1 h2]
    rfl) hl2 hl
  replace e1 : slices_IndexFunc_Tuple__stor_Store_Write_c1 n l now = some v := e1
  rw [e1, Option.bind_some, e2]
theorem eqT_some {n : Nat} (a b : List GTuple) (h1 : a.length < 4611686018427387904) (h2 : a.length < n) : slices_Equal_Tuple n a b = some (decide (a = b)) := by
  unfold slices_Equal_Tuple
  by_cases hl : a.length = b.length
  · rw [if_neg (by simp [hl])]
    have h : slices_Equal_Tuple_L1 n a b n 0 = _ := same_loop (L := slices_Equal_Tuple_L1 n a b) (xs := a) (ys := b) tupE (fun c i => rfl) hl h1 n 0 (by omega) (by omega)
    rw [h, List.drop_zero, List.drop_zero, Option.bind_some]
    by_cases e : a = b
    · rw [if_pos e, decide_eq_true e]
    · rw [if_neg e, decide_eq_false e]
  · rw [if_pos (by simp; omega), decide_eq_false fun e => hl (congrArg List.length e)]
/-- The set that a batch makes. -/
def nextP (now : List GTuple) (b : GBatch) : List GTuple := tO.ofL (subT (tO.ofL now) (tO.ofL (tO.ofL b.drop)) ++ tO.ofL b.add)
def badB (b : GBatch) : Bool := (b.add.any fun t => !okB t) || ((b.drop.any fun t => !okB t) || ((b.must.any fun t => !okB t) || (b.not_.any fun t => !okB t)))
/-- What a write answers, and whether it changes anything. -/
def verP (m : Nat) (now : List GTuple) (b : GBatch) : Int × Bool :=
  if badB b then (2, false) else if (subT (tO.ofL (tO.ofL b.add)) (tO.ofL (tO.ofL b.drop))).length < (tO.ofL b.add).length then (6, false) else if b.must.any fun t => !decide (t ∈ now) then (4, false) else if b.not_.any fun t => decide (t ∈ now) then (3, false) else if m < (nextP now b).length then (5, false) else if nextP now b = now then (0, false) else (0, true)
theorem or_chain {a b c d : Bool} : (if a then some true else (some b).bind fun x => if x then some true else (some c).bind fun y => if y then some true else (some d).bind fun z => some z) = some (a || (b || (c || d))) := by
  cases a <;> cases b <;> cases c <;> cases d <;> rfl
theorem write_eq {X : Type} {n m N : Nat} {now : List GTuple} {b : GBatch} {Mx : Int} {Cn : Option (List GTuple)} {Cm : List GTuple → Option Bool} {K : Int → Option X} {A : List GTuple → Option X}
    (hn : 10 < n) (hM : Mx = (m : Int)) (hCn : Cn = some now) (hCm : Cm now = some (b.must.any fun t => !decide (t ∈ now))) (hs : tO.Rises now) (hN : N < n) (hN2 : N < 4611686018427387904)
    (h1 : ∀ t ∈ b.add, szT N t) (h2 : ∀ t ∈ b.drop, szT N t) (h3 : ∀ t ∈ b.must, szT N t) (h4 : ∀ t ∈ b.not_, szT N t) (k0 : now.length + b.add.length < n) (k1 : b.add.length < n) (k2 : b.drop.length < n) (k3 : b.must.length < n) (k4 : b.not_.length < n) (q0 : now.length + b.add.length ≤ 4294967296) (q2 : b.drop.length ≤ 4294967296) (q3 : b.must.length < 4611686018427387904) (q4 : b.not_.length < 4611686018427387904) :
    ((((stor_wrong n b.add).bind fun t12 => (if t12 then some true else (stor_wrong n b.drop).bind fun t16 => (if t16 then some true else (stor_wrong n b.must).bind fun t21 => (if t21 then some true else (stor_wrong n b.not_).bind fun t26 => some t26)))) : Option Bool).bind fun t27 => (if t27 then K 2 else
      (rows_Of n b.add).bind fun t30 => (rows_Of n b.drop).bind fun t33 => Cn.bind fun t22 => (rows_Minus n t22 t33).bind fun t39 => (rows_Plus n t39 t30).bind fun t41 => (rows_Minus n t30 t33).bind fun t45 => (if (decide ((t45.length : Int) < (t30.length : Int))) then K 6 else (Cm t22).bind fun t42 => (if t42 then K 4 else (slices_ContainsFunc_Tuple__stor_Store_Write_c1 n b.not_ t22).bind fun t59 => (if t59 then K 3 else (if (decide (Mx < (t41.length : Int))) then K 5 else (slices_Equal_Tuple n t41 t22).bind fun t70 => (if t70 then K 0 else A t41))))))) = if (verP m now b).2 then A (nextP now b) else K (verP m now b).1 := by
  subst hM
  have l1 := ofL_len tO b.add
  have l2 := ofL_len tO b.drop
  have l3 := ofL_len tO now
  have l4 : (subT (tO.ofL now) (tO.ofL (tO.ofL b.drop))).length ≤ (tO.ofL now).length := List.length_filter_le ..
  have l5 : (nextP now b).length ≤ now.length + b.add.length := by
    have := ofL_len tO (subT (tO.ofL now) (tO.ofL (tO.ofL b.drop)) ++ tO.ofL b.add)
    rw [List.length_append] at this
    unfold nextP
    omega
  rw [wrong_some h1 hN hN2 k1 (by omega), Option.bind_some, wrong_some h2 hN hN2 k2 (by omega), wrong_some h3 hN hN2 k3 q3, wrong_some h4 hN hN2 k4 q4, or_chain, Option.bind_some]
  unfold verP
  change (if badB b = true then _ else _) = _
  cases badB b with
  | true => rfl
  | false =>
    simp only [Bool.false_eq_true, ↓reduceIte]
    rw [of_some (by omega), Option.bind_some, of_some (by omega), Option.bind_some, hCn, Option.bind_some, minus_some hn (by omega) (by omega) (by omega) (by omega), Option.bind_some, plus_some (by omega), Option.bind_some, minus_some hn (by omega) (by omega) (by omega) (by omega), Option.bind_some]
    by_cases e6 : (subT (tO.ofL (tO.ofL b.add)) (tO.ofL (tO.ofL b.drop))).length < (tO.ofL b.add).length
    · rw [dlt e6]
      simp only [e6, ↓reduceIte, Bool.false_eq_true]
    · rw [dnlt (by omega), hCm, Option.bind_some]
      simp only [e6, ↓reduceIte, Bool.false_eq_true]
      cases b.must.any fun t => !decide (t ∈ now) with
      | true => rfl
      | false =>
        simp only [Bool.false_eq_true, ↓reduceIte]
        rw [has_any hn hs (by omega) (by omega) k4 q4, Option.bind_some]
        cases b.not_.any fun t => decide (t ∈ now) with
        | true => rfl
        | false =>
          simp only [Bool.false_eq_true, ↓reduceIte]
          change (if decide ((m : Int) < ((nextP now b).length : Int)) = true then K 5 else (slices_Equal_Tuple n (nextP now b) now).bind fun t70 => if t70 = true then K 0 else A (nextP now b)) = _
          by_cases e5 : m < (nextP now b).length
          · rw [dlt e5]
            simp only [e5, ↓reduceIte, Bool.false_eq_true]
          · rw [dnlt (by omega), eqT_some _ _ (by omega) (by omega), Option.bind_some]
            by_cases e : nextP now b = now
            · have e5' := e5
              rw [e] at e5'
              simp only [e, e5', decide_true, ↓reduceIte, Bool.false_eq_true]
            · simp only [e5, e, decide_false, ↓reduceIte, Bool.false_eq_true]
theorem verP_cases (m : Nat) (now : List GTuple) (b : GBatch) : (∃ e, e ≠ 0 ∧ verP m now b = (e, false)) ∨ (verP m now b = (0, false) ∧ nextP now b = now) ∨ (verP m now b = (0, true) ∧ nextP now b ≠ now ∧ (nextP now b).length ≤ m) := by
  unfold verP
  split
  · exact .inl ⟨2, by decide, rfl⟩
  · split
    · exact .inl ⟨6, by decide, rfl⟩
    · split
      · exact .inl ⟨4, by decide, rfl⟩
      · split
        · exact .inl ⟨3, by decide, rfl⟩
        · split
          · exact .inl ⟨5, by decide, rfl⟩
          · rename_i h5
            split
            · rename_i h
              exact .inr (.inl ⟨rfl, h⟩)
            · rename_i h
              exact .inr (.inr ⟨rfl, h, by omega⟩)
/-- As the document says it. -/
theorem nextP_eq (now : List GTuple) (b : GBatch) : nextP now b = tO.ofL (subT (tO.ofL now) (tO.ofL b.drop) ++ b.add) := by
  unfold nextP
  rw [tO.ofL_self (tO.rises_ofL b.drop)]
  refine tO.ofL_congr fun x => ?_
  rw [List.mem_append, List.mem_append, tO.mem_ofL]
theorem nextP_rises (now : List GTuple) (b : GBatch) : tO.Rises (nextP now b) := tO.rises_ofL _
/-! ### what the store tells -/
theorem rev_some (n : Nat) (M : Int) (w : List (List GTuple)) (now : List GTuple) (hw : w.length < 4294967296) : stor_Store_Rev n (⟨M, w ++ [now]⟩ : StorStore) = some (w.length : Int) := by
  unfold stor_Store_Rev
  rw [List.length_append, List.length_singleton, show (((w.length + 1 : Nat) : Int) - 1) = (w.length : Int) by omega, wr (by omega) (by omega)]
theorem idx_last {α : Type} (w : List α) (x : α) : idx (w ++ [x]) (w.length : Int) = some x := by
  rw [idx_nat, List.getElem?_append_right (Nat.le_refl _), Nat.sub_self]
  rfl
theorem now_some (n : Nat) (M : Int) (w : List (List GTuple)) (now : List GTuple) (hw : w.length < 4294967296) : stor_Store_now n (⟨M, w ++ [now]⟩ : StorStore) = some now := by
  unfold stor_Store_now
  rw [rev_some n M w now hw, Option.bind_some, idx_last]
  rfl
theorem len_some (n : Nat) (M : Int) (w : List (List GTuple)) (now : List GTuple) (hw : w.length < 4294967296) : stor_Store_Len n (⟨M, w ++ [now]⟩ : StorStore) = some (now.length : Int) := by
  unfold stor_Store_Len
  rw [now_some n M w now hw]
  rfl
theorem grd_list (x : List GTuple) (h : x.length ≤ 4294967296) : (if (decide (x.length = 0)) then some [] else grd (decide (x.length ≤ 4294967296)) <| some x) = some x := by
  by_cases h0 : x.length = 0
  · rw [decide_eq_true h0, if_pos rfl, List.eq_nil_of_length_eq_zero h0]
  · rw [decide_eq_false h0, if_neg (by decide), decide_eq_true h]
    rfl
theorem all_some (n : Nat) (M : Int) (w : List (List GTuple)) (now : List GTuple) (hw : w.length < 4294967296) (hx : now.length ≤ 4294967296) : stor_Store_All n (⟨M, w ++ [now]⟩ : StorStore) = some now := by
  unfold stor_Store_All
  rw [now_some n M w now hw, Option.bind_some, grd_list now hx]
theorem at_some (n : Nat) (M : Int) (w : List (List GTuple)) (hw : w.length < 4294967296) (k : Nat) (hk : k < w.length) (hx : w[k].length ≤ 4294967296) : stor_Store_At n (⟨M, w⟩ : StorStore) (k : Int) = some (w[k], true) := by
  unfold stor_Store_At stor_Store_Rev
  rw [show decide ((k : Int) < 0) = false from decide_eq_false (by omega), if_neg (by decide), Option.bind_some, wr (by dsimp only; omega) (by dsimp only; omega), show decide (((w.length : Int) - 1) < (k : Int)) = false from decide_eq_false (by omega), Option.bind_some, if_neg (by decide), idxS hk, Option.bind_some]
  by_cases h0 : w[k].length = 0
  · rw [decide_eq_true h0, if_pos rfl, List.eq_nil_of_length_eq_zero h0]
  · rw [decide_eq_false h0, if_neg (by decide), decide_eq_true hx]
    rfl
end Go.Proofs.Ytdckfddlcmkdlaa.Ab
