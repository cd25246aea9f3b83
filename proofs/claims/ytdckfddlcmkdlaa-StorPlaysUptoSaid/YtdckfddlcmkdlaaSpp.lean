/-
  StorPlays: the plain law. No program in sight.
-/
import Derived.Test.YtdckfddlcmkdlaaSpa
import Derived.Test.YtdckfddlcmkdlaaStl
namespace Go.Proofs.Ytdckfddlcmkdlaa.Ab
open Go.RowKit
theorem dAlnum_some (n : Nat) (c : Int) : ref1_alnum n c = some (firstB c) := first_if c
theorem dName_some {n : Nat} (s : ByteArray) (h : s.size < n) (hs : s.size < 4611686018427387904) : ref1_Name n s = some (nameB s) := by
  unfold ref1_Name
  have hL : ref1_Name_L1 n s n 0 = _ := all_loop (L := ref1_Name_L1 n s) (s := s) plainB (fun c i x hx hi => by
    rw [ref1_Name_L1, dlt hi, if_pos rfl, hx, Option.bind_some, dAlnum_some, Option.bind_some, wr1 (by omega)]
    unfold plainB
    cases firstB (x.toNat : Int) <;> cases h1 : (x.toNat : Int) == 95 <;> cases h2 : (x.toNat : Int) == 45 <;> cases h3 : (x.toNat : Int) == 46 <;> simp [bne, h1, h2, h3]) (fun c i hi => by rw [ref1_Name_L1, dnlt hi, if_neg (by decide)]) n 0 (by omega) (by omega)
  rw [List.drop_zero] at hL
  exact name_eq (b1 := decide ((s.size : Int) < 1)) (by rw [decide_eq_decide]; omega) (fun c => dAlnum_some n c) hL
theorem dID_some {n : Nat} (s : ByteArray) (h : s.size < n) (hs : s.size < 4611686018427387904) : ref1_ID n s = some (idB s) := by
  unfold ref1_ID
  have hL : ref1_ID_L1 n s n 0 = _ := all_loop (L := ref1_ID_L1 n s) (s := s) idC (fun c i x hx hi => by
    rw [ref1_ID_L1, dlt hi, if_pos rfl, hx, Option.bind_some, dAlnum_some, Option.bind_some, wr1 (by omega)]
    unfold idC plainB
    cases firstB (x.toNat : Int) <;> cases h1 : (x.toNat : Int) == 95 <;> cases h2 : (x.toNat : Int) == 45 <;> cases h3 : (x.toNat : Int) == 46 <;> cases h4 : (x.toNat : Int) == 47 <;> cases h5 : (x.toNat : Int) == 124 <;> cases h6 : (x.toNat : Int) == 42 <;> simp [bne, h1, h2, h3, h4, h5, h6]) (fun c i hi => by rw [ref1_ID_L1, dnlt hi, if_neg (by decide)]) n 0 (by omega) (by omega)
  rw [List.drop_zero] at hL
  rw [hL, Option.bind_some]
  unfold idB
  cases s.data.toList.all fun x => idC (x.toNat : Int) with
  | false => rw [if_neg (by decide)]; simp
  | true =>
    rw [if_pos rfl]
    dsimp only
    by_cases h0 : s.size = 0
    · rw [decide_eq_false (show ¬ 1 ≤ (s.size : Int) by omega), if_neg (by decide), decide_eq_false (show ¬ 0 < s.size by omega)]
      simp
    · rw [decide_eq_true (show 1 ≤ (s.size : Int) by omega), if_pos rfl, decide_eq_true (show 0 < s.size by omega)]
      simp
      omega
theorem dOk_some {n N : Nat} {t : GTuple} (h : szT N t) (hn : N < n) (hN : N < 4611686018427387904) : ref1_Ok n t = some (okB t) := by
  obtain ⟨h1, h2, h3, h4, h5, h6⟩ := h
  unfold ref1_Ok okB
  rw [dName_some _ (by omega) (by omega), Option.bind_some, dID_some _ (by omega) (by omega), Option.bind_some, dName_some t.rel (by omega) (by omega), Option.bind_some, dName_some t.sub_.type_ (by omega) (by omega), Option.bind_some, dID_some t.sub_.id_ (by omega) (by omega), Option.bind_some, dName_some t.sub_.rel (by omega) (by omega), Option.bind_some, emptyB]
  refine ite_and (ite_and (ite_and (ite_and (ite_and ?_))))
  cases decide (t.sub_.rel.size = 0) <;> rfl
/-- A loop that is left with what it says where one is such. -/
theorem find_loop {X : Type} {L : Nat → Int → Option (Unit ⊕ X)} {xs : List GTuple} (p : GTuple → Bool) (r : X) (h1 : ∀ (c i : Nat) (h : i < xs.length), L (c + 1) (i : Int) = if p xs[i] then some (.inr r) else L c ((i + 1 : Nat) : Int)) (h2 : ∀ (c i : Nat), xs.length ≤ i → L (c + 1) (i : Int) = some (.inl ())) : ∀ (c i : Nat), i ≤ xs.length → xs.length - i < c → L c (i : Int) = some (if (xs.drop i).any p then .inr r else .inl ())
  | 0, _, _, h => by omega
  | c + 1, i, hi, hc => by
    by_cases h : i < xs.length
    · rw [h1 c i h, List.drop_eq_getElem_cons h, List.any_cons]
      cases p xs[i] with
      | true => rfl
      | false => rw [if_neg (by decide), find_loop p r h1 h2 c (i + 1) (by omega) (by omega), Bool.false_or]
    · rw [h2 _ _ (by omega), List.drop_eq_nil_of_le (by omega)]
      rfl
/-- What the document's write answers. -/
theorem sub_short {a b : List GTuple} : (subT a b).length < a.length ↔ (a.any fun x => decide (x ∈ b)) = true := by
  unfold subT
  induction a with
  | nil => simp
  | cons x a ih =>
    have hl := List.length_filter_le (fun x => decide (x ∉ b)) a
    rw [List.filter_cons, List.any_cons]
    by_cases h : x ∈ b
    · rw [if_neg (by simp [h])]
      exact iff_of_true (by rw [List.length_cons]; exact Nat.lt_succ_of_le hl) (by simp [h])
    · rw [if_pos (by simp [h]), List.length_cons, List.length_cons, Nat.add_lt_add_iff_right, ih]
      simp [h]
theorem any_ofL (l : List GTuple) (p : GTuple → Bool) : (tO.ofL l).any p = l.any p := by
  rw [Bool.eq_iff_iff, List.any_eq_true, List.any_eq_true]
  constructor
  · rintro ⟨x, h1, h2⟩
    exact ⟨x, tO.mem_ofL.1 h1, h2⟩
  · rintro ⟨x, h1, h2⟩
    exact ⟨x, tO.mem_ofL.2 h1, h2⟩
theorem ver_both (b : GBatch) : ((subT (tO.ofL (tO.ofL b.add)) (tO.ofL (tO.ofL b.drop))).length < (tO.ofL b.add).length) ↔ (b.add.any fun x => decide (x ∈ tO.ofL b.drop)) = true := by
  rw [tO.ofL_self (tO.rises_ofL b.add), tO.ofL_self (tO.rises_ofL b.drop), sub_short, any_ofL]
theorem bad_app (b : GBatch) : ((b.add ++ b.drop ++ b.must ++ b.not_).any fun t => !okB t) = badB b := by
  unfold badB
  simp only [List.any_append, Bool.or_assoc]
theorem doc_tail {X : Type} {n m : Nat} {now : List GTuple} {b : GBatch} {Mx : Int} {K5 K0 : Option X} {A : List GTuple → Option X} (hM : Mx = (m : Int)) (q0 : now.length + b.add.length + 2 ≤ n) (q1 : b.drop.length + 2 ≤ n) (p0 : now.length + b.add.length ≤ 4294967296) (p1 : b.drop.length ≤ 4294967296) :
    ((ref1_Minus n now b.drop).bind fun t => (ref1_Plus n t b.add).bind fun q => (if (decide (Mx < (q.length : Int))) then K5 else (ref1_Same n q now).bind fun s => (if s then K0 else A q))) = if m < (nextP now b).length then K5 else if nextP now b = now then K0 else A (nextP now b) := by
  subst hM
  have lm : (subT (tO.ofL now) (tO.ofL b.drop)).length ≤ now.length := Nat.le_trans (List.length_filter_le ..) (ofL_len tO now)
  have ln : (nextP now b).length ≤ now.length + b.add.length := by
    rw [nextP_eq]
    have := ofL_len tO (subT (tO.ofL now) (tO.ofL b.drop) ++ b.add)
    rw [List.length_append] at this
    omega
  rw [dMinus_some (by omega) (by omega) (by omega) (by omega), Option.bind_some, dPlus_some (by omega) (by omega), Option.bind_some, ← nextP_eq]
  by_cases e5 : m < (nextP now b).length
  · rw [dlt e5, if_pos rfl, if_pos e5]
  · rw [dnlt (by omega), if_neg (by decide), if_neg e5, dSame_some _ _ (by omega) (by omega), Option.bind_some]
    by_cases e : nextP now b = now
    · rw [decide_eq_true e, if_pos rfl, if_pos e]
    · rw [decide_eq_false e, if_neg (by decide), if_neg e]
/-- The verdict, as the document finds it. -/
theorem ver_doc (m : Nat) (now : List GTuple) (b : GBatch) : verP m now b = if badB b then (2, false) else if b.add.any fun x => decide (x ∈ tO.ofL b.drop) then (6, false) else if b.must.any fun t => !decide (t ∈ now) then (4, false) else if b.not_.any fun t => decide (t ∈ now) then (3, false) else if m < (nextP now b).length then (5, false) else if nextP now b = now then (0, false) else (0, true) := by
  unfold verP
  simp only [ver_both]
/-! ### any revision -/
theorem at_any (n : Nat) (M : Int) (w : List (List GTuple)) (hw : w.length < 4294967296) (hx : ∀ x ∈ w, x.length ≤ 4294967296) (r : Int) : (∃ k : Nat, ∃ h : k < w.length, r = (k : Int) ∧ stor_Store_At n (⟨M, w⟩ : StorStore) r = some (w[k], true)) ∨ ((r < 0 ∨ (w.length : Int) ≤ r) ∧ stor_Store_At n (⟨M, w⟩ : StorStore) r = some ([], false)) := by
  by_cases h : 0 ≤ r ∧ r < (w.length : Int)
  · refine .inl ⟨r.toNat, by omega, by omega, ?_⟩
    have := at_some n M w hw r.toNat (by omega) (hx _ (List.getElem_mem _))
    rwa [Int.toNat_of_nonneg h.1] at this
  · refine .inr ⟨by omega, ?_⟩
    unfold stor_Store_At stor_Store_Rev
    by_cases h0 : r < 0
    · rw [decide_eq_true h0, if_pos rfl, Option.bind_some, if_pos rfl]
    · rw [decide_eq_false h0, if_neg (by decide), Option.bind_some]
      by_cases hz : w.length = 0
      · rw [List.eq_nil_of_length_eq_zero hz, show IntKind.i64.wrap (((List.length ([] : List (List GTuple)) : Nat) : Int) - 1) = -1 from rfl, show decide ((-1 : Int) < r) = true from decide_eq_true (by omega), Option.bind_some, if_pos rfl]
      · rw [wr (by dsimp only; omega) (by dsimp only; omega), show decide (((w.length : Int) - 1) < r) = true from decide_eq_true (by omega), Option.bind_some, if_pos rfl]
theorem at_step {n : Nat} (M : Int) {w : List (List GTuple)} (hw : w.length < 4294967296) (hx : ∀ x ∈ w, x.length ≤ 1000000) (hn : 1000000 < n) (r : Int) (X : Option (Unit ⊕ Bool)) :
    ((stor_Store_At n (⟨M, w⟩ : StorStore) r).bind fun t => ((if (decide (0 ≤ r)) then some (decide (r < (w.length : Int))) else some false) : Option Bool).bind fun is => (if (t.2 == is) then (if is then (idx w r).bind fun x => (ref1_Same n t.1 x).bind fun b => (if b then X else some (.inr false)) else (if (decide (0 < (t.1.length : Int))) then some (.inr false) else X)) else some (.inr false))) = X := by
  rcases at_any n M w hw (fun x h => Nat.le_trans (hx x h) (by decide)) r with ⟨k, hk, rfl, e⟩ | ⟨h, e⟩
  · have := hx _ (List.getElem_mem hk)
    rw [e, Option.bind_some, decide_eq_true (show (0 : Int) ≤ (k : Int) by omega), if_pos rfl, Option.bind_some, dlt hk]
    simp only [beq_self_eq_true, ↓reduceIte]
    rw [idxS hk, Option.bind_some, dSame_some _ _ (by omega) (by omega), decide_eq_true rfl, Option.bind_some, if_pos rfl]
  · rw [e, Option.bind_some]
    by_cases h0 : 0 ≤ r
    · rw [decide_eq_true h0, if_pos rfl, Option.bind_some, decide_eq_false (show ¬ r < (w.length : Int) by omega)]
      rfl
    · rw [decide_eq_false h0, if_neg (by decide), Option.bind_some]
      rfl
end Go.Proofs.Ytdckfddlcmkdlaa.Ab
