/-
  StorPast: the plain law. No program in sight.
-/
import Derived.Test.YtdckfddlcmkdlaaPta
import Derived.Test.YtdckfddlcmkdlaaStl
namespace Go.Proofs.Ytdckfddlcmkdlaa.Ab
open Go.RowKit
theorem szT.up {N M : Nat} {t : GTuple} (h : szT N t) (k : N ≤ M) : szT M t := ⟨Nat.le_trans h.1 k, Nat.le_trans h.2.1 k, Nat.le_trans h.2.2.1 k, Nat.le_trans h.2.2.2.1 k, Nat.le_trans h.2.2.2.2.1 k, Nat.le_trans h.2.2.2.2.2 k⟩
section
variable {α : Type}
/-- Does a list rise? -/
def riseB (O : Lin α) : List α → Bool
  | [] => true
  | [_] => true
  | x :: y :: r => O.lt x y && riseB O (y :: r)
theorem rise_loop (O : Lin α) {L : Nat → Int → Option (Unit ⊕ Bool)} {xs : List α} (h1 : ∀ (c i : Nat) (h : i + 1 < xs.length), L (c + 1) ((i + 1 : Nat) : Int) = if O.lt xs[i] xs[i + 1] then L c ((i + 2 : Nat) : Int) else some (.inr false))
    (h2 : ∀ (c i : Nat), xs.length ≤ i → L (c + 1) (i : Int) = some (.inl ())) : ∀ (c i : Nat), i ≤ xs.length → xs.length - i < c → L c ((i + 1 : Nat) : Int) = some (if riseB O (xs.drop i) then .inl () else .inr false)
  | 0, _, _, h => by omega
  | c + 1, i, hi, hc => by
    by_cases h : i + 1 < xs.length
    · rw [h1 c i h, List.drop_eq_getElem_cons (show i < xs.length by omega), List.drop_eq_getElem_cons h, riseB, rise_loop O h1 h2 c (i + 1) (by omega) (by omega), List.drop_eq_getElem_cons h]
      cases O.lt xs[i] xs[i + 1] <;> simp
    · rw [h2 _ _ (by omega)]
      have : riseB O (xs.drop i) = true := by
        match e : xs.drop i with
        | [] => rfl
        | [x] => rfl
        | x :: y :: r =>
          have := congrArg List.length e
          rw [List.length_drop, List.length_cons, List.length_cons] at this
          omega
      rw [if_pos this]
end
theorem dIs_some' {n : Nat} {l : List GTuple} (h1 : l.length < 4294967296) (h2 : l.length + 1 < n) : ref1_Is n l = some (riseB tO l) := by
  unfold ref1_Is
  have key := rise_loop tO (L := ref1_Is_L1 n l) (xs := l) (fun c i h => by
    rw [ref1_Is_L1, dlt h, if_pos rfl, show ((i + 1 : Nat) : Int) - 1 = (i : Int) by omega, wr (by omega) (by omega), idxS (by omega), Option.bind_some, idxS h, Option.bind_some, show ref1_Less n _ _ = some _ from rfl, Option.bind_some, wr1 (by omega)]) (fun c i h => by rw [ref1_Is_L1, dnlt h, if_neg (by decide)]) n 0 (by omega) (by omega)
  have e : ref1_Is_L1 n l n 1 = some (if riseB tO l then .inl () else .inr false) := key
  rw [e, Option.bind_some]
  cases riseB tO l <;> rfl
theorem riseB_true : ∀ {l : List GTuple}, tO.Rises l → riseB tO l = true
  | [], _ => rfl
  | [_], _ => rfl
  | x :: y :: r, h => by
    have h1 := List.pairwise_cons.1 h
    rw [riseB, h1.1 y (by simp), riseB_true h1.2]
    rfl
theorem pt_must {n : Nat} (hn : 3000000 ≤ n) {b : GBatch} (hb : fewB b) (w p : List (List GTuple)) {now : List GTuple} (hs : tO.Rises now) (h1 : now.length ≤ 1000000) : law4_StorPast_C4_slices_ContainsFunc_Tuple n w p b now = some (b.must.any fun t => !decide (t ∈ now)) := by
  have hl := hb.2.2.1.1
  unfold law4_StorPast_C4_slices_ContainsFunc_Tuple
  obtain ⟨v, e1, e2⟩ := ixf_some (n := n) (L := law4_StorPast_L3 n w p b now) (xs := b.must) (P := fun t => law4_StorPast_C6_stor_Store_Write_c2 n now t) (fun t => !decide (t ∈ now)) (fun c i => rfl) (fun t ht => by
    unfold law4_StorPast_C6_stor_Store_Write_c2 stor_Store_Write_c1
    rw [rHas_some (by omega) t hs (by omega) (by omega)]
    rfl) (by omega) (by omega)
  replace e1 : law4_StorPast_C5_slices_IndexFunc_Tuple n w p b now = some v := e1
  rw [e1, Option.bind_some, e2]
theorem pt_write {n : Nat} (hn : 3000000 ≤ n) {b : GBatch} (hb : fewB b) {w p : List (List GTuple)} {now : List GTuple} (hw : w.length ≤ 100) (hs : tO.Rises now) (hl : now.length ≤ 1000000) : law4_StorPast_C2_stor_Store_Write n (w ++ [now]) p b = if (verP 1000 now b).2 then some (0, (w ++ [now]) ++ [nextP now b]) else some ((verP 1000 now b).1, w ++ [now]) := by
  have i1 := hb.1.1
  have i2 := hb.2.1.1
  have i3 := hb.2.2.1.1
  have i4 := hb.2.2.2.1
  unfold law4_StorPast_C2_stor_Store_Write
  refine (write_eq (n := n) (m := 1000) (N := 3) (now := now) (b := b) (Cm := fun t22 => law4_StorPast_C4_slices_ContainsFunc_Tuple n (w ++ [now]) p b t22) (K := fun e => some (e, w ++ [now])) (A := fun t => (app (w ++ [now]) [t]).bind fun l => some (0, l)) (by omega) rfl
    (by
      unfold law4_StorPast_C3_stor_Store_now
      rw [rev_some n _ w now (by omega), Option.bind_some, idx_last]
      rfl)
    (pt_must hn hb _ _ hs (by omega)) hs (by omega) (by decide) hb.1.2 hb.2.1.2 hb.2.2.1.2 hb.2.2.2.2 (by omega) (by omega) (by omega) (by omega) (by omega) (by omega) (by omega) (by omega) (by omega)).trans ?_
  split
  · rw [appS (by simp; omega)]
    rfl
  · rfl
/-- How a store stands, and what was kept of it: all that was, but perhaps the last. -/
structure goodP (i : Nat) (w : List (List GTuple)) (now : List GTuple) (p : List (List GTuple)) : Prop where
  n : w.length ≤ i
  s : ∀ x ∈ w ++ [now], x.length ≤ 1000000
  r : tO.Rises now
  p : ∃ q, p ++ q = w ++ [now] ∧ q.length ≤ 1
theorem goodP.l {i : Nat} {w p : List (List GTuple)} {now : List GTuple} (h : goodP i w now p) : now.length ≤ 1000000 := h.s now (by simp)
theorem pt_fill (n : Nat) {w p : List (List GTuple)} {now : List GTuple} (hw : w.length ≤ 100) (hl : now.length ≤ 1000000) {q : List (List GTuple)} (h : p ++ q = w ++ [now]) (hq : q.length ≤ 1) (c : Nat) : law4_StorPast_L2 n (w ++ [now]) (c + 2) p = some (w ++ [now]) := by
  have stop : ∀ c, law4_StorPast_L2 n (w ++ [now]) (c + 1) (w ++ [now]) = some (w ++ [now]) := fun c => by
    rw [law4_StorPast_L2, rev_some n _ w now (by omega), Option.bind_some, if_neg (by simp; omega)]
  cases q with
  | nil =>
    rw [List.append_nil] at h
    rw [h]
    exact stop (c + 1)
  | cons x r =>
    cases r with
    | cons y r => simp at hq
    | nil =>
      have h2 := List.append_inj_left' h rfl
      subst h2
      rw [law4_StorPast_L2, rev_some n _ p now (by omega), Option.bind_some, decide_eq_true (Int.le_refl _), if_pos rfl, all_some n _ p now (by omega) (by omega), Option.bind_some, appS (by simp; omega), Option.bind_some]
      exact stop c
theorem pt_zero7 (n : Nat) (x : List GTuple) (hx : x.length ≤ 1000000) : ∀ (c i : Nat) (l : List GTuple), l.length = x.length → i ≤ x.length → x.length - i < c → law4_StorPast_L7 n x c (l, (i : Int)) = some ()
  | 0, _, _, _, _, h => by omega
  | c + 1, i, l, h1, h2, h3 => by
    rw [law4_StorPast_L7]
    by_cases h : i < x.length
    · rw [dlt h, if_pos rfl, idxS (by omega), Option.bind_some, Option.bind_some, wr1 (by omega)]
      exact pt_zero7 n x hx c (i + 1) _ (by rw [List.length_set]; exact h1) (by omega) (by omega)
    · rw [dnlt (by omega), if_neg (by decide)]
theorem pt_zero11 (n : Nat) (x : List GTuple) (hx : x.length ≤ 1000000) : ∀ (c i : Nat) (l : List GTuple), l.length = x.length → i ≤ x.length → x.length - i < c → law4_StorPast_L11 n x c (l, (i : Int)) = some ()
  | 0, _, _, _, _, h => by omega
  | c + 1, i, l, h1, h2, h3 => by
    rw [law4_StorPast_L11]
    by_cases h : i < x.length
    · rw [dlt h, if_pos rfl, idxS (by omega), Option.bind_some, Option.bind_some, wr1 (by omega)]
      exact pt_zero11 n x hx c (i + 1) _ (by rw [List.length_set]; exact h1) (by omega) (by omega)
    · rw [dnlt (by omega), if_neg (by decide)]
theorem pt_tame (n : Nat) (x : List GTuple) (hx : x.length ≤ 1000000) : ∀ (c i : Nat) (l : List GTuple), l.length = x.length → i ≤ x.length → x.length - i < c → law4_StorPast_L8 n x c (l, (i : Int)) = some ()
  | 0, _, _, _, _, h => by omega
  | c + 1, i, l, h1, h2, h3 => by
    rw [law4_StorPast_L8]
    by_cases h : i < x.length
    · obtain ⟨t, ht, _⟩ := tame_sz n (i : Int)
      rw [dlt h, if_pos rfl, ht, Option.bind_some, idxS (by omega), Option.bind_some, Option.bind_some, wr1 (by omega)]
      exact pt_tame n x hx c (i + 1) _ (by rw [List.length_set]; exact h1) (by omega) (by omega)
    · rw [dnlt (by omega), if_neg (by decide)]
theorem idx_pre {p q w : List (List GTuple)} (h : p ++ q = w) {k : Nat} (hk : k < p.length) : ∃ hw : k < w.length, w[k] = p[k] := by
  subst h
  exact ⟨by rw [List.length_append]; omega, List.getElem_append_left hk⟩
theorem pt_look5 {n : Nat} (hn : 3000000 ≤ n) {w p q : List (List GTuple)} {now : List GTuple} (hw : w.length ≤ 100) (hx : ∀ x ∈ w ++ [now], x.length ≤ 1000000) (h : p ++ q = w ++ [now]) : ∀ (c k : Nat), k ≤ p.length → p.length - k < c → law4_StorPast_L5 n p (w ++ [now]) c (k : Int) = some (.inl ())
  | 0, _, _, h => by omega
  | c + 1, k, hk, hc => by
    have hlen := congrArg List.length h
    simp only [List.length_append, List.length_singleton] at hlen
    rw [law4_StorPast_L5]
    by_cases h1 : k < p.length
    · obtain ⟨h2, h3⟩ := idx_pre h h1
      have h4 : p[k].length ≤ 1000000 := by rw [← h3]; exact hx _ (List.getElem_mem h2)
      have ih := pt_look5 hn hw hx h c (k + 1) (by omega) (by omega)
      rw [dlt h1, if_pos rfl, show decide ((k : Int) < 0) = false from decide_eq_false (by omega), if_neg (by decide), rev_some n _ w now (by omega), Option.bind_some, show decide ((w.length : Int) < (k : Int)) = false from decide_eq_false (by omega), Option.bind_some, if_neg (by decide), idxS h2, Option.bind_some, h3, wr1 (by omega), ih, idxS h1]
      by_cases h0 : p[k].length = 0
      · rw [decide_eq_true h0, if_pos rfl, Option.bind_some, dSame_some _ _ (by simp) (by simp; omega), decide_eq_true (List.eq_nil_of_length_eq_zero h0).symm, Option.bind_some, Option.bind_some, if_neg (by decide)]
        obtain ⟨m, rfl⟩ : ∃ m, n = m + 1 := ⟨n - 1, by omega⟩
        rfl
      · have e7 : law4_StorPast_L7 n p[k] n (p[k], 0) = some () := pt_zero7 n p[k] h4 n 0 p[k] rfl (by omega) (by omega)
        rw [decide_eq_false h0, if_neg (by decide), decide_eq_true (show p[k].length ≤ 4294967296 by omega)]
        unfold grd
        rw [if_pos rfl, Option.bind_some, dSame_some _ _ (by omega) (by omega), decide_eq_true rfl, Option.bind_some, Option.bind_some, if_neg (by decide), e7, Option.bind_some]
    · rw [dnlt (by omega), if_neg (by decide)]
theorem pt_look9 {n : Nat} (hn : 3000000 ≤ n) {w p q : List (List GTuple)} {now : List GTuple} (hw : w.length ≤ 100) (hx : ∀ x ∈ w ++ [now], x.length ≤ 1000000) (h : p ++ q = w ++ [now]) : ∀ (c k : Nat), k ≤ p.length → p.length - k < c → law4_StorPast_L9 n p (w ++ [now]) c (k : Int) = some (.inl ())
  | 0, _, _, h => by omega
  | c + 1, k, hk, hc => by
    have hlen := congrArg List.length h
    simp only [List.length_append, List.length_singleton] at hlen
    rw [law4_StorPast_L9]
    by_cases h1 : k < p.length
    · obtain ⟨h2, h3⟩ := idx_pre h h1
      have h4 : p[k].length ≤ 1000000 := by rw [← h3]; exact hx _ (List.getElem_mem h2)
      have ih := pt_look9 hn hw hx h c (k + 1) (by omega) (by omega)
      rw [dlt h1, if_pos rfl, show decide ((k : Int) < 0) = false from decide_eq_false (by omega), if_neg (by decide), rev_some n _ w now (by omega), Option.bind_some, show decide ((w.length : Int) < (k : Int)) = false from decide_eq_false (by omega), Option.bind_some, if_neg (by decide), idxS h2, Option.bind_some, h3, wr1 (by omega), ih, idxS h1]
      by_cases h0 : p[k].length = 0
      · rw [decide_eq_true h0, if_pos rfl, Option.bind_some, dSame_some _ _ (by simp) (by simp; omega), decide_eq_true (List.eq_nil_of_length_eq_zero h0).symm, Option.bind_some, Option.bind_some, if_neg (by decide)]
        obtain ⟨m, rfl⟩ : ∃ m, n = m + 1 := ⟨n - 1, by omega⟩
        rfl
      · have e7 : law4_StorPast_L11 n p[k] n (p[k], 0) = some () := pt_zero11 n p[k] h4 n 0 p[k] rfl (by omega) (by omega)
        rw [decide_eq_false h0, if_neg (by decide), decide_eq_true (show p[k].length ≤ 4294967296 by omega)]
        unfold grd
        rw [if_pos rfl, Option.bind_some, dSame_some _ _ (by omega) (by omega), decide_eq_true rfl, Option.bind_some, Option.bind_some, if_neg (by decide), e7, Option.bind_some]
    · rw [dnlt (by omega), if_neg (by decide)]
/-- What a write makes of a state. -/
theorem pt_ways {i : Nat} {w : List (List GTuple)} {now : List GTuple} {p : List (List GTuple)} (h : goodP i w now p) (b : GBatch) : ∃ e w2 now2, (if (verP 1000 now b).2 then some ((0 : Int), (w ++ [now]) ++ [nextP now b]) else some ((verP 1000 now b).1, w ++ [now])) = some (e, w2 ++ [now2]) ∧ goodP (i + 1) w2 now2 (w ++ [now]) := by
  rcases verP_cases 1000 now b with ⟨e, _, k⟩ | ⟨k, _⟩ | ⟨k, _, q⟩ <;> rw [k]
  · exact ⟨e, w, now, rfl, ⟨Nat.le_succ_of_le h.n, h.s, h.r, [], by simp, by simp⟩⟩
  · exact ⟨0, w, now, rfl, ⟨Nat.le_succ_of_le h.n, h.s, h.r, [], by simp, by simp⟩⟩
  · refine ⟨0, w ++ [now], nextP now b, rfl, ⟨by rw [List.length_append, List.length_singleton]; exact Nat.add_le_add_right h.n 1, fun x hx => ?_, nextP_rises _ _, [nextP now b], rfl, by simp⟩⟩
    rcases List.mem_append.1 hx with hx | hx
    · exact h.s x hx
    · rw [List.mem_singleton.1 hx]
      omega
theorem pt_loop {n : Nat} (hn : 3000000 ≤ n) (l : List (List Int)) : ∀ (c i : Nat) (w p : List (List GTuple)) (now : List GTuple), i ≤ 15 → 15 - i < c → goodP i w now p → ∃ w2 now2 p2, law4_StorPast_L1 n l c (w ++ [now], p, (i : Int)) = some (.inl (w2 ++ [now2])) ∧ goodP 15 w2 now2 p2
  | 0, _, _, _, _, _, h, _ => by omega
  | c + 1, i, w, p, now, hi, hc, hg => by
    have hw := hg.n
    have hl := hg.l
    have fin : ∃ w2 now2 p2, (some (.inl (w ++ [now])) : Option (List (List GTuple) ⊕ Bool)) = some (.inl (w2 ++ [now2])) ∧ goodP 15 w2 now2 p2 := ⟨w, now, p, rfl, ⟨by omega, hg.s, hg.r, hg.p⟩⟩
    rw [law4_StorPast_L1]
    by_cases h : i < l.length
    · rw [dlt h, if_pos rfl, Option.bind_some]
      dsimp only
      by_cases h3 : i < 15
      · obtain ⟨b, hb, fb⟩ := batch_some (n := n) l[i] (by omega)
        obtain ⟨q, hq1, hq2⟩ := hg.p
        obtain ⟨m, hm⟩ : ∃ m, n = m + 2 := ⟨n - 2, by omega⟩
        have ef := pt_fill n (by omega) hl hq1 hq2 m
        rw [← hm] at ef
        obtain ⟨e, w2, now2, q1, q2⟩ := pt_ways hg b
        obtain ⟨q', hp1, hp2⟩ := q2.p
        have hl2 := q2.l
        have k1 := q2.n
        have hlen := congrArg List.length hp1
        simp only [List.length_append, List.length_singleton] at hlen
        obtain ⟨w3, now3, p3, r1, r2⟩ := pt_loop hn l c (i + 1) w2 (w ++ [now]) now2 (by omega) (by omega) q2
        rw [show decide ((i : Int) < 15) = true from decide_eq_true (by omega), if_pos rfl, ef, Option.bind_some, idxS h, Option.bind_some, hb, Option.bind_some, pt_write hn fb (by omega) hg.r hl, q1, Option.bind_some]
        dsimp only
        rw [show law4_StorPast_C7_stor_Store_now n (w2 ++ [now2]) = some now2 by
          unfold law4_StorPast_C7_stor_Store_now
          rw [rev_some n _ w2 now2 (by omega), Option.bind_some, idx_last]
          rfl, Option.bind_some, wr1 (by omega)]
        have e5 : law4_StorPast_L5 n (w ++ [now]) (w2 ++ [now2]) n 0 = some (.inl ()) := pt_look5 hn (by omega) q2.s hp1 n 0 (by omega) (by rw [List.length_append, List.length_singleton]; omega)
        have e9 : law4_StorPast_L9 n (w ++ [now]) (w2 ++ [now2]) n 0 = some (.inl ()) := pt_look9 hn (by omega) q2.s hp1 n 0 (by omega) (by rw [List.length_append, List.length_singleton]; omega)
        have e4 : law4_StorPast_L4 n n () = some () := by
          rw [hm]
          rfl
        have e8 : law4_StorPast_L8 n now2 n (now2, 0) = some () := pt_tame n now2 hl2 n 0 now2 rfl (by omega) (by omega)
        refine ⟨w3, now3, p3, ?_, r2⟩
        by_cases h0 : now2.length = 0
        · rw [decide_eq_true h0, if_pos rfl, e4, Option.bind_some, e5, Option.bind_some]
          exact r1
        · rw [decide_eq_false h0, if_neg (by decide), decide_eq_true (show now2.length ≤ 4294967296 by omega)]
          unfold grd
          rw [if_pos rfl, e8, Option.bind_some, e9, Option.bind_some]
          exact r1
      · rw [show decide ((i : Int) < 15) = false from decide_eq_false (by omega), if_neg (by decide)]
        exact fin
    · rw [dnlt (by omega), if_neg (by decide), Option.bind_some]
      dsimp only
      rw [if_neg (by decide)]
      exact fin
theorem law_storPast (l : List (List Int)) : ∃ n, law4_StorPast n l = some true := by
  refine ⟨3000000, ?_⟩
  have hg : goodP 0 [] [] [] := ⟨Nat.le_refl _, fun x h => by simp at h; simp [h], List.Pairwise.nil, [[]], rfl, by decide⟩
  obtain ⟨w, now, p, r1, r2⟩ := pt_loop (n := 3000000) (Nat.le_refl _) l 3000000 0 [] [] [] (by decide) (by decide) hg
  have hl := r2.l
  have hw := r2.n
  have r1' : law4_StorPast_L1 3000000 l 3000000 ([[]], [], 0) = some (.inl (w ++ [now])) := r1
  unfold law4_StorPast
  rw [show law4_StorPast_C1_stor_New 3000000 = some () from rfl, Option.bind_some, r1', Option.bind_some]
  dsimp only
  rw [all_some _ _ w now (by omega) (by omega), Option.bind_some, dIs_some' (by omega) (by omega), Option.bind_some, riseB_true r2.r, if_pos rfl]
  rfl
theorem law_storPast1 {Q : Prop} (l : List (List Int)) (_ : Q) : ∃ n, law4_StorPast n l = some true := law_storPast l
end Go.Proofs.Ytdckfddlcmkdlaa.Ab
