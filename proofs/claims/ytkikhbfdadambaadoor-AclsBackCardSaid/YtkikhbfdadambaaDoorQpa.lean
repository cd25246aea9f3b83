/-
 Lines of words, and what is read of them. No program in sight.
-/
import Derived.Test.YtkikhbfdadambaaDoorQfb
namespace Go.Proofs.YtkikhbfdadambaaDoor.Ab
open Go.RowKit
structure OKW (w : ByteArray) : Prop where
 wd : WordB w
 ok : ∀ x ∈ w.data.toList, badB x = false
theorem tw_all {p : UInt8 → Bool} : ∀ {l : List UInt8} {x : UInt8}, x ∈ l.takeWhile p → p x = true
 | [], _, h => by cases h
 | y :: l, x, h => by
  rw [List.takeWhile_cons] at h
  split at h
  ·rename_i hy
   rcases List.mem_cons.1 h with rfl | h
   ·exact hy
   ·exact tw_all h
  ·cases h
theorem word_ok {x : UInt8} {l : List UInt8} (hg : gapB x = false) (h35 : x ≠ 35) (hb : ∀ y ∈ x :: l, badB y = false) : OKW ⟨(wdL (x :: l)).toArray⟩ := by
 have h1 := wd_pos (l := l) hg
 refine ⟨⟨?_, fun y hy => ?_, ?_⟩, fun y hy => ?_⟩
 ·intro e
  have e : wdL (x :: l) = [] := e
  rw [e] at h1
  cases h1
 ·have := tw_all (show y ∈ List.takeWhile (fun z => !gapB z) (x :: l) from hy)
  simpa using this
 ·show (wdL (x :: l)).head? ≠ some 35
  unfold wdL
  rw [List.takeWhile_cons_of_pos (by rw [hg]; rfl), List.head?_cons]
  intro e
  exact h35 (Option.some.inj e)
 ·refine hb y ?_
  rw [← wd_rs (x :: l)]
  exact List.mem_append_left _ hy
theorem wsF_ok : ∀ (k : Nat) (l : List UInt8) (a : Nat), (∀ x ∈ l, badB x = false) → ∀ w ∈ wsF k l a, OKW w.text ∧ w.text.size ≤ l.length
 | 0, _, _, _, w, h => by cases h
 | k + 1, [], _, _, w, h => by cases h
 | k + 1, x :: l, a, hb, w, h => by
  rw [wsF] at h
  cases hg : gapB x with
  | true =>
   rw [hg, if_pos rfl] at h
   have := wsF_ok k l (a + 1) (fun y hy => hb y (List.mem_cons_of_mem _ hy)) w h
   exact ⟨this.1, Nat.le_succ_of_le this.2⟩
  | false =>
   rw [hg, if_neg Bool.false_ne_true] at h
   cases h35 : x == 35 with
   | true => rw [h35, if_pos rfl] at h; cases h
   | false =>
    rw [h35, if_neg Bool.false_ne_true] at h
    have hrs := rs_len (x :: l)
    rcases List.mem_cons.1 h with rfl | h
    ·refine ⟨word_ok hg (by simpa using h35) hb, ?_⟩
     show (wdL (x :: l)).toArray.size ≤ _
     rw [List.size_toArray]
     omega
    ·have := wsF_ok k (rsL (x :: l)) _ (fun y hy => hb y (by rw [← wd_rs (x :: l)]; exact List.mem_append_right _ hy)) w h
     exact ⟨this.1, by omega⟩
def wsum (ws : List GWord) : Nat := (ws.map fun w => w.text.size + 1).sum
theorem wsF_sum : ∀ (k : Nat) (l : List UInt8) (a : Nat), wsum (wsF k l a) ≤ 2 * l.length
 | 0, _, _ => Nat.zero_le _
 | k + 1, [], _ => Nat.zero_le _
 | k + 1, x :: l, a => by
  rw [wsF]
  cases hg : gapB x with
  | true =>
   have := wsF_sum k l (a + 1)
   rw [if_pos rfl, List.length_cons]
   omega
  | false =>
   rw [if_neg Bool.false_ne_true]
   cases h35 : x == 35 with
   | true => exact Nat.zero_le _
   | false =>
    have h1 := wsF_sum k (rsL (x :: l)) (a + (wdL (x :: l)).length)
    have h2 := wd_pos (l := l) hg
    have hrs := rs_len (x :: l)
    have hz : (⟨(wdL (x :: l)).toArray⟩ : ByteArray).size = (wdL (x :: l)).length := List.size_toArray
    rw [if_neg Bool.false_ne_true]
    unfold wsum at *
    rw [List.map_cons, List.sum_cons, hz]
    omega
theorem wr_all : ∀ {l : List UInt8} {a : Nat}, wrL l a = none → ∀ x ∈ l, badB x = false
 | [], _, _, x, h => by cases h
 | y :: l, a, h, x, hx => by
  rw [wrL] at h
  cases hy : badB y with
  | true => rw [hy, if_pos rfl] at h; cases h
  | false =>
   rw [hy, if_neg Bool.false_ne_true] at h
   rcases List.mem_cons.1 hx with rfl | hx
   ·exact hy
   ·exact wr_all h x hx
theorem badP_all : ∀ {ps : List (List UInt8)} {a : Nat}, badP ps a = none → ∀ p ∈ ps, ∀ x ∈ bareL p, badB x = false
 | [], _, _, p, h => by cases h
 | q :: ps, a, h, p, hp => by
  rw [badP] at h
  cases hw : wrL (bareL q) a with
  | some k => rw [hw] at h; cases h
  | none =>
   rw [hw] at h
   rcases List.mem_cons.1 hp with rfl | hp
   ·exact wr_all hw
   ·exact badP_all h p hp
theorem linesP_ok {M : Nat} : ∀ (ps : List (List UInt8)) (a : Nat), (∀ p ∈ ps, p.length ≤ M ∧ ∀ x ∈ bareL p, badB x = false) → ∀ x ∈ linesP ps a, x.words ≠ [] ∧ x.words.length ≤ M ∧ ∀ w ∈ x.words, OKW w.text ∧ w.text.size ≤ M
 | [], _, _, x, h => by cases h
 | p :: ps, a, hp, x, h => by
  rw [linesP] at h
  obtain ⟨h1, h2⟩ := hp p (List.mem_cons_self ..)
  rcases List.mem_append.1 h with h | h
  ·have hbl := bare_len p
   have hwl := wsL_len (bareL p) a
   have hok := wsF_ok (bareL p).length (bareL p) a h2
   have hok : ∀ w ∈ wsL (bareL p) a, OKW w.text ∧ w.text.size ≤ (bareL p).length := hok
   cases hw : wsL (bareL p) a with
   | nil => rw [hw] at h; cases h
   | cons w ws =>
    rw [hw] at h hwl hok
    rw [lineL, List.mem_singleton] at h
    rw [h]
    refine ⟨by simp, Nat.le_trans hwl (Nat.le_trans hbl h1), fun v hv => ?_⟩
    have := hok v hv
    exact ⟨this.1, Nat.le_trans this.2 (Nat.le_trans hbl h1)⟩
  ·exact linesP_ok ps _ (fun q hq => hp q (List.mem_cons_of_mem _ hq)) x h
def lsum (ls : List GLine) : Nat := (ls.map fun x => wsum x.words).sum
theorem linesP_sum : ∀ (ps : List (List UInt8)) (a : Nat), lsum (linesP ps a) ≤ 2 * (ps.map fun p => p.length + 1).sum
 | [], _ => Nat.zero_le _
 | p :: ps, a => by
  have h1 := linesP_sum ps (a + p.length + 1)
  have h2 := wsF_sum (bareL p).length (bareL p) a
  have h2 : wsum (wsL (bareL p) a) ≤ 2 * (bareL p).length := h2
  have h3 := bare_len p
  have h4 : lsum (lineL (wsL (bareL p) a)) = wsum (wsL (bareL p) a) := by
   cases wsL (bareL p) a <;> simp [lineL, lsum, wsum]
  have h5 : ∀ u v, lsum (u ++ v) = lsum u + lsum v := fun u v => by simp [lsum]
  rw [linesP, h5, h4, List.map_cons, List.sum_cons]
  omega
theorem linesF_ok {s : ByteArray} : ((linesF s).2.2 = 0 → (∀ x ∈ (linesF s).1, x.words ≠ [] ∧ x.words.length ≤ s.size ∧ ∀ w ∈ x.words, OKW w.text ∧ w.text.size ≤ s.size) ∧ lsum (linesF s).1 ≤ 2 * (s.size + 1) ∧ (linesF s).1.length ≤ s.size + 1) ∧ ((linesF s).2.2 ≠ 0 → (linesF s).1 = []) := by
 unfold linesF
 split
 ·exact ⟨fun h => (by cases h), fun _ => rfl⟩
 ·split
  ·exact ⟨fun h => (by cases h), fun _ => rfl⟩
  ·split
   ·exact ⟨fun h => (by cases h), fun _ => rfl⟩
   ·rename_i hb
    rw [badR_cut] at hb
    have h1 := badP_all hb
    have h2 := cut_mem 10 s.data.toList
    have h3 := cut_sum 10 s.data.toList
    rw [bsize] at h2 h3
    refine ⟨fun _ => ⟨linesP_ok _ _ fun p hp => ⟨h2 p hp, h1 p hp⟩, ?_, ?_⟩, fun h => absurd rfl h⟩
    ·have := linesP_sum (cutL 10 s.data.toList) 0
     rw [h3] at this
     exact this
    ·have h4 : ∀ (ps : List (List UInt8)) (a : Nat), (linesP ps a).length ≤ (ps.map fun p => p.length + 1).sum := by
      intro ps
      induction ps with
      | nil => exact fun _ => Nat.le_refl _
      | cons p ps ih =>
       intro a
       have := ih (a + p.length + 1)
       have h5 : (lineL (wsL (bareL p) a)).length ≤ 1 := by cases wsL (bareL p) a <;> simp [lineL]
       rw [linesP, List.length_append, List.map_cons, List.sum_cons]
       omega
     have := h4 (cutL 10 s.data.toList) 0
     rw [h3] at this
     exact this
theorem bad_no {x : UInt8} (h : badB x = false) : x ≠ 10 ∧ x ≠ 13 := by
 refine ⟨fun e => ?_, fun e => ?_⟩
 ·rw [e] at h; exact absurd h (by decide)
 ·rw [e] at h; exact absurd h (by decide)
def tailL (ws : List ByteArray) : List UInt8 := Lib.joinTail [32] (ws.map (·.data.toList))
theorem tail_cons (w : ByteArray) (ws : List ByteArray) : tailL (w :: ws) = 32 :: (w.data.toList ++ tailL ws) := by
 unfold tailL Lib.joinTail
 simp
def wordsJ : List ByteArray → Nat → List GWord
 | [], _ => []
 | w :: ws, a => ⟨w, (a : Int)⟩ :: wordsJ ws (a + w.size + 1)
theorem wordsJ_tx : ∀ (ws : List ByteArray) (a : Nat), tx (wordsJ ws a) = ws
 | [], _ => rfl
 | w :: ws, a => by
  show w :: tx (wordsJ ws _) = _
  rw [wordsJ_tx ws]
theorem gap_tail (ws : List ByteArray) {e : List UInt8} (he : gapL e) : gapL (tailL ws ++ e) := by
 cases ws with
 | nil => exact he
 | cons w ws => exact .inr ⟨32, _, by rw [tail_cons]; rfl, rfl⟩
theorem ws_tail : ∀ (ws : List ByteArray) {e : List UInt8} (a : Nat), (∀ w ∈ ws, OKW w) → gapL e → wsL (tailL ws ++ e) a = wordsJ ws (a + 1) ++ wsL e (a + (tailL ws).length)
 | [], _, _, _, _ => rfl
 | w :: ws, e, a, h, he => by
  rw [tail_cons, List.cons_append, wsL_gap rfl, List.append_assoc, ws_word (h w (List.mem_cons_self ..)).wd (gap_tail ws he), ws_tail ws _ (fun v hv => h v (List.mem_cons_of_mem _ hv)) he, wordsJ, List.cons_append, List.length_cons, List.length_append, bsize]
  congr 3
  omega
def rowL (ws : List ByteArray) : List UInt8 := (joinT ws ⟨#[32]⟩).data.toList
theorem row_cons (w : ByteArray) (ws : List ByteArray) : rowL (w :: ws) = w.data.toList ++ tailL ws := by
 show Lib.join (List.map _ (w :: ws)) [32] = _
 rw [List.map_cons, Lib.join_cons]
 rfl
theorem ws_row (ws : List ByteArray) (a : Nat) (h : ∀ w ∈ ws, OKW w) : wsL (rowL ws) a = wordsJ ws a := by
 cases ws with
 | nil => rfl
 | cons w ws =>
  have h1 := ws_tail ws (e := []) (a + w.size) (fun v hv => h v (List.mem_cons_of_mem _ hv)) (.inl rfl)
  have h2 := gap_tail ws (e := []) (.inl rfl)
  rw [wsL_nil, List.append_nil, List.append_nil] at h1
  rw [List.append_nil] at h2
  rw [row_cons, ws_word (h w (List.mem_cons_self ..)).wd h2, h1, wordsJ]
theorem tail_ok : ∀ (ws : List ByteArray), (∀ w ∈ ws, OKW w) → (∀ x ∈ tailL ws, badB x = false) ∧ (tailL ws).length = (ws.map fun w => w.size + 1).sum
 | [], _ => ⟨fun x h => (by cases h), rfl⟩
 | w :: ws, h => by
  obtain ⟨h1, h2⟩ := tail_ok ws fun v hv => h v (List.mem_cons_of_mem _ hv)
  have h3 := (h w (List.mem_cons_self ..)).ok
  rw [tail_cons, List.length_cons, List.length_append, bsize, h2, List.map_cons, List.sum_cons]
  refine ⟨fun x hx => ?_, by omega⟩
  rcases List.mem_cons.1 hx with rfl | hx
  ·decide
  ·rcases List.mem_append.1 hx with hx | hx
   ·exact h3 x hx
   ·exact h1 x hx
theorem row_ok (ws : List ByteArray) (h : ∀ w ∈ ws, OKW w) : (∀ x ∈ rowL ws, badB x = false) ∧ (rowL ws).length ≤ (ws.map fun w => w.size + 1).sum := by
 cases ws with
 | nil => exact ⟨fun x h => (by cases h), Nat.le_refl _⟩
 | cons w ws =>
  obtain ⟨h1, h2⟩ := tail_ok ws fun v hv => h v (List.mem_cons_of_mem _ hv)
  have h3 := (h w (List.mem_cons_self ..)).ok
  rw [row_cons, List.length_append, bsize, h2, List.map_cons, List.sum_cons]
  refine ⟨fun x hx => ?_, by omega⟩
  rcases List.mem_append.1 hx with hx | hx
  ·exact h3 x hx
  ·exact h1 x hx
def rowsB : List (List ByteArray) → List UInt8
 | [] => []
 | ts :: r => rowL ts ++ 10 :: rowsB r
def linesJ : List (List ByteArray) → Nat → List GLine
 | [], _ => []
 | ts :: r, a => lineL (wordsJ ts a) ++ linesJ r (a + (rowL ts).length + 1)
theorem lns_rows : ∀ (tss : List (List ByteArray)) (a : Nat), (∀ ts ∈ tss, ∀ w ∈ ts, OKW w) → lnsL (rowsB tss) a = linesJ tss a ∧ badR (rowsB tss) a = none ∧ (rowsB tss).count 10 = tss.length
 | [], a, _ => ⟨(lns_end (p := []) (by decide)).trans rfl, rfl, rfl⟩
 | ts :: r, a, h => by
  have ht := h ts (List.mem_cons_self ..)
  obtain ⟨h1, h2, h3⟩ := lns_rows r (a + (rowL ts).length + 1) fun us hu => h us (List.mem_cons_of_mem _ hu)
  obtain ⟨r1, _⟩ := row_ok ts ht
  have n10 : (10 : UInt8) ∉ rowL ts := fun hm => (bad_no (r1 _ hm)).1 rfl
  have n13 : (13 : UInt8) ∉ rowL ts := fun hm => (bad_no (r1 _ hm)).2 rfl
  have b0 := bare_app (m := rowL ts) (e := []) n13
  rw [show bareL [] = [] from rfl, List.append_nil] at b0
  rw [rowsB, linesJ]
  refine ⟨?_, ?_, ?_⟩
  ·rw [lns_nl n10, b0, ws_row ts a ht, h1]
  ·rw [bad_nl n10 (by rw [b0]; exact r1), h2]
  ·rw [List.count_append, List.count_cons_self, List.count_eq_zero_of_not_mem n10, h3, List.length_cons]
   omega
theorem linesJ_tx : ∀ (tss : List (List ByteArray)) (a : Nat), (∀ ts ∈ tss, ts ≠ []) → (linesJ tss a).map (fun x => tx x.words) = tss
 | [], _, _ => rfl
 | ts :: r, a, h => by
  have h1 := linesJ_tx r (a + (rowL ts).length + 1) fun us hu => h us (List.mem_cons_of_mem _ hu)
  have h2 : (lineL (wordsJ ts a)).map (fun x => tx x.words) = [ts] := by
   cases ts with
   | nil => exact absurd rfl (h [] (List.mem_cons_self ..))
   | cons w ws =>
    show [tx (wordsJ (w :: ws) a)] = _
    rw [wordsJ_tx]
  rw [linesJ, List.map_append, h1, h2]
  rfl
theorem linesF_good2 {s : ByteArray} (hs : s.size ≤ 200000) (hc : s.data.toList.count 10 ≤ 5000) (hb : badR s.data.toList 0 = none) : linesF s = (lnsL s.data.toList 0, 0, 0) := by
 unfold linesF
 rw [if_neg (by omega), if_neg (by omega), hb]
 rfl
theorem parse_at {n : Nat} (hn : 1000000 < n) {ls : List GLine} {z : Int × Int} (hl : ls.length < 1000000) (hx : ∀ x ∈ ls, x.words.length < 1000000 ∧ ∀ w ∈ x.words, w.text.size < 1000000) : ∀ (c i : Nat) (out : List GFile), i ≤ ls.length → ls.length - i < c → out.length ≤ i → ∃ r, acls_Parse_L1 n (ls, z) c (out, (i : Int)) = some r ∧ ((∃ fs : List GFile, (ls.drop i).map (fun x => factF n (tx x.words) x.at_) = fs.map some ∧ (i < ls.length → ls.length ≤ 2000) ∧ r = .inl (out ++ fs)) ∨ ((∃ y e, e ≠ 0 ∧ r = .inr ([], y, e)) ∧ (2000 < ls.length ∨ ∃ x ∈ ls.drop i, factF n (tx x.words) x.at_ = none)))
 | 0, _, _, _, h, _ => by omega
 | c + 1, i, out, hi, hc, ho => by
  rw [acls_Parse_L1]
  dsimp only
  by_cases h : i < ls.length
  ·obtain ⟨h1, h2⟩ := hx ls[i] (List.getElem_mem h)
   have e2 : decide ((2000 : Int) ≤ (i : Int)) = decide (2000 ≤ i) := by rw [decide_eq_decide]; omega
   rw [dlt h, if_pos rfl, idxS h, Option.bind_some, e2]
   by_cases h3 : 2000 ≤ i
   ·rw [decide_eq_true h3, if_pos rfl]
    exact ⟨_, rfl, .inr ⟨⟨_, 8, by decide, rfl⟩, .inl (by omega)⟩⟩
   ·rw [decide_eq_false h3, if_neg Bool.false_ne_true]
    obtain ⟨r, r1, r2⟩ := fact_F hn (a0 := ls[i].at_) (ws := ls[i].words) h1 h2
    rw [show acls_Fact n ls[i] = some r from r1, Option.bind_some]
    rcases r2 with ⟨f, f1, rfl⟩ | ⟨f1, f2⟩
    ·dsimp only
     rw [show ((0 : Int) != 0) = false from rfl, if_neg Bool.false_ne_true, appS (by rw [List.length_singleton]; omega), Option.bind_some, wr1 (by omega)]
     obtain ⟨q, q1, q2⟩ := parse_at hn (z := z) hl hx c (i + 1) (out ++ [f]) (by omega) (by omega) (by rw [List.length_append, List.length_singleton]; omega)
     refine ⟨q, q1, ?_⟩
     rw [List.drop_eq_getElem_cons h]
     rcases q2 with ⟨fs, a1, a2, rfl⟩ | ⟨a1, a2⟩
     ·refine .inl ⟨f :: fs, ?_, fun _ => ?_, ?_⟩
      ·rw [List.map_cons, List.map_cons, f1, a1]
      ·by_cases h5 : i + 1 < ls.length
       ·exact a2 h5
       ·omega
      ·rw [List.append_assoc]
       rfl
     ·refine .inr ⟨a1, a2.imp id fun ⟨x, b1, b2⟩ => ⟨x, List.mem_cons_of_mem _ b1, b2⟩⟩
    ·have : (r.2.2 != 0) = true := by rw [bne_iff_ne]; exact f2
     rw [this, if_pos rfl]
     refine ⟨_, rfl, .inr ⟨⟨_, _, f2, rfl⟩, .inr ⟨ls[i], ?_, f1⟩⟩⟩
     rw [List.drop_eq_getElem_cons h]
     exact List.mem_cons_self ..
  ·rw [dnlt (by omega), if_neg Bool.false_ne_true]
   exact ⟨_, rfl, .inl ⟨[], by rw [List.drop_eq_nil_of_le (by omega)]; rfl, fun h2 => absurd h2 h, by rw [List.append_nil]⟩⟩
theorem parse_F {n : Nat} (hn : 1000000 < n) {s : ByteArray} (hs : s.size < 500000) : ∃ r, acls_Parse n s = some r ∧ (r.2.2 = 0 → (linesF s).2.2 = 0 ∧ (linesF s).1.length ≤ 2000 ∧ (linesF s).1.map (fun x => factF n (tx x.words) x.at_) = r.1.map some) ∧ ((linesF s).2.2 = 0 → (linesF s).1.length ≤ 2000 → ∀ fs : List GFile, (linesF s).1.map (fun x => factF n (tx x.words) x.at_) = fs.map some → r = (fs, 0, 0)) := by
 obtain ⟨k1, k2⟩ := linesF_ok (s := s)
 unfold acls_Parse
 rw [lines_some hn, Option.bind_some]
 generalize linesF s = q at k1 k2
 obtain ⟨ls, at_, e⟩ := q
 dsimp only at k1 k2 ⊢
 by_cases he : e = 0
 ·subst he
  obtain ⟨k3, _, k4⟩ := k1 rfl
  rw [show ((0 : Int) != 0) = false from rfl, if_neg Bool.false_ne_true]
  have hP : ∃ r, acls_Parse_L1 n (ls, at_, 0) n ([], 0) = some r ∧ _ := parse_at hn (ls := ls) (z := (at_, 0)) (by omega) (fun x hx => by
   obtain ⟨_, b, c⟩ := k3 x hx
   exact ⟨by omega, fun w hw => by have := (c w hw).2; omega⟩) n 0 [] (Nat.zero_le _) (by omega) (Nat.zero_le _)
  obtain ⟨r, r1, r2⟩ := hP
  rw [r1, Option.bind_some]
  rw [List.drop_zero] at r2
  rcases r2 with ⟨fs, a1, a2, rfl⟩ | ⟨⟨y, e, a1, rfl⟩, a2⟩
  ·refine ⟨_, rfl, fun _ => ⟨rfl, ?_, a1⟩, fun _ _ gs hg => ?_⟩
   ·by_cases h : 0 < ls.length
    ·exact a2 h
    ·omega
   ·have : fs = gs := by
     have := a1.symm.trans hg
     have h6 := congrArg (List.map fun o : Option GFile => o.getD default) this
     rw [List.map_map, List.map_map] at h6
     have h7 : ((fun o : Option GFile => o.getD default) ∘ some) = id := rfl
     rw [h7, List.map_id, List.map_id] at h6
     exact h6
    rw [← this]
    rfl
  ·refine ⟨_, rfl, fun h => absurd h a1, fun _ h2 gs hg => ?_⟩
   rcases a2 with h | ⟨x, hx, h⟩
   ·omega
   ·obtain ⟨i, hi⟩ := List.getElem?_of_mem hx
    have h4 := congrArg (fun l => l[i]?) hg
    simp only [List.getElem?_map, hi, Option.map_some, h] at h4
    cases hgi : gs[i]? with
    | none => rw [hgi] at h4; cases h4
    | some g => rw [hgi] at h4; cases h4
 ·have : (e != 0) = true := by rw [bne_iff_ne]; exact he
  rw [this, if_pos rfl]
  exact ⟨_, rfl, fun h => absurd h he, fun h => absurd h he⟩
end Go.Proofs.YtkikhbfdadambaaDoor.Ab
