/-
  Words of a line, and what may not stand in it: both sides say the same. No program in sight.
-/
import Derived.Test.YtjfpmgdbkhooeaaDoorLta
import Derived.Test.YtjfpmgdbkhooeaaDoorCut
namespace Go.Proofs.YtjfpmgdbkhooeaaDoor.Ab
open Go.RowKit
theorem bidx_l {s : ByteArray} {i : Nat} {x : UInt8} {r : List UInt8} (h : s.data.toList.drop i = x :: r) : i < s.size ∧ bidx s (i : Int) = some (x.toNat : Int) ∧ s.data.toList.drop (i + 1) = r := by
  have hi : i < s.data.toList.length := by
    rcases Nat.lt_or_ge i s.data.toList.length with h1 | h1
    · exact h1
    · rw [List.drop_eq_nil_of_le h1] at h
      cases h
  rw [List.drop_eq_getElem_cons hi] at h
  obtain ⟨h1, h2⟩ := List.cons.inj h
  rw [bsize] at hi
  refine ⟨hi, ?_, h2⟩
  rw [bidxS hi, h1]
theorem u8i {x : UInt8} {k : Nat} (hk : k < 256) : ((x.toNat : Int) == (k : Int)) = decide (x = UInt8.ofNat k) := by
  rw [Bool.eq_iff_iff, beq_iff_eq, decide_eq_true_eq, ← UInt8.toNat_inj, UInt8.toNat_ofNat']
  omega
theorem drop_nil {s : ByteArray} {i : Nat} (h : s.data.toList.drop i = []) : s.size ≤ i := by
  have hl := congrArg List.length h
  rw [List.length_drop, bsize, List.length_nil] at hl
  omega
theorem ext_drop {s : ByteArray} {i : Nat} {w r : List UInt8} (h : s.data.toList.drop i = w ++ r) (hi : i ≤ s.size) : i + w.length ≤ s.size ∧ (s.extract i (i + w.length)).data.toList = w ∧ s.data.toList.drop (i + w.length) = r := by
  have hl := congrArg List.length h
  rw [List.length_drop, List.length_append, bsize] at hl
  refine ⟨by omega, ?_, ?_⟩
  · rw [list_ext, List.drop_take, h, show i + w.length - i = w.length by omega, List.take_left]
  · rw [← List.drop_drop, h, List.drop_left]
theorem of_list (s : ByteArray) : (⟨s.data.toList.toArray⟩ : ByteArray) = s := by
  cases s
  rfl
/-! ### words -/
def gapB (x : UInt8) : Bool := x == 32 || x == 9
def wdL (l : List UInt8) : List UInt8 := l.takeWhile fun x => !gapB x
def rsL (l : List UInt8) : List UInt8 := l.dropWhile fun x => !gapB x
theorem wd_rs (l : List UInt8) : wdL l ++ rsL l = l := List.takeWhile_append_dropWhile
/-- The words of a line that begins at a. -/
def wsF : Nat → List UInt8 → Nat → List GWord
  | 0, _, _ => []
  | _ + 1, [], _ => []
  | k + 1, x :: l, a => if gapB x then wsF k l (a + 1) else if x == 35 then [] else ⟨⟨(wdL (x :: l)).toArray⟩, (a : Int)⟩ :: wsF k (rsL (x :: l)) (a + (wdL (x :: l)).length)
theorem wd_pos {x : UInt8} {l : List UInt8} (h : gapB x = false) : 0 < (wdL (x :: l)).length := by
  unfold wdL
  rw [List.takeWhile_cons_of_pos (by rw [h]; rfl)]
  simp
theorem rs_len (l : List UInt8) : (wdL l).length + (rsL l).length = l.length := by
  have := congrArg List.length (wd_rs l)
  rwa [List.length_append] at this
theorem wsF_fuel : ∀ (k m : Nat) (l : List UInt8) (a : Nat), l.length ≤ k → l.length ≤ m → wsF k l a = wsF m l a
  | 0, m, l, a, h, _ => by
    obtain rfl := List.eq_nil_of_length_eq_zero (Nat.le_zero.1 h)
    cases m <;> rfl
  | k + 1, 0, l, a, _, h => by
    obtain rfl := List.eq_nil_of_length_eq_zero (Nat.le_zero.1 h)
    rfl
  | k + 1, m + 1, [], a, _, _ => rfl
  | k + 1, m + 1, x :: l, a, h1, h2 => by
    rw [List.length_cons] at h1 h2
    rw [wsF, wsF]
    cases hg : gapB x with
    | true => rw [if_pos rfl, if_pos rfl]; exact wsF_fuel k m l (a + 1) (by omega) (by omega)
    | false =>
      have h3 := wd_pos (l := l) hg
      have h4 := rs_len (x :: l)
      rw [List.length_cons] at h4
      rw [wsF_fuel k m (rsL (x :: l)) _ (by omega) (by omega)]
      rfl
def wsL (l : List UInt8) (a : Nat) : List GWord := wsF l.length l a
theorem wsF_len : ∀ (k : Nat) (l : List UInt8) (a : Nat), (wsF k l a).length ≤ l.length
  | 0, l, a => Nat.zero_le _
  | k + 1, [], a => Nat.le_refl _
  | k + 1, x :: l, a => by
    rw [wsF, List.length_cons]
    cases hg : gapB x with
    | true =>
      have := wsF_len k l (a + 1)
      rw [if_pos rfl]
      omega
    | false =>
      rw [if_neg (by decide)]
      split
      · simp
      · have h1 := wsF_len k (rsL (x :: l)) (a + (wdL (x :: l)).length)
        have h2 := wd_pos (l := l) hg
        have h3 := rs_len (x :: l)
        rw [List.length_cons] at h3
        rw [List.length_cons]
        omega
theorem wsL_nil (a : Nat) : wsL [] a = [] := rfl
theorem wsL_gap {x : UInt8} {l : List UInt8} {a : Nat} (h : gapB x = true) : wsL (x :: l) a = wsL l (a + 1) := by
  unfold wsL
  rw [List.length_cons, wsF, h, if_pos rfl]
theorem wsL_note {x : UInt8} {l : List UInt8} {a : Nat} (h : gapB x = false) (h2 : x = 35) : wsL (x :: l) a = [] := by
  unfold wsL
  rw [List.length_cons, wsF, h, if_neg (by decide), if_pos (by simp [h2])]
theorem wsL_word {x : UInt8} {l : List UInt8} {a : Nat} (h : gapB x = false) (h2 : x ≠ 35) : wsL (x :: l) a = ⟨⟨(wdL (x :: l)).toArray⟩, (a : Int)⟩ :: wsL (rsL (x :: l)) (a + (wdL (x :: l)).length) := by
  have h3 := wd_pos (l := l) h
  have h4 := rs_len (x :: l)
  rw [List.length_cons] at h4
  unfold wsL
  rw [List.length_cons, wsF, h, if_neg (by decide), if_neg (by simpa using h2), wsF_fuel l.length (rsL (x :: l)).length (rsL (x :: l)) _ (by omega) (Nat.le_refl _)]
theorem gap_i (x : UInt8) : (((x.toNat : Int) == 32) || ((x.toNat : Int) == 9)) = gapB x := by
  have e1 := u8i (x := x) (k := 32) (by decide)
  have e2 := u8i (x := x) (k := 9) (by decide)
  rw [show ((x.toNat : Int) == 32) = (x == 32) from e1, show ((x.toNat : Int) == 9) = (x == 9) from e2]
  rfl
theorem note_i (x : UInt8) : ((x.toNat : Int) == 35) = (x == 35) := u8i (x := x) (k := 35) (by decide)
/-! ### the document's words -/
theorem refEnd {n : Nat} {s : ByteArray} (hs : s.size < 1000000) : ∀ (c k : Nat) (l : List UInt8), s.data.toList.drop k = l → k ≤ s.size → l.length < c → ref1_words_L2 n s c (k : Int) = some ((k + (wdL l).length : Nat) : Int)
  | 0, _, _, _, _, h => by omega
  | c + 1, k, [], h, hk, _ => by
    have := drop_nil h
    rw [ref1_words_L2, dnlt (by omega), if_neg (by decide)]
    rfl
  | c + 1, k, x :: l, h, hk, hc => by
    obtain ⟨h1, h2, h3⟩ := bidx_l h
    rw [List.length_cons] at hc
    have hg := gap_i x
    rw [ref1_words_L2, dlt h1, if_pos rfl, h2, Option.bind_some, bne, bne]
    cases ha : ((x.toNat : Int) == 32) with
    | true =>
      rw [ha, Bool.true_or] at hg
      rw [Bool.not_true, if_neg (by decide)]
      unfold wdL
      rw [List.takeWhile_cons_of_neg (by rw [← hg]; decide)]
      rfl
    | false =>
      rw [ha, Bool.false_or] at hg
      rw [Bool.not_false, if_pos rfl, hg]
      cases hb : gapB x with
      | true =>
        rw [Bool.not_true, if_neg (by decide)]
        unfold wdL
        rw [List.takeWhile_cons_of_neg (by rw [hb]; decide)]
        rfl
      | false =>
        rw [Bool.not_false, if_pos rfl, wr1 (by omega), refEnd hs c (k + 1) l h3 (by omega) (by omega)]
        unfold wdL
        rw [List.takeWhile_cons_of_pos (by rw [hb]; rfl), List.length_cons]
        congr 2
        omega
theorem refWords_at {n a : Nat} {s : ByteArray} (hs : s.size < 1000000) (ha : a < 1000000000) (hn : s.size < n) : ∀ (c i : Nat) (out : List GWord) (l : List UInt8), s.data.toList.drop i = l → i ≤ s.size → s.size - i < c → out.length ≤ i → ∃ r, ref1_words_L1 n s (a : Int) c (out, (i : Int)) = some r ∧ (r = .inl (out ++ wsL l (a + i)) ∨ r = .inr (out ++ wsL l (a + i)))
  | 0, _, _, _, _, _, h, _ => by omega
  | c + 1, i, out, [], hd, hi, hc, ho => by
    have := drop_nil hd
    rw [ref1_words_L1, dnlt (by omega), if_neg (by decide)]
    exact ⟨_, rfl, .inl (by rw [wsL_nil, List.append_nil])⟩
  | c + 1, i, out, x :: l, hd, hi, hc, ho => by
    obtain ⟨h1, h2, h3⟩ := bidx_l hd
    have hg := gap_i x
    have hb : ((bidx s (i : Int)).bind fun ch5 => (if (ch5 == 32) then some true else some (ch5 == 9)) : Option Bool) = some (gapB x) := by
      rw [h2, Option.bind_some, ← hg]
      cases ((x.toNat : Int) == 32) <;> rfl
    rw [ref1_words_L1, dlt h1, if_pos rfl, hb, Option.bind_some]
    cases hgx : gapB x with
    | true =>
      rw [if_pos rfl, wr1 (by omega), wsL_gap hgx]
      exact refWords_at hs ha hn c (i + 1) out l h3 (by omega) (by omega) (by omega)
    | false =>
      rw [if_neg (by decide), h2, Option.bind_some, note_i]
      cases hx : x == 35 with
      | true =>
        rw [if_pos rfl, wsL_note hgx (by simpa using hx), List.append_nil]
        exact ⟨_, rfl, .inr rfl⟩
      | false =>
        have h4 := wd_pos (l := l) hgx
        obtain ⟨x1, x2, x3⟩ := ext_drop (hd.trans (wd_rs (x :: l)).symm) hi
        have hlen : (x :: l).length ≤ s.size := by
          have := congrArg List.length hd
          rw [List.length_drop, bsize] at this
          omega
        have hw : (⟨(wdL (x :: l)).toArray⟩ : ByteArray) = s.extract i (i + (wdL (x :: l)).length) := by rw [← of_list (s.extract i (i + (wdL (x :: l)).length)), x2]
        rw [if_neg (by decide), refEnd hs n i (x :: l) hd hi (by omega), Option.bind_some, bslcS (by omega) x1, Option.bind_some, wr (by omega) (by omega), appS (by simp; omega), Option.bind_some, wsL_word hgx (by simpa using hx), hw]
        obtain ⟨r, q1, q2⟩ := refWords_at hs ha hn c (i + (wdL (x :: l)).length) (out ++ [⟨s.extract i (i + (wdL (x :: l)).length), ((a : Int) + (i : Int))⟩]) (rsL (x :: l)) x3 x1 (by omega) (by rw [List.length_append, List.length_singleton]; omega)
        refine ⟨r, q1, ?_⟩
        rw [List.append_assoc, show a + (i + (wdL (x :: l)).length) = a + i + (wdL (x :: l)).length by omega] at q2
        rw [show (((a + i : Nat) : Int)) = (a : Int) + (i : Int) by omega]
        exact q2
theorem refWords_some {n a : Nat} {s : ByteArray} (hs : s.size < 1000000) (ha : a < 1000000000) (hn : s.size < n) : ref1_words n s (a : Int) = some (wsL s.data.toList a) := by
  unfold ref1_words
  obtain ⟨r, h1, h2⟩ := refWords_at hs ha hn n 0 [] s.data.toList (List.drop_zero) (by omega) (by omega) (by simp)
  have h1 : ref1_words_L1 n s (a : Int) n ([], 0) = some r := h1
  rw [h1, Option.bind_some]
  rcases h2 with rfl | rfl
  · rfl
  · rfl
/-! ### the program's words -/
theorem cont_gap (n : Nat) (x : UInt8) (s : ByteArray) (h : s.data.toList = [x]) : strings_Contains n { data := #[32, 9] } s = some (gapB x) := by
  unfold strings_Contains one
  rw [h, Option.map_some]
  congr 1
  show decide (0 ≤ Lib.indexByte [32, 9] x) = _
  unfold gapB
  rw [Lib.indexByte, Lib.indexByte, Lib.indexByte, Bool.beq_comm (a := x), Bool.beq_comm (a := x)]
  cases (32 : UInt8) == x <;> cases (9 : UInt8) == x <;> rfl
/-- Where the next gap is. -/
def fmI (t u n : Int) : Int := if (if t < 0 ∨ (0 ≤ u ∧ u < t) then u else t) < 0 then n else (if t < 0 ∨ (0 ≤ u ∧ u < t) then u else t)
def nxI (t : Int) : Int := if t = -1 then -1 else t + 1
theorem fm_def (t u n : Int) : (t < 0 ∧ 0 ≤ u ∧ fmI t u n = u) ∨ (t < 0 ∧ u < 0 ∧ fmI t u n = n) ∨ (0 ≤ u ∧ u < t ∧ fmI t u n = u) ∨ (0 ≤ t ∧ ¬ (0 ≤ u ∧ u < t) ∧ fmI t u n = t) := by
  unfold fmI
  by_cases c1 : t < 0
  · rw [if_pos (Or.inl c1)]
    by_cases c2 : u < 0
    · rw [if_pos c2]
      omega
    · rw [if_neg c2]
      omega
  · by_cases c2 : 0 ≤ u ∧ u < t
    · rw [if_pos (Or.inr c2), if_neg (by omega)]
      omega
    · have c3 : ¬ (t < 0 ∨ 0 ≤ u ∧ u < t) := by omega
      rw [if_neg c3, if_neg c1]
      omega
theorem nx_def (t : Int) : (t = -1 ∧ nxI t = -1) ∨ (t ≠ -1 ∧ nxI t = t + 1) := by
  unfold nxI
  split <;> omega
theorem fm_step {t u n w : Int} (h1 : -1 ≤ t) (h2 : -1 ≤ u) (ih : fmI t u n = w) : fmI (nxI t) (nxI u) (n + 1) = w + 1 := by
  have a1 := fm_def t u n
  have a2 := fm_def (nxI t) (nxI u) (n + 1)
  have a3 := nx_def t
  have a4 := nx_def u
  omega
theorem fm_t {u n : Int} (h : u ≠ 0) (h2 : -1 ≤ u) : fmI 0 u n = 0 := by
  have := fm_def 0 u n
  omega
theorem fm_u {t n : Int} (h : t ≠ 0) (h2 : -1 ≤ t) : fmI t 0 n = 0 := by
  have := fm_def t 0 n
  omega
theorem nx_ge {t : Int} (h : -1 ≤ t) : -1 ≤ nxI t ∧ nxI t ≠ 0 := by
  unfold nxI
  split <;> omega
theorem ib_cons (x : UInt8) (l : List UInt8) (c : UInt8) : Lib.indexByte (x :: l) c = if x = c then 0 else nxI (Lib.indexByte l c) := by
  rw [Lib.indexByte]
  unfold nxI
  simp only [beq_iff_eq]
theorem end_min : ∀ l : List UInt8, fmI (Lib.indexByte l 32) (Lib.indexByte l 9) (l.length : Int) = ((wdL l).length : Int)
  | [] => rfl
  | x :: l => by
    have ih := end_min l
    have h1 := Lib.indexByte_ge l 32
    have h2 := Lib.indexByte_ge l 9
    rw [ib_cons, ib_cons]
    unfold wdL gapB at *
    by_cases ha : x = 32
    · rw [if_pos ha, if_neg (by rw [ha]; decide), List.takeWhile_cons_of_neg (by rw [ha]; decide)]
      exact fm_t (nx_ge h2).2 (nx_ge h2).1
    · by_cases hb : x = 9
      · rw [if_neg ha, if_pos hb, List.takeWhile_cons_of_neg (by rw [hb]; decide)]
        exact fm_u (nx_ge h1).2 (nx_ge h1).1
      · rw [if_neg ha, if_neg hb, List.takeWhile_cons_of_pos (by simp [ha, hb]), List.length_cons, List.length_cons]
        have := fm_step h1 h2 ih
        rw [show ((l.length + 1 : Nat) : Int) = (l.length : Int) + 1 by omega, this]
        omega
set_option maxHeartbeats 2000000 in
theorem words_at {n a : Nat} {s : ByteArray} (hs : s.size < 1000000) (ha : a < 1000000000) : ∀ (c i : Nat) (out : List GWord) (l : List UInt8), s.data.toList.drop i = l → i ≤ s.size → s.size - i < c → out.length ≤ i → line_words_L1 n s (a : Int) c (out, (i : Int)) = some (out ++ wsL l (a + i))
  | 0, _, _, _, _, _, h, _ => by omega
  | c + 1, i, out, [], hd, hi, hc, ho => by
    have := drop_nil hd
    rw [line_words_L1, dnlt (by omega), if_neg (by decide), wsL_nil, List.append_nil]
  | c + 1, i, out, x :: l, hd, hi, hc, ho => by
    obtain ⟨h1, h2, h3⟩ := bidx_l hd
    have hx5 : (s.extract i s.size).data.toList = x :: l := by rw [list_ext, List.take_of_length_le (by rw [bsize]; omega), hd]
    have hz5 : (s.extract i s.size).size = s.size - i := ext_size s (Nat.le_refl _)
    have hx6 : ((s.extract i s.size).extract 0 1).data.toList = [x] := by rw [list_ext, hx5]; rfl
    have hb5 : bidx (s.extract i s.size) 0 = some (x.toNat : Int) := (bidx_l (s := s.extract i s.size) (i := 0) (x := x) (r := l) (by rw [hx5]; rfl)).2.1
    have hsl : bslc (s.extract i s.size) 0 1 = some ((s.extract i s.size).extract 0 1) := bslcS (s := s.extract i s.size) (a := 0) (b := 1) (by omega) (by omega)
    rw [line_words_L1, dlt h1, if_pos rfl, bslcS (by omega) (Nat.le_refl _), Option.bind_some, hsl, Option.bind_some, cont_gap n x _ hx6, Option.bind_some]
    cases hgx : gapB x with
    | true =>
      rw [if_pos rfl, wr1 (by omega), wsL_gap hgx]
      exact words_at hs ha c (i + 1) out l h3 (by omega) (by omega) (by omega)
    | false =>
      rw [if_neg (by decide), hb5, Option.bind_some, note_i]
      cases hx : x == 35 with
      | true => rw [if_pos rfl, wsL_note hgx (by simpa using hx), List.append_nil]
      | false =>
        have h4 := wd_pos (l := l) hgx
        have h5 := rs_len (x :: l)
        obtain ⟨x1, x2, x3⟩ := ext_drop (hd.trans (wd_rs (x :: l)).symm) hi
        have hlen : (x :: l).length = s.size - i := by rw [← hx5, bsize, hz5]
        have e1 : strings_IndexByte n (s.extract i s.size) 32 = some (Lib.indexByte (x :: l) 32) := by
          unfold strings_IndexByte stringslite_IndexByte
          rw [hx5]
          rfl
        have e2 : strings_IndexByte n (s.extract i s.size) 9 = some (Lib.indexByte (x :: l) 9) := by
          unfold strings_IndexByte stringslite_IndexByte
          rw [hx5]
          rfl
        have hm := end_min (x :: l)
        unfold fmI at hm
        rw [if_neg (by decide), e1, Option.bind_some, e2, Option.bind_some]
        generalize Lib.indexByte (x :: l) 32 = t at hm
        generalize Lib.indexByte (x :: l) 9 = u at hm
        have e3 : ((if (decide (t < 0)) then some true else (if (decide (0 ≤ u)) then some (decide (u < t)) else some false)) : Option Bool) = some (decide (t < 0 ∨ (0 ≤ u ∧ u < t))) := by
          by_cases c1 : t < 0 <;> by_cases c2 : 0 ≤ u <;> by_cases c3 : u < t <;> simp [c1, c2, c3]
        have e4 : ∀ b : Bool, ((if b then some u else some t) : Option Int) = some (if b = true then u else t) := fun b => by cases b <;> rfl
        rw [e3, Option.bind_some, e4, Option.bind_some]
        simp only [decide_eq_true_eq]
        generalize (if t < 0 ∨ (0 ≤ u ∧ u < t) then u else t) = k at hm
        have e5 : ((if k < 0 then some ((s.extract i s.size).size : Int) else some k) : Option Int) = some ((wdL (x :: l)).length : Int) := by
          rw [← hm, hz5, ← hlen]
          by_cases c1 : k < 0 <;> simp [c1]
        have hs0 : bslc (s.extract i s.size) 0 ((wdL (x :: l)).length : Int) = some ((s.extract i s.size).extract 0 (wdL (x :: l)).length) := bslcS (s := s.extract i s.size) (a := 0) (Nat.zero_le _) (by omega)
        have hw : (s.extract i s.size).extract 0 (wdL (x :: l)).length = ⟨(wdL (x :: l)).toArray⟩ := by
          rw [← of_list ((s.extract i s.size).extract 0 (wdL (x :: l)).length), list_ext, hx5, List.drop_zero]
          have h9 := congrArg (List.take (wdL (x :: l)).length) (wd_rs (x :: l))
          rw [List.take_left] at h9
          rw [← h9]
        have ih := words_at (n := n) hs ha c (i + (wdL (x :: l)).length) (out ++ [⟨⟨(wdL (x :: l)).toArray⟩, (a : Int) + (i : Int)⟩]) (rsL (x :: l)) x3 x1 (by omega) (by rw [List.length_append, List.length_singleton]; omega)
        rw [wsL_word hgx (by simpa using hx), List.append_cons, show (((a + i : Nat) : Int)) = (a : Int) + (i : Int) by omega, show a + i + (wdL (x :: l)).length = a + (i + (wdL (x :: l)).length) by omega, ← ih]
        clear ih
        generalize hq : wdL (x :: l) = q at *
        rw [e5, Option.bind_some, hs0, Option.bind_some, hw, wr (by omega) (by omega), appS (by rw [List.length_singleton]; omega), Option.bind_some, wr (by omega) (by omega), show ((i : Int) + (q.length : Int)) = ((i + q.length : Nat) : Int) by omega]
theorem words_some {n a : Nat} {s : ByteArray} (hs : s.size < 1000000) (ha : a < 1000000000) (hn : s.size < n) : line_words n s (a : Int) = some (wsL s.data.toList a) := by
  unfold line_words
  have h : line_words_L1 n s (a : Int) n ([], 0) = _ := words_at hs ha n 0 [] s.data.toList (List.drop_zero) (by omega) (by omega) (by simp)
  rw [h]
  rfl
end Go.Proofs.YtjfpmgdbkhooeaaDoor.Ab
