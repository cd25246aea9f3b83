/-
  Lines of a text: the program and the document read the same. No program in sight.
-/
import Derived.Test.YtjfpmgdbkhooeaaDoorLpa
namespace Go.Proofs.YtjfpmgdbkhooeaaDoor.Ab
open Go.RowKit
/-! ### a byte that may not stand, a line's end -/
def badB (x : UInt8) : Bool := x != 9 && (decide (x.toNat < 32) || decide (126 < x.toNat))
def wrL : List UInt8 → Nat → Option Nat
  | [], _ => none
  | x :: l, a => if badB x then some a else wrL l (a + 1)
def bareL : List UInt8 → List UInt8
  | [] => []
  | x :: l => if l.isEmpty && x == 13 then [] else x :: bareL l
def badR : List UInt8 → Nat → Option Nat
  | [], _ => none
  | x :: l, a => if (x == 13 && l.head?.all (· == 10)) || x == 10 || !badB x then badR l (a + 1) else some a
def badP : List (List UInt8) → Nat → Option Nat
  | [], _ => none
  | p :: ps, a => match wrL (bareL p) a with
    | some k => some k
    | none => badP ps (a + p.length + 1)
def lineL : List GWord → List GLine
  | [] => []
  | w :: ws => [⟨w.at_, w :: ws⟩]
def linesP : List (List UInt8) → Nat → List GLine
  | [], _ => []
  | p :: ps, a => lineL (wsL (bareL p) a) ++ linesP ps (a + p.length + 1)
theorem cut_head : ∀ {l p : List UInt8} {ps : List (List UInt8)}, cutL 10 l = p :: ps → (l.head?.all (· == 10)) = p.isEmpty
  | [], p, ps, h => by
    cases h
    rfl
  | x :: l, p, ps, h => by
    obtain ⟨q, qs, e⟩ := cutL_ne 10 l
    rw [cutL_cons, e] at h
    by_cases hx : x = 10
    · rw [if_pos hx] at h
      cases h
      rw [hx]
      rfl
    · rw [if_neg hx] at h
      cases h
      simp [hx]
theorem badR_cut : ∀ (l : List UInt8) (a : Nat), badR l a = badP (cutL 10 l) a
  | [], _ => rfl
  | x :: l, a => by
    obtain ⟨p, ps, e⟩ := cutL_ne 10 l
    have hh := cut_head e
    have ih := badR_cut l (a + 1)
    rw [e] at ih
    rw [badR, cutL_cons, e, hh, ih]
    by_cases hx : x = 10
    · subst hx
      rfl
    · rw [if_neg hx]
      dsimp only
      have h10 : (x == 10) = false := beq_eq_false_iff_ne.2 hx
      rw [h10, Bool.or_false]
      have hz : a + 1 + p.length + 1 = a + (x :: p).length + 1 := by rw [List.length_cons]; omega
      rw [badP, badP, hz]
      cases p with
      | nil =>
        unfold bareL
        cases h13 : x == 13 with
        | true => rfl
        | false =>
          cases hb : badB x <;> simp [wrL, hb] <;> rfl
      | cons y q =>
        rw [show bareL (x :: y :: q) = x :: bareL (y :: q) from rfl, wrL]
        rw [List.isEmpty_cons, Bool.and_false, Bool.false_or]
        cases badB x <;> rfl
theorem bare_snoc : ∀ (l : List UInt8) (x : UInt8), bareL (l ++ [x]) = if x == 13 then l else l ++ [x]
  | [], x => by
    show (if (([] : List UInt8).isEmpty && x == 13) = true then [] else x :: bareL []) = _
    cases x == 13 <;> rfl
  | y :: l, x => by
    have ih := bare_snoc l x
    rw [List.cons_append, bareL, ih]
    have : (l ++ [x]).isEmpty = false := by cases l <;> rfl
    rw [this, Bool.false_and, if_neg (by decide)]
    cases x == 13 <;> rfl
theorem bare_pre (l : List UInt8) : ∃ r, l = bareL l ++ r := by
  rcases List.eq_nil_or_concat l with rfl | ⟨m, x, rfl⟩
  · exact ⟨[], rfl⟩
  · rw [List.concat_eq_append, bare_snoc]
    cases x == 13 with
    | true => exact ⟨[x], rfl⟩
    | false => exact ⟨[], (List.append_nil _).symm⟩
theorem bare_len (l : List UInt8) : (bareL l).length ≤ l.length := by
  obtain ⟨r, e⟩ := bare_pre l
  have := congrArg List.length e
  rw [List.length_append] at this
  omega
/-! ### the program's lines -/
def bareT (s : ByteArray) : ByteArray := ⟨(bareL s.data.toList).toArray⟩
theorem bareT_list (s : ByteArray) : (bareT s).data.toList = bareL s.data.toList := rfl
theorem bareT_size (s : ByteArray) : (bareT s).size ≤ s.size := by
  rw [← bsize, bareT_list, ← bsize s]
  exact bare_len _
theorem bare_some {n : Nat} {s : ByteArray} (hs : s.size < 1000000) : line_bare n s = some (bareT s) := by
  unfold line_bare strings_TrimSuffix stringslite_TrimSuffix stringslite_HasSuffix
  rw [show ((⟨#[13]⟩ : ByteArray).size : Int) = 1 from rfl]
  rcases List.eq_nil_or_concat s.data.toList with h | ⟨m, x, h⟩
  · have hz : s.size = 0 := by rw [← bsize, h]; rfl
    have e : bareT s = s := by
      unfold bareT
      rw [h, ← of_list s, h]
      rfl
    rw [hz, e]
    rfl
  · rw [List.concat_eq_append] at h
    have hz : s.size = m.length + 1 := by rw [← bsize, h]; simp
    have hx : (s.extract m.length (m.length + 1)).toList = [x] := by
      rw [Lib.toList_data, list_ext, h, List.take_of_length_le (by simp), List.drop_left]
    have hy : (s.extract 0 m.length).data.toList = m := by rw [list_ext, h, List.drop_zero, List.take_left]
    have hb := bare_snoc m x
    rw [hz, show decide (1 ≤ ((m.length + 1 : Nat) : Int)) = true from decide_eq_true (by omega), if_pos rfl, wr (by omega) (by omega), show (((m.length + 1 : Nat) : Int) - 1) = (m.length : Int) by omega, bslcS (by omega) (by omega), Option.bind_some, hx, show (⟨#[13]⟩ : ByteArray).toList = [13] from by kernel_rfl, show (([x] : List UInt8) == [13]) = (x == 13) by simp, Option.bind_some]
    cases hc : x == 13 with
    | true =>
      have h0 : bslc s 0 (m.length : Int) = some (s.extract 0 m.length) := bslcS (s := s) (a := 0) (Nat.zero_le _) (by omega)
      rw [if_pos rfl, h0, Option.bind_some, Option.bind_some, Option.bind_some]
      rw [hc, if_pos rfl] at hb
      unfold bareT
      rw [h, hb]
      exact congrArg some (bytes_inj hy)
    | false =>
      rw [hc, if_neg (by decide)] at hb
      unfold bareT
      rw [h, hb, ← h, of_list]
      rfl
theorem bad_i (x : UInt8) : badB x = (((x.toNat : Int) != 9) && (decide ((x.toNat : Int) < 32) || decide (126 < (x.toNat : Int)))) := by
  have e : ((x.toNat : Int) == 9) = (x == 9) := u8i (x := x) (k := 9) (by decide)
  unfold badB
  rw [bne, bne, e, show decide ((x.toNat : Int) < 32) = decide (x.toNat < 32) by simp; omega, show decide (126 < (x.toNat : Int)) = decide (126 < x.toNat) by simp; omega]
theorem wrong_at {n : Nat} {s : ByteArray} (hs : s.size < 1000000) : ∀ (c i : Nat) (l : List UInt8), s.data.toList.drop i = l → i ≤ s.size → s.size - i < c → ∀ a, line_wrong_L1 n s c (i : Int) = some (match wrL l (a + i) with
    | some k => .inr ((k - a : Nat) : Int)
    | none => .inl ())
  | 0, _, _, _, _, h => by omega
  | c + 1, i, [], hd, hi, hc => by
    intro a
    have := drop_nil hd
    rw [line_wrong_L1, dnlt (by omega), if_neg (by decide)]
    rfl
  | c + 1, i, x :: l, hd, hi, hc => by
    intro a
    obtain ⟨h1, h2, h3⟩ := bidx_l hd
    have hb := bad_i x
    rw [line_wrong_L1, dlt h1, if_pos rfl, h2, Option.bind_some, wr1 (by omega), wrong_at hs c (i + 1) l h3 (by omega) (by omega) a, wrL, hb]
    cases ((x.toNat : Int) != 9) <;> cases decide ((x.toNat : Int) < 32) <;> cases decide (126 < (x.toNat : Int)) <;> simp [Nat.add_assoc]
def wrI (o : Option Nat) (a : Nat) : Int := match o with
  | some k => ((k - a : Nat) : Int)
  | none => -1
theorem wrong_some {n a : Nat} {s : ByteArray} (hs : s.size < 1000000) (hn : s.size < n) : line_wrong n s = some (wrI (wrL s.data.toList a) a) := by
  unfold line_wrong
  have h : line_wrong_L1 n s n 0 = _ := wrong_at hs n 0 s.data.toList (List.drop_zero) (by omega) (by omega) a
  rw [h, Nat.add_zero]
  cases wrL s.data.toList a <;> rfl
theorem wrL_ge : ∀ {l : List UInt8} {a k : Nat}, wrL l a = some k → a ≤ k ∧ k < a + l.length
  | [], _, _, h => by cases h
  | x :: l, a, k, h => by
    rw [wrL] at h
    rw [List.length_cons]
    split at h
    · cases h
      omega
    · have := wrL_ge h
      omega
theorem wsL_len (l : List UInt8) (a : Nat) : (wsL l a).length ≤ l.length := wsF_len _ _ _
def sizes (ps : List ByteArray) : Nat := (ps.map fun p => p.size + 1).sum
theorem lines_R {n : Nat} (hn : 1000000 < n) : ∀ (ps : List ByteArray) (out : List GLine) (a : Nat), a + sizes ps < 1000000 → out.length ≤ a → line_Lines_R1 n ps (out, (a : Int)) = some (match badP (ps.map (·.data.toList)) a with
    | some k => .inr ([], (k : Int), 7)
    | none => .inl (out ++ linesP (ps.map (·.data.toList)) a))
  | [], out, a, _, _ => by
    rw [line_Lines_R1]
    simp [badP, linesP]
  | p :: ps, out, a, hz, ho => by
    have hs : sizes (p :: ps) = p.size + 1 + sizes ps := by simp [sizes]
    have hb := bareT_size p
    rw [line_Lines_R1, bare_some (by omega), Option.bind_some, wrong_some (a := a) (by omega) (by omega), Option.bind_some, List.map_cons, badP, bareT_list]
    have hlen : p.data.toList.length = p.size := bsize p
    cases hw : wrL (bareL p.data.toList) a with
    | some k =>
      have hk := wrL_ge hw
      have hbl := bare_len p.data.toList
      unfold wrI
      dsimp only
      rw [show decide ((0 : Int) ≤ ((k - a : Nat) : Int)) = true from decide_eq_true (by omega), if_pos rfl, wr (by omega) (by omega)]
      congr 4
      omega
    | none =>
      have e1 : IntKind.i64.wrap ((a : Int) + IntKind.i64.wrap ((p.size : Int) + 1)) = ((a + p.size + 1 : Nat) : Int) := by
        rw [wr1 (by omega), wr (by omega) (by omega)]
        omega
      have hwl := wsL_len (bareL p.data.toList) a
      have hbl := bare_len p.data.toList
      unfold wrI
      dsimp only
      rw [show decide ((0 : Int) ≤ (-1 : Int)) = false from rfl, if_neg (by decide), words_some (by omega) (by omega) (by omega), Option.bind_some, bareT_list, e1, linesP, hlen]
      cases hl : wsL (bareL p.data.toList) a with
      | nil =>
        rw [show decide ((0 : Int) < (([] : List GWord).length : Int)) = false from rfl, if_neg (by decide), lines_R hn ps out (a + p.size + 1) (by omega) (by omega)]
        rfl
      | cons w ws =>
        have h0 : idx (w :: ws) 0 = some w := rfl
        rw [show decide ((0 : Int) < ((w :: ws).length : Int)) = true from decide_eq_true (by rw [List.length_cons]; omega), if_pos rfl, h0, Option.bind_some, appS (by simp; omega), Option.bind_some, lines_R hn ps (out ++ [(⟨w.at_, w :: ws⟩ : GLine)]) (a + p.size + 1) (by omega) (by simp; omega)]
        simp only [lineL, List.append_assoc]
theorem cut_sum (c : UInt8) : ∀ l : List UInt8, ((cutL c l).map fun p => p.length + 1).sum = l.length + 1
  | [] => rfl
  | x :: l => by
    obtain ⟨p, ps, e⟩ := cutL_ne c l
    have ih := cut_sum c l
    rw [e, List.map_cons, List.sum_cons] at ih
    rw [cutL_cons, e]
    split
    · rw [List.map_cons, List.map_cons, List.sum_cons, List.sum_cons, List.length_nil, List.length_cons]
      omega
    · dsimp only
      rw [List.map_cons, List.sum_cons, List.length_cons, List.length_cons]
      omega
def linesF (s : ByteArray) : List GLine × Int × Int :=
  if 200000 < s.size then ([], 0, 8) else if 5000 < s.data.toList.count 10 then ([], 0, 8) else match badR s.data.toList 0 with
    | some k => ([], (k : Int), 7)
    | none => (linesP (cutL 10 s.data.toList) 0, 0, 0)
theorem lines_some {n : Nat} {s : ByteArray} (hn : 1000000 < n) : line_Lines n s = some (linesF s) := by
  unfold line_Lines linesF
  have e1 : decide ((200000 : Int) < (s.size : Int)) = decide (200000 < s.size) := dI 200000 s.size
  rw [e1]
  by_cases h1 : 200000 < s.size
  · rw [if_pos (by simpa using h1), if_pos h1]
  · have e2 : strings_Count n s ⟨#[10]⟩ = some ((s.data.toList.count 10 : Nat) : Int) := rfl
    have e3 : decide ((5000 : Int) < ((s.data.toList.count 10 : Nat) : Int)) = decide (5000 < s.data.toList.count 10) := dI 5000 _
    rw [if_neg (by simpa using h1), if_neg h1, e2, Option.bind_some, e3]
    by_cases h2 : 5000 < s.data.toList.count 10
    · rw [if_pos (by simpa using h2), if_pos h2]
    · have hz : sizes (splitT 10 s) = s.size + 1 := by
        have := cut_sum 10 s.data.toList
        rw [← splitT_cut, bsize, List.map_map] at this
        rw [← this]
        unfold sizes
        congr 1
      have hR : line_Lines_R1 n (splitT 10 s) ([], 0) = _ := lines_R hn (splitT 10 s) [] 0 (by omega) (by simp)
      rw [if_neg (by simpa using h2), if_neg h2, hR, splitT_cut, ← badR_cut]
      unfold line_Lines_C1_strings_SplitSeq line_Lines_C2_strings_splitSeq grd
      rw [if_pos (by simp; omega)]
      cases badR s.data.toList 0 <;> rfl
/-! ### the document's lines -/
theorem count_at {n : Nat} {s : ByteArray} (hs : s.size < 1000000) : ∀ (c i k : Nat) (l : List UInt8), s.data.toList.drop i = l → i ≤ s.size → s.size - i < c → k ≤ i → ref1_Lines_L1 n s c ((k : Int), (i : Int)) = some ((k + l.count 10 : Nat) : Int)
  | 0, _, _, _, _, _, h, _ => by omega
  | c + 1, i, k, [], hd, hi, hc, hk => by
    have := drop_nil hd
    rw [ref1_Lines_L1, dnlt (by omega), if_neg (by decide)]
    rfl
  | c + 1, i, k, x :: l, hd, hi, hc, hk => by
    obtain ⟨h1, h2, h3⟩ := bidx_l hd
    have e : ((x.toNat : Int) == 10) = (x == 10) := u8i (x := x) (k := 10) (by decide)
    rw [ref1_Lines_L1, dlt h1, if_pos rfl, h2, Option.bind_some, wr1 (by omega), wr1 (by omega), count_at hs c (i + 1) (k + 1) l h3 (by omega) (by omega) (by omega), count_at hs c (i + 1) k l h3 (by omega) (by omega) (by omega), e, List.count_cons]
    cases x == 10
    · rfl
    · rw [if_pos rfl, if_pos rfl]
      congr 2
      omega
theorem refBad_at {n : Nat} {s : ByteArray} (hs : s.size < 1000000) : ∀ (c i : Nat) (l : List UInt8), s.data.toList.drop i = l → i ≤ s.size → s.size - i < c → ref1_Lines_L2 n s c (i : Int) = some (match badR l i with
    | some k => .inr ([], (k : Int), 7)
    | none => .inl ())
  | 0, _, _, _, _, h => by omega
  | c + 1, i, [], hd, hi, hc => by
    have := drop_nil hd
    rw [ref1_Lines_L2, dnlt (by omega), if_neg (by decide)]
    rfl
  | c + 1, i, x :: l, hd, hi, hc => by
    obtain ⟨h1, h2, h3⟩ := bidx_l hd
    have e13 : ((x.toNat : Int) == 13) = (x == 13) := u8i (x := x) (k := 13) (by decide)
    have e9 : ((x.toNat : Int) == 9) = (x == 9) := u8i (x := x) (k := 9) (by decide)
    have e10 : ((x.toNat : Int) == 10) = (x == 10) := u8i (x := x) (k := 10) (by decide)
    have g1 : decide ((32 : Int) ≤ (x.toNat : Int)) = !decide (x.toNat < 32) := by rw [Bool.eq_iff_iff]; simp; omega
    have g2 : decide ((x.toNat : Int) ≤ 126) = !decide (126 < x.toNat) := by rw [Bool.eq_iff_iff]; simp; omega
    rw [ref1_Lines_L2, dlt h1, if_pos rfl, h2, Option.bind_some, wr1 (by omega), refBad_at hs c (i + 1) l h3 (by omega) (by omega), badR, e13, e9, e10, g1, g2]
    unfold badB
    rw [bne]
    have key : ∀ (b13 b9 b10 b32 b126 hd : Bool) (A B : Option (Unit ⊕ (List GLine × Int × Int))), (if b13 then (if hd then A else if b9 then A else if b10 then A else if !b32 then if !b126 then A else B else B) else if b9 then A else if b10 then A else if !b32 then if !b126 then A else B else B) = if (b13 && hd || b10 || !(!b9 && (b32 || b126))) then A else B := by
      intro b13 b9 b10 b32 b126 hd A B
      cases b13 <;> cases b9 <;> cases b10 <;> cases b32 <;> cases b126 <;> cases hd <;> rfl
    have out : ∀ (c : Bool), (if c then badR l (i + 1) else some i) = (if c then badR l (i + 1) else some i) := fun _ => rfl
    cases l with
    | nil =>
      have hz : i + 1 = s.size := by
        have := drop_nil h3
        omega
      rw [hz, show ((s.size : Int) == (s.size : Int)) = true by simp, if_pos rfl, ← hz]
      have := key (x == 13) (x == 9) (x == 10) (decide (x.toNat < 32)) (decide (126 < x.toNat)) true (some (match badR [] (i + 1) with | some k => Sum.inr ([], (k : Int), 7) | none => Sum.inl ())) (some (Sum.inr ([], (i : Int), 7)))
      rw [if_pos rfl] at this
      rw [this]
      rw [show ([] : List UInt8).head?.all (fun x => x == 10) = true from rfl]
      cases (x == 13 && true || x == 10 || !(!(x == 9) && (decide (x.toNat < 32) || decide (126 < x.toNat)))) <;> rfl
    | cons y r =>
      obtain ⟨j1, j2, j3⟩ := bidx_l h3
      have f10 : ((y.toNat : Int) == 10) = (y == 10) := u8i (x := y) (k := 10) (by decide)
      rw [show (((i + 1 : Nat) : Int) == (s.size : Int)) = false from beq_eq_false_iff_ne.2 (by omega), if_neg Bool.false_ne_true, j2, Option.bind_some, f10]
      have := key (x == 13) (x == 9) (x == 10) (decide (x.toNat < 32)) (decide (126 < x.toNat)) (y == 10) (some (match badR (y :: r) (i + 1) with | some k => Sum.inr ([], (k : Int), 7) | none => Sum.inl ())) (some (Sum.inr ([], (i : Int), 7)))
      rw [this]
      rw [show (y :: r).head?.all (fun x => x == 10) = (y == 10) from rfl]
      cases (x == 13 && (y == 10) || x == 10 || !(!(x == 9) && (decide (x.toNat < 32) || decide (126 < x.toNat)))) <;> rfl
def joinP : List (List UInt8) → List UInt8
  | [] => []
  | p :: ps => match ps with
    | [] => p
    | q :: qs => p ++ 10 :: joinP (q :: qs)
theorem join_cut : ∀ l : List UInt8, joinP (cutL 10 l) = l
  | [] => rfl
  | x :: l => by
    obtain ⟨p, ps, e⟩ := cutL_ne 10 l
    have ih := join_cut l
    rw [cutL_cons, e]
    rw [e] at ih
    by_cases hx : x = 10
    · rw [if_pos hx, hx]
      show [] ++ 10 :: joinP (p :: ps) = _
      rw [ih]
      rfl
    · rw [if_neg hx]
      dsimp only
      rw [← ih]
      cases ps <;> rfl
theorem cut_none : ∀ (l q : List UInt8), q ∈ cutL 10 l → (10 : UInt8) ∉ q
  | [], q, h => by
    rw [show cutL 10 [] = [[]] from rfl, List.mem_singleton] at h
    rw [h]
    exact List.not_mem_nil
  | x :: l, q, h => by
    obtain ⟨p, ps, e⟩ := cutL_ne 10 l
    have ih := cut_none l
    rw [e] at ih
    rw [cutL_cons, e] at h
    by_cases hx : x = 10
    · rw [if_pos hx] at h
      rcases List.mem_cons.1 h with h | h
      · rw [h]
        exact List.not_mem_nil
      · exact ih q h
    · rw [if_neg hx] at h
      rcases List.mem_cons.1 h with h | h
      · rw [h]
        intro hm
        rcases List.mem_cons.1 hm with hm | hm
        · exact hx hm.symm
        · exact ih p (List.mem_cons_self ..) hm
      · exact ih q (List.mem_cons_of_mem _ h)
theorem run_line {n : Nat} {s : ByteArray} (hs : s.size < 1000000) {out : List GLine} {fr : Int} : ∀ (l : List UInt8) (c i : Nat) (r : List UInt8), (10 : UInt8) ∉ l → s.data.toList.drop i = l ++ r → ref1_Lines_L3 n s (c + l.length) (out, fr, (i : Int)) = ref1_Lines_L3 n s c (out, fr, ((i + l.length : Nat) : Int))
  | [], c, i, r, _, _ => rfl
  | x :: l, c, i, r, hl, h => by
    obtain ⟨h1, h2, h3⟩ := bidx_l (show s.data.toList.drop i = x :: (l ++ r) from h)
    have hx : ((x.toNat : Int) != 10) = true := by
      have := u8i (x := x) (k := 10) (by decide)
      rw [bne, show ((x.toNat : Int) == 10) = decide (x = UInt8.ofNat 10) from this, show decide (x = UInt8.ofNat 10) = false from decide_eq_false (fun e => hl (e ▸ List.mem_cons_self ..))]
      rfl
    rw [List.length_cons, ← Nat.add_assoc, ref1_Lines_L3, show decide ((i : Int) ≤ (s.size : Int)) = true from decide_eq_true (by omega), if_pos rfl, dlt h1, if_pos rfl, h2, Option.bind_some, hx, Option.bind_some, if_pos rfl, wr1 (by omega), run_line hs l c (i + 1) r (fun hy => hl (List.mem_cons_of_mem _ hy)) h3]
    congr 4
    omega
theorem bare_end (p : List UInt8) : (p = [] ∧ bareL p = p) ∨ ∃ m x, p = m ++ [x] ∧ bareL p = if x == 13 then m else m ++ [x] := by
  rcases List.eq_nil_or_concat p with rfl | ⟨m, x, rfl⟩
  · exact .inl ⟨rfl, rfl⟩
  · exact .inr ⟨m, x, List.concat_eq_append, by rw [List.concat_eq_append, bare_snoc]⟩
theorem join_cons2 (p : List UInt8) (ps : List (List UInt8)) : (ps = [] ∧ joinP (p :: ps) = p ++ []) ∨ ∃ q qs, ps = q :: qs ∧ joinP (p :: ps) = p ++ 10 :: joinP (q :: qs) := by
  cases ps with
  | nil => exact .inl ⟨rfl, (List.append_nil _).symm⟩
  | cons q qs => exact .inr ⟨q, qs, rfl, rfl⟩
theorem refLines_step {n d i : Nat} {s : ByteArray} {out R : List GLine} {p r : List UInt8} (hs : s.size < 1000000) (hn : 1000000 < n) (hr : s.data.toList.drop i = p ++ r) (hno : (10 : UInt8) ∉ p) (hj : r = [] ∨ ∃ x, r = 10 :: x) (hi : i ≤ s.size) (ho : out.length ≤ i) (hfin : ∀ out2 : List GLine, out2.length ≤ i + p.length + 1 → ref1_Lines_L3 n s d (out2, ((i + p.length + 1 : Nat) : Int), ((i + p.length + 1 : Nat) : Int)) = some (out2 ++ R)) : ref1_Lines_L3 n s (d + 1 + p.length) (out, (i : Int), (i : Int)) = some (out ++ (lineL (wsL (bareL p) i) ++ R)) := by
  have hl := congrArg List.length hr
  rw [List.length_drop, bsize, List.length_append] at hl
  have hrun := run_line (n := n) hs (out := out) (fr := (i : Int)) p (d + 1) i r hno hr
  have hq : ((if (decide (((i + p.length : Nat) : Int) < (s.size : Int))) then
        (bidx s ((i + p.length : Nat) : Int)).bind fun ch8 =>
        some (ch8 != 10)
      else
        some false) : Option (Bool)) = some false := by
    rcases hj with rfl | ⟨x, rfl⟩
    · rw [List.length_nil] at hl
      rw [dnlt (by omega)]
      rfl
    · obtain ⟨h, h4, _⟩ := bidx_l (ext_drop hr hi).2.2
      rw [dlt h, if_pos rfl, h4]
      rfl
  have hcr : ((if (decide ((i : Int) < ((i + p.length : Nat) : Int))) then
          (bidx s (IntKind.i64.wrap (((i + p.length : Nat) : Int) - 1))).bind fun ch9 =>
          some (ch9 == 13)
        else
          some false) : Option (Bool)).bind (fun t101 => ((if t101 then
          some (IntKind.i64.wrap (((i + p.length : Nat) : Int) - 1))
        else
          some ((i + p.length : Nat) : Int)) : Option (Int))) = some ((i + (bareL p).length : Nat) : Int) := by
    rcases bare_end p with ⟨rfl, hb⟩ | ⟨m, x, hm, hb⟩
    · rw [dnlt (by simp)]
      rfl
    · have hpl : p.length = m.length + 1 := by rw [hm]; simp
      have h4 := hr
      rw [hm, List.append_assoc] at h4
      obtain ⟨_, h5, _⟩ := bidx_l (show s.data.toList.drop (i + m.length) = x :: r from (ext_drop h4 hi).2.2)
      have e13 : ((x.toNat : Int) == 13) = (x == 13) := u8i (x := x) (k := 13) (by decide)
      rw [dlt (by omega), if_pos rfl, wr (by omega) (by omega), show (((i + p.length : Nat) : Int) - 1) = ((i + m.length : Nat) : Int) by omega, h5, Option.bind_some, e13, Option.bind_some, hb]
      cases x == 13
      · rw [if_neg Bool.false_ne_true, if_neg Bool.false_ne_true, List.length_append, List.length_singleton, hpl]
      · rw [if_pos rfl, if_pos rfl]
  obtain ⟨b, hb⟩ := bare_pre p
  have hbl := bare_len p
  obtain ⟨x1, x2, x3⟩ := ext_drop (w := bareL p) (r := b ++ r) (by rw [← List.append_assoc, ← hb]; exact hr) hi
  have hsz : (s.extract i (i + (bareL p).length)).size = (bareL p).length := by rw [← bsize, x2]
  have hwl := wsL_len (bareL p) i
  have hw := refWords_some (n := n) (a := i) (s := s.extract i (i + (bareL p).length)) (by omega) (by omega) (by omega)
  rw [x2] at hw
  rw [hrun, ref1_Lines_L3, show decide ((((i + p.length : Nat) : Int)) ≤ (s.size : Int)) = true from decide_eq_true (by omega), if_pos rfl, hq, Option.bind_some, if_neg Bool.false_ne_true, ← Option.bind_assoc, hcr, Option.bind_some, bslcS (by omega) x1, Option.bind_some, hw, Option.bind_some, wr1 (by omega)]
  cases hwc : wsL (bareL p) i with
  | nil =>
    rw [show decide ((0 : Int) < (([] : List GWord).length : Int)) = false from rfl, if_neg Bool.false_ne_true, hfin out (by omega)]
    rfl
  | cons w ws =>
    have h0 : idx (w :: ws) 0 = some w := rfl
    rw [show decide ((0 : Int) < ((w :: ws).length : Int)) = true from decide_eq_true (by rw [List.length_cons]; omega), if_pos rfl, h0, Option.bind_some, appS (by rw [List.length_singleton]; omega), Option.bind_some, hfin _ (by rw [List.length_append, List.length_singleton]; omega), List.append_assoc]
    rfl
theorem refLines_at {n : Nat} {s : ByteArray} (hs : s.size < 1000000) (hn : 1000000 < n) : ∀ (ps : List (List UInt8)) (p : List UInt8) (c i : Nat) (out : List GLine), s.data.toList.drop i = joinP (p :: ps) → (∀ q ∈ p :: ps, (10 : UInt8) ∉ q) → i ≤ s.size → s.size - i + 1 < c → out.length ≤ i → ref1_Lines_L3 n s c (out, (i : Int), (i : Int)) = some (out ++ linesP (p :: ps) i)
  | [], p, c, i, out, hd, hno, hi, hc, ho => by
    have hd : s.data.toList.drop i = p ++ [] := by rw [hd, List.append_nil]; rfl
    have hl := congrArg List.length hd
    rw [List.length_drop, bsize, List.append_nil] at hl
    obtain ⟨d, rfl⟩ : ∃ d, c = d + 1 + 1 + p.length := ⟨c - p.length - 1 - 1, by omega⟩
    refine refLines_step hs hn hd (hno p (List.mem_cons_self ..)) (.inl rfl) hi ho fun out2 ho2 => ?_
    rw [ref1_Lines_L3, show decide ((((i + p.length + 1 : Nat) : Int)) ≤ (s.size : Int)) = false from decide_eq_false (by omega), if_neg Bool.false_ne_true]
    simp [linesP]
  | q :: qs, p, c, i, out, hd, hno, hi, hc, ho => by
    have hd : s.data.toList.drop i = p ++ 10 :: joinP (q :: qs) := hd
    obtain ⟨h1, _, h3⟩ := bidx_l (ext_drop hd hi).2.2
    obtain ⟨d, rfl⟩ : ∃ d, c = d + 1 + p.length := ⟨c - p.length - 1, by omega⟩
    exact refLines_step hs hn hd (hno p (List.mem_cons_self ..)) (.inr ⟨_, rfl⟩) hi ho fun out2 ho2 => refLines_at hs hn qs q d (i + p.length + 1) out2 h3 (fun y hy => hno y (List.mem_cons_of_mem _ hy)) (by omega) (by omega) ho2
theorem refLines_some {n : Nat} {s : ByteArray} (hs : s.size < 1000000) (hn : 1000000 < n) : ref1_Lines n s = some (linesF s) := by
  unfold ref1_Lines linesF
  have h1 : ref1_Lines_L1 n s n (0, 0) = _ := count_at hs n 0 0 s.data.toList (List.drop_zero) (by omega) (by omega) (by omega)
  have h2 : ref1_Lines_L2 n s n 0 = _ := refBad_at hs n 0 s.data.toList (List.drop_zero) (by omega) (by omega)
  obtain ⟨p, ps, e⟩ := cutL_ne 10 s.data.toList
  have h3 : ref1_Lines_L3 n s n ([], 0, 0) = _ := refLines_at hs hn ps p n 0 [] (by rw [List.drop_zero, ← e, join_cut]) (by rw [← e]; exact cut_none _) (by omega) (by omega) (by simp)
  have e1 : decide ((200000 : Int) < (s.size : Int)) = decide (200000 < s.size) := dI 200000 s.size
  have e3 : decide ((5000 : Int) < ((s.data.toList.count 10 : Nat) : Int)) = decide (5000 < s.data.toList.count 10) := dI 5000 _
  rw [h1, Option.bind_some, h2, h3, e1, Nat.zero_add, e3, e]
  by_cases c1 : 200000 < s.size
  · rw [if_pos (by simpa using c1), if_pos c1]
    rfl
  · by_cases c2 : 5000 < s.data.toList.count 10
    · rw [if_neg (by simpa using c1), if_neg c1, if_pos c2, Option.bind_some, if_pos (by simpa using c2)]
    · rw [if_neg (by simpa using c1), if_neg c1, if_neg c2, Option.bind_some, if_neg (by simpa using c2)]
      cases badR s.data.toList 0 <;> rfl
end Go.Proofs.YtjfpmgdbkhooeaaDoor.Ab
