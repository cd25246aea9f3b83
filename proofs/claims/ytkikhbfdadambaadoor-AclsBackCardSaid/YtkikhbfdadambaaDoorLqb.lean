/-
 Lines of a text: the program and the document read the same. No program in sight.
-/
import Derived.Test.YtkikhbfdadambaaDoorLqa
namespace Go.Proofs.YtkikhbfdadambaaDoor.Ab
open Go.RowKit
def badB (x : UInt8) : Bool := x != 9 && (decide (x.toNat < 32) || decide (126 < x.toNat))
def wrL : List UInt8 → Nat → Option Nat
 | [], _ => none
 | x :: l, a => if badB x then some a else wrL l (a + 1)
def bareL : List UInt8 → List UInt8
 | [] => []
 | x :: l => if l.isEmpty && x == 13 then [] else x :: bareL l
def badR : List UInt8 → Nat → Option Nat
 | [], _ => none
 | x :: l, a => if (x == 13 && l.head?.all (· == 10)) || x == 10 || !badB x then badR l (a + 1) else some a
def badP : List (List UInt8) → Nat → Option Nat
 | [], _ => none
 | p :: ps, a => match wrL (bareL p) a with
  | some k => some k
  | none => badP ps (a + p.length + 1)
def lineL : List GWord → List GLine
 | [] => []
 | w :: ws => [⟨w.at_, w :: ws⟩]
def linesP : List (List UInt8) → Nat → List GLine
 | [], _ => []
 | p :: ps, a => lineL (wsL (bareL p) a) ++ linesP ps (a + p.length + 1)
theorem cut_head : ∀ {l p : List UInt8} {ps : List (List UInt8)}, cutL 10 l = p :: ps → (l.head?.all (· == 10)) = p.isEmpty
 | [], p, ps, h => by
  cases h
  rfl
 | x :: l, p, ps, h => by
  obtain ⟨q, qs, e⟩ := cutL_ne 10 l
  rw [cutL_cons, e] at h
  by_cases hx : x = 10
  ·rw [if_pos hx] at h
   cases h
   rw [hx]
   rfl
  ·rw [if_neg hx] at h
   cases h
   simp [hx]
theorem badR_cut : ∀ (l : List UInt8) (a : Nat), badR l a = badP (cutL 10 l) a
 | [], _ => rfl
 | x :: l, a => by
  obtain ⟨p, ps, e⟩ := cutL_ne 10 l
  have hh := cut_head e
  have ih := badR_cut l (a + 1)
  rw [e] at ih
  rw [badR, cutL_cons, e, hh, ih]
  by_cases hx : x = 10
  ·subst hx
   rfl
  ·rw [if_neg hx]
   dsimp only
   have h10 : (x == 10) = false := beq_eq_false_iff_ne.2 hx
   rw [h10, Bool.or_false]
   have hz : a + 1 + p.length + 1 = a + (x :: p).length + 1 := by rw [List.length_cons]; omega
   rw [badP, badP, hz]
   cases p with
   | nil =>
    unfold bareL
    cases h13 : x == 13 with
    | true => rfl
    | false =>
     cases hb : badB x <;> simp [wrL, hb] <;> rfl
   | cons y q =>
    rw [show bareL (x :: y :: q) = x :: bareL (y :: q) from rfl, wrL]
    rw [List.isEmpty_cons, Bool.and_false, Bool.false_or]
    cases badB x <;> rfl
theorem bare_snoc : ∀ (l : List UInt8) (x : UInt8), bareL (l ++ [x]) = if x == 13 then l else l ++ [x]
 | [], x => by
  show (if (([] : List UInt8).isEmpty && x == 13) = true then [] else x :: bareL []) = _
  cases x == 13 <;> rfl
 | y :: l, x => by
  have ih := bare_snoc l x
  rw [List.cons_append, bareL, ih]
  have : (l ++ [x]).isEmpty = false := by cases l <;> rfl
  rw [this, Bool.false_and, if_neg (by decide)]
  cases x == 13 <;> rfl
theorem bare_pre (l : List UInt8) : ∃ r, l = bareL l ++ r := by
 rcases List.eq_nil_or_concat l with rfl | ⟨m, x, rfl⟩
 ·exact ⟨[], rfl⟩
 ·rw [List.concat_eq_append, bare_snoc]
  cases x == 13 with
  | true => exact ⟨[x], rfl⟩
  | false => exact ⟨[], (List.append_nil _).symm⟩
theorem bare_len (l : List UInt8) : (bareL l).length ≤ l.length := by
 obtain ⟨r, e⟩ := bare_pre l
 have := congrArg List.length e
 rw [List.length_append] at this
 omega
def bareT (s : ByteArray) : ByteArray := ⟨(bareL s.data.toList).toArray⟩
theorem bareT_list (s : ByteArray) : (bareT s).data.toList = bareL s.data.toList := rfl
theorem bareT_size (s : ByteArray) : (bareT s).size ≤ s.size := by
 rw [← bsize, bareT_list, ← bsize s]
 exact bare_len _
theorem bare_some {n : Nat} {s : ByteArray} (hs : s.size < 1000000) : line_bare n s = some (bareT s) := by
 unfold line_bare strings_TrimSuffix stringslite_TrimSuffix stringslite_HasSuffix
 rw [show ((⟨#[13]⟩ : ByteArray).size : Int) = 1 from rfl]
 rcases List.eq_nil_or_concat s.data.toList with h | ⟨m, x, h⟩
 ·have hz : s.size = 0 := by rw [← bsize, h]; rfl
  have e : bareT s = s := by
   unfold bareT
   rw [h, ← of_list s, h]
   rfl
  rw [hz, e]
  rfl
 ·rw [List.concat_eq_append] at h
  have hz : s.size = m.length + 1 := by rw [← bsize, h]; simp
  have hx : (s.extract m.length (m.length + 1)).toList = [x] := by
   rw [Lib.toList_data, list_ext, h, List.take_of_length_le (by simp), List.drop_left]
  have hy : (s.extract 0 m.length).data.toList = m := by rw [list_ext, h, List.drop_zero, List.take_left]
  have hb := bare_snoc m x
  rw [hz, show decide (1 ≤ ((m.length + 1 : Nat) : Int)) = true from decide_eq_true (by omega), if_pos rfl, wr (by omega) (by omega), show (((m.length + 1 : Nat) : Int) - 1) = (m.length : Int) by omega, bslcS (by omega) (by omega), Option.bind_some, hx, show (⟨#[13]⟩ : ByteArray).toList = [13] from by kernel_rfl, show (([x] : List UInt8) == [13]) = (x == 13) by simp, Option.bind_some]
  cases hc : x == 13 with
  | true =>
   have h0 : bslc s 0 (m.length : Int) = some (s.extract 0 m.length) := bslcS (s := s) (a := 0) (Nat.zero_le _) (by omega)
   rw [if_pos rfl, h0, Option.bind_some, Option.bind_some, Option.bind_some]
   rw [hc, if_pos rfl] at hb
   unfold bareT
   rw [h, hb]
   exact congrArg some (bytes_inj hy)
  | false =>
   rw [hc, if_neg (by decide)] at hb
   unfold bareT
   rw [h, hb, ← h, of_list]
   rfl
theorem bad_i (x : UInt8) : badB x = (((x.toNat : Int) != 9) && (decide ((x.toNat : Int) < 32) || decide (126 < (x.toNat : Int)))) := by
 have e : ((x.toNat : Int) == 9) = (x == 9) := u8i (x := x) (k := 9) (by decide)
 unfold badB
 rw [bne, bne, e, show decide ((x.toNat : Int) < 32) = decide (x.toNat < 32) by simp; omega, show decide (126 < (x.toNat : Int)) = decide (126 < x.toNat) by simp; omega]
theorem wrong_at {n : Nat} {s : ByteArray} (hs : s.size < 1000000) : ∀ (c i : Nat) (l : List UInt8), s.data.toList.drop i = l → i ≤ s.size → s.size - i < c → ∀ a, line_wrong_L1 n s c (i : Int) = some (match wrL l (a + i) with
  | some k => .inr ((k - a : Nat) : Int)
  | none => .inl ())
 | 0, _, _, _, _, h => by omega
 | c + 1, i, [], hd, hi, hc => by
  intro a
  have := drop_nil hd
  rw [line_wrong_L1, dnlt (by omega), if_neg (by decide)]
  rfl
 | c + 1, i, x :: l, hd, hi, hc => by
  intro a
  obtain ⟨h1, h2, h3⟩ := bidx_l hd
  have hb := bad_i x
  rw [line_wrong_L1, dlt h1, if_pos rfl, h2, Option.bind_some, wr1 (by omega), wrong_at hs c (i + 1) l h3 (by omega) (by omega) a, wrL, hb]
  cases ((x.toNat : Int) != 9) <;> cases decide ((x.toNat : Int) < 32) <;> cases decide (126 < (x.toNat : Int)) <;> simp [Nat.add_assoc]
def wrI (o : Option Nat) (a : Nat) : Int := match o with
 | some k => ((k - a : Nat) : Int)
 | none => -1
theorem wrong_some {n a : Nat} {s : ByteArray} (hs : s.size < 1000000) (hn : s.size < n) : line_wrong n s = some (wrI (wrL s.data.toList a) a) := by
 unfold line_wrong
 have h : line_wrong_L1 n s n 0 = _ := wrong_at hs n 0 s.data.toList (List.drop_zero) (by omega) (by omega) a
 rw [h, Nat.add_zero]
 cases wrL s.data.toList a <;> rfl
theorem wrL_ge : ∀ {l : List UInt8} {a k : Nat}, wrL l a = some k → a ≤ k ∧ k < a + l.length
 | [], _, _, h => by cases h
 | x :: l, a, k, h => by
  rw [wrL] at h
  rw [List.length_cons]
  split at h
  ·cases h
   omega
  ·have := wrL_ge h
   omega
theorem wsL_len (l : List UInt8) (a : Nat) : (wsL l a).length ≤ l.length := wsF_len _ _ _
def sizes (ps : List ByteArray) : Nat := (ps.map fun p => p.size + 1).sum
theorem lines_R {n : Nat} (hn : 1000000 < n) : ∀ (ps : List ByteArray) (out : List GLine) (a : Nat), a + sizes ps < 1000000 → out.length ≤ a → line_Lines_R1 n ps (out, (a : Int)) = some (match badP (ps.map (·.data.toList)) a with
  | some k => .inr ([], (k : Int), 7)
  | none => .inl (out ++ linesP (ps.map (·.data.toList)) a))
 | [], out, a, _, _ => by
  rw [line_Lines_R1]
  simp [badP, linesP]
 | p :: ps, out, a, hz, ho => by
  have hs : sizes (p :: ps) = p.size + 1 + sizes ps := by simp [sizes]
  have hb := bareT_size p
  rw [line_Lines_R1, bare_some (by omega), Option.bind_some, wrong_some (a := a) (by omega) (by omega), Option.bind_some, List.map_cons, badP, bareT_list]
  have hlen : p.data.toList.length = p.size := bsize p
  cases hw : wrL (bareL p.data.toList) a with
  | some k =>
   have hk := wrL_ge hw
   have hbl := bare_len p.data.toList
   unfold wrI
   dsimp only
   rw [show decide ((0 : Int) ≤ ((k - a : Nat) : Int)) = true from decide_eq_true (by omega), if_pos rfl, wr (by omega) (by omega)]
   congr 4
   omega
  | none =>
   have e1 : IntKind.i64.wrap ((a : Int) + IntKind.i64.wrap ((p.size : Int) + 1)) = ((a + p.size + 1 : Nat) : Int) := by
    rw [wr1 (by omega), wr (by omega) (by omega)]
    omega
   have hwl := wsL_len (bareL p.data.toList) a
   have hbl := bare_len p.data.toList
   unfold wrI
   dsimp only
   rw [show decide ((0 : Int) ≤ (-1 : Int)) = false from rfl, if_neg (by decide), words_some (by omega) (by omega) (by omega), Option.bind_some, bareT_list, e1, linesP, hlen]
   cases hl : wsL (bareL p.data.toList) a with
   | nil =>
    rw [show decide ((0 : Int) < (([] : List GWord).length : Int)) = false from rfl, if_neg (by decide), lines_R hn ps out (a + p.size + 1) (by omega) (by omega)]
    rfl
   | cons w ws =>
    have h0 : idx (w :: ws) 0 = some w := rfl
    rw [show decide ((0 : Int) < ((w :: ws).length : Int)) = true from decide_eq_true (by rw [List.length_cons]; omega), if_pos rfl, h0, Option.bind_some, appS (by simp; omega), Option.bind_some, lines_R hn ps (out ++ [(⟨w.at_, w :: ws⟩ : GLine)]) (a + p.size + 1) (by omega) (by simp; omega)]
    simp only [lineL, List.append_assoc]
theorem cut_sum (c : UInt8) : ∀ l : List UInt8, ((cutL c l).map fun p => p.length + 1).sum = l.length + 1
 | [] => rfl
 | x :: l => by
  obtain ⟨p, ps, e⟩ := cutL_ne c l
  have ih := cut_sum c l
  rw [e, List.map_cons, List.sum_cons] at ih
  rw [cutL_cons, e]
  split
  ·rw [List.map_cons, List.map_cons, List.sum_cons, List.sum_cons, List.length_nil, List.length_cons]
   omega
  ·dsimp only
   rw [List.map_cons, List.sum_cons, List.length_cons, List.length_cons]
   omega
def linesF (s : ByteArray) : List GLine × Int × Int :=
 if 200000 < s.size then ([], 0, 8) else if 5000 < s.data.toList.count 10 then ([], 0, 8) else match badR s.data.toList 0 with
  | some k => ([], (k : Int), 7)
  | none => (linesP (cutL 10 s.data.toList) 0, 0, 0)
theorem lines_some {n : Nat} {s : ByteArray} (hn : 1000000 < n) : line_Lines n s = some (linesF s) := by
 unfold line_Lines linesF
 have e1 : decide ((200000 : Int) < (s.size : Int)) = decide (200000 < s.size) := dI 200000 s.size
 rw [e1]
 by_cases h1 : 200000 < s.size
 ·rw [if_pos (by simpa using h1), if_pos h1]
 ·have e2 : strings_Count n s ⟨#[10]⟩ = some ((s.data.toList.count 10 : Nat) : Int) := rfl
  have e3 : decide ((5000 : Int) < ((s.data.toList.count 10 : Nat) : Int)) = decide (5000 < s.data.toList.count 10) := dI 5000 _
  rw [if_neg (by simpa using h1), if_neg h1, e2, Option.bind_some, e3]
  by_cases h2 : 5000 < s.data.toList.count 10
  ·rw [if_pos (by simpa using h2), if_pos h2]
  ·have hz : sizes (splitT 10 s) = s.size + 1 := by
    have := cut_sum 10 s.data.toList
    rw [← splitT_cut, bsize, List.map_map] at this
    rw [← this]
    unfold sizes
    congr 1
   have hR : line_Lines_R1 n (splitT 10 s) ([], 0) = _ := lines_R hn (splitT 10 s) [] 0 (by omega) (by simp)
   rw [if_neg (by simpa using h2), if_neg h2, hR, splitT_cut, ← badR_cut]
   unfold line_Lines_C1_strings_SplitSeq line_Lines_C2_strings_splitSeq grd
   rw [if_pos (by simp; omega)]
   cases badR s.data.toList 0 <;> rfl
end Go.Proofs.YtkikhbfdadambaaDoor.Ab
