/-
 Lines of words: what the document reads of a text that is told line by line. No program in sight.
-/
import Derived.Test.YtgmhbmcdlkajdaaGreatDoorPy
import Derived.Test.YtgmhbmcdlkajdaaGreatDoorTo
namespace Go.Proofs.YtgmhbmcdlkajdaaGreatDoor.Ab
open Go.RowKit
theorem bidx_l {s : ByteArray} {i : Nat} {x : UInt8} {r : List UInt8} (h : s.data.toList.drop i = x :: r) : i < s.size ∧ bidx s (i : Int) = some (x.toNat : Int) ∧ s.data.toList.drop (i + 1) = r := by
 have hi : i < s.data.toList.length := by
  rcases Nat.lt_or_ge i s.data.toList.length with h1 | h1
  ·exact h1
  ·rw [List.drop_eq_nil_of_le h1] at h
   cases h
 rw [List.drop_eq_getElem_cons hi] at h
 obtain ⟨h1, h2⟩ := List.cons.inj h
 rw [bsize] at hi
 refine ⟨hi, ?_, h2⟩
 rw [bidxS hi, h1]
theorem u8i {x : UInt8} {k : Nat} (hk : k < 256) : ((x.toNat : Int) == (k : Int)) = decide (x = UInt8.ofNat k) := by
 rw [Bool.eq_iff_iff, beq_iff_eq, decide_eq_true_eq, ← UInt8.toNat_inj, UInt8.toNat_ofNat']
 omega
theorem ext_drop {s : ByteArray} {i : Nat} {w r : List UInt8} (h : s.data.toList.drop i = w ++ r) (hi : i ≤ s.size) : i + w.length ≤ s.size ∧ (s.extract i (i + w.length)).data.toList = w ∧ s.data.toList.drop (i + w.length) = r := by
 have hl := congrArg List.length h
 rw [List.length_drop, List.length_append, bsize] at hl
 refine ⟨by omega, ?_, ?_⟩
 ·rw [list_ext, List.drop_take, h, show i + w.length - i = w.length by omega, List.take_left]
 ·rw [← List.drop_drop, h, List.drop_left]
def gapB (x : UInt8) : Bool := x == 32 || x == 9
def wordL (w : List UInt8) : Prop := w ≠ [] ∧ (∀ x ∈ w, gapB x = false) ∧ w.head? ≠ some 35
inductive WordsT : List UInt8 → List (List UInt8) → Prop
 | nil : WordsT [] []
 | blank {l ws} (h : WordsT l ws) : WordsT (32 :: l) ws
 | last {w} (hw : wordL w) : WordsT w [w]
 | word {w l ws} (hw : wordL w) (h : WordsT l ws) : WordsT (w ++ 32 :: l) (w :: ws)
theorem word_end2 {n : Nat} {s : ByteArray} (hs : s.size < 1000000) {r : List UInt8} (hr : ∀ x l, r = x :: l → gapB x = true) : ∀ (w : List UInt8) (c k : Nat), (∀ x ∈ w, gapB x = false) → s.data.toList.drop k = w ++ r → k ≤ s.size → w.length < c → ref1_words_L2 n s c (k : Int) = some ((k + w.length : Nat) : Int)
 | _, 0, _, _, _, _, h => by omega
 | [], c + 1, k, _, h, hk, _ => by
  rw [ref1_words_L2]
  cases r with
  | nil =>
   have hl := congrArg List.length h
   rw [List.length_drop, bsize] at hl
   rw [dnlt (by simp at hl; omega), if_neg (by decide)]
   rfl
  | cons x l =>
   obtain ⟨h1, h2, _⟩ := bidx_l h
   have hg := hr x l rfl
   unfold gapB at hg
   have e1 := u8i (x := x) (k := 32) (by decide)
   have e2 := u8i (x := x) (k := 9) (by decide)
   rw [dlt h1, if_pos rfl, h2, Zo, bne, bne, show ((x.toNat : Int) == 32) = (x == 32) from e1, show ((x.toNat : Int) == 9) = (x == 9) from e2]
   cases ha : x == 32 with
   | true => rfl
   | false =>
    rw [ha, Bool.false_or] at hg
    rw [hg]
    rfl
 | y :: w, c + 1, k, hw, h, hk, hc => by
  rw [ref1_words_L2]
  obtain ⟨h1, h2, h3⟩ := bidx_l (show s.data.toList.drop k = y :: (w ++ r) from h)
  have hg := hw y (List.mem_cons_self ..)
  unfold gapB at hg
  rw [Bool.or_eq_false_iff] at hg
  have e1 := u8i (x := y) (k := 32) (by decide)
  have e2 := u8i (x := y) (k := 9) (by decide)
  rw [List.length_cons] at hc
  rw [dlt h1, if_pos rfl, h2, Zo, bne, bne, show ((y.toNat : Int) == 32) = (y == 32) from e1, show ((y.toNat : Int) == 9) = (y == 9) from e2, hg.1, hg.2, Bool.not_false, if_pos rfl, if_pos rfl, wr1 (by omega), word_end2 hs hr w c (k + 1) (fun x hx => hw x (List.mem_cons_of_mem _ hx)) h3 (by omega) (by omega), List.length_cons]
  congr 2
  omega
def tws (o : List GWord) : List (List UInt8) := o.map fun w => w.text.data.toList
theorem words_at {n : Nat} {s : ByteArray} {a : Int} (hs : s.size < 1000000) (hn : s.size < n) : ∀ (c i : Nat) (out : List GWord) (ws : List (List UInt8)), WordsT (s.data.toList.drop i) ws → i ≤ s.size → s.size - i < c → out.length ≤ i → Tot (ref1_words_L1 n s a c (out, (i : Int))) fun r => ∃ o, r = .inl o ∧ tws o = tws out ++ ws
 | 0, _, _, _, _, _, h, _ => by omega
 | c + 1, i, out, ws, hw, hi, hc, ho => by
  rw [ref1_words_L1]
  have take : ∀ (w r : List UInt8) (vs : List (List UInt8)), wordL w → s.data.toList.drop i = w ++ r → (∀ x l, r = x :: l → gapB x = true) → WordsT r vs → ws = w :: vs → Tot ((if (decide ((i : Int) < (s.size : Int))) then (
    (
     (bidx s (i : Int)).bind fun ch5 =>
     (if (ch5 == 32) then
      some true
     else
      some (ch5 == 9)) : Option (Bool)).bind fun t212 =>
    (if t212 then
     ref1_words_L1 n s a c (out, (IntKind.i64.wrap ((i : Int) + 1)))
    else
     (bidx s (i : Int)).bind fun ch6 =>
     (if (ch6 == 35) then
      some (.inr out)
     else
      (
       ref1_words_L2 n s n (i : Int) : Option (Int)).bind fun k7 =>
      (bslc s (i : Int) k7).bind fun s3 =>
      (app out [(⟨s3, (IntKind.i64.wrap (a + (i : Int)))⟩ : GWord)]).bind fun l =>
      ref1_words_L1 n s a c (l, k7)))) else some (.inl out)) : Option (List GWord ⊕ List GWord)) fun r => ∃ o, r = .inl o ∧ tws o = tws out ++ ws := by
   intro w r vs hwl hd hr hv hws
   obtain ⟨y, w', rfl⟩ : ∃ y w', w = y :: w' := by
    cases w with
    | nil => exact absurd rfl hwl.1
    | cons y w' => exact ⟨y, w', rfl⟩
   obtain ⟨h1, h2, h3⟩ := bidx_l (show s.data.toList.drop i = y :: (w' ++ r) from hd)
   have hg := hwl.2.1 y (List.mem_cons_self ..)
   have hne : ¬ y = 35 := fun e => hwl.2.2 (by rw [e]; rfl)
   unfold gapB at hg
   rw [Bool.or_eq_false_iff] at hg
   have e1 := u8i (x := y) (k := 32) (by decide)
   have e2 := u8i (x := y) (k := 9) (by decide)
   have e3 := u8i (x := y) (k := 35) (by decide)
   have e4 : decide (y = UInt8.ofNat 35) = false := decide_eq_false hne
   obtain ⟨x1, x2, x3⟩ := ext_drop hd hi
   have hz : (s.extract i (i + (y :: w').length)).size = (y :: w').length := by rw [← bsize, x2]
   rw [dlt h1, if_pos rfl, h2, Zo, show ((y.toNat : Int) == 32) = (y == 32) from e1, show ((y.toNat : Int) == 9) = (y == 9) from e2, hg.1, hg.2, if_neg (by decide), Zo, if_neg (by decide), Zo, show ((y.toNat : Int) == 35) = decide (y = UInt8.ofNat 35) from e3, e4, if_neg (by decide), word_end2 hs hr (y :: w') n i hwl.2.1 hd hi (by omega), Zo, bslcS (by omega) x1, Zo, appS (by simp; omega), Zo]
   have hl : 0 < (y :: w').length := by simp
   refine (words_at hs hn c (i + (y :: w').length) _ vs (by rw [x3]; exact hv) x1 (by omega) (by rw [List.length_append]; simp; omega)).mono ?_
   rintro _ ⟨o, rfl, h⟩
   refine ⟨o, rfl, ?_⟩
   rw [h, hws]
   unfold tws
   rw [List.map_append, List.append_assoc, List.map_singleton]
   dsimp only
   rw [x2]
   rfl
  generalize hd : s.data.toList.drop i = l at hw
  cases hw with
  | nil =>
   have hl := congrArg List.length hd
   rw [List.length_drop, bsize] at hl
   rw [dnlt (by simp at hl; omega), if_neg (by decide)]
   exact tot_some ⟨out, rfl, by simp⟩
  | blank h =>
   obtain ⟨h1, h2, h3⟩ := bidx_l hd
   rw [dlt h1, if_pos rfl, h2, Zo, show (((32 : UInt8).toNat : Int) == 32) = true from rfl, if_pos rfl, Zo, if_pos rfl, wr1 (by omega)]
   exact words_at hs hn c (i + 1) out ws (by rw [h3]; exact h) (by omega) (by omega) (by omega)
  | last hw => exact take _ [] [] hw (by rw [hd, List.append_nil]) (fun _ _ e => by cases e) .nil rfl
  | word hw h => exact take _ (32 :: _) _ hw hd (fun x l e => by cases e; rfl) (.blank h) rfl
theorem words_of {n : Nat} {s : ByteArray} {a : Int} {ws : List (List UInt8)} (hs : s.size < 1000000) (hn : s.size < n) (h : WordsT s.data.toList ws) : Tot (ref1_words n s a) fun o => tws o = ws := by
 unfold ref1_words
 have hL : Tot (ref1_words_L1 n s a n ([], 0)) _ := words_at hs hn n 0 [] ws (by rw [List.drop_zero]; exact h) (by omega) (by omega) (by simp)
 refine tot_bind hL ?_
 rintro _ ⟨o, rfl, ho⟩
 exact tot_some (by simpa [tws] using ho)
def goodB (x : UInt8) : Bool := decide (32 ≤ x.toNat) && decide (x.toNat ≤ 126)
inductive LinesT : List UInt8 → List (List (List UInt8)) → Prop
 | nil : LinesT [] []
 | line {l r ws rs} (hl : ∀ x ∈ l, goodB x = true) (hw : WordsT l ws) (h0 : ws ≠ []) (h : LinesT r rs) : LinesT (l ++ 10 :: r) (ws :: rs)
theorem lt_bytes {l : List UInt8} {rs : List (List (List UInt8))} (h : LinesT l rs) : ∀ x ∈ l, goodB x = true ∨ x = 10 := by
 induction h with
 | nil => intro x hx; cases hx
 | line hl _ _ _ ih =>
  intro x hx
  rcases List.mem_append.1 hx with h | h
  ·exact .inl (hl x h)
  ·rcases List.mem_cons.1 h with h | h
   ·exact .inr h
   ·exact ih x h
theorem ends_tot {n : Nat} {s : ByteArray} (hs : s.size < 1000000) : ∀ (c i k : Nat), i ≤ s.size → s.size - i < c → k ≤ i → Tot (ref1_Lines_L1 n s c ((k : Int), (i : Int))) fun t => t ≤ (s.size : Int)
 | 0, _, _, _, h, _ => by omega
 | c + 1, i, k, hi, hc, hk => by
  rw [ref1_Lines_L1]
  by_cases h : i < s.size
  ·rw [dlt h, if_pos rfl, bidxS h, Zo, wr1 (by omega), wr1 (by omega)]
   exact tot_ite (fun _ => ends_tot hs c (i + 1) (k + 1) (by omega) (by omega) (by omega)) fun _ => ends_tot hs c (i + 1) k (by omega) (by omega) (by omega)
  ·rw [dnlt (by omega), if_neg (by decide)]
   exact tot_some (by omega)
theorem bytes_good {n : Nat} {s : ByteArray} (hs : s.size < 1000000) (hb : ∀ x ∈ s.data.toList, goodB x = true ∨ x = 10) : ∀ (c i : Nat), i ≤ s.size → s.size - i < c → ref1_Lines_L2 n s c (i : Int) = some (.inl ())
 | 0, _, _, h => by omega
 | c + 1, i, hi, hc => by
  rw [ref1_Lines_L2]
  by_cases h : i < s.size
  ·have hbl : i < s.data.toList.length := by rw [bsize]; exact h
   have hx := hb s.data.toList[i] (List.getElem_mem hbl)
   rw [dlt h, if_pos rfl, bidxS h, Zo, wr1 (by omega), bytes_good hs hb c (i + 1) (by omega) (by omega)]
   generalize s.data.toList[i] = x at hx
   rcases hx with hx | rfl
   ·unfold goodB at hx
    simp only [Bool.and_eq_true, decide_eq_true_eq] at hx
    rw [show ((x.toNat : Int) == 13) = false from beq_eq_false_iff_ne.2 (by omega), show ((x.toNat : Int) == 9) = false from beq_eq_false_iff_ne.2 (by omega), show ((x.toNat : Int) == 10) = false from beq_eq_false_iff_ne.2 (by omega), show decide (32 ≤ (x.toNat : Int)) = true from decide_eq_true (by omega), show decide ((x.toNat : Int) ≤ 126) = true from decide_eq_true (by omega)]
    rfl
   ·rfl
  ·rw [dnlt (by omega), if_neg (by decide)]
theorem run_line {n : Nat} {s : ByteArray} (hs : s.size < 1000000) {out : List GLine} {fr : Int} : ∀ (l : List UInt8) (c i : Nat) (r : List UInt8), (∀ x ∈ l, x ≠ 10) → s.data.toList.drop i = l ++ 10 :: r → ref1_Lines_L3 n s (c + l.length) (out, fr, (i : Int)) = ref1_Lines_L3 n s c (out, fr, ((i + l.length : Nat) : Int))
 | [], c, i, r, _, _ => rfl
 | x :: l, c, i, r, hl, h => by
  obtain ⟨h1, h2, h3⟩ := bidx_l (show s.data.toList.drop i = x :: (l ++ 10 :: r) from h)
  have hx : ((x.toNat : Int) != 10) = true := by
   have := u8i (x := x) (k := 10) (by decide)
   rw [bne, show ((x.toNat : Int) == 10) = decide (x = UInt8.ofNat 10) from this, show decide (x = UInt8.ofNat 10) = false from decide_eq_false (hl x (List.mem_cons_self ..))]
   rfl
  rw [List.length_cons, ← Nat.add_assoc, ref1_Lines_L3, show decide ((i : Int) ≤ (s.size : Int)) = true from decide_eq_true (by omega), if_pos rfl, dlt h1, if_pos rfl, h2, Zo, hx, Zo, if_pos rfl, wr1 (by omega), run_line hs l c (i + 1) r (fun y hy => hl y (List.mem_cons_of_mem _ hy)) h3]
  congr 4
  omega
theorem lines_at {n : Nat} {s : ByteArray} (hs : s.size < 1000000) (hn : s.size < n) {l : List UInt8} {rs : List (List (List UInt8))} (h : LinesT l rs) : ∀ (c i : Nat) (out : List GLine), s.data.toList.drop i = l → i ≤ s.size → s.size - i + 1 < c → out.length ≤ i → Tot (ref1_Lines_L3 n s c (out, (i : Int), (i : Int))) fun o => o.map (fun x => tws x.words) = out.map (fun x => tws x.words) ++ rs := by
 induction h with
 | nil =>
  intro c i out hd hi hc ho
  have hl := congrArg List.length hd
  rw [List.length_drop, bsize] at hl
  have hi2 : i = s.size := by simp at hl; omega
  subst hi2
  obtain ⟨c, rfl⟩ : ∃ d, c = d + 1 + 1 := ⟨c - 2, by omega⟩
  rw [ref1_Lines_L3, show decide ((s.size : Int) ≤ (s.size : Int)) = true from decide_eq_true (by omega), if_pos rfl, dnlt (Nat.le_refl _), if_neg (by decide), Zo, if_neg (by decide), if_neg (by decide), Zo, if_neg (by decide), Zo, bslcS (Nat.le_refl _) (Nat.le_refl _), Zo]
  have hz : (s.extract s.size s.size).size = 0 := by rw [ext_size s (Nat.le_refl _)]; omega
  refine tot_bind (words_of (s := s.extract s.size s.size) (ws := []) (by omega) (by omega) (by
   rw [show (s.extract s.size s.size).data.toList = [] from List.eq_nil_of_length_eq_zero (by rw [bsize]; exact hz)]
   exact .nil)) fun o ho2 => ?_
  have : o.length = 0 := by
   have := congrArg List.length ho2
   simpa [tws] using this
  rw [this, show decide (0 < ((0 : Nat) : Int)) = false from rfl, if_neg (by decide), ref1_Lines_L3, wr1 (by omega), show decide (((s.size + 1 : Nat) : Int) ≤ (s.size : Int)) = false from decide_eq_false (by omega), if_neg (by decide)]
  exact tot_some (by simp)
 | @line l r ws rs hl hw h0 h ih =>
  intro c i out hd hi hc ho
  have hlen := congrArg List.length hd
  rw [List.length_drop, List.length_append, List.length_cons, bsize] at hlen
  obtain ⟨c, rfl⟩ : ∃ d, c = d + 1 + l.length := ⟨c - 1 - l.length, by omega⟩
  obtain ⟨x1, x2, x3⟩ := ext_drop hd hi
  have hne : ∀ x ∈ l, x ≠ 10 := fun x hx e => by
   have := hl x hx
   rw [e] at this
   cases this
  rw [run_line hs l (c + 1) i r hne hd, ref1_Lines_L3]
  obtain ⟨y1, y2, y3⟩ := bidx_l x3
  have h13 : ((if (decide ((i : Int) < ((i + l.length : Nat) : Int))) then (bidx s (IntKind.i64.wrap (((i + l.length : Nat) : Int) - 1))).bind fun ch9 => some (ch9 == 13) else some false) : Option Bool) = some false := by
   by_cases hl0 : l = []
   ·subst hl0
    rw [dnlt (by simp), if_neg (by decide)]
   ·have hpos := List.length_pos_iff.2 hl0
    rw [dlt (by omega), if_pos rfl, wr (by omega) (by omega), show (((i + l.length : Nat) : Int) - 1) = ((i + (l.length - 1) : Nat) : Int) by omega, bidxS (by omega), Zo]
    have hg : s.data.toList[i + (l.length - 1)]'(by rw [bsize]; omega) ∈ l := by
     have e : s.data.toList[i + (l.length - 1)]? = l[l.length - 1]? := by
      rw [← List.getElem?_drop, hd, List.getElem?_append_left (by omega)]
     rw [List.getElem?_eq_getElem (by rw [bsize]; omega), List.getElem?_eq_getElem (by omega), Option.some.injEq] at e
     rw [e]
     exact List.getElem_mem _
    have := hl _ hg
    unfold goodB at this
    simp only [Bool.and_eq_true, decide_eq_true_eq] at this
    congr 1
    exact beq_eq_false_iff_ne.2 (by omega)
  rw [show decide (((i + l.length : Nat) : Int) ≤ (s.size : Int)) = true from decide_eq_true (by omega), if_pos rfl, dlt y1, if_pos rfl, y2, Zo, show (((10 : UInt8).toNat : Int) != 10) = false from rfl, Zo, if_neg (by decide), h13, Zo, if_neg (by decide), Zo, bslcS (by omega) x1, Zo]
  have hz : (s.extract i (i + l.length)).size = l.length := by rw [← bsize, x2]
  refine tot_bind (words_of (s := s.extract i (i + l.length)) (by omega) (by omega) (by rw [x2]; exact hw)) fun o ho2 => ?_
  have hol : 0 < o.length := by
   have := congrArg List.length ho2
   unfold tws at this
   rw [List.length_map] at this
   have := List.length_pos_iff.2 h0
   omega
  rw [show decide (0 < (o.length : Int)) = true from decide_eq_true (by omega), if_pos rfl, wr1 (by omega), show (0 : Int) = ((0 : Nat) : Int) from rfl, idxS hol, Zo, appS (by simp; omega), Zo]
  refine (ih c (i + l.length + 1) _ y3 (by omega) (by omega) (by simp; omega)).mono fun o2 h2 => ?_
  rw [h2, List.map_append, List.map_singleton, ho2, List.append_assoc]
  rfl
theorem lines_of {n : Nat} {s : ByteArray} {rs : List (List (List UInt8))} (hs : s.size ≤ 5000) (hn : s.size + 2 < n) (h : LinesT s.data.toList rs) : Tot (ref1_Lines n s) fun r => r.1.map (fun x => tws x.words) = rs ∧ r.2 = (0, 0) := by
 unfold ref1_Lines
 have h1 : Tot (ref1_Lines_L1 n s n (0, 0)) _ := ends_tot (by omega) n 0 0 (by omega) (by omega) (by omega)
 refine tot_bind h1 fun t ht => ?_
 have h2 : ref1_Lines_L2 n s n 0 = _ := bytes_good (by omega) (lt_bytes h) n 0 (by omega) (by omega)
 rw [show decide (200000 < (s.size : Int)) = false from decide_eq_false (by omega), if_neg (by decide), show decide (5000 < t) = false from decide_eq_false (by omega), Zo, if_neg (by decide), h2, Zo]
 dsimp only
 have h3 : Tot (ref1_Lines_L3 n s n ([], 0, 0)) _ := lines_at (by omega) (by omega) h n 0 [] rfl (by omega) (by omega) (by simp)
 refine tot_bind h3 fun o ho => tot_some ⟨?_, rfl⟩
 simpa using ho
end Go.Proofs.YtgmhbmcdlkajdaaGreatDoor.Ab
