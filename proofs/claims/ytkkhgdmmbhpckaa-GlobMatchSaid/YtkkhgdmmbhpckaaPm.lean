/-
  Match, Over, Texts, SameTexts, Name and Tame, told plainly.
-/
import Derived.Test.YtkkhgdmmbhpckaaGma
import Derived.Test.YtkkhgdmmbhpckaaPk
namespace Go.Proofs.Ytkkhgdmmbhpckaa.Ab
open Go.RowKit

theorem sameTexts_some {n : Nat} {a b : List ByteArray} (hn : a.length < n) (hx : a.length < 4611686018427387904) : ref1_SameTexts n a b = some (decide (a = b)) := by
  unfold ref1_SameTexts
  by_cases hl : a.length = b.length
  · have e : ((a.length : Int) != (b.length : Int)) = false := by simp [hl]
    have h : ref1_SameTexts_L1 n a b n 0 = _ := same_loop (L := ref1_SameTexts_L1 n a b) (E := fun x y => x.toList == y.toList) beqS (fun _ _ => rfl) hl hx n 0 (by omega) (by omega)
    rw [e, if_neg (by decide), h, List.drop_zero, List.drop_zero, Option.bind_some]
    by_cases e : a = b <;> simp [e]
  · have e : ((a.length : Int) != (b.length : Int)) = true := by simp; omega
    rw [e, if_pos rfl, decide_eq_false fun h => hl (by rw [h])]
theorem texts_some : ∀ (n : Nat) (l : List ByteArray), l.length + 2 ≤ n → l.length ≤ 4294967296 → ref1_Texts n l = some (tx.ofL l)
  | 0, _, h, _ => by omega
  | n + 1, l, h, hl => by
    have ih := texts_some n
    unfold ref1_Texts
    by_cases h2 : l.length < 2
    · rw [decide_eq_true (by omega), if_pos rfl, appS (by simp; omega), Option.bind_some, ofL_short tx h2]
    · have ed : Int.tdiv (l.length : Int) 2 = ((l.length / 2 : Nat) : Int) := by rw [Int.tdiv_eq_ediv_of_nonneg (by omega)]; omega
      rw [decide_eq_false (by omega), if_neg (by decide), ed, wrap_nat (by omega)]
      have s1 : slc l 0 ((l.length / 2 : Nat) : Int) = some ((l.take (l.length / 2)).drop 0) := slcS (a := 0) (by omega) (by omega)
      rw [s1, Option.bind_some, ih _ (by simp; omega) (by simp; omega), Option.bind_some, slcS (by omega) (Nat.le_refl _), Option.bind_some, ih _ (by simp; omega) (by simp; omega), Option.bind_some]
      have k1 := ofL_len tx ((l.take (l.length / 2)).drop 0)
      have k2 := ofL_len tx ((l.take l.length).drop (l.length / 2))
      simp only [List.drop_zero, List.length_take, List.take_length, List.length_drop] at k1 k2 ⊢
      have m := merge_loop tx (L := ref1_Texts_L1 n (tx.ofL (l.take (l.length / 2))) (tx.ofL (l.drop (l.length / 2)))) (fun _ _ _ _ => rfl) n [] 0 0 (by omega) (by omega) (by omega) (by simp; omega) (by omega) (by omega)
      have m' : ref1_Texts_L1 n (tx.ofL (l.take (l.length / 2))) (tx.ofL (l.drop (l.length / 2))) n ([], 0, 0) = _ := m
      rw [m', Option.bind_some, List.nil_append, List.drop_zero, List.drop_zero, tx.mg_ofL, List.take_append_drop]
/-! ### Match, Over -/
def star : ByteArray := { data := #[42] }
def matchB (p s : ByteArray) : Bool := if starB p then preB (p.extract 0 (p.size - 1)) s else decide (p = s)
theorem hasPrefix_some {n : Nat} {s p : ByteArray} : strings_HasPrefix n s p = some (preB p s) := by
  unfold strings_HasPrefix stringslite_HasPrefix preB
  by_cases h : p.size ≤ s.size
  · have e : bslc s 0 (p.size : Int) = some (s.extract 0 p.size) := bslcS (a := 0) (by omega) h
    rw [decide_eq_true (by omega), if_pos rfl, e, Option.bind_some, Option.bind_some, beqS, decide_eq_true h, Bool.true_and]
  · rw [decide_eq_false (by omega), if_neg (by decide), Option.bind_some, decide_eq_false h, Bool.false_and]
theorem drop_last {α : Type} {l : List α} (h : l ≠ []) : l.drop (l.length - 1) = [l.getLast h] := by
  have hl : 0 < l.length := List.length_pos_iff.2 h
  rw [List.drop_eq_getElem_cons (by omega), List.drop_eq_nil_of_le (by omega), List.getLast_eq_getElem]
theorem star_ext (p : ByteArray) (h : 1 ≤ p.size) : decide (p.extract (p.size - 1) p.size = star) = starB p := by
  have hne : p.data.toList ≠ [] := by
    intro e
    have := bsize p
    rw [e] at this
    simp at this
    omega
  unfold starB
  rw [Bool.eq_iff_iff, decide_eq_true_eq, bs_eq, list_ext, ← bsize, List.take_length, drop_last hne, List.getLast?_eq_some_getLast hne]
  show [_] = [42] ↔ _
  simp
theorem match_some {n : Nat} {p s : ByteArray} (hp : p.size < 4611686018427387904) : glob_Match n p s = some (matchB p s) := by
  unfold glob_Match strings_CutSuffix stringslite_CutSuffix stringslite_HasSuffix matchB
  have e1 : (({ data := #[42] } : ByteArray).size : Int) = ((1 : Nat) : Int) := rfl
  rw [e1]
  by_cases h : 1 ≤ p.size
  · have e2 : IntKind.i64.wrap ((p.size : Int) - ((1 : Nat) : Int)) = ((p.size - 1 : Nat) : Int) := by rw [wr (by omega) (by omega)]; omega
    have e3 : bslc p 0 ((p.size - 1 : Nat) : Int) = some (p.extract 0 (p.size - 1)) := bslcS (a := 0) (by omega) (by omega)
    have e4 := star_ext p h
    unfold star at e4
    rw [decide_eq_true (by omega), if_pos rfl, e2, bslcS (by omega) (Nat.le_refl _), Option.bind_some, beqS, e4, Option.bind_some]
    cases starB p with
    | true => rw [if_pos rfl, e3, Option.bind_some, Option.bind_some, Option.bind_some, if_pos rfl, hasPrefix_some, Option.bind_some, if_pos rfl]
    | false => rw [if_neg (by decide), Option.bind_some, Option.bind_some, if_neg (by simp), beqS, if_neg (by decide)]
  · have e4 : starB p = false := by
      unfold starB
      have : p.data.toList = [] := by
        have := bsize p
        exact List.eq_nil_of_length_eq_zero (by omega)
      rw [this]
      rfl
    rw [decide_eq_false (by omega), if_neg (by decide), Option.bind_some, if_neg (by decide), Option.bind_some, Option.bind_some, if_neg (by simp), beqS, e4, if_neg (by decide)]
theorem matches_some {n : Nat} {ps : List ByteArray} {s : ByteArray} (hn : ps.length < n) (hl : ps.length < 4611686018427387904) (hp : ∀ p ∈ ps, p.size < 4611686018427387904) : glob_matches n ps s = some (ps.any fun p => matchB p s) := by
  unfold glob_matches slices_ContainsFunc_string__glob_matches_c1 slices_IndexFunc_string__glob_matches_c1
  obtain ⟨r, h1, h2⟩ := ixf_loop (L := slices_IndexFunc_string__glob_matches_c1_L1 n ps s) (xs := ps) (P := fun p => glob_matches_c1 n p s) (fun p => matchB p s) (fun _ _ => rfl) (fun p h => by unfold glob_matches_c1; rw [match_some (hp p h)]; rfl) hl n 0 (by omega) (by omega)
  have h1' : slices_IndexFunc_string__glob_matches_c1_L1 n ps s n 0 = some r := h1
  rw [h1', List.drop_zero] at *
  rcases h2 with ⟨h2, k, rfl⟩ | ⟨h2, rfl⟩
  · rw [h2]; simp
  · rw [h2]; simp
theorem norm_Once_some {n : Nat} {xs : List ByteArray} (h : xs.length ≤ 4294967296) : norm_Once n xs = some (tx.ofL xs) := by
  unfold norm_Once
  rw [if_pos h]
  exact congrArg some (once_set xs)
theorem foldl_filter {α : Type} (p : α → Bool) (l acc : List α) : l.foldl (fun a x => if p x then a ++ [x] else a) acc = acc ++ l.filter p := by
  induction l generalizing acc with
  | nil => simp
  | cons x r ih => by_cases h : p x <;> simp [h, ih]
theorem over_loop {n : Nat} {ps names : List ByteArray} (hn : ps.length < n) (hl : ps.length < 4611686018427387904) (hp : ∀ p ∈ ps, p.size < 4611686018427387904) (hm : names.length ≤ 4294967296) : ∀ (c j : Nat) (acc : List ByteArray), j ≤ names.length → names.length - j < c → acc.length ≤ j → glob_Over_L1 n ps names c (acc, (j : Int)) = some (acc ++ (names.drop j).filter fun s => ps.any fun p => matchB p s)
  | 0, _, _, _, h, _ => by omega
  | c + 1, j, acc, hj, hc, ha => by
    have ih := over_loop hn hl hp hm c
    unfold glob_Over_L1
    by_cases hlt : j < names.length
    · rw [dlt hlt, if_pos rfl, idxS hlt, Option.bind_some, matches_some hn hl hp, Option.bind_some, List.drop_eq_getElem_cons hlt, wr1 (by omega)]
      cases h : ps.any fun p => matchB p names[j] with
      | true =>
        rw [if_pos rfl, appS (by simp; omega), Option.bind_some, ih _ _ (by omega) (by omega) (by simp; omega), List.filter_cons, h, if_pos rfl]
        simp
      | false => rw [if_neg (by decide), ih _ _ (by omega) (by omega) (by omega), List.filter_cons, h, if_neg (by decide)]
    · rw [dnlt (by omega), if_neg (by decide), List.drop_eq_nil_of_le (by omega)]
      simp
theorem over_some {n : Nat} {ps names : List ByteArray} (hn : ps.length < n) (hl : ps.length < 4611686018427387904) (hp : ∀ p ∈ ps, p.size < 4611686018427387904) (hm : names.length ≤ 4294967296) (hm2 : names.length < n) : glob_Over n ps names = some (tx.ofL (names.filter fun s => ps.any fun p => matchB p s)) := by
  unfold glob_Over
  have h : glob_Over_L1 n ps names n ([], 0) = _ := over_loop hn hl hp hm n 0 [] (by omega) (by omega) (by simp)
  have hf := List.length_filter_le (fun s => ps.any fun p => matchB p s) names
  rw [h, Option.bind_some, List.nil_append, List.drop_zero, norm_Once_some (by omega)]
  rfl
/-! ### Name, Tame -/
def alnumB (b : UInt8) : Bool := decide (97 ≤ b.toNat ∧ b.toNat ≤ 122) || decide (48 ≤ b.toNat ∧ b.toNat ≤ 57)
def okB (b : UInt8) : Bool := alnumB b || b == 95 || b == 45 || b == 46
def nameB (s : ByteArray) : Bool := decide (1 ≤ s.size) && decide (s.size ≤ 30) && (s.data.toList.head?.any alnumB) && s.data.toList.all okB
theorem alnum_some {n : Nat} (b : UInt8) : ref1_alnum n (b.toNat : Int) = some (alnumB b) := by
  unfold ref1_alnum alnumB
  rw [show decide ((97 : Int) ≤ (b.toNat : Int)) = decide (97 ≤ b.toNat) from decide_eq_decide.2 (by omega), show decide ((b.toNat : Int) ≤ 122) = decide (b.toNat ≤ 122) from decide_eq_decide.2 (by omega), show decide ((48 : Int) ≤ (b.toNat : Int)) = decide (48 ≤ b.toNat) from decide_eq_decide.2 (by omega), show decide ((b.toNat : Int) ≤ 57) = decide (b.toNat ≤ 57) from decide_eq_decide.2 (by omega)]
  by_cases h1 : 97 ≤ b.toNat <;> by_cases h2 : b.toNat ≤ 122 <;> by_cases h3 : 48 ≤ b.toNat <;> by_cases h4 : b.toNat ≤ 57 <;> simp [h1, h2, h3, h4]
theorem ne_byte (b : UInt8) (k : Nat) (hk : k < 256) : ((b.toNat : Int) != (k : Int)) = !(b == UInt8.ofNat k) := by
  have : (b.toNat = k) ↔ b = UInt8.ofNat k := by
    constructor
    · intro h; exact UInt8.toNat_inj.1 (by rw [h, UInt8.toNat_ofNat']; exact (Nat.mod_eq_of_lt hk).symm)
    · intro h; rw [h, UInt8.toNat_ofNat']; exact Nat.mod_eq_of_lt hk
  by_cases h : b.toNat = k
  · rw [← this.1 h]; simp [h]
  · have h2 : ¬ b = UInt8.ofNat k := fun e => h (this.2 e)
    have h3 : (b == UInt8.ofNat k) = false := by simpa using h2
    rw [h3]
    simp
    omega
theorem name_loop {n : Nat} {s : ByteArray} (hs : s.size < 4611686018427387904) : ∀ (c j : Nat), j ≤ s.size → s.size - j < c → ref1_Name_L1 n s c (j : Int) = some (if (s.data.toList.drop j).all okB then .inl () else .inr false)
  | 0, _, _, h => by omega
  | c + 1, j, hj, hc => by
    have ih := name_loop (n := n) hs c
    unfold ref1_Name_L1
    by_cases hlt : j < s.size
    · have hlt' : j < s.data.toList.length := by rw [bsize]; exact hlt
      have e1 := ne_byte s.data.toList[j] 95 (by decide)
      have e2 := ne_byte s.data.toList[j] 45 (by decide)
      have e3 := ne_byte s.data.toList[j] 46 (by decide)
      simp only [Int.cast_ofNat_Int] at e1 e2 e3
      rw [dlt hlt, if_pos rfl, bidxS hlt, Option.bind_some, alnum_some, Option.bind_some, List.drop_eq_getElem_cons hlt', List.all_cons, wr1 (by omega), ih (j + 1) (by omega) (by omega), e1, e2, e3]
      unfold okB
      cases alnumB s.data.toList[j] <;> cases h1 : s.data.toList[j] == 95 <;> cases h2 : s.data.toList[j] == 45 <;> cases h3 : s.data.toList[j] == 46 <;> simp_all
    · rw [dnlt (by omega), if_neg (by decide), List.drop_eq_nil_of_le (by rw [bsize]; omega)]
      rfl
theorem name_some {n : Nat} {s : ByteArray} (hs : s.size < 4611686018427387904) (hn : s.size < n) : ref1_Name n s = some (nameB s) := by
  unfold ref1_Name nameB
  have h : ref1_Name_L1 n s n 0 = _ := name_loop hs n 0 (by omega) (by omega)
  by_cases h1 : s.size < 1
  · rw [decide_eq_true (by omega), if_pos rfl, Option.bind_some, if_pos rfl, decide_eq_false (by omega)]
    rfl
  · rw [decide_eq_false (by omega), if_neg (by decide), decide_eq_true (show 1 ≤ s.size by omega)]
    by_cases h2 : 30 < s.size
    · rw [decide_eq_true (by omega), if_pos rfl, Option.bind_some, if_pos rfl, decide_eq_false (by omega)]
      rfl
    · have hb : bidx s 0 = _ := bidxS (k := 0) (show 0 < s.size by omega)
      have hh : s.data.toList.head? = some (s.data.toList[0]'(by rw [bsize]; omega)) := by rw [List.head?_eq_getElem?, List.getElem?_eq_getElem (by rw [bsize]; omega)]
      rw [decide_eq_false (by omega), if_neg (by decide), hb, Option.bind_some, alnum_some, Option.bind_some, Option.bind_some, decide_eq_true (by omega), hh, h, List.drop_zero]
      simp only [Option.any_some]
      have hpos : 0 < s.data.toList.length := by rw [bsize]; omega
      generalize alnumB s.data.toList[0] = q
      cases q <;> cases s.data.toList.all okB <;> simp
/-- What Tame gives: few bytes, and no star behind. -/
structure Good (t : ByteArray) : Prop where
  pos : 1 ≤ t.size
  few : t.size ≤ 12
  star : starB t = false
theorem tame_loop {n : Nat} {s : ByteArray} (hs : s.size ≤ 9223372036854775807) (hn : 2 < n) : ∀ (c j : Nat) (t : ByteArray), j ≤ s.size → s.size - j < c → Good t → ∃ u, law1_Tame_L1 n s c (t, (j : Int)) = some u ∧ Good u
  | 0, _, _, _, h, _ => by omega
  | c + 1, j, t, hj, hc, ht => by
    have ih := tame_loop hs hn c
    unfold law1_Tame_L1
    by_cases hlt : j < s.size
    · rw [dlt hlt, if_pos rfl, Option.bind_some]
      by_cases h12 : t.size < 12
      · have x1 : (s.extract j (j + 1)).size = 1 := by rw [ext_size _ (by omega)]; omega
        have x2 := ext_one hlt
        have x3 : (({ data := #[110] } : ByteArray) ++ s.extract j (j + 1)).size = 2 := by rw [ByteArray.size_append, x1]; rfl
        have x0 : ({ data := #[110] } : ByteArray).size = 1 := rfl
        have x4 : maxLen = 9223372036854775807 ∨ 1000 ≤ maxLen := .inr (by decide)
        have x5 : 1000 ≤ maxLen := by decide
        rw [decide_eq_true (by omega), if_pos rfl, wr1 (by omega), bslcS (by omega) (by omega), Option.bind_some, catS (by omega), Option.bind_some, name_some (by omega) (by omega), Option.bind_some]
        cases hb : nameB (({ data := #[110] } : ByteArray) ++ s.extract j (j + 1)) with
        | false =>
          rw [if_neg (by decide)]
          exact ih (j + 1) t (by omega) (by omega) ht
        | true =>
          rw [if_pos rfl, catS (by omega), Option.bind_some]
          refine ih (j + 1) _ (by omega) (by omega) ⟨by rw [ByteArray.size_append]; omega, by rw [ByteArray.size_append]; omega, ?_⟩
          unfold nameB at hb
          rw [list_app, x2] at hb
          simp only [Bool.and_eq_true, List.all_append, List.all_cons, List.all_nil, and_true] at hb
          unfold starB
          rw [list_app, x2, List.getLast?_append]
          have hne : s.data.toList[j] ≠ 42 := by
            intro e
            have := hb.2.2
            rw [e] at this
            revert this
            decide
          simpa using hne
      · rw [decide_eq_false (by omega), if_neg (by decide)]
        exact ⟨t, rfl, ht⟩
    · rw [dnlt (by omega), if_neg (by decide), Option.bind_some, if_neg (by decide)]
      exact ⟨t, rfl, ht⟩
theorem tame_some {n : Nat} {s : ByteArray} (hs : s.size ≤ 9223372036854775807) (hn : 2 < n) (hn2 : s.size < n) : ∃ t, law1_Tame n s = some t ∧ Good t := by
  unfold law1_Tame
  obtain ⟨u, h1, h2⟩ := tame_loop hs hn n 0 { data := #[110] } (by omega) (by omega) ⟨by decide, by decide, by decide⟩
  have h1' : law1_Tame_L1 n s n ({ data := #[110] }, 0) = some u := h1
  exact ⟨u, by rw [h1']; rfl, h2⟩
end Go.Proofs.Ytkkhgdmmbhpckaa.Ab
