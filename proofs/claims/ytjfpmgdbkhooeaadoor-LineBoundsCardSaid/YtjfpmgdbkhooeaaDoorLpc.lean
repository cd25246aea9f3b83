/-
  Any text is the lines that the document says: the plain law. No program in sight.
-/
import Derived.Test.YtjfpmgdbkhooeaaDoorLpb
namespace Go.Proofs.YtjfpmgdbkhooeaaDoor.Ab
open Go.RowKit
/-! ### rows alike -/
theorem lines_len : ∀ (ps : List (List UInt8)) (a : Nat), (linesP ps a).length ≤ ps.length
  | [], _ => Nat.zero_le _
  | p :: ps, a => by
    have ih := lines_len ps (a + p.length + 1)
    rw [linesP, List.length_append, List.length_cons]
    have : (lineL (wsL (bareL p) a)).length ≤ 1 := by cases wsL (bareL p) a <;> simp [lineL]
    omega
theorem line_words_len {m : Nat} : ∀ (ps : List (List UInt8)) (a : Nat), (∀ p ∈ ps, p.length ≤ m) → ∀ x ∈ linesP ps a, x.words.length ≤ m
  | [], _, _, x, h => by cases h
  | p :: ps, a, hp, x, h => by
    rw [linesP] at h
    rcases List.mem_append.1 h with h | h
    · have h1 := wsL_len (bareL p) a
      have h2 := bare_len p
      have h3 := hp p (List.mem_cons_self ..)
      cases hw : wsL (bareL p) a with
      | nil => rw [hw] at h; cases h
      | cons w ws =>
        rw [hw] at h h1
        rw [lineL, List.mem_singleton] at h
        rw [h]
        exact Nat.le_trans h1 (Nat.le_trans h2 h3)
    · exact line_words_len ps _ (fun q hq => hp q (List.mem_cons_of_mem _ hq)) x h
theorem cut_len (c : UInt8) (l : List UInt8) : (cutL c l).length ≤ l.length + 1 ∧ ∀ p ∈ cutL c l, p.length ≤ l.length := by
  have h := cut_sum c l
  generalize cutL c l = ps at h
  rw [← h]
  have : ∀ ps : List (List UInt8), ps.length ≤ (ps.map fun p => p.length + 1).sum ∧ ∀ p ∈ ps, p.length + 1 ≤ (ps.map fun p => p.length + 1).sum := by
    intro ps
    induction ps with
    | nil => exact ⟨Nat.le_refl _, fun p h => by cases h⟩
    | cons q qs ih =>
      rw [List.map_cons, List.sum_cons, List.length_cons]
      refine ⟨by omega, fun p hp => ?_⟩
      rcases List.mem_cons.1 hp with rfl | hp
      · omega
      · have := ih.2 p hp
        omega
  refine ⟨(this ps).1, fun p hp => ?_⟩
  have := (this ps).2 p hp
  omega
theorem linesF_len (s : ByteArray) (hs : s.size < 1000000) : (linesF s).1.length ≤ 1000000 ∧ ∀ x ∈ (linesF s).1, x.words.length < 1000000 := by
  obtain ⟨h1, h2⟩ := cut_len 10 s.data.toList
  rw [bsize] at h1 h2
  have h0 : ([] : List GLine).length ≤ 1000000 ∧ ∀ x ∈ ([] : List GLine), x.words.length < 1000000 := ⟨Nat.zero_le _, fun x h => by cases h⟩
  unfold linesF
  split
  · exact h0
  · split
    · exact h0
    · split
      · exact h0
      · refine ⟨Nat.le_trans (lines_len _ _) (by omega), fun x hx => ?_⟩
        have := line_words_len _ _ h2 x hx
        omega
theorem same_words {n : Nat} {a : List GLine} {i : Nat} (hi : i < a.length) (hw : a[i].words.length < 1000000) : ∀ (c k : Nat), k ≤ a[i].words.length → a[i].words.length - k < c → law12_Same_L2 n a a (i : Int) c (k : Int) = some (.inl ())
  | 0, _, _, h => by omega
  | c + 1, k, hk, hc => by
    rw [law12_Same_L2, idxS hi, Option.bind_some]
    by_cases h : k < a[i].words.length
    · rw [dlt h, if_pos rfl, idxS h, Option.bind_some, Option.bind_some, idxS h, Option.bind_some, wr1 (by omega), same_words hi hw c (k + 1) (by omega) (by omega)]
      simp
    · rw [dnlt (by omega), if_neg Bool.false_ne_true]
theorem same_lines {n : Nat} {a : List GLine} (hn : 1000000 < n) (ha : a.length ≤ 1000000) (hw : ∀ x ∈ a, x.words.length < 1000000) : ∀ (c k : Nat), k ≤ a.length → a.length - k < c → law12_Same_L1 n a a c (k : Int) = some (.inl ())
  | 0, _, _, h => by omega
  | c + 1, k, hk, hc => by
    rw [law12_Same_L1]
    by_cases h : k < a.length
    · have hk := hw a[k] (List.getElem_mem h)
      have h2 : law12_Same_L2 n a a (k : Int) n 0 = _ := same_words (n := n) h hk n 0 (by omega) (by omega)
      rw [dlt h, if_pos rfl, idxS h, Option.bind_some, Option.bind_some, h2, wr1 (by omega), same_lines hn ha hw c (k + 1) (by omega) (by omega)]
      simp
    · rw [dnlt (by omega), if_neg Bool.false_ne_true]
theorem same_self {n : Nat} {a : List GLine} (hn : 1000000 < n) (ha : a.length ≤ 1000000) (hw : ∀ x ∈ a, x.words.length < 1000000) : law12_Same n a a = some true := by
  unfold law12_Same
  have h : law12_Same_L1 n a a n 0 = _ := same_lines hn ha hw n 0 (by omega) (by omega)
  rw [show ((a.length : Int) != (a.length : Int)) = false by simp, if_neg Bool.false_ne_true, h]
  rfl
/-! ### a text of few bytes -/
theorem tame_at {n : Nat} {s : ByteArray} (hs : s.size < 1000000) : ∀ (c i : Nat) (t : ByteArray), i ≤ s.size → s.size - i < c → i ≤ 100 → t.size ≤ 5 * i → ∃ r, law12_Tame_L1 n s c (t, (i : Int)) = some r ∧ r.size ≤ 500
  | 0, _, _, _, h, _, _ => by omega
  | c + 1, i, t, hi, hc, h1, ht => by
    rw [law12_Tame_L1]
    by_cases h : i < s.size
    · have e : decide ((i : Int) < 100) = decide (i < 100) := dI i 100
      rw [dlt h, if_pos rfl, e]
      by_cases h2 : i < 100
      · rw [if_pos (by simpa using h2), bidxS h, Option.bind_some]
        generalize ((s.data.toList[i]'(by rw [bsize]; exact h)).toNat : Int) = b
        have hb : anB b 15 ≤ 15 := Nat.le_trans (anB_le _ _) (by decide)
        have hw : IntKind.u8.wrap ((anB b 15 : Nat) : Int) = ((anB b 15 : Nat) : Int) := by
          generalize anB b 15 = k at hb
          match k, hb with
          | 0, _ | 1, _ | 2, _ | 3, _ | 4, _ | 5, _ | 6, _ | 7, _ | 8, _ | 9, _ | 10, _ | 11, _ | 12, _ | 13, _ | 14, _ | 15, _ => rfl
        rw [hw, idxS (by simp; omega), Option.bind_some]
        generalize hx : ([({ data := #[97] } : ByteArray), { data := #[98] }, { data := #[32] }, { data := #[9] }, { data := #[10] }, { data := #[13, 10] }, { data := #[35] }, { data := #[32, 35] }, { data := #[117, 115, 101, 114, 32] }, { data := #[120] }, { data := #[32, 32] }, { data := #[13] }, { data := #[49] }, { data := #[97, 35] }, { data := #[10, 10] }, { data := #[126] }][anB b 15]'(by simp; omega)) = x
        have hxs : x.size ≤ 5 := by
          have hm : x ∈ [({ data := #[97] } : ByteArray), { data := #[98] }, { data := #[32] }, { data := #[9] }, { data := #[10] }, { data := #[13, 10] }, { data := #[35] }, { data := #[32, 35] }, { data := #[117, 115, 101, 114, 32] }, { data := #[120] }, { data := #[32, 32] }, { data := #[13] }, { data := #[49] }, { data := #[97, 35] }, { data := #[10, 10] }, { data := #[126] }] := by
            rw [← hx]
            exact List.getElem_mem _
          have hall : ∀ y ∈ [({ data := #[97] } : ByteArray), { data := #[98] }, { data := #[32] }, { data := #[9] }, { data := #[10] }, { data := #[13, 10] }, { data := #[35] }, { data := #[32, 35] }, { data := #[117, 115, 101, 114, 32] }, { data := #[120] }, { data := #[32, 32] }, { data := #[13] }, { data := #[49] }, { data := #[97, 35] }, { data := #[10, 10] }, { data := #[126] }], y.size ≤ 5 := by
            intro y hy
            simp only [List.mem_cons, List.not_mem_nil, or_false] at hy
            rcases hy with rfl | rfl | rfl | rfl | rfl | rfl | rfl | rfl | rfl | rfl | rfl | rfl | rfl | rfl | rfl | rfl <;> exact Nat.le_of_ble_eq_true rfl
          exact hall x hm
        have hm : (t ++ x).size = t.size + x.size := ByteArray.size_append
        rw [catS (by unfold maxLen; omega), Option.bind_some, wr1 (by omega)]
        exact tame_at hs c (i + 1) (t ++ x) (by omega) (by omega) (by omega) (by omega)
      · rw [if_neg (by simpa using h2)]
        exact ⟨t, rfl, by omega⟩
    · rw [dnlt (by omega), if_neg Bool.false_ne_true]
      exact ⟨t, rfl, by omega⟩
theorem tame_some {n : Nat} {s : ByteArray} (hs : s.size < 1000000) (hn : 1000000 < n) : ∃ r, law12_Tame n s = some r ∧ r.size ≤ 500 := by
  unfold law12_Tame
  obtain ⟨r, h1, h2⟩ := tame_at (n := n) hs n 0 ⟨#[]⟩ (by omega) (by omega) (by omega) (Nat.le_refl _)
  have h1 : law12_Tame_L1 n s n (⟨#[]⟩, 0) = some r := h1
  rw [h1]
  exact ⟨r, rfl, h2⟩
/-! ### words with a blank between -/
def tl (l : List ByteArray) (i : Nat) : List UInt8 := if i = 0 then Lib.join (l.map (·.data.toList)) [32] else Lib.joinTail [32] ((l.drop i).map (·.data.toList))
theorem tl_step {l : List ByteArray} {i : Nat} (h : i < l.length) : tl l i = (if i = 0 then [] else [32]) ++ l[i].data.toList ++ tl l (i + 1) := by
  unfold tl
  rw [if_neg (Nat.succ_ne_zero i)]
  have hd := List.drop_eq_getElem_cons h
  by_cases h0 : i = 0
  · subst h0
    rw [if_pos rfl, if_pos rfl]
    rw [List.drop_zero] at hd
    have hm := congrArg (fun z => Lib.join (List.map (fun x : ByteArray => x.data.toList) z) [32]) hd
    rw [hm, List.map_cons, Lib.join_cons]
    simp
  · rw [if_neg h0, if_neg h0, hd, List.map_cons]
    unfold Lib.joinTail
    simp
theorem tl_end {l : List ByteArray} {i : Nat} (h : l.length ≤ i) : tl l i = [] := by
  unfold tl
  split
  · have : l = [] := List.eq_nil_of_length_eq_zero (by omega)
    rw [this]
    rfl
  · rw [List.drop_eq_nil_of_le h]
    rfl
theorem tl_len {l : List ByteArray} (hx : ∀ x ∈ l, x.size ≤ 100) : ∀ (m i : Nat), l.length - i ≤ m → (tl l i).length ≤ 101 * m
  | 0, i, h => by rw [tl_end (by omega)]; simp
  | m + 1, i, h => by
    by_cases hi : i < l.length
    · have ih := tl_len hx m (i + 1) (by omega)
      have := hx l[i] (List.getElem_mem hi)
      rw [tl_step hi, List.length_append, List.length_append, bsize]
      split <;> simp <;> omega
    · rw [tl_end (by omega)]
      simp
theorem glue_at {n : Nat} {l : List ByteArray} (hl : l.length ≤ 20) (hx : ∀ x ∈ l, x.size ≤ 100) : ∀ (c i : Nat) (t : ByteArray), i ≤ l.length → l.length - i < c → t.size ≤ 101 * i → ∃ r, ref1_Glue_L1 n l ⟨#[32]⟩ c (t, (i : Int)) = some r ∧ r.data.toList = t.data.toList ++ tl l i
  | 0, _, _, _, h, _ => by omega
  | c + 1, i, t, hi, hc, ht => by
    rw [ref1_Glue_L1]
    by_cases h : i < l.length
    · have h100 := hx l[i] (List.getElem_mem h)
      have hs1 : (t ++ ⟨#[32]⟩ : ByteArray).size = t.size + 1 := ByteArray.size_append
      have hs2 : ((t ++ ⟨#[32]⟩ : ByteArray) ++ l[i]).size = t.size + 1 + l[i].size := by rw [ByteArray.size_append, hs1]
      have hs3 : (t ++ l[i]).size = t.size + l[i].size := ByteArray.size_append
      have e : decide ((0 : Int) < (i : Int)) = decide (0 < i) := dI 0 i
      rw [dlt h, if_pos rfl, e, tl_step h]
      by_cases h0 : i = 0
      · subst h0
        have h1 : idx l 0 = some l[0] := idxS h
        have h2 : IntKind.i64.wrap (((0 : Nat) : Int) + 1) = ((1 : Nat) : Int) := rfl
        rw [if_neg (by decide), if_pos rfl, show ((0 : Nat) : Int) = 0 from rfl, h1, Option.bind_some, catS (by unfold maxLen; omega), Option.bind_some]
        obtain ⟨r, r1, r2⟩ := glue_at hl hx c 1 (t ++ l[0]) (by omega) (by omega) (by omega)
        refine ⟨r, r1, ?_⟩
        rw [r2, list_app]
        simp
      · rw [if_pos (by simp; omega), if_neg h0, catS (by show t.size + 1 ≤ _; unfold maxLen; omega), Option.bind_some, idxS h, Option.bind_some, catS (by rw [hs1]; unfold maxLen; omega), Option.bind_some, wr1 (by omega)]
        obtain ⟨r, r1, r2⟩ := glue_at hl hx c (i + 1) ((t ++ ⟨#[32]⟩ : ByteArray) ++ l[i]) (by omega) (by omega) (by omega)
        refine ⟨r, r1, ?_⟩
        rw [r2, list_app, list_app]
        simp
    · rw [dnlt (by omega), if_neg Bool.false_ne_true]
      refine ⟨t, rfl, ?_⟩
      rw [tl_end (by omega), List.append_nil]
theorem glue_some {n : Nat} {l : List ByteArray} (hn : 1000000 < n) (hl : l.length ≤ 20) (hx : ∀ x ∈ l, x.size ≤ 100) : ref1_Glue n l ⟨#[32]⟩ = some (joinT l ⟨#[32]⟩) := by
  unfold ref1_Glue
  obtain ⟨r, r1, r2⟩ := glue_at (n := n) hl hx n 0 ⟨#[]⟩ (by omega) (by omega) (Nat.le_refl _)
  have r1 : ref1_Glue_L1 n l ⟨#[32]⟩ n (⟨#[]⟩, 0) = some r := r1
  rw [r1, Option.bind_some]
  exact congrArg some (bytes_inj (by rw [r2]; rfl))
theorem join_some {n : Nat} {l : List ByteArray} (hl : l.length ≤ 20) (hx : ∀ x ∈ l, x.size ≤ 100) : line_Join n l = some (joinT l ⟨#[32]⟩) := by
  have h := tl_len hx l.length 0 (by omega)
  unfold line_Join strings_Join
  rw [if_pos ⟨by omega, Nat.le_trans h (by omega)⟩]
  rfl
/-! ### the law -/
theorem awake_some {n : Nat} (hn : 1000000 < n) : law12_awake n = some true := by
  unfold law12_awake
  rw [lines_some hn, lines_some hn]
  kernel_rfl
theorem rounds {n : Nat} (hn : 1000000 < n) : ∀ (c i : Nat) (t : ByteArray), i ≤ 2 → 2 - i < c → t.size ≤ 2000 → law12_LineTells_L2 n c (t, (i : Int)) = some (.inl ())
  | 0, _, _, _, h, _ => by omega
  | c + 1, i, t, hi, hc, ht => by
    have e : decide ((i : Int) < 2) = decide (i < 2) := dI i 2
    rw [law12_LineTells_L2, e]
    by_cases h : i < 2
    · obtain ⟨h1, h2⟩ := linesF_len t (by omega)
      obtain ⟨r, r1, r2⟩ := tame_some (n := n) (s := t) (by omega) hn
      rw [if_pos (by simpa using h), lines_some hn, Option.bind_some, refLines_some (by omega) hn, Option.bind_some, same_self hn h1 h2, Option.bind_some, if_pos rfl, bne_self_eq_false, if_neg Bool.false_ne_true, bne_self_eq_false, if_neg Bool.false_ne_true, r1, Option.bind_some, wr1 (by omega)]
      exact rounds hn c (i + 1) r (by omega) (by omega) (by omega)
    · rw [if_neg (by simpa using h)]
theorem few_at {n : Nat} {l : List ByteArray} (hn : 1000000 < n) (hl : l.length ≤ 20) : ∀ (c i : Nat), i ≤ l.length → l.length - i < c → law12_LineTells_L1 n l c (i : Int) = some (.inr true) ∨ (law12_LineTells_L1 n l c (i : Int) = some (.inl ()) ∧ ∀ x ∈ l.drop i, x.size ≤ 100)
  | 0, _, _, h => by omega
  | c + 1, i, hi, hc => by
    rw [law12_LineTells_L1]
    by_cases h : i < l.length
    · have e : decide ((100 : Int) < (l[i].size : Int)) = decide (100 < l[i].size) := dI 100 _
      rw [dlt h, if_pos rfl, idxS h, Option.bind_some, e]
      by_cases h1 : 100 < l[i].size
      · rw [if_pos (by simpa using h1), awake_some hn]
        exact .inl rfl
      · rw [if_neg (by simpa using h1), wr1 (by omega)]
        rcases few_at hn hl c (i + 1) (by omega) (by omega) with h2 | ⟨h2, h3⟩
        · exact .inl h2
        · refine .inr ⟨h2, ?_⟩
          rw [List.drop_eq_getElem_cons h]
          intro x hx
          rcases List.mem_cons.1 hx with rfl | hx
          · omega
          · exact h3 x hx
    · rw [dnlt (by omega), if_neg Bool.false_ne_true]
      refine .inr ⟨rfl, ?_⟩
      rw [List.drop_eq_nil_of_le (by omega)]
      intro x hx
      cases hx
theorem law_tells {n : Nat} (hn : 1000000 < n) (t0 : ByteArray) (t1 : List ByteArray) : law12_LineTells n t0 t1 = some true := by
  unfold law12_LineTells
  have e1 : decide ((2000 : Int) < (t0.size : Int)) = decide (2000 < t0.size) := dI 2000 _
  have e2 : decide ((20 : Int) < (t1.length : Int)) = decide (20 < t1.length) := dI 20 _
  rw [e1, e2, awake_some hn]
  by_cases h1 : 2000 < t0.size
  · rw [if_pos (by simpa using h1)]
    rfl
  · rw [if_neg (by simpa using h1), Option.bind_some]
    by_cases h2 : 20 < t1.length
    · rw [if_pos (by simpa using h2)]
      rfl
    · have hl : law12_LineTells_L1 n t1 n 0 = some (.inr true) ∨ _ := few_at (n := n) (l := t1) hn (by omega) n 0 (by omega) (by omega)
      rw [if_neg (by simpa using h2)]
      rcases hl with hl | ⟨hl, hx⟩
      · rw [hl]
        rfl
      · have hl : law12_LineTells_L1 n t1 n 0 = some (.inl ()) := hl
        rw [List.drop_zero] at hx
        have hr : law12_LineTells_L2 n n (t0, 0) = _ := rounds (n := n) hn n 0 t0 (by omega) (by omega) (by omega)
        rw [hl, Option.bind_some, hr, Option.bind_some, join_some (by omega) hx, Option.bind_some, glue_some hn (by omega) hx, Option.bind_some, beq_self_eq_true, if_pos rfl]
        rfl
theorem law_tells_ex (t0 : ByteArray) (t1 : List ByteArray) {p q : Prop} (_ : p) (_ : q) : ∃ n, law12_LineTells n t0 t1 = some true := ⟨1000001, law_tells (by omega) t0 t1⟩
end Go.Proofs.YtjfpmgdbkhooeaaDoor.Ab
