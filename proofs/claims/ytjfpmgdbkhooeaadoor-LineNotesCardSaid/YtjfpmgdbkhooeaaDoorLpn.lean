/-
  Notes, blanks and empty lines say nothing: the plain law. No program in sight.
-/
import Derived.Test.YtjfpmgdbkhooeaaDoorLpd
import Derived.Test.YtjfpmgdbkhooeaaDoorLna
namespace Go.Proofs.YtjfpmgdbkhooeaaDoor.Ab
open Go.RowKit
def gT : List ByteArray := [{ data := #[] }, { data := #[32] }, { data := #[9] }, { data := #[32, 32, 9] }]
def wT : List ByteArray := [{ data := #[97] }, { data := #[98] }, { data := #[117, 115, 101, 114] }, { data := #[47, 120] }, { data := #[49, 35] }]
def sT : List ByteArray := [{ data := #[32] }, { data := #[9] }, { data := #[32, 9, 32] }]
def gOf (x : Int) : ByteArray := gT.getD (an (sh x 4) 3) default
def wOf (x : Int) : ByteArray := wT.getD (an x 255 % 5) default
def sOf (x : Int) : ByteArray := sT.getD (an (sh x 8) 255 % 3) default
theorem an3 (t : Int) : IntKind.i64.wrap (an t 3 : Int) = (an t 3 : Nat) := wrap_an _ _ (by decide)
theorem an3_lt (t : Int) : an t 3 < 4 := Nat.lt_succ_of_le (Nat.le_trans (an_le _ _) (by decide))
theorem gOf_idx (x : Int) : idx gT (IntKind.i64.wrap (an (sh x 4) 3 : Int)) = some (gOf x) ∧ gOf x ∈ gT := by
  rw [an3]
  exact idx_tab (l := gT) (an3_lt _)
theorem wOf_idx (x : Int) : idx wT (Int.tmod (IntKind.i64.wrap (an x 255 : Int)) 5) = some (wOf x) ∧ wOf x ∈ wT := by
  rw [an8, show Int.tmod ((an x 255 : Nat) : Int) 5 = ((an x 255 % 5 : Nat) : Int) from (Int.ofNat_tmod _ 5).symm]
  exact idx_tab (l := wT) (Nat.mod_lt _ (by decide))
theorem sOf_idx (x : Int) : idx sT (Int.tmod (IntKind.i64.wrap (an (sh x 8) 255 : Int)) 3) = some (sOf x) ∧ sOf x ∈ sT := by
  rw [an8, show Int.tmod ((an (sh x 8) 255 : Nat) : Int) 3 = ((an (sh x 8) 255 % 3 : Nat) : Int) from (Int.ofNat_tmod _ 3).symm]
  exact idx_tab (l := sT) (Nat.mod_lt _ (by decide))
theorem tabs_ok : (gT ++ wT ++ sT).all (fun b => plainB b && Nat.ble b.size 4) = true ∧ gT.all (fun b => b.data.toList.all gapB) = true ∧ wT.all wordB = true ∧ sT.all (fun b => b.data.toList.all gapB && !b.data.toList.isEmpty) = true := by
  refine ⟨?_, ?_, ?_, ?_⟩ <;> kernel_rfl
theorem tab_plain {b : ByteArray} (h : b ∈ gT ++ wT ++ sT) : (∀ x ∈ b.data.toList, badB x = false ∧ x ≠ 10 ∧ x ≠ 13) ∧ b.size ≤ 4 := by
  have := List.all_eq_true.1 tabs_ok.1 b h
  rw [Bool.and_eq_true] at this
  exact ⟨plain_of this.1, Nat.le_of_ble_eq_true this.2⟩
theorem g_gap (x : Int) : ∀ y ∈ (gOf x).data.toList, gapB y = true := List.all_eq_true.1 (List.all_eq_true.1 tabs_ok.2.1 _ (gOf_idx x).2)
theorem w_word (x : Int) : WordB (wOf x) := word_of (List.all_eq_true.1 tabs_ok.2.2.1 _ (wOf_idx x).2)
theorem s_gap (x : Int) : (∀ y ∈ (sOf x).data.toList, gapB y = true) ∧ (sOf x).data.toList ≠ [] := by
  have := List.all_eq_true.1 tabs_ok.2.2.2 _ (sOf_idx x).2
  rw [Bool.and_eq_true] at this
  refine ⟨List.all_eq_true.1 this.1, fun e => ?_⟩
  rw [e] at this
  cases this.2
def itemL (x : Int) : List UInt8 := (gOf x).data.toList ++ ((wOf x).data.toList ++ (sOf x).data.toList)
def midL (xs : List Int) : List UInt8 := xs.flatMap itemL
def wordsM : List Int → Nat → List GWord
  | [], _ => []
  | x :: xs, a => ⟨wOf x, ((a + (gOf x).size : Nat) : Int)⟩ :: wordsM xs (a + (itemL x).length)
theorem mid_cons (x : Int) (xs : List Int) : midL (x :: xs) = itemL x ++ midL xs := List.flatMap_cons
theorem item_len (x : Int) : (itemL x).length = (gOf x).size + ((wOf x).size + (sOf x).size) := by
  unfold itemL
  rw [List.length_append, List.length_append, bsize, bsize, bsize]
theorem ws_mid : ∀ (xs : List Int) (e : List UInt8) (a : Nat), wsL (midL xs ++ e) a = wordsM xs a ++ wsL e (a + (midL xs).length)
  | [], _, _ => rfl
  | x :: xs, e, a => by
    obtain ⟨s1, s2⟩ := s_gap x
    have hg : gapL ((sOf x).data.toList ++ (midL xs ++ e)) := by
      cases hs : (sOf x).data.toList with
      | nil => exact absurd hs s2
      | cons y r => exact .inr ⟨y, _, rfl, s1 y (by rw [hs]; exact List.mem_cons_self ..)⟩
    rw [mid_cons, wordsM, List.append_assoc, List.length_append, item_len]
    unfold itemL
    rw [List.append_assoc, List.append_assoc, ws_gap _ (g_gap x), ws_word (w_word x) hg, ws_gap _ s1, ws_mid xs e, List.cons_append, bsize, bsize]
    rw [show a + (gOf x).size + (wOf x).size + (sOf x).size = a + ((gOf x).size + ((wOf x).size + (sOf x).size)) by omega, Nat.add_assoc a _ (midL xs).length]
theorem mid_plain : ∀ (xs : List Int), (∀ x ∈ midL xs, badB x = false ∧ x ≠ 10 ∧ x ≠ 13) ∧ (midL xs).length ≤ 12 * xs.length
  | [] => ⟨fun x h => (by cases h), Nat.le_refl _⟩
  | x :: xs => by
    obtain ⟨h1, h2⟩ := mid_plain xs
    obtain ⟨a1, a2⟩ := tab_plain (b := gOf x) (by simp [(gOf_idx x).2])
    obtain ⟨b1, b2⟩ := tab_plain (b := wOf x) (by simp [(wOf_idx x).2])
    obtain ⟨c1, c2⟩ := tab_plain (b := sOf x) (by simp [(sOf_idx x).2])
    rw [mid_cons, List.length_append, item_len, List.length_cons]
    refine ⟨fun y hy => ?_, by omega⟩
    rcases List.mem_append.1 hy with hy | hy
    · unfold itemL at hy
      rcases List.mem_append.1 hy with hy | hy
      · exact a1 y hy
      · rcases List.mem_append.1 hy with hy | hy
        · exact b1 y hy
        · exact c1 y hy
    · exact h1 y hy
theorem wordsM_len : ∀ (xs : List Int) (a : Nat), (wordsM xs a).length = xs.length
  | [], _ => rfl
  | x :: xs, a => by rw [wordsM, List.length_cons, List.length_cons, wordsM_len xs]
theorem wordsM_get : ∀ (xs : List Int) (a k : Nat) (h : k < xs.length), ∃ p : Nat, (wordsM xs a)[k]? = some ⟨wOf xs[k], (p : Int)⟩ ∧ a ≤ p ∧ ∃ r, (midL xs).drop (p - a) = (wOf xs[k]).data.toList ++ r
  | [], _, _, h => by cases h
  | x :: xs, a, 0, _ => by
    refine ⟨a + (gOf x).size, rfl, by omega, (sOf x).data.toList ++ midL xs, ?_⟩
    rw [mid_cons, show a + (gOf x).size - a = (gOf x).data.toList.length by rw [bsize]; omega]
    unfold itemL
    rw [List.append_assoc, List.drop_left, List.append_assoc]
    rfl
  | x :: xs, a, k + 1, h => by
    obtain ⟨p, h1, h2, r, h3⟩ := wordsM_get xs (a + (itemL x).length) k (Nat.lt_of_succ_lt_succ h)
    refine ⟨p, h1, by omega, r, ?_⟩
    rw [mid_cons, show p - a = (itemL x).length + (p - (a + (itemL x).length)) by omega, ← List.drop_drop, List.drop_left]
    exact h3
/-! ### what stands ahead and behind -/
def preT : List ByteArray := [{ data := #[] }, { data := #[35, 32, 97, 10] }, { data := #[13, 10] }, { data := #[32, 9, 10] }]
def endT : List ByteArray := [{ data := #[] }, { data := #[35, 32, 98, 32, 99] }, { data := #[10, 10] }, { data := #[32, 13, 10, 35, 32, 100, 13] }]
theorem pre_says {p : ByteArray} (h : p ∈ preT) (r : List UInt8) : lnsL (p.data.toList ++ r) 0 = lnsL r p.size ∧ badR (p.data.toList ++ r) 0 = badR r p.size ∧ p.size ≤ 4 := by
  unfold preT at h
  simp only [List.mem_cons, List.not_mem_nil, or_false] at h
  rcases h with rfl | rfl | rfl | rfl
  · exact ⟨rfl, rfl, Nat.le_of_ble_eq_true rfl⟩
  · exact ⟨(lns_nl (p := [35, 32, 97]) (by decide)).trans rfl, (bad_nl (p := [35, 32, 97]) (by decide) (by decide)).trans rfl, Nat.le_of_ble_eq_true rfl⟩
  · exact ⟨(lns_nl (p := [13]) (by decide)).trans rfl, (bad_nl (p := [13]) (by decide) (by decide)).trans rfl, Nat.le_of_ble_eq_true rfl⟩
  · exact ⟨(lns_nl (p := [32, 9]) (by decide)).trans rfl, (bad_nl (p := [32, 9]) (by decide) (by decide)).trans rfl, Nat.le_of_ble_eq_true rfl⟩
theorem end_says {e : ByteArray} (h : e ∈ endT) (xs : List Int) (a : Nat) : lnsL (midL xs ++ e.data.toList) a = lineL (wordsM xs a) ∧ badR (midL xs ++ e.data.toList) a = none ∧ e.size ≤ 7 := by
  obtain ⟨hp, _⟩ := mid_plain xs
  have n10 : (10 : UInt8) ∉ midL xs := fun h => (hp _ h).2.1 rfl
  have n13 : (13 : UInt8) ∉ midL xs := fun h => (hp _ h).2.2 rfl
  have nb : ∀ x ∈ midL xs, badB x = false := fun x hx => (hp x hx).1
  have cat10 : ∀ l : List UInt8, (10 : UInt8) ∉ l → (10 : UInt8) ∉ midL xs ++ l := fun l hl hm => (List.mem_append.1 hm).elim n10 hl
  have catb : ∀ l : List UInt8, (∀ x ∈ bareL l, badB x = false) → ∀ x ∈ bareL (midL xs ++ l), badB x = false := fun l hl x hx => by
    rw [bare_app n13] at hx
    exact (List.mem_append.1 hx).elim (nb x) (hl x)
  unfold endT at h
  simp only [List.mem_cons, List.not_mem_nil, or_false] at h
  rcases h with rfl | rfl | rfl | rfl
  · refine ⟨?_, ?_, Nat.le_of_ble_eq_true rfl⟩
    · show lnsL (midL xs ++ []) a = _
      rw [lns_end (cat10 [] (by decide)), bare_app n13, show bareL [] = [] from rfl, ws_mid, wsL_nil, List.append_nil]
    · exact bad_end (cat10 [] (by decide)) (catb [] (by decide))
  · refine ⟨?_, ?_, Nat.le_of_ble_eq_true rfl⟩
    · show lnsL (midL xs ++ [35, 32, 98, 32, 99]) a = _
      rw [lns_end (cat10 _ (by decide)), bare_app n13, show bareL [35, 32, 98, 32, 99] = [35, 32, 98, 32, 99] from rfl, ws_mid, wsL_note (by decide) rfl, List.append_nil]
    · exact bad_end (cat10 [35, 32, 98, 32, 99] (by decide)) (catb _ (by decide))
  · refine ⟨?_, ?_, Nat.le_of_ble_eq_true rfl⟩
    · show lnsL (midL xs ++ 10 :: ([] ++ 10 :: [])) a = _
      rw [lns_nl n10, lns_nl (by decide), lns_end (by decide), ← List.append_nil (midL xs), bare_app n13, show bareL [] = [] from rfl, ws_mid]
      simp [wsL_nil, lineL]
    · show badR (midL xs ++ 10 :: ([] ++ 10 :: [])) a = _
      have hb := catb [] (by decide)
      rw [List.append_nil] at hb
      rw [bad_nl n10 hb, bad_nl (by decide) (by decide)]
      rfl
  · refine ⟨?_, ?_, Nat.le_of_ble_eq_true rfl⟩
    · show lnsL (midL xs ++ ([32, 13] ++ 10 :: [35, 32, 100, 13])) a = _
      rw [← List.append_assoc, lns_nl (cat10 _ (by decide)), lns_end (by decide), bare_app n13, show bareL [32, 13] = [32] from rfl, show bareL [35, 32, 100, 13] = [35, 32, 100] from rfl, ws_mid, wsL_gap (by decide), wsL_nil, wsL_note (by decide) rfl, List.append_nil]
      exact List.append_nil _
    · show badR (midL xs ++ ([32, 13] ++ 10 :: [35, 32, 100, 13])) a = _
      rw [← List.append_assoc, bad_nl (cat10 _ (by decide)) (catb _ (by decide))]
      exact bad_end (by decide) (by decide)
/-! ### the law -/
theorem notes_at {n : Nat} {t0 : List Int} : ∀ (c i : Nat) (t : ByteArray), i ≤ t0.length → i ≤ 10 → 10 - i < c → t.size ≤ 4 + 12 * i → ∃ r : ByteArray, law12_LineNotes_L1 n t0 c (t, (i : Int), (i : Int)) = some (r, (((t0.take 10).length : Nat) : Int)) ∧ r.data.toList = t.data.toList ++ midL ((t0.take 10).drop i) ∧ r.size ≤ 124
  | 0, _, _, _, _, h, _ => by omega
  | c + 1, i, t, hi, h10, hc, ht => by
    have e : decide ((i : Int) < 10) = decide (i < 10) := dI i 10
    rw [law12_LineNotes_L1]
    by_cases h : i < t0.length ∧ i < 10
    · have hk : i < (t0.take 10).length := by rw [List.length_take]; omega
      have hg : (t0.take 10)[i] = t0[i] := List.getElem_take
      have e1 := (gOf_idx t0[i]).1
      have e2 := (wOf_idx t0[i]).1
      have e3 := (sOf_idx t0[i]).1
      unfold gT at e1
      unfold wT at e2
      unfold sT at e3
      have l1 := (tab_plain (b := gOf t0[i]) (by simp [(gOf_idx t0[i]).2])).2
      have l2 := (tab_plain (b := wOf t0[i]) (by simp [(wOf_idx t0[i]).2])).2
      have l3 := (tab_plain (b := sOf t0[i]) (by simp [(sOf_idx t0[i]).2])).2
      have s1 : (t ++ gOf t0[i]).size = t.size + (gOf t0[i]).size := ByteArray.size_append
      have s2 : (t ++ gOf t0[i] ++ wOf t0[i]).size = t.size + (gOf t0[i]).size + (wOf t0[i]).size := by rw [ByteArray.size_append, s1]
      have s3 : (t ++ gOf t0[i] ++ wOf t0[i] ++ sOf t0[i]).size = t.size + (gOf t0[i]).size + (wOf t0[i]).size + (sOf t0[i]).size := by rw [ByteArray.size_append, s2]
      rw [dlt h.1, if_pos rfl, e, show decide (i < 10) = true from decide_eq_true h.2, Option.bind_some, if_pos rfl, idxS h.1, Option.bind_some, e1, Option.bind_some, catS (by unfold maxLen; omega), Option.bind_some, e2, Option.bind_some, catS (by rw [s1]; unfold maxLen; omega), Option.bind_some, e3, Option.bind_some, catS (by rw [s2]; unfold maxLen; omega), Option.bind_some, wr1 (by omega)]
      obtain ⟨r, r1, r2, r3⟩ := notes_at (n := n) (t0 := t0) c (i + 1) (t ++ gOf t0[i] ++ wOf t0[i] ++ sOf t0[i]) (by omega) (by omega) (by omega) (by omega)
      refine ⟨r, r1, ?_, r3⟩
      rw [r2, List.drop_eq_getElem_cons hk, mid_cons, hg, list_app, list_app, list_app]
      unfold itemL
      simp only [List.append_assoc]
    · have hf : ((if (decide ((i : Int) < (t0.length : Int))) then some (decide (i < 10)) else some false) : Option Bool) = some false := by
        by_cases h1 : i < t0.length
        · rw [dlt h1, if_pos rfl, show decide (i < 10) = false from decide_eq_false (by omega)]
        · rw [dnlt (by omega), if_neg Bool.false_ne_true]
      have hk : (t0.take 10).length = i := by rw [List.length_take]; omega
      rw [e, hf, Option.bind_some, if_neg Bool.false_ne_true, hk, ← hk, List.drop_length]
      exact ⟨t, rfl, (List.append_nil _).symm, by omega⟩
theorem words_back {n : Nat} {t0 : List Int} {s : ByteArray} {a : Nat} {x : GLine} {e : List UInt8} (hs : s.size < 1000000) (ha : s.data.toList.drop a = midL (t0.take 10) ++ e) (ha2 : a ≤ s.size) (hx : x.words = wordsM (t0.take 10) a) : ∀ (c k : Nat), k ≤ (t0.take 10).length → (t0.take 10).length - k < c → law12_LineNotes_L2 n t0 (((t0.take 10).length : Nat) : Int) s ([x], 0, 0) c (k : Int) = some (.inl ())
  | 0, _, _, h => by omega
  | c + 1, k, hk, hc => by
    have hl : (t0.take 10).length ≤ t0.length ∧ (t0.take 10).length ≤ 10 := by rw [List.length_take]; omega
    rw [law12_LineNotes_L2]
    by_cases h : k < (t0.take 10).length
    · obtain ⟨p, p1, p2, r, p3⟩ := wordsM_get (t0.take 10) a k h
      have hg : (t0.take 10)[k] = t0[k]'(by omega) := List.getElem_take
      rw [hg] at p1 p3
      have e2 := (wOf_idx (t0[k]'(by omega))).1
      unfold wT at e2
      have h0 : idx [x] 0 = some x := rfl
      have h1 : idx x.words (k : Int) = some ⟨wOf (t0[k]'(by omega)), (p : Int)⟩ := by rw [idx_nat, hx, p1]
      have hm : p - a ≤ (midL (t0.take 10)).length := by
        have := congrArg List.length p3
        have w1 : 0 < (wOf (t0[k]'(by omega))).data.toList.length := List.length_pos_iff.2 (w_word _).ne
        rw [List.length_drop, List.length_append] at this
        omega
      have hd : s.data.toList.drop p = (wOf (t0[k]'(by omega))).data.toList ++ (r ++ e) := by
        rw [show p = a + (p - a) by omega, ← List.drop_drop, ha, List.drop_append_of_le_length hm, p3, List.append_assoc]
      have hps : p ≤ s.size := by
        have := congrArg List.length ha
        rw [List.length_drop, bsize, List.length_append] at this
        omega
      obtain ⟨x1, x2, x3⟩ := ext_drop hd hps
      rw [bsize] at x1 x2
      have hwr : IntKind.i64.wrap ((p : Int) + ((wOf (t0[k]'(by omega))).size : Int)) = ((p + (wOf (t0[k]'(by omega))).size : Nat) : Int) := by
        rw [wr (by omega) (by omega)]
        omega
      have hsl : s.extract p (p + (wOf (t0[k]'(by omega))).size) = wOf (t0[k]'(by omega)) := bytes_inj x2
      rw [dlt h, if_pos rfl, h0, Option.bind_some, h1, Option.bind_some, idxS (show k < t0.length by omega), Option.bind_some, e2, Option.bind_some]
      dsimp only
      rw [beq_self_eq_true, if_pos rfl, show decide ((p : Int) < 0) = false from decide_eq_false (by omega), if_neg Bool.false_ne_true, hwr, dnlt x1, if_neg Bool.false_ne_true, bslcS (by omega) x1, Option.bind_some, hsl, beq_self_eq_true, if_pos rfl, wr1 (by omega)]
      exact words_back hs ha ha2 hx c (k + 1) (by omega) (by omega)
    · rw [dnlt (by omega), if_neg Bool.false_ne_true]
theorem law_notes {n : Nat} (hn : 1000000 < n) (t0 : List Int) (t1 : Int) : law12_LineNotes n t0 t1 = some true := by
  have e1 : idx preT (IntKind.i64.wrap (an t1 3 : Int)) = some (preT.getD (an t1 3) default) ∧ preT.getD (an t1 3) default ∈ preT := by
    rw [an3]
    exact idx_tab (l := preT) (an3_lt _)
  have e2 : idx endT (IntKind.i64.wrap (an (sh t1 2) 3 : Int)) = some (endT.getD (an (sh t1 2) 3) default) ∧ endT.getD (an (sh t1 2) 3) default ∈ endT := by
    rw [an3]
    exact idx_tab (l := endT) (an3_lt _)
  obtain ⟨e1, p1⟩ := e1
  obtain ⟨e2, p2⟩ := e2
  generalize preT.getD (an t1 3) default = p at e1 p1
  generalize endT.getD (an (sh t1 2) 3) default = e at e2 p2
  unfold preT at e1
  unfold endT at e2
  obtain ⟨m, m1, m2, m3⟩ := notes_at (n := n) (t0 := t0) n 0 p (by omega) (by omega) (by omega) (by have := (pre_says p1 []).2.2; omega)
  have m1 : law12_LineNotes_L1 n t0 n (p, 0, 0) = some (m, (((t0.take 10).length : Nat) : Int)) := m1
  rw [List.drop_zero] at m2
  obtain ⟨a1, a2, a3⟩ := pre_says p1 (midL (t0.take 10) ++ e.data.toList)
  obtain ⟨b1, b2, b3⟩ := end_says p2 (t0.take 10) p.size
  have hsz : (m ++ e).size = m.size + e.size := ByteArray.size_append
  have hlist : (m ++ e).data.toList = p.data.toList ++ (midL (t0.take 10) ++ e.data.toList) := by rw [list_app, m2, List.append_assoc]
  have hF : linesF (m ++ e) = (lineL (wordsM (t0.take 10) p.size), 0, 0) := by
    rw [linesF_good (by omega) (by rw [hlist, a2, b2]), hlist, a1, b1]
  have hdrop : (m ++ e).data.toList.drop p.size = midL (t0.take 10) ++ e.data.toList := by rw [hlist, ← bsize, List.drop_left]
  have hps : p.size ≤ (m ++ e).size := by
    have := congrArg List.length hlist
    rw [bsize, List.length_append, bsize] at this
    omega
  unfold law12_LineNotes
  rw [e1, Option.bind_some, m1, Option.bind_some]
  dsimp only
  rw [e2, Option.bind_some, catS (by unfold maxLen; omega), Option.bind_some, lines_some hn, hF, Option.bind_some]
  have hwl := wordsM_len (t0.take 10) p.size
  have hback := fun (x : GLine) (hx : x.words = wordsM (t0.take 10) p.size) => words_back (n := n) (t0 := t0) (x := x) (by omega) hdrop hps hx n 0 (by omega) (by rw [List.length_take]; omega)
  cases hw : wordsM (t0.take 10) p.size with
  | nil =>
    rw [hw, List.length_nil] at hwl
    rw [← hwl, awake_some hn]
    rfl
  | cons w ws =>
    rw [hw] at hwl hback
    have hq : law12_LineNotes_L2 n t0 (((t0.take 10).length : Nat) : Int) (m ++ e) ([⟨w.at_, w :: ws⟩], 0, 0) n 0 = some (.inl ()) := hback ⟨w.at_, w :: ws⟩ rfl
    have h0 : idx (w :: ws) 0 = some w := rfl
    have h1 : idx [(⟨w.at_, w :: ws⟩ : GLine)] 0 = some ⟨w.at_, w :: ws⟩ := rfl
    rw [show lineL (w :: ws) = [⟨w.at_, w :: ws⟩] from rfl]
    dsimp only
    rw [show ((((t0.take 10).length : Nat) : Int) == 0) = false from beq_eq_false_iff_ne.2 (by rw [← hwl, List.length_cons]; omega), if_neg Bool.false_ne_true, h1, Option.bind_some]
    dsimp only
    rw [hwl, bne_self_eq_false, if_neg Bool.false_ne_true, h0, Option.bind_some, bne_self_eq_false, hq, awake_some hn]
    simp
theorem law_notes_ex (t0 : List Int) (t1 : Int) {p q : Prop} (_ : p) (_ : q) : ∃ n, law12_LineNotes n t0 t1 = some true := ⟨1000001, law_notes (by omega) t0 t1⟩
end Go.Proofs.YtjfpmgdbkhooeaaDoor.Ab
