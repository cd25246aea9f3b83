/-
  Words joined are a line of these words: the plain law. No program in sight.
-/
import Derived.Test.YtjfpmgdbkhooeaaDoorLpd
import Derived.Test.YtjfpmgdbkhooeaaDoorLba
namespace Go.Proofs.YtjfpmgdbkhooeaaDoor.Ab
open Go.RowKit
def kT : List ByteArray := [{ data := #[97] }, { data := #[117, 115, 101, 114] }, { data := #[49] }, { data := #[120, 46, 121] }, { data := #[47, 97, 47, 98] }, { data := #[117, 58, 58, 114, 119, 45] }, { data := #[97, 35] }, { data := #[126] }]
def kOf (x : Int) : ByteArray := kT.getD (an x 7) default
theorem kOf_idx (x : Int) : idx kT (IntKind.i64.wrap (an x 7 : Int)) = some (kOf x) ∧ kOf x ∈ kT := by
  rw [show IntKind.i64.wrap (an x 7 : Int) = (an x 7 : Nat) from wrap_an _ _ (by decide)]
  exact idx_tab (l := kT) (Nat.lt_succ_of_le (Nat.le_trans (an_le _ _) (by decide)))
theorem kT_ok : kT.all (fun b => plainB b && Nat.ble b.size 6 && wordB b) = true := by kernel_rfl
theorem k_ok {b : ByteArray} (h : b ∈ kT) : (∀ x ∈ b.data.toList, badB x = false ∧ x ≠ 10 ∧ x ≠ 13) ∧ b.size ≤ 6 ∧ WordB b := by
  have := List.all_eq_true.1 kT_ok b h
  rw [Bool.and_eq_true, Bool.and_eq_true] at this
  exact ⟨plain_of this.1.1, Nat.le_of_ble_eq_true this.1.2, word_of this.2⟩
/-! ### words with blanks between -/
def tailL (ws : List ByteArray) : List UInt8 := Lib.joinTail [32] (ws.map (·.data.toList))
theorem tail_cons (w : ByteArray) (ws : List ByteArray) : tailL (w :: ws) = 32 :: (w.data.toList ++ tailL ws) := by
  unfold tailL Lib.joinTail
  simp
def wordsJ : List ByteArray → Nat → List GWord
  | [], _ => []
  | w :: ws, a => ⟨w, (a : Int)⟩ :: wordsJ ws (a + w.size + 1)
def lenJ (ws : List ByteArray) : Nat := (ws.map fun w => w.size + 1).sum
theorem lenJ_cons (w : ByteArray) (ws : List ByteArray) : lenJ (w :: ws) = w.size + 1 + lenJ ws := by simp [lenJ]
theorem wordsJ_snoc : ∀ (ws : List ByteArray) (w : ByteArray) (a : Nat), wordsJ (ws ++ [w]) a = wordsJ ws a ++ [⟨w, ((a + lenJ ws : Nat) : Int)⟩]
  | [], _, _ => rfl
  | v :: ws, w, a => by
    rw [List.cons_append, wordsJ, wordsJ, wordsJ_snoc ws w, lenJ_cons, List.cons_append, show a + v.size + 1 + lenJ ws = a + (v.size + 1 + lenJ ws) by omega]
theorem lenJ_snoc (ws : List ByteArray) (w : ByteArray) : lenJ (ws ++ [w]) = lenJ ws + (w.size + 1) := by simp [lenJ]
theorem wordsJ_len : ∀ (ws : List ByteArray) (a : Nat), (wordsJ ws a).length = ws.length
  | [], _ => rfl
  | w :: ws, a => by rw [wordsJ, List.length_cons, List.length_cons, wordsJ_len ws]
theorem gap_tail (ws : List ByteArray) {e : List UInt8} (he : gapL e) : gapL (tailL ws ++ e) := by
  cases ws with
  | nil => exact he
  | cons w ws => exact .inr ⟨32, _, by rw [tail_cons]; rfl, rfl⟩
theorem ws_tail : ∀ (ws : List ByteArray) {e : List UInt8} (a : Nat), (∀ w ∈ ws, w ∈ kT) → gapL e → wsL (tailL ws ++ e) a = wordsJ ws (a + 1) ++ wsL e (a + (tailL ws).length)
  | [], _, _, _, _ => rfl
  | w :: ws, e, a, h, he => by
    rw [tail_cons, List.cons_append, wsL_gap rfl, List.append_assoc, ws_word (k_ok (h w (List.mem_cons_self ..))).2.2 (gap_tail ws he), ws_tail ws _ (fun v hv => h v (List.mem_cons_of_mem _ hv)) he, wordsJ, List.cons_append, List.length_cons, List.length_append, bsize]
    congr 3
    omega
def rowL (ws : List ByteArray) : List UInt8 := (joinT ws ⟨#[32]⟩).data.toList
theorem row_cons (w : ByteArray) (ws : List ByteArray) : rowL (w :: ws) = w.data.toList ++ tailL ws := by
  show Lib.join (List.map _ (w :: ws)) [32] = _
  rw [List.map_cons, Lib.join_cons]
  rfl
theorem ws_row (ws : List ByteArray) {e : List UInt8} (a : Nat) (h : ∀ w ∈ ws, w ∈ kT) (he : gapL e) : wsL (rowL ws ++ e) a = wordsJ ws a ++ wsL e (a + (rowL ws).length) := by
  cases ws with
  | nil => rfl
  | cons w ws =>
    rw [row_cons, List.append_assoc, ws_word (k_ok (h w (List.mem_cons_self ..))).2.2 (gap_tail ws he), ws_tail ws _ (fun v hv => h v (List.mem_cons_of_mem _ hv)) he, wordsJ, List.cons_append, List.length_append, bsize, show a + (w.size + (tailL ws).length) = a + w.size + (tailL ws).length by omega]
theorem tail_plain : ∀ (ws : List ByteArray), (∀ w ∈ ws, w ∈ kT) → (∀ x ∈ tailL ws, badB x = false ∧ x ≠ 10 ∧ x ≠ 13) ∧ (tailL ws).length ≤ 7 * ws.length
  | [], _ => ⟨fun x h => (by cases h), Nat.le_refl _⟩
  | w :: ws, h => by
    obtain ⟨h1, h2⟩ := tail_plain ws fun v hv => h v (List.mem_cons_of_mem _ hv)
    obtain ⟨k1, k2, _⟩ := k_ok (h w (List.mem_cons_self ..))
    rw [tail_cons, List.length_cons, List.length_append, bsize, List.length_cons]
    refine ⟨fun x hx => ?_, by omega⟩
    rcases List.mem_cons.1 hx with rfl | hx
    · decide
    · rcases List.mem_append.1 hx with hx | hx
      · exact k1 x hx
      · exact h1 x hx
theorem row_plain (ws : List ByteArray) (h : ∀ w ∈ ws, w ∈ kT) : (∀ x ∈ rowL ws, badB x = false ∧ x ≠ 10 ∧ x ≠ 13) ∧ (rowL ws).length ≤ 7 * ws.length := by
  cases ws with
  | nil => exact ⟨fun x h => (by cases h), Nat.le_refl _⟩
  | cons w ws =>
    obtain ⟨h1, h2⟩ := tail_plain ws fun v hv => h v (List.mem_cons_of_mem _ hv)
    obtain ⟨k1, k2, _⟩ := k_ok (h w (List.mem_cons_self ..))
    rw [row_cons, List.length_append, bsize, List.length_cons]
    refine ⟨fun x hx => ?_, by omega⟩
    rcases List.mem_append.1 hx with hx | hx
    · exact k1 x hx
    · exact h1 x hx
/-! ### a row, and what ends it -/
def nT : List ByteArray := [{ data := #[10] }, { data := #[32, 35, 32, 110, 111, 116, 101, 10] }, { data := #[13, 10] }, { data := #[10, 10, 32, 35, 32, 120, 32, 121, 10] }]
theorem row_says {e : ByteArray} (he : e ∈ nT) (ws : List ByteArray) (h : ∀ w ∈ ws, w ∈ kT) (r : List UInt8) (a : Nat) : lnsL (rowL ws ++ (e.data.toList ++ r)) a = lineL (wordsJ ws a) ++ lnsL r (a + (rowL ws).length + e.size) ∧ badR (rowL ws ++ (e.data.toList ++ r)) a = badR r (a + (rowL ws).length + e.size) ∧ e.size ≤ 9 := by
  obtain ⟨hp, _⟩ := row_plain ws h
  have n10 : (10 : UInt8) ∉ rowL ws := fun h => (hp _ h).2.1 rfl
  have n13 : (13 : UInt8) ∉ rowL ws := fun h => (hp _ h).2.2 rfl
  have nb : ∀ x ∈ rowL ws, badB x = false := fun x hx => (hp x hx).1
  have cat10 : ∀ l : List UInt8, (10 : UInt8) ∉ l → (10 : UInt8) ∉ rowL ws ++ l := fun l hl hm => (List.mem_append.1 hm).elim n10 hl
  have catb : ∀ l : List UInt8, (∀ x ∈ bareL l, badB x = false) → ∀ x ∈ bareL (rowL ws ++ l), badB x = false := fun l hl x hx => by
    rw [bare_app n13] at hx
    exact (List.mem_append.1 hx).elim (nb x) (hl x)
  have hb0 := catb [] (by decide)
  rw [List.append_nil] at hb0
  have w0 := ws_row ws a h (e := []) (.inl rfl)
  rw [wsL_nil, List.append_nil, List.append_nil] at w0
  have b0 := bare_app (m := rowL ws) (e := []) n13
  rw [show bareL [] = [] from rfl, List.append_nil] at b0
  unfold nT at he
  simp only [List.mem_cons, List.not_mem_nil, or_false] at he
  rcases he with rfl | rfl | rfl | rfl
  · refine ⟨?_, ?_, Nat.le_of_ble_eq_true rfl⟩
    · show lnsL (rowL ws ++ 10 :: r) a = _
      rw [lns_nl n10, b0, w0]
      rfl
    · show badR (rowL ws ++ 10 :: r) a = _
      rw [bad_nl n10 hb0]
      rfl
  · refine ⟨?_, ?_, Nat.le_of_ble_eq_true rfl⟩
    · show lnsL (rowL ws ++ ([32, 35, 32, 110, 111, 116, 101] ++ 10 :: r)) a = _
      rw [← List.append_assoc, lns_nl (cat10 _ (by decide)), bare_app n13, show bareL [32, 35, 32, 110, 111, 116, 101] = [32, 35, 32, 110, 111, 116, 101] from rfl, ws_row ws a h (.inr ⟨32, _, rfl, rfl⟩), wsL_gap rfl, wsL_note (by decide) rfl, List.append_nil, List.length_append]
      rfl
    · show badR (rowL ws ++ ([32, 35, 32, 110, 111, 116, 101] ++ 10 :: r)) a = _
      rw [← List.append_assoc, bad_nl (cat10 _ (by decide)) (catb _ (by decide)), List.length_append]
      rfl
  · refine ⟨?_, ?_, Nat.le_of_ble_eq_true rfl⟩
    · show lnsL (rowL ws ++ ([13] ++ 10 :: r)) a = _
      rw [← List.append_assoc, lns_nl (cat10 _ (by decide)), bare_app n13, show bareL [13] = [] from rfl, List.append_nil, w0, List.length_append]
      rfl
    · show badR (rowL ws ++ ([13] ++ 10 :: r)) a = _
      rw [← List.append_assoc, bad_nl (cat10 _ (by decide)) (catb _ (by decide)), List.length_append]
      rfl
  · refine ⟨?_, ?_, Nat.le_of_ble_eq_true rfl⟩
    · show lnsL (rowL ws ++ 10 :: ([] ++ 10 :: ([32, 35, 32, 120, 32, 121] ++ 10 :: r))) a = _
      rw [lns_nl n10, lns_nl (by decide), lns_nl (by decide), b0, w0, show bareL [] = [] from rfl, wsL_nil, show bareL [32, 35, 32, 120, 32, 121] = [32, 35, 32, 120, 32, 121] from rfl, wsL_gap rfl, wsL_note (by decide) rfl]
      rfl
    · show badR (rowL ws ++ 10 :: ([] ++ 10 :: ([32, 35, 32, 120, 32, 121] ++ 10 :: r))) a = _
      rw [bad_nl n10 hb0, bad_nl (by decide) (by decide), bad_nl (by decide) (by decide)]
      rfl
/-! ### the law -/
theorem row_at {n : Nat} {t0 : List (List Int)} {i a : Nat} (hi : i < t0.length) (ha : a < 1000) : ∀ (c k : Nat) (ws : List ByteArray), k ≤ t0[i].length → k ≤ 8 → 8 - k < c → ws.length = k → (∀ w ∈ ws, w ∈ kT) → lenJ ws ≤ 7 * k → ∃ vs : List ByteArray, law12_LineBack_L2 n t0 (i : Int) c (ws, wordsJ ws a, ((a + lenJ ws : Nat) : Int), (k : Int)) = some (vs, wordsJ vs a) ∧ vs.length ≤ 8 ∧ ∀ w ∈ vs, w ∈ kT
  | 0, _, _, _, _, h, _, _, _ => by omega
  | c + 1, k, ws, hk, h8, hc, hl, hw, hz => by
    have e : decide ((k : Int) < 8) = decide (k < 8) := dI k 8
    rw [law12_LineBack_L2, idxS hi, Option.bind_some, Option.bind_some, e]
    by_cases h : k < t0[i].length ∧ k < 8
    · obtain ⟨e1, m1⟩ := kOf_idx t0[i][k]
      obtain ⟨_, l1, _⟩ := k_ok m1
      unfold kT at e1
      have hwl := wordsJ_len ws a
      rw [dlt h.1, if_pos rfl, show decide (k < 8) = true from decide_eq_true h.2, Option.bind_some, if_pos rfl, idxS h.1, Option.bind_some, e1, Option.bind_some, appS (by rw [List.length_singleton]; omega), Option.bind_some, appS (by rw [List.length_singleton]; omega), Option.bind_some, wr1 (by omega), ← wordsJ_snoc, show IntKind.i64.wrap (IntKind.i64.wrap (((a + lenJ ws : Nat) : Int) + ((kOf t0[i][k]).size : Int)) + 1) = ((a + lenJ (ws ++ [kOf t0[i][k]]) : Nat) : Int) by rw [lenJ_snoc, wr (x := ((a + lenJ ws : Nat) : Int) + ((kOf t0[i][k]).size : Int)) (by omega) (by omega), wr (by omega) (by omega)]; omega]
      refine row_at hi ha c (k + 1) (ws ++ [kOf t0[i][k]]) (by omega) (by omega) (by omega) (by rw [List.length_append, hl]; rfl) (fun w hm => ?_) (by rw [lenJ_snoc]; omega)
      rcases List.mem_append.1 hm with hm | hm
      · exact hw w hm
      · rw [List.mem_singleton.1 hm]
        exact m1
    · have hf : ((if (decide ((k : Int) < (t0[i].length : Int))) then some (decide (k < 8)) else some false) : Option Bool) = some false := by
        by_cases h1 : k < t0[i].length
        · rw [dlt h1, if_pos rfl, show decide (k < 8) = false from decide_eq_false (by omega)]
        · rw [dnlt (by omega), if_neg Bool.false_ne_true]
      rw [hf, Option.bind_some, if_neg Bool.false_ne_true]
      exact ⟨ws, rfl, by omega, hw⟩
/-- A text that is closed: what stands behind it is read by itself. -/
structure Shut (t : ByteArray) (g : List GLine) : Prop where
  lns : ∀ r, lnsL (t.data.toList ++ r) 0 = g ++ lnsL r t.size
  bad : ∀ r, badR (t.data.toList ++ r) 0 = badR r t.size
theorem rows_at {n : Nat} {t0 : List (List Int)} (hn : 1000000 < n) : ∀ (c i : Nat) (t : ByteArray) (g : List GLine), i ≤ t0.length → i ≤ 12 → 12 - i < c → Shut t g → t.size ≤ 65 * i → g.length ≤ i → (∀ x ∈ g, x.words.length ≤ 8) → ∃ (s : ByteArray) (f : List GLine), law12_LineBack_L1 n t0 c (t, g, (i : Int)) = some (s, f) ∧ Shut s f ∧ s.size ≤ 780 ∧ f.length ≤ 12 ∧ ∀ x ∈ f, x.words.length ≤ 8
  | 0, _, _, _, _, _, h, _, _, _, _ => by omega
  | c + 1, i, t, g, hi, h12, hc, hs, hz, hg, hx => by
    have e : decide ((i : Int) < 12) = decide (i < 12) := dI i 12
    rw [law12_LineBack_L1, e]
    by_cases h : i < t0.length ∧ i < 12
    · have hrow : ∃ vs : List ByteArray, law12_LineBack_L2 n t0 (i : Int) n ([], [], (t.size : Int), 0) = some (vs, wordsJ vs t.size) ∧ vs.length ≤ 8 ∧ ∀ w ∈ vs, w ∈ kT := row_at (n := n) (t0 := t0) (a := t.size) h.1 (by omega) n 0 [] (by omega) (by omega) (by omega) rfl (fun w hw => (by cases hw)) (by simp [lenJ])
      obtain ⟨vs, v1, v2, v3⟩ := hrow
      obtain ⟨p1, p2⟩ := row_plain vs v3
      have hj : line_Join n vs = some (joinT vs ⟨#[32]⟩) := join_some (by omega) fun x hx => by have := (k_ok (v3 x hx)).2.1; omega
      have hjs : (joinT vs ⟨#[32]⟩).size = (rowL vs).length := (bsize _).symm
      have hx2 : idx nT (IntKind.i64.wrap (an (vs.length : Int) 3 : Int)) = some (nT.getD (an (vs.length : Int) 3) default) ∧ nT.getD (an (vs.length : Int) 3) default ∈ nT := by
        rw [show IntKind.i64.wrap (an (vs.length : Int) 3 : Int) = (an (vs.length : Int) 3 : Nat) from wrap_an _ _ (by decide)]
        exact idx_tab (l := nT) (Nat.lt_succ_of_le (Nat.le_trans (an_le _ _) (by decide)))
      obtain ⟨x2, x3⟩ := hx2
      generalize nT.getD (an (vs.length : Int) 3) default = q at x2 x3
      unfold nT at x2
      have hq := (row_says x3 vs v3 [] 0).2.2
      have s1 : (t ++ joinT vs ⟨#[32]⟩).size = t.size + (rowL vs).length := by rw [ByteArray.size_append, hjs]
      have s2 : (t ++ joinT vs ⟨#[32]⟩ ++ q).size = t.size + (rowL vs).length + q.size := by rw [ByteArray.size_append, s1]
      have hl2 : (t ++ joinT vs ⟨#[32]⟩ ++ q).data.toList = t.data.toList ++ (rowL vs ++ q.data.toList) := by rw [list_app, list_app, List.append_assoc]; rfl
      have hs2 : Shut (t ++ joinT vs ⟨#[32]⟩ ++ q) (g ++ lineL (wordsJ vs t.size)) := by
        refine ⟨fun r => ?_, fun r => ?_⟩
        · rw [hl2, List.append_assoc, List.append_assoc, hs.lns, (row_says x3 vs v3 r t.size).1, s2, List.append_assoc]
        · rw [hl2, List.append_assoc, List.append_assoc, hs.bad, (row_says x3 vs v3 r t.size).2.1, s2]
      rw [dlt h.1, if_pos rfl, show decide (i < 12) = true from decide_eq_true h.2, Option.bind_some, if_pos rfl, v1, Option.bind_some]
      dsimp only
      rw [hj, Option.bind_some, catS (by rw [hjs]; unfold maxLen; omega), Option.bind_some, x2, Option.bind_some, catS (by rw [s1]; unfold maxLen; omega), Option.bind_some, wr1 (by omega)]
      have hwl := wordsJ_len vs t.size
      cases vs with
      | nil =>
        rw [show decide ((0 : Int) < (([] : List ByteArray).length : Int)) = false from rfl, if_neg Bool.false_ne_true]
        rw [show lineL (wordsJ [] t.size) = [] from rfl, List.append_nil] at hs2
        exact rows_at hn c (i + 1) _ g (by omega) (by omega) (by omega) hs2 (by omega) (by omega) hx
      | cons w ws =>
        have hw1 : wordsJ (w :: ws) t.size = ⟨w, (t.size : Int)⟩ :: wordsJ ws (t.size + w.size + 1) := rfl
        rw [show decide ((0 : Int) < (((w :: ws).length : Nat) : Int)) = true from decide_eq_true (by rw [List.length_cons]; omega), if_pos rfl, show decide ((wordsJ (w :: ws) t.size).length = 0) = false from decide_eq_false (by rw [hwl, List.length_cons]; omega), if_neg Bool.false_ne_true, appS (by rw [List.length_singleton]; omega), Option.bind_some]
        refine rows_at hn c (i + 1) _ _ (by omega) (by omega) (by omega) hs2 (by omega) (by rw [List.length_append]; simp [hw1]; omega) fun x hm => ?_
        rcases List.mem_append.1 hm with hm | hm
        · exact hx x hm
        · rw [List.mem_singleton.1 hm]
          dsimp only
          omega
    · have hf : ((if (decide ((i : Int) < (t0.length : Int))) then some (decide (i < 12)) else some false) : Option Bool) = some false := by
        by_cases h1 : i < t0.length
        · rw [dlt h1, if_pos rfl, show decide (i < 12) = false from decide_eq_false (by omega)]
        · rw [dnlt (by omega), if_neg Bool.false_ne_true]
      rw [hf, Option.bind_some, if_neg Bool.false_ne_true]
      exact ⟨t, g, rfl, hs, by omega, by omega, hx⟩
theorem law_back {n : Nat} (hn : 1000000 < n) (t0 : List (List Int)) : law12_LineBack n t0 = some true := by
  have hR : ∃ (s : ByteArray) (f : List GLine), law12_LineBack_L1 n t0 n (⟨#[]⟩, [], 0) = some (s, f) ∧ Shut s f ∧ s.size ≤ 780 ∧ f.length ≤ 12 ∧ ∀ x ∈ f, x.words.length ≤ 8 := rows_at (n := n) (t0 := t0) hn n 0 ⟨#[]⟩ [] (by omega) (by omega) (by omega) ⟨fun r => rfl, fun r => rfl⟩ (Nat.le_refl _) (Nat.le_refl _) (fun x hx => (by cases hx))
  obtain ⟨s, f, h1, h2, h3, h4, h5⟩ := hR
  have hl := h2.lns []
  have hb := h2.bad []
  rw [List.append_nil] at hl hb
  rw [show lnsL [] s.size = [] from lns_end (p := []) (by decide), List.append_nil] at hl
  have hF : linesF s = (f, 0, 0) := by rw [linesF_good (by omega) hb, hl]
  unfold law12_LineBack
  rw [h1, Option.bind_some]
  dsimp only
  rw [lines_some hn, hF, Option.bind_some]
  dsimp only
  rw [same_self hn (by omega) (fun x hx => by have := h5 x hx; omega), awake_some hn]
  rfl
theorem law_back_ex (t0 : List (List Int)) {p : Prop} (_ : p) : ∃ n, law12_LineBack n t0 = some true := ⟨1000001, law_back (by omega) t0⟩
end Go.Proofs.YtjfpmgdbkhooeaaDoor.Ab
