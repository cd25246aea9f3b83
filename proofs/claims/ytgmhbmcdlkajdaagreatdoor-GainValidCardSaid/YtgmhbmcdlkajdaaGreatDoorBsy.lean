/-
  The base of the laws' policies: its facts. No program in sight.
-/
import Derived.Test.YtgmhbmcdlkajdaaGreatDoorAcy
namespace Go.Proofs.YtgmhbmcdlkajdaaGreatDoor.Ab
open Go.RowKit
def kwL : List ByteArray := [{ data := #[] }, { data := #[117, 115, 101, 114] }, { data := #[103, 114, 111, 117, 112] }, { data := #[100, 105, 114] }, { data := #[102, 105, 108, 101] }]
theorem kind_step {n : Nat} {t : GLine} {x : GWord} (hx : idx t.words 0 = some x) (c i : Nat) (v : Int) (hi : i < 5) : ref17_Fact_L1 n t (c + 1) (v, (i : Int)) = ref17_Fact_L1 n t c (if kwL[i]? = some x.text then (i : Int) else v, ((i + 1 : Nat) : Int)) := by
 have hi2 : i < kwL.length := hi
 have hk : idx kwL (i : Int) = some kwL[i] := idxS hi2
 rw [ref17_Fact_L1, show decide ((i : Int) < 5) = true from decide_eq_true (by omega), if_pos rfl]
 show ((idx kwL (i : Int)).bind _) = _
 rw [hk, Zo, hx, Zo, wr1 (by omega), beqS]
 have hg : kwL[i]? = some kwL[i] := List.getElem?_eq_getElem hi2
 by_cases h : kwL[i] = x.text
 ·rw [decide_eq_true h, if_pos rfl, if_pos (by rw [hg, h])]
 ·rw [decide_eq_false h, if_neg (by decide), if_neg (fun e => h (by rw [hg, Option.some.injEq] at e; exact e))]
theorem kind_of {t : GLine} {x : GWord} (hx : idx t.words 0 = some x) {k : Nat} (hk : kwL[k]? = some x.text) (h0 : 0 < k) : ref17_Fact_L1 NF t NF (0, 1) = some (k : Int) := by
 have hk5 : k < 5 := (List.getElem?_eq_some_iff.1 hk).1
 have hinj : ∀ i j : Nat, kwL[i]? = some x.text → kwL[j]? = some x.text → i = j := fun i j h1 h2 => by
  have hn : kwL.Nodup := by decide
  obtain ⟨a1, a2⟩ := List.getElem?_eq_some_iff.1 h1
  obtain ⟨b1, b2⟩ := List.getElem?_eq_some_iff.1 h2
  rcases Nat.lt_trichotomy i j with h | h | h
  ·exact absurd (a2.trans b2.symm) (List.pairwise_iff_getElem.1 hn i j a1 b1 h)
  ·exact h
  ·exact absurd (b2.trans a2.symm) (List.pairwise_iff_getElem.1 hn j i b1 a1 h)
 have e : ∀ i : Nat, (kwL[i]? = some x.text) ↔ i = k := fun i => ⟨fun h => hinj i k h hk, fun h => by rw [h]; exact hk⟩
 show ref17_Fact_L1 NF t (29995 + 1 + 1 + 1 + 1 + 1) (0, ((1 : Nat) : Int)) = _
 rw [kind_step hx _ 1 _ (by omega), kind_step hx _ 2 _ (by omega), kind_step hx _ 3 _ (by omega), kind_step hx _ 4 _ (by omega), ref17_Fact_L1, show decide (((4 + 1 : Nat) : Int) < 5) = false from rfl, if_neg (by decide)]
 simp only [e]
 have : k = 1 ∨ k = 2 ∨ k = 3 ∨ k = 4 := by omega
 rcases this with rfl | rfl | rfl | rfl <;> rfl
section
variable {t : GLine} {k : Int} {c i : Nat} {a : ByteArray} {us : List ByteArray} {o g : ByteArray} {ac : List GEntry} {x : GWord}
theorem s_name (hx : idx t.words 1 = some x) (hk : k < 3) (hn : nameB x.text = true) : ref17_Fact_L2 NF t k (c + 1) (a, us, o, g, ac, 1) = if decide ((1 : Int) < (t.words.length : Int)) then ref17_Fact_L2 NF t k c (x.text, us, o, g, ac, 2) else some (.inl (a, us, o, g, ac)) := by
 have hz := (nameB_size hn).2
 have hNF : NF = 30000 := rfl
 rw [ref17_Fact_L2, hx, Zo, refName_some _ (by omega) (by omega), Zo, if_pos (show ((1 : Int) == 1) = true from rfl), Zo, show decide (3 ≤ k) = false from decide_eq_false (by omega), if_neg (show ¬ false = true by decide), if_pos (show ((1 : Int) == 1) = true from rfl), hn, if_pos rfl]
 rfl
theorem s_path (hx : idx t.words 1 = some x) (hk : 3 ≤ k) (hs : x.text.size < 20000) (hp : pathL x.text.data.toList = true) : ref17_Fact_L2 NF t k (c + 1) (a, us, o, g, ac, 1) = if decide ((1 : Int) < (t.words.length : Int)) then ref17_Fact_L2 NF t k c (x.text, us, o, g, ac, 2) else some (.inl (a, us, o, g, ac)) := by
 have hNF : NF = 30000 := rfl
 rw [ref17_Fact_L2, hx, Zo, refName_some _ (by omega) (by omega), Zo, if_pos (show ((1 : Int) == 1) = true from rfl), Zo, show decide (3 ≤ k) = true from decide_eq_true (by omega), if_pos rfl, path_some (by omega) (by omega), Zo, hp, if_pos rfl]
 rfl
theorem s_user (hx : idx t.words (i : Int) = some x) (hi : 2 ≤ i) (hi2 : i < 1000) (hn : nameB x.text = true) (hu : us.length ≤ 1000) : ref17_Fact_L2 NF t 2 (c + 1) (a, us, o, g, ac, (i : Int)) = if decide ((i : Int) < (t.words.length : Int)) then ref17_Fact_L2 NF t 2 c (a, us ++ [x.text], o, g, ac, ((i + 1 : Nat) : Int)) else some (.inl (a, us, o, g, ac)) := by
 have hz := (nameB_size hn).2
 have hNF : NF = 30000 := rfl
 rw [ref17_Fact_L2, hx, Zo, refName_some _ (by omega) (by omega), Zo, show ((i : Int) == 1) = false from beq_eq_false_iff_ne.2 (by omega), if_neg (show ¬ false = true by decide), Zo, if_neg (show ¬ false = true by decide), if_neg (show ¬ false = true by decide), if_pos (show ((2 : Int) == 2) = true from rfl), appS (by simp; omega), Zo, hn, if_pos rfl, wr1 (by omega)]
theorem s_owner (hx : idx t.words 2 = some x) (hk : 3 ≤ k) (hn : nameB x.text = true) : ref17_Fact_L2 NF t k (c + 1) (a, us, o, g, ac, 2) = if decide ((2 : Int) < (t.words.length : Int)) then ref17_Fact_L2 NF t k c (a, us, x.text, g, ac, 3) else some (.inl (a, us, o, g, ac)) := by
 have hz := (nameB_size hn).2
 have hNF : NF = 30000 := rfl
 rw [ref17_Fact_L2, hx, Zo, refName_some _ (by omega) (by omega), Zo, show ((2 : Int) == 1) = false from rfl, if_neg (show ¬ false = true by decide), Zo, if_neg (show ¬ false = true by decide), if_neg (show ¬ false = true by decide), show (k == 2) = false from beq_eq_false_iff_ne.2 (by omega), if_neg (show ¬ false = true by decide), if_pos (show ((2 : Int) == 2) = true from rfl), hn, if_pos rfl]
 rfl
theorem s_group (hx : idx t.words 3 = some x) (hk : 3 ≤ k) (hn : nameB x.text = true) : ref17_Fact_L2 NF t k (c + 1) (a, us, o, g, ac, 3) = if decide ((3 : Int) < (t.words.length : Int)) then ref17_Fact_L2 NF t k c (a, us, o, x.text, ac, 4) else some (.inl (a, us, o, g, ac)) := by
 have hz := (nameB_size hn).2
 have hNF : NF = 30000 := rfl
 rw [ref17_Fact_L2, hx, Zo, refName_some _ (by omega) (by omega), Zo, show ((3 : Int) == 1) = false from rfl, if_neg (show ¬ false = true by decide), Zo, if_neg (show ¬ false = true by decide), if_neg (show ¬ false = true by decide), show (k == 2) = false from beq_eq_false_iff_ne.2 (by omega), if_neg (show ¬ false = true by decide), show ((3 : Int) == 2) = false from rfl, if_neg (show ¬ false = true by decide), if_pos (show ((3 : Int) == 3) = true from rfl), hn, if_pos rfl]
 rfl
theorem s_acl {es : List GEntry} (hx : idx t.words 4 = some x) (hk : 3 ≤ k) (hs : x.text.size < 20000) (he : ref17_Entries NF x.text = some (es, true)) : ref17_Fact_L2 NF t k (c + 1) (a, us, o, g, ac, 4) = if decide ((4 : Int) < (t.words.length : Int)) then ref17_Fact_L2 NF t k c (a, us, o, g, es, 5) else some (.inl (a, us, o, g, ac)) := by
 have hNF : NF = 30000 := rfl
 rw [ref17_Fact_L2, hx, Zo, refName_some _ (by omega) (by omega), Zo, show ((4 : Int) == 1) = false from rfl, if_neg (show ¬ false = true by decide), Zo, if_neg (show ¬ false = true by decide), if_neg (show ¬ false = true by decide), show (k == 2) = false from beq_eq_false_iff_ne.2 (by omega), if_neg (show ¬ false = true by decide), show ((4 : Int) == 2) = false from rfl, if_neg (show ¬ false = true by decide), show ((4 : Int) == 3) = false from rfl, if_neg (show ¬ false = true by decide), he, Zo, if_pos rfl]
 rfl
theorem s_end (h : t.words.length ≤ i) : ref17_Fact_L2 NF t k (c + 1) (a, us, o, g, ac, (i : Int)) = some (.inl (a, us, o, g, ac)) := by
 rw [ref17_Fact_L2, dnlt h, if_neg (show ¬ false = true by decide)]
end
theorem word_at {t : GLine} {ws : List (List UInt8)} (h : tws t.words = ws) {i : Nat} {w : List UInt8} (hw : ws[i]? = some w) : ∃ x, idx t.words (i : Int) = some x ∧ x.text = ⟨⟨w⟩⟩ := by
 rw [← h] at hw
 unfold tws at hw
 rw [List.getElem?_map] at hw
 obtain ⟨x, h1, h2⟩ := Option.map_eq_some_iff.1 hw
 refine ⟨x, ?_, bytes_inj h2⟩
 rw [idxS (List.getElem?_eq_some_iff.1 h1).1, (List.getElem?_eq_some_iff.1 h1).2]
theorem words_len {t : GLine} {ws : List (List UInt8)} (h : tws t.words = ws) : t.words.length = ws.length := by
 rw [← h]
 simp [tws]
def bA (l : List UInt8) : ByteArray := ⟨⟨l⟩⟩
theorem fact_user {t : GLine} {u : List UInt8} (h : tws t.words = [[117, 115, 101, 114], u]) (hu : nameL u = true) : ref17_Fact NF t = some (⟨1, bA u, [], ByteArray.empty, ByteArray.empty, [], t.at_⟩, 0, 0) := by
 obtain ⟨x0, i0, t0⟩ := word_at h (i := 0) rfl
 obtain ⟨x1, i1, t1⟩ := word_at h (i := 1) rfl
 have hl : t.words.length = 2 := words_len h
 have hk := kind_of i0 (k := 1) (by rw [t0]; rfl) (by decide)
 have hn : nameB x1.text = true := by rw [nameB_L, t1]; exact hu
 have e2 : ref17_Fact_L2 NF t 1 NF (ByteArray.empty, [], ByteArray.empty, ByteArray.empty, [], 1) = some (.inl (bA u, [], ByteArray.empty, ByteArray.empty, [])) := by
  show ref17_Fact_L2 NF t 1 (29998 + 1 + 1) _ = _
  rw [s_name i1 (by decide) hn, hl, if_pos (by decide), show (2 : Int) = ((2 : Nat) : Int) from rfl, s_end (by rw [hl]; decide), t1]
  rfl
 unfold ref17_Fact
 rw [hl, if_neg (by decide)]
 have hk' : ref17_Fact_L1 NF t NF (0, 1) = some 1 := hk
 rw [hk', Zo, if_pos (show ((1 : Int) == 1) = true from rfl), if_pos (by decide), Zo, if_pos rfl, e2]
 rfl
theorem group_at {t : GLine} {g : List UInt8} {us : List (List UInt8)} (h : tws t.words = [103, 114, 111, 117, 112] :: g :: us) (hu : ∀ u ∈ us, nameL u = true) (hl : us.length < 900) {a : ByteArray} : ∀ (vs : List (List UInt8)) (c i : Nat) (out : List ByteArray), us.drop i = vs → i ≤ us.length → vs.length < c → out.length = i → ref17_Fact_L2 NF t 2 c (a, out, ByteArray.empty, ByteArray.empty, [], ((i + 2 : Nat) : Int)) = some (.inl (a, out ++ vs.map bA, ByteArray.empty, ByteArray.empty, []))
 | _, 0, _, _, _, _, h, _ => by omega
 | [], c + 1, i, out, hd, hi, _, _ => by
  have hlw := words_len h
  have := congrArg List.length hd
  rw [List.length_drop] at this
  rw [s_end (by rw [hlw]; simp at this ⊢; omega)]
  simp
 | v :: vs, c + 1, i, out, hd, hi, hc, ho => by
  have hlw := words_len h
  have hil : i < us.length := by
   have := congrArg List.length hd
   rw [List.length_drop, List.length_cons] at this
   omega
  have hv : us[i]? = some v := by
   have := congrArg List.head? hd
   rw [List.head?_drop] at this
   exact this
  have hd2 : us.drop (i + 1) = vs := by
   rw [List.drop_eq_getElem_cons hil] at hd
   exact (List.cons.inj hd).2
  obtain ⟨x, i1, t1⟩ := word_at h (i := i + 2) (w := v) (by simpa using hv)
  have hn : nameB x.text = true := by rw [nameB_L, t1]; exact hu v (List.mem_of_getElem? hv)
  rw [List.length_cons] at hc
  rw [s_user i1 (by omega) (by omega) hn (by omega), hlw, dlt (by simp; omega), if_pos rfl, show i + 2 + 1 = (i + 1) + 2 by omega, group_at h hu hl vs c (i + 1) _ hd2 hil (by omega) (by simp [ho]), t1]
  simp [bA]
theorem fact_group {t : GLine} {g : List UInt8} {us : List (List UInt8)} (h : tws t.words = [103, 114, 111, 117, 112] :: g :: us) (hg : nameL g = true) (hu : ∀ u ∈ us, nameL u = true) (hl : us.length < 900) : ref17_Fact NF t = some (⟨2, bA g, us.map bA, ByteArray.empty, ByteArray.empty, [], t.at_⟩, 0, 0) := by
 obtain ⟨x0, i0, t0⟩ := word_at h (i := 0) rfl
 obtain ⟨x1, i1, t1⟩ := word_at h (i := 1) rfl
 have hlw := words_len h
 rw [List.length_cons, List.length_cons] at hlw
 have hk := kind_of i0 (k := 2) (by rw [t0]; rfl) (by decide)
 have hn : nameB x1.text = true := by rw [nameB_L, t1]; exact hg
 have e2 : ref17_Fact_L2 NF t 2 NF (ByteArray.empty, [], ByteArray.empty, ByteArray.empty, [], 1) = some (.inl (bA g, us.map bA, ByteArray.empty, ByteArray.empty, [])) := by
  show ref17_Fact_L2 NF t 2 (29999 + 1) _ = _
  rw [s_name i1 (by decide) hn, show decide ((1 : Int) < (t.words.length : Int)) = true from decide_eq_true (by omega), if_pos rfl]
  have := group_at h hu hl (a := x1.text) us 29999 0 [] rfl (by omega) (by omega) rfl
  rw [t1] at this ⊢
  exact this
 unfold ref17_Fact
 have hk' : ref17_Fact_L1 NF t NF (0, 1) = some 2 := hk
 rw [show ((t.words.length : Int) == 0) = false from beq_eq_false_iff_ne.2 (by omega), if_neg (by decide), hk', Zo, if_neg (show ¬ ((2 : Int) == 1) = true by decide), if_pos (show ((2 : Int) == 2) = true from rfl), show decide ((2 : Int) ≤ (t.words.length : Int)) = true from decide_eq_true (by omega), if_pos rfl, Zo, if_pos rfl, e2]
 rfl
theorem fact_item {t : GLine} {kw p o g ac : List UInt8} {k : Nat} {is : List Nat} (h : tws t.words = [kw, p, o, g, ac]) (hkw : kwL[k]? = some (bA kw)) (hk3 : 3 ≤ k) (hp : pathL p = true) (ho : nameL o = true) (hg : nameL g = true) (ha : AclT is ac) (hil : is.length ≤ 20) : ∃ es, KeyR is es ∧ ref17_Fact NF t = some (⟨(k : Int), bA p, [], bA o, bA g, es, t.at_⟩, 0, 0) := by
 obtain ⟨x0, i0, t0⟩ := word_at h (i := 0) rfl
 obtain ⟨x1, i1, t1⟩ := word_at h (i := 1) rfl
 obtain ⟨x2, i2, t2⟩ := word_at h (i := 2) rfl
 obtain ⟨x3, i3, t3⟩ := word_at h (i := 3) rfl
 obtain ⟨x4, i4, t4⟩ := word_at h (i := 4) rfl
 have hlw : t.words.length = 5 := words_len h
 have hpz : p.length ≤ 200 := by
  unfold pathL at hp
  simp only [Bool.or_eq_true, Bool.and_eq_true, decide_eq_true_eq] at hp
  rcases hp with rfl | hp
  ·decide
  ·exact hp.1.1.1
 have haz := ha.len
 have z1 : x1.text.size < 20000 := by rw [← bsize, t1]; show p.length < _; omega
 have z4 : x4.text.size < 20000 := by rw [← bsize, t4]; show ac.length < _; omega
 obtain ⟨es, hr, he⟩ := entries_of (s := x4.text) z4 (by rw [t4]; exact ha) (by omega)
 have hk := kind_of i0 (by rw [t0]; exact hkw) (by omega)
 have n2 : nameB x2.text = true := by rw [nameB_L, t2]; exact ho
 have n3 : nameB x3.text = true := by rw [nameB_L, t3]; exact hg
 have hp1 : pathL x1.text.data.toList = true := by rw [t1]; exact hp
 have hk4 : k < 5 := (List.getElem?_eq_some_iff.1 hkw).1
 refine ⟨es, hr, ?_⟩
 have e2 : ref17_Fact_L2 NF t (k : Int) NF (ByteArray.empty, [], ByteArray.empty, ByteArray.empty, [], 1) = some (.inl (bA p, [], bA o, bA g, es)) := by
  show ref17_Fact_L2 NF t (k : Int) (29995 + 1 + 1 + 1 + 1 + 1) _ = _
  rw [s_path i1 (by omega) z1 hp1, hlw, if_pos (by decide), s_owner i2 (by omega) n2, hlw, if_pos (by decide), s_group i3 (by omega) n3, hlw, if_pos (by decide), s_acl i4 (by omega) z4 he, hlw, if_pos (by decide), show (5 : Int) = ((5 : Nat) : Int) from rfl, s_end (by rw [hlw]; decide), t1, t2, t3]
  rfl
 unfold ref17_Fact
 rw [hlw, if_neg (by decide), hk, Zo, show ((k : Int) == 1) = false from beq_eq_false_iff_ne.2 (by omega), if_neg (by decide), show ((k : Int) == 2) = false from beq_eq_false_iff_ne.2 (by omega), if_neg (by decide), show decide (3 ≤ (k : Int)) = true from decide_eq_true (by omega), if_pos rfl, Zo, if_pos (by decide), e2]
 rfl
def glueW : List (List UInt8) → List UInt8
  | [] => []
  | [w] => w
  | w :: v :: ws => w ++ 32 :: glueW (v :: ws)
instance (w : List UInt8) : Decidable (wordL w) := inferInstanceAs (Decidable (_ ∧ _ ∧ _))
theorem glue_words : ∀ {ws : List (List UInt8)}, (∀ w ∈ ws, wordL w) → WordsT (glueW ws) ws
  | [], _ => .nil
  | [w], h => .last (h w (List.mem_cons_self ..))
  | w :: _ :: _, h => .word (h w (List.mem_cons_self ..)) (glue_words fun x hx => h x (List.mem_cons_of_mem _ hx))
theorem glue_blank : ∀ {ws : List (List UInt8)}, (∀ w ∈ ws, wordL w) → WordsT (glueW ws ++ [32]) ws
  | [], _ => .blank .nil
  | [w], h => .word (h w (List.mem_cons_self ..)) .nil
  | w :: v :: ws, h => by
    have := WordsT.word (h w (List.mem_cons_self ..)) (glue_blank (ws := v :: ws) fun x hx => h x (List.mem_cons_of_mem _ hx))
    rw [glueW, List.append_assoc]
    exact this
theorem glue_good : ∀ {ws : List (List UInt8)}, (∀ w ∈ ws, ∀ x ∈ w, goodB x = true) → ∀ x ∈ glueW ws, goodB x = true
  | [], _, x, hx => by cases hx
  | [w], h, x, hx => h w (List.mem_cons_self ..) x hx
  | w :: v :: ws, h, x, hx => by
    rw [glueW] at hx
    rcases List.mem_append.1 hx with hx | hx
    · exact h w (List.mem_cons_self ..) x hx
    · rcases List.mem_cons.1 hx with rfl | hx
      · decide
      · exact glue_good (fun y hy => h y (List.mem_cons_of_mem _ hy)) x hx
def wordG (w : List UInt8) : Prop := wordL w ∧ ∀ x ∈ w, goodB x = true
instance (w : List UInt8) : Decidable (wordG w) := inferInstanceAs (Decidable (_ ∧ _))
theorem line_of {ws : List (List UInt8)} {r : List UInt8} {rs : List (List (List UInt8))} (hw : ∀ w ∈ ws, wordG w) (h0 : ws ≠ []) (h : LinesT r rs) : LinesT (glueW ws ++ 10 :: r) (ws :: rs) :=
  .line (glue_good fun w hx => (hw w hx).2) (glue_words fun w hx => (hw w hx).1) h0 h
theorem line_blank {ws : List (List UInt8)} {r : List UInt8} {rs : List (List (List UInt8))} (hw : ∀ w ∈ ws, wordG w) (h0 : ws ≠ []) (h : LinesT r rs) : LinesT ((glueW ws ++ [32]) ++ 10 :: r) (ws :: rs) :=
  .line (fun x hx => by
    rcases List.mem_append.1 hx with hx | hx
    · exact glue_good (fun w hx => (hw w hx).2) x hx
    · obtain rfl := List.mem_singleton.1 hx
      decide) (glue_blank fun w hx => (hw w hx).1) h0 h
theorem AclT.word {is : List Nat} {l : List UInt8} (h : AclT is l) : wordG l := by
  have hp : ∀ p ∈ pfx, (∀ x ∈ p, gapB x = false ∧ goodB x = true) ∧ (∃ y r, p = y :: r ∧ y ≠ 35) := by
    intro p hp
    simp only [pfx, List.mem_cons, List.not_mem_nil, or_false] at hp
    rcases hp with rfl | rfl | rfl | rfl | rfl | rfl | rfl | rfl | rfl | rfl | rfl | rfl | rfl | rfl | rfl <;> exact ⟨by decide, _, _, rfl, by decide⟩
  have hb : ∀ b ∈ bt8, ∀ x ∈ b, gapB x = false ∧ goodB x = true := by decide
  have ha : ∀ x ∈ l, gapB x = false ∧ goodB x = true := by
    induction h with
    | one h1 h2 =>
      intro x hx
      rcases List.mem_append.1 hx with hx | hx
      · exact (hp _ (List.mem_of_getElem? h1)).1 x hx
      · exact hb _ h2 x hx
    | cons h1 h2 _ ih =>
      intro x hx
      rcases List.mem_append.1 hx with hx | hx
      · exact (hp _ (List.mem_of_getElem? h1)).1 x hx
      · rcases List.mem_append.1 hx with hx | hx
        · exact hb _ h2 x hx
        · rcases List.mem_cons.1 hx with rfl | hx
          · decide
          · exact ih x hx
  have hh : l ≠ [] ∧ l.head? ≠ some 35 := by
    cases h with
    | one h1 h2 =>
      obtain ⟨y, r, rfl, hy⟩ := (hp _ (List.mem_of_getElem? h1)).2
      exact ⟨by simp, by simpa using hy⟩
    | cons h1 h2 _ =>
      obtain ⟨y, r, rfl, hy⟩ := (hp _ (List.mem_of_getElem? h1)).2
      exact ⟨by simp, by simpa using hy⟩
  exact ⟨⟨hh.1, fun x hx => (ha x hx).1, hh.2⟩, fun x hx => (ha x hx).2⟩
def baseW (_ A1 A2 A3 A4 A5 A6 : List UInt8) (W : List (List UInt8)) : List (List (List UInt8)) :=
  [[[117, 115, 101, 114], [117]], [[117, 115, 101, 114], [118]], [[117, 115, 101, 114], [119]], [[103, 114, 111, 117, 112], [103], [117], [118]], [103, 114, 111, 117, 112] :: [104] :: W,
   [[100, 105, 114], [47], [117], [103], A1], [[100, 105, 114], [47, 97], [118], [103], A2], [[100, 105, 114], [47, 97, 47, 99], [119], [104], A3],
   [[102, 105, 108, 101], [47, 102], [118], [104], A4], [[102, 105, 108, 101], [47, 97, 47, 102], [119], [103], A5], [[102, 105, 108, 101], [47, 97, 47, 99, 47, 102], [117], [104], A6]]
def isX (X : List UInt8) (W : List (List UInt8)) : Prop := (X = [119] ∧ W = [[119]]) ∨ (X = [118] ∧ W = [[118]]) ∨ (X = [] ∧ W = []) ∨ (X = [117, 32, 119] ∧ W = [[117], [119]])
theorem base_lines {X A1 A2 A3 A4 A5 A6 : List UInt8} {W : List (List UInt8)} {i1 i2 i3 i4 i5 i6 : List Nat} (hx : isX X W) (h1 : AclT i1 A1) (h2 : AclT i2 A2) (h3 : AclT i3 A3) (h4 : AclT i4 A4) (h5 : AclT i5 A5) (h6 : AclT i6 A6) {l : List UInt8}
    (hl : l = [117, 115, 101, 114, 32, 117, 10, 117, 115, 101, 114, 32, 118, 10, 117, 115, 101, 114, 32, 119, 10, 103, 114, 111, 117, 112, 32, 103, 32, 117, 32, 118, 10, 103, 114, 111, 117, 112, 32, 104, 32] ++ (X ++ ([10, 100, 105, 114, 32, 47, 32, 117, 32, 103, 32] ++ (A1 ++ ([10, 100, 105, 114, 32, 47, 97, 32, 118, 32, 103, 32] ++ (A2 ++ ([10, 100, 105, 114, 32, 47, 97, 47, 99, 32, 119, 32, 104, 32] ++ (A3 ++ ([10, 102, 105, 108, 101, 32, 47, 102, 32, 118, 32, 104, 32] ++ (A4 ++ ([10, 102, 105, 108, 101, 32, 47, 97, 47, 102, 32, 119, 32, 103, 32] ++ (A5 ++ ([10, 102, 105, 108, 101, 32, 47, 97, 47, 99, 47, 102, 32, 117, 32, 104, 32] ++ (A6 ++ [10])))))))))))))) :
    LinesT l (baseW X A1 A2 A3 A4 A5 A6 W) := by
  have item : ∀ (ws : List (List UInt8)) (A : List UInt8) (is : List Nat), AclT is A → (∀ w ∈ ws, wordG w) → ∀ w ∈ ws ++ [A], wordG w := fun ws A is ha hws w hw => by
    rcases List.mem_append.1 hw with h | h
    · exact hws w h
    · rw [List.mem_singleton.1 h]
      exact ha.word
  have last := line_of (item [[102, 105, 108, 101], [47, 97, 47, 99, 47, 102], [117], [104]] A6 i6 h6 (by decide)) (by simp) .nil
  have l5 := line_of (item [[102, 105, 108, 101], [47, 97, 47, 102], [119], [103]] A5 i5 h5 (by decide)) (by simp) last
  have l4 := line_of (item [[102, 105, 108, 101], [47, 102], [118], [104]] A4 i4 h4 (by decide)) (by simp) l5
  have l3 := line_of (item [[100, 105, 114], [47, 97, 47, 99], [119], [104]] A3 i3 h3 (by decide)) (by simp) l4
  have l2 := line_of (item [[100, 105, 114], [47, 97], [118], [103]] A2 i2 h2 (by decide)) (by simp) l3
  have l1 := line_of (item [[100, 105, 114], [47], [117], [103]] A1 i1 h1 (by decide)) (by simp) l2
  have top : ∀ {r : List UInt8} {rs : List (List (List UInt8))}, LinesT r rs → LinesT ([117, 115, 101, 114, 32, 117, 10, 117, 115, 101, 114, 32, 118, 10, 117, 115, 101, 114, 32, 119, 10, 103, 114, 111, 117, 112, 32, 103, 32, 117, 32, 118, 10] ++ r) ([[117, 115, 101, 114], [117]] :: [[117, 115, 101, 114], [118]] :: [[117, 115, 101, 114], [119]] :: [[103, 114, 111, 117, 112], [103], [117], [118]] :: rs) := fun h =>
    line_of (ws := [[117, 115, 101, 114], [117]]) (by decide) (by decide) (line_of (ws := [[117, 115, 101, 114], [118]]) (by decide) (by decide) (line_of (ws := [[117, 115, 101, 114], [119]]) (by decide) (by decide) (line_of (ws := [[103, 114, 111, 117, 112], [103], [117], [118]]) (by decide) (by decide) h)))
  have mid := l1
  simp only [List.cons_append, List.nil_append, glueW] at mid
  unfold baseW
  rcases hx with ⟨rfl, rfl⟩ | ⟨rfl, rfl⟩ | ⟨rfl, rfl⟩ | ⟨rfl, rfl⟩
  · have g := top (line_of (ws := [[103, 114, 111, 117, 112], [104], [119]]) (by decide) (by decide) mid)
    rw [hl]
    simpa [glueW] using g
  · have g := top (line_of (ws := [[103, 114, 111, 117, 112], [104], [118]]) (by decide) (by decide) mid)
    rw [hl]
    simpa [glueW] using g
  · have g := top (line_blank (ws := [[103, 114, 111, 117, 112], [104]]) (by decide) (by decide) mid)
    rw [hl]
    simpa [glueW] using g
  · have g := top (line_of (ws := [[103, 114, 111, 117, 112], [104], [117], [119]]) (by decide) (by decide) mid)
    rw [hl]
    simpa [glueW] using g
def AllP : List (GFile → Prop) → List GFile → Prop
  | [], [] => True
  | Q :: Qs, f :: fs => Q f ∧ AllP Qs fs
  | _, _ => False
inductive FactsT : List (List (List UInt8)) → List (GFile → Prop) → Prop
  | nil : FactsT [] []
  | cons {ws Q wss Qs} (h : ∀ t : GLine, tws t.words = ws → ∃ f, ref17_Fact NF t = some (f, 0, 0) ∧ Q f) (hs : FactsT wss Qs) : FactsT (ws :: wss) (Q :: Qs)
theorem parse_at {r : List GLine × Int × Int} (hr : r.1.length < 1000) {wss : List (List (List UInt8))} {Qs : List (GFile → Prop)} (h : FactsT wss Qs) : ∀ (c i : Nat) (out : List GFile), (r.1.drop i).map (fun x => tws x.words) = wss → i ≤ r.1.length → r.1.length - i < c → out.length = i → ∃ fs, AllP Qs fs ∧ ref17_Parse_L1 NF r c (out, (i : Int)) = some (.inl (out ++ fs)) := by
  induction h with
  | nil =>
    intro c i out hd hi hc _
    have := congrArg List.length hd
    rw [List.length_map, List.length_drop] at this
    obtain ⟨c, rfl⟩ : ∃ d, c = d + 1 := ⟨c - 1, by omega⟩
    refine ⟨[], trivial, ?_⟩
    rw [ref17_Parse_L1, dnlt (by simp at this; omega), if_neg (by decide), List.append_nil]
  | @cons ws Q wss Qs hf hs ih =>
    intro c i out hd hi hc ho
    have hlen := congrArg List.length hd
    rw [List.length_map, List.length_drop, List.length_cons] at hlen
    have hil : i < r.1.length := by omega
    obtain ⟨c, rfl⟩ : ∃ d, c = d + 1 := ⟨c - 1, by omega⟩
    rw [List.drop_eq_getElem_cons hil, List.map_cons] at hd
    obtain ⟨h1, h2⟩ := List.cons.inj hd
    obtain ⟨f, e, hq⟩ := hf _ h1
    obtain ⟨fs, g1, g2⟩ := ih c (i + 1) (out ++ [f]) h2 (by omega) (by omega) (by simp [ho])
    refine ⟨f :: fs, ⟨hq, g1⟩, ?_⟩
    rw [ref17_Parse_L1, dlt hil, if_pos rfl, show ((i : Int) == 2000) = false from beq_eq_false_iff_ne.2 (by omega), if_neg (by decide), idxS hil, Zo, e, Zo, if_neg (show ¬ ((0 : Int) != 0) = true by decide), appS (by simp; omega), Zo, wr1 (by omega)]
    refine g2.trans ?_
    rw [List.append_assoc]
    rfl
theorem parse_of {s : ByteArray} {wss : List (List (List UInt8))} {Qs : List (GFile → Prop)} (hs : s.size ≤ 5000) (hl : LinesT s.data.toList wss) (h : FactsT wss Qs) (hw : wss.length < 1000) : ∃ fs, AllP Qs fs ∧ ref17_Parse NF s = some (fs, 0, 0) := by
  obtain ⟨r, e, h1, h2⟩ := lines_of (n := NF) hs (show _ < 30000 by omega) hl
  have hr : r.1.length = wss.length := by
    rw [← h1, List.length_map]
  obtain ⟨fs, g1, g2⟩ := parse_at (r := r) (by omega) h NF 0 [] (by rw [List.drop_zero]; exact h1) (by omega) (show _ < 30000 by omega) rfl
  have g2 : ref17_Parse_L1 NF r NF ([], 0) = _ := g2
  refine ⟨fs, g1, ?_⟩
  unfold ref17_Parse
  rw [e, Zo, h2, if_neg (show ¬ ((0 : Int) != 0) = true by decide), g2]
  rfl
def isUsr (u : List UInt8) (f : GFile) : Prop := f = ⟨1, bA u, [], ByteArray.empty, ByteArray.empty, [], f.at_⟩
def isGrp (g : List UInt8) (us : List (List UInt8)) (f : GFile) : Prop := f = ⟨2, bA g, us.map bA, ByteArray.empty, ByteArray.empty, [], f.at_⟩
def isItm (k : Int) (p o g : List UInt8) (d : Bool) (f : GFile) : Prop := f = ⟨k, bA p, [], bA o, bA g, f.acl, f.at_⟩ ∧ OKE f.acl = true ∧ (d = false → ∀ e ∈ f.acl, e.default = false) ∧ (∀ e ∈ f.acl, nameK e) ∧ f.acl.length ≤ 15
theorem q_usr {u : List UInt8} (hu : nameL u = true) (t : GLine) (h : tws t.words = [[117, 115, 101, 114], u]) : ∃ f, ref17_Fact NF t = some (f, 0, 0) ∧ isUsr u f := ⟨_, fact_user h hu, rfl⟩
theorem q_grp {g : List UInt8} {us : List (List UInt8)} (hg : nameL g = true) (hu : ∀ u ∈ us, nameL u = true) (hl : us.length < 900) (t : GLine) (h : tws t.words = [103, 114, 111, 117, 112] :: g :: us) : ∃ f, ref17_Fact NF t = some (f, 0, 0) ∧ isGrp g us f := ⟨_, fact_group h hg hu hl, rfl⟩
theorem q_itm {kw p o g ac : List UInt8} {k : Nat} {is : List Nat} {d : Bool} (hkw : kwL[k]? = some (bA kw)) (hk3 : 3 ≤ k) (hp : pathL p = true) (ho : nameL o = true) (hg : nameL g = true) (ha : AclT is ac) (hgood : goodIs d is = true) (t : GLine) (h : tws t.words = [kw, p, o, g, ac]) : ∃ f, ref17_Fact NF t = some (f, 0, 0) ∧ isItm (k : Int) p o g d f := by
  have hil : is.length ≤ 15 := by
    unfold goodIs at hgood
    simp only [Bool.and_eq_true, decide_eq_true_eq] at hgood
    exact hgood.2.2.2.2
  obtain ⟨es, h1, h2⟩ := fact_item h hkw hk3 hp ho hg ha (by omega)
  have := acl_ok h1 hgood
  exact ⟨_, h2, rfl, this.1, this.2, h1.names, by have := h1.len; dsimp only; omega⟩
def baseQ (W : List (List UInt8)) : List (GFile → Prop) := [isUsr [117], isUsr [118], isUsr [119], isGrp [103] [[117], [118]], isGrp [104] W,
  isItm 3 [47] [117] [103] true, isItm 3 [47, 97] [118] [103] true, isItm 3 [47, 97, 47, 99] [119] [104] true, isItm 4 [47, 102] [118] [104] false, isItm 4 [47, 97, 47, 102] [119] [103] false, isItm 4 [47, 97, 47, 99, 47, 102] [117] [104] false]
theorem base_of (v : Int) : ∃ s fs W X, s.size ≤ 5000 ∧ law17_Base NF v = some s ∧ ref17_Parse NF s = some (fs, 0, 0) ∧ AllP (baseQ W) fs ∧ isX X W := by
  have hn : 10 < NF := by decide
  have key : Tot (law17_Base NF v) fun s => ∃ X W A1 A2 A3 A4 A5 A6 i1 i2 i3 i4 i5 i6, isX X W ∧ (goodIs true i1 = true ∧ AclT i1 A1) ∧ (goodIs true i2 = true ∧ AclT i2 A2) ∧ (goodIs true i3 = true ∧ AclT i3 A3) ∧ (goodIs false i4 = true ∧ AclT i4 A4) ∧ (goodIs false i5 = true ∧ AclT i5 A5) ∧ (goodIs false i6 = true ∧ AclT i6 A6) ∧
      s.size ≤ 5000 ∧ LinesT s.data.toList (baseW X A1 A2 A3 A4 A5 A6 W) := by
    unfold law17_Base
    have glen : ∀ {d : Bool} {is : List Nat} {l : List UInt8}, goodIs d is = true → AclT is l → l.length ≤ 150 := fun {d is l} hg ha => by
      have := ha.len
      unfold goodIs at hg
      simp only [Bool.and_eq_true, decide_eq_true_eq] at hg
      omega
    refine tot_bind (tot_an (m := 3) (by decide) (by decide) rfl (Q := fun x : ByteArray => ∃ W, isX x.data.toList W ∧ x.data.toList.length ≤ 3) ?_) fun x ⟨W, hx, hxl⟩ => ?_
    · intro x hx
      simp only [List.mem_cons, List.not_mem_nil, or_false] at hx
      rcases hx with rfl | rfl | rfl | rfl
      · exact ⟨[[119]], .inl ⟨rfl, rfl⟩, by decide⟩
      · exact ⟨[[118]], .inr (.inl ⟨rfl, rfl⟩), by decide⟩
      · exact ⟨[], .inr (.inr (.inl ⟨rfl, rfl⟩)), by decide⟩
      · exact ⟨[[117], [119]], .inr (.inr (.inr ⟨rfl, rfl⟩)), by decide⟩
    have st : ∀ {β : Type} {a b : ByteArray} {la lb : List UInt8} {m : Nat} {f : ByteArray → Option β} {R : β → Prop}, a.data.toList = la → b.data.toList = lb → la.length ≤ m → m + lb.length ≤ 5000 → (∀ s : ByteArray, s.data.toList = la ++ lb → (la ++ lb).length ≤ m + lb.length → Tot (f s) R) → Tot ((cat a b).bind f) R := fun ha hb h1 h2 k => tcat ha hb (by omega) fun s hs => k s hs (by rw [List.length_append]; omega)
    refine st rfl rfl (m := 41) (by decide) (by omega) fun s1 e1 z1 => ?_
    have z1 := Nat.le_trans z1 (show _ ≤ 44 by omega)
    refine st e1 rfl z1 (by simp) fun s2 e2 z2 => tot_bind (acl_text hn _ _) fun A1 ⟨i1, g1, a1⟩ => ?_
    have b1 := glen g1 a1
    refine st e2 rfl z2 (by simp at b1 ⊢; omega) fun s3 e3 z3 => ?_
    have z3 := Nat.le_trans z3 (show _ ≤ 300 by simp at b1 ⊢; omega)
    refine st e3 rfl z3 (by simp) fun s4 e4 z4 => tot_bind (acl_text hn _ _) fun A2 ⟨i2, g2, a2⟩ => ?_
    have b2 := glen g2 a2
    refine st e4 rfl z4 (by simp at b2 ⊢; omega) fun s5 e5 z5 => ?_
    have z5 := Nat.le_trans z5 (show _ ≤ 500 by simp at b2 ⊢; omega)
    refine st e5 rfl z5 (by simp) fun s6 e6 z6 => tot_bind (acl_text hn _ _) fun A3 ⟨i3, g3, a3⟩ => ?_
    have b3 := glen g3 a3
    refine st e6 rfl z6 (by simp at b3 ⊢; omega) fun s7 e7 z7 => ?_
    have z7 := Nat.le_trans z7 (show _ ≤ 700 by simp at b3 ⊢; omega)
    refine st e7 rfl z7 (by simp) fun s8 e8 z8 => tot_bind (acl_text hn _ _) fun A4 ⟨i4, g4, a4⟩ => ?_
    have b4 := glen g4 a4
    refine st e8 rfl z8 (by simp at b4 ⊢; omega) fun s9 e9 z9 => ?_
    have z9 := Nat.le_trans z9 (show _ ≤ 900 by simp at b4 ⊢; omega)
    refine st e9 rfl z9 (by simp) fun s10 e10 z10 => tot_bind (acl_text hn _ _) fun A5 ⟨i5, g5, a5⟩ => ?_
    have b5 := glen g5 a5
    refine st e10 rfl z10 (by simp at b5 ⊢; omega) fun s11 e11 z11 => ?_
    have z11 := Nat.le_trans z11 (show _ ≤ 1100 by simp at b5 ⊢; omega)
    refine st e11 rfl z11 (by simp) fun s12 e12 z12 => tot_bind (acl_text hn _ _) fun A6 ⟨i6, g6, a6⟩ => ?_
    have b6 := glen g6 a6
    refine st e12 rfl z12 (by simp at b6 ⊢; omega) fun s13 e13 z13 => ?_
    have z13 := Nat.le_trans z13 (show _ ≤ 1300 by simp at b6 ⊢; omega)
    refine st e13 rfl z13 (by simp) fun s14 e14 z14 => tot_some ?_
    refine ⟨_, W, _, _, _, _, _, _, i1, i2, i3, i4, i5, i6, hx, ⟨g1, a1⟩, ⟨g2, a2⟩, ⟨g3, a3⟩, ⟨g4, a4⟩, ⟨g5, a5⟩, ⟨g6, a6⟩, ?_, base_lines hx a1 a2 a3 a4 a5 a6 ?_⟩
    · rw [← bsize, e14]
      exact Nat.le_trans z14 (by decide)
    · rw [e14]
      simp only [List.append_assoc]
  obtain ⟨s, hs, X, W, A1, A2, A3, A4, A5, A6, i1, i2, i3, i4, i5, i6, hx, ⟨g1, a1⟩, ⟨g2, a2⟩, ⟨g3, a3⟩, ⟨g4, a4⟩, ⟨g5, a5⟩, ⟨g6, a6⟩, hz, hl⟩ := key
  have hW : (∀ u ∈ W, nameL u = true) ∧ W.length ≤ 2 := by
    rcases hx with ⟨rfl, rfl⟩ | ⟨rfl, rfl⟩ | ⟨rfl, rfl⟩ | ⟨rfl, rfl⟩ <;> exact ⟨by decide, by decide⟩
  have hf : FactsT (baseW X A1 A2 A3 A4 A5 A6 W) (baseQ W) :=
    .cons (q_usr (by decide)) (.cons (q_usr (by decide)) (.cons (q_usr (by decide)) (.cons (q_grp (by decide) (by decide) (by decide)) (.cons (q_grp (by decide) hW.1 (by omega))
      (.cons (q_itm (k := 3) rfl (by decide) (by decide) (by decide) (by decide) a1 g1) (.cons (q_itm (k := 3) rfl (by decide) (by decide) (by decide) (by decide) a2 g2) (.cons (q_itm (k := 3) rfl (by decide) (by decide) (by decide) (by decide) a3 g3)
      (.cons (q_itm (k := 4) rfl (by decide) (by decide) (by decide) (by decide) a4 g4) (.cons (q_itm (k := 4) rfl (by decide) (by decide) (by decide) (by decide) a5 g5) (.cons (q_itm (k := 4) rfl (by decide) (by decide) (by decide) (by decide) a6 g6) .nil))))))))))
  obtain ⟨fs, h1, h2⟩ := parse_of hz hl hf (by unfold baseW; simp)
  exact ⟨s, fs, W, X, hz, hs, h2, h1, hx⟩
end Go.Proofs.YtgmhbmcdlkajdaaGreatDoor.Ab
