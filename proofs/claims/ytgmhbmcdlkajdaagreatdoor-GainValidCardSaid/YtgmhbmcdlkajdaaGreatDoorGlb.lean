/-
 A line's fact: none is named as a new thing is, and none has many entries. No program in sight.
-/
import Derived.Test.YtgmhbmcdlkajdaaGreatDoorVly
import Derived.Test.YtgmhbmcdlkajdaaGreatDoorGra
namespace Go.Proofs.YtgmhbmcdlkajdaaGreatDoor.Ab
open Go.RowKit
theorem run_end {n : Nat} {s : ByteArray} (hs : s.size < 1000000) {out : List GLine} {fr : Int} : ∀ (l : List UInt8) (c i : Nat), (∀ x ∈ l, x ≠ 10) → s.data.toList.drop i = l → ref1_Lines_L3 n s (c + l.length) (out, fr, (i : Int)) = ref1_Lines_L3 n s c (out, fr, ((i + l.length : Nat) : Int))
 | [], c, i, _, _ => rfl
 | x :: l, c, i, hl, h => by
  obtain ⟨h1, h2, h3⟩ := bidx_l h
  have hx : ((x.toNat : Int) != 10) = true := by
   have := u8i (x := x) (k := 10) (by decide)
   rw [bne, show ((x.toNat : Int) == 10) = decide (x = UInt8.ofNat 10) from this, show decide (x = UInt8.ofNat 10) = false from decide_eq_false (hl x (List.mem_cons_self ..))]
   rfl
  rw [List.length_cons, ← Nat.add_assoc, ref1_Lines_L3, show decide ((i : Int) ≤ (s.size : Int)) = true from decide_eq_true (by omega), if_pos rfl, dlt h1, if_pos rfl, h2, Zo, hx, Zo, if_pos rfl, wr1 (by omega), run_end hs l c (i + 1) (fun y hy => hl y (List.mem_cons_of_mem _ hy)) h3]
  congr 4
  omega
theorem line_one {n : Nat} {s : ByteArray} {ws : List (List UInt8)} (hs : s.size ≤ 5000) (hn : s.size + 2 < n) (hg : ∀ x ∈ s.data.toList, goodB x = true) (hw : WordsT s.data.toList ws) (h0 : ws ≠ []) : Tot (ref1_Lines n s) fun r => r.1.map (fun x => tws x.words) = [ws] ∧ r.2 = (0, 0) := by
 unfold ref1_Lines
 have h1 : Tot (ref1_Lines_L1 n s n (0, 0)) _ := ends_tot (by omega) n 0 0 (by omega) (by omega) (by omega)
 refine tot_bind h1 fun t ht => ?_
 have h2 : ref1_Lines_L2 n s n 0 = _ := bytes_good (by omega) (fun x hx => .inl (hg x hx)) n 0 (by omega) (by omega)
 rw [show decide (200000 < (s.size : Int)) = false from decide_eq_false (by omega), if_neg (by decide), show decide (5000 < t) = false from decide_eq_false (by omega), Zo, if_neg (by decide), h2, Zo]
 dsimp only
 have hne : ∀ x ∈ s.data.toList, x ≠ 10 := fun x hx e => by
  have := hg x hx
  rw [e] at this
  cases this
 have hlen : s.data.toList.length = s.size := bsize s
 have h13 : ((if (decide (0 < (s.size : Int))) then (bidx s (IntKind.i64.wrap ((s.size : Int) - 1))).bind fun ch9 => some (ch9 == 13) else some false) : Option Bool) = some false := by
  by_cases hl0 : s.size = 0
  ·rw [decide_eq_false (by omega), if_neg (by decide)]
  ·have hb : s.size - 1 < s.data.toList.length := by omega
   rw [decide_eq_true (by omega), if_pos rfl, wr (by omega) (by omega), show ((s.size : Int) - 1) = ((s.size - 1 : Nat) : Int) by omega, bidxS (by omega), Zo]
   have := hg _ (List.getElem_mem hb)
   unfold goodB at this
   simp only [Bool.and_eq_true, decide_eq_true_eq] at this
   congr 1
   exact beq_eq_false_iff_ne.2 (by omega)
 have h3 : Tot (ref1_Lines_L3 n s n ([], 0, 0)) fun o => o.map (fun x => tws x.words) = [ws] := by
  obtain ⟨c, rfl⟩ : ∃ d, n = d + 1 + 1 + s.data.toList.length := ⟨n - 2 - s.data.toList.length, by omega⟩
  have hr := run_end (n := c + 1 + 1 + s.data.toList.length) (s := s) (by omega) (out := []) (fr := 0) s.data.toList (c + 1 + 1) 0 hne (List.drop_zero ..)
  have hr : ref1_Lines_L3 (c + 1 + 1 + s.data.toList.length) s (c + 1 + 1 + s.data.toList.length) ([], 0, 0) = _ := hr
  rw [hr, Nat.zero_add, hlen, ref1_Lines_L3, show decide ((s.size : Int) ≤ (s.size : Int)) = true from decide_eq_true (by omega), if_pos rfl, dnlt (Nat.le_refl _), if_neg (by decide), Zo, if_neg (by decide), h13, Zo, if_neg (by decide), Zo]
  have hz : s.extract 0 s.size = s := by simp
  rw [show bslc s 0 (s.size : Int) = some s by
   have := bslcS (s := s) (a := 0) (b := s.size) (Nat.zero_le _) (Nat.le_refl _)
   rw [hz] at this
   exact this, Zo]
  refine tot_bind (words_of (by omega) (by omega) hw) fun o ho2 => ?_
  have hol : 0 < o.length := by
   have := congrArg List.length ho2
   unfold tws at this
   rw [List.length_map] at this
   have := List.length_pos_iff.2 h0
   omega
  rw [show decide (0 < (o.length : Int)) = true from decide_eq_true (by omega), if_pos rfl, wr1 (by omega), show (0 : Int) = ((0 : Nat) : Int) from rfl, idxS hol, Zo, appS (by simp), Zo, ref1_Lines_L3, show decide (((s.size + 1 : Nat) : Int) ≤ (s.size : Int)) = false from decide_eq_false (by omega), if_neg (by decide)]
  refine tot_some ?_
  rw [List.nil_append, List.map_singleton, ho2]
 exact tot_bind h3 fun o ho => tot_some ⟨ho, rfl⟩
theorem parse_one {s : ByteArray} {ws : List (List UInt8)} {Q : GFile → Prop} (hs : s.size ≤ 5000) (hg : ∀ x ∈ s.data.toList, goodB x = true) (hw : WordsT s.data.toList ws) (h0 : ws ≠ []) (h : ∀ t : GLine, tws t.words = ws → ∃ f, ref17_Fact NF t = some (f, 0, 0) ∧ Q f) : ∃ f, Q f ∧ ref17_Parse NF s = some ([f], 0, 0) := by
 obtain ⟨r, e, h1, h2⟩ := line_one (n := NF) hs (show _ < 30000 by omega) hg hw h0
 have hr : r.1.length = 1 := by
  have := congrArg List.length h1
  rwa [List.length_map] at this
 obtain ⟨fs, g1, g2⟩ := parse_at (r := r) (by omega) (FactsT.cons h FactsT.nil) NF 0 [] (by rw [List.drop_zero]; exact h1) (by omega) (show _ < 30000 by omega) rfl
 have g2 : ref17_Parse_L1 NF r NF ([], 0) = _ := g2
 obtain ⟨f, rfl, hf⟩ : ∃ f, fs = [f] ∧ Q f := by
  unfold AllP at g1
  rcases fs with _ | ⟨f, fs⟩
  ·exact g1.elim
  ·obtain ⟨q, g1⟩ := g1
   unfold AllP at g1
   rcases fs with _ | ⟨f2, fs⟩
   ·exact ⟨f, rfl, q⟩
   ·exact g1.elim
 refine ⟨f, hf, ?_⟩
 unfold ref17_Parse
 rw [e, Zo, h2, if_neg (show ¬ ((0 : Int) != 0) = true by decide), g2]
 rfl
def newP : List ByteArray := [{ data := #[47, 110] }, { data := #[47, 97, 47, 110] }, { data := #[47, 97, 47, 99, 47, 110] }, { data := #[47, 98, 47, 110] }, { data := #[47, 109, 48] }, { data := #[47, 109, 48, 47, 102] }, { data := #[47, 109, 48, 47, 109, 49] }, { data := #[47, 109, 48, 47, 109, 49, 47, 102] }, { data := #[47, 109, 48, 47, 109, 49, 47, 109, 50] }, { data := #[47, 109, 48, 47, 109, 49, 47, 109, 50, 47, 102] }, { data := #[47, 109, 48, 47, 109, 49, 47, 109, 50, 47, 109, 51] }, { data := #[47, 109, 48, 47, 109, 49, 47, 109, 50, 47, 109, 51, 47, 102] }, { data := #[47, 109, 48, 47, 109, 49, 47, 109, 50, 47, 109, 51, 47, 109, 52] }, { data := #[47, 109, 48, 47, 109, 49, 47, 109, 50, 47, 109, 51, 47, 109, 52, 47, 102] }, { data := #[47, 109, 48, 47, 109, 49, 47, 109, 50, 47, 109, 51, 47, 109, 52, 47, 109, 53] }, { data := #[47, 109, 48, 47, 109, 49, 47, 109, 50, 47, 109, 51, 47, 109, 52, 47, 109, 53, 47, 102] }, { data := #[47, 109, 48, 47, 109, 49, 47, 109, 50, 47, 109, 51, 47, 109, 52, 47, 109, 53, 47, 109, 54] }, { data := #[47, 109, 48, 47, 109, 49, 47, 109, 50, 47, 109, 51, 47, 109, 52, 47, 109, 53, 47, 109, 54, 47, 102] }, { data := #[47, 109, 48, 47, 109, 49, 47, 109, 50, 47, 109, 51, 47, 109, 52, 47, 109, 53, 47, 109, 54, 47, 109, 55] }, { data := #[47, 109, 48, 47, 109, 49, 47, 109, 50, 47, 109, 51, 47, 109, 52, 47, 109, 53, 47, 109, 54, 47, 109, 55, 47, 102] }]
def lineB (f : GFile) : Bool := decide (f.acl.length ≤ 15) && newP.all fun q => decide (f.name ≠ q)
def chkL (s : ByteArray) : Bool := match ref17_Parse 30000 s with
 | some r => r.1.all lineB
 | none => false
theorem chk_tot {s : ByteArray} (h : chkL s = true) : Tot (ref17_Parse NF s) fun r => ∀ f ∈ r.1, lineB f = true := by
 unfold chkL at h
 show Tot (ref17_Parse 30000 s) _
 cases e : ref17_Parse 30000 s with
 | none => rw [e] at h; cases h
 | some r => rw [e] at h; exact tot_some (List.all_eq_true.1 h)
theorem bad_all : ([{ data := #[117, 115, 101, 114] }, { data := #[117, 115, 101, 114, 32, 65] }, { data := #[100, 105, 114, 32, 97, 32, 117, 32, 103, 32, 117, 58, 58, 45, 45, 45] }, { data := #[100, 105, 114, 32, 47, 32, 117, 32, 103] }, { data := #[100, 105, 114, 32, 47, 32, 117, 32, 103, 32, 117, 58, 45, 45, 45] }, { data := #[102, 105, 108, 101, 32, 47, 97, 32, 117, 32, 103, 32, 117, 58, 58, 114, 119, 120, 120] }, { data := #[103, 114, 111, 117, 112] }, { data := #[100, 105, 114, 32, 47, 97, 47, 32, 117, 32, 103, 32, 117, 58, 58, 45, 45, 45] }] : List ByteArray).all chkL = true := by kernel_rfl
theorem more_all : ([{ data := #[103, 114, 111, 117, 112, 32, 107, 32, 117] }, { data := #[103, 114, 111, 117, 112, 32, 107, 32, 118] }, { data := #[103, 114, 111, 117, 112, 32, 107, 32, 119] }, { data := #[117, 115, 101, 114, 32, 120] }] : List ByteArray).all chkL = true := by kernel_rfl
theorem item_line {kw p o g ac : List UInt8} {k : Nat} {is : List Nat} {d : Bool} {s : ByteArray} (hs : s.size ≤ 5000) (e : s.data.toList = glueW [kw, p, o, g, ac]) (hkw : kwL[k]? = some (bA kw)) (hk3 : 3 ≤ k) (hp : pathL p = true) (ho : nameL o = true) (hg : nameL g = true) (ha : AclT is ac) (hgood : goodIs d is = true) (w1 : wordG kw) (w2 : wordG p) (w3 : wordG o) (w4 : wordG g) (hq : (newP.all fun q => decide (bA p ≠ q)) = true) : Tot (ref17_Parse NF s) fun r => ∀ f ∈ r.1, lineB f = true := by
 have hw : ∀ w ∈ [kw, p, o, g, ac], wordG w := fun w h => by
  simp only [List.mem_cons, List.not_mem_nil, or_false] at h
  rcases h with rfl | rfl | rfl | rfl | rfl
  ·exact w1
  ·exact w2
  ·exact w3
  ·exact w4
  ·exact ha.word
 obtain ⟨f, hf, h⟩ := parse_one (ws := [kw, p, o, g, ac]) hs (by rw [e]; exact glue_good fun w h => (hw w h).2) (by rw [e]; exact glue_words fun w h => (hw w h).1) (by simp) (q_itm hkw hk3 hp ho hg ha hgood)
 rw [h]
 refine tot_some fun x hx => ?_
 rw [List.mem_singleton.1 hx]
 obtain ⟨h1, _, _, _, h5⟩ := hf
 unfold lineB
 rw [decide_eq_true h5, h1]
 exact hq
theorem glen {d : Bool} {is : List Nat} {l : List UInt8} (hg : goodIs d is = true) (ha : AclT is l) : l.length ≤ 150 := by
 have := ha.len
 unfold goodIs at hg
 simp only [Bool.and_eq_true, decide_eq_true_eq] at hg
 omega
theorem line_fact (v : Int) : Tot (law17_Line NF v) fun s => Tot (ref17_Parse NF s) fun r => ∀ f ∈ r.1, lineB f = true := by
 have hn : 10 < NF := by decide
 unfold law17_Line
 refine tot_bind (tot_tm (m := 3) (by decide) rfl (Q := fun x : ByteArray => (nameL x.data.toList = true ∧ wordG x.data.toList ∧ x.data.toList.length = 1) ∧ x ∈ ([{ data := #[117] }, { data := #[118] }, { data := #[119] }] : List ByteArray)) (by decide)) fun x ⟨⟨x1, x2, x3⟩, x4⟩ => ?_
 refine tot_bind (tot_an (m := 1) (by decide) (by decide) rfl (Q := fun x : ByteArray => nameL x.data.toList = true ∧ wordG x.data.toList ∧ x.data.toList.length = 1) (by decide)) fun y ⟨y1, y2, y3⟩ => ?_
 refine tot_bind (tot_tm (m := 5) (by decide) rfl (Q := fun x : ByteArray => (pathL x.data.toList = true ∧ wordG x.data.toList ∧ x.data.toList.length ≤ 6 ∧ (newP.all fun q => decide (bA x.data.toList ≠ q)) = true) ∧ pathL (x.data.toList ++ [102]) = true ∧ wordG (x.data.toList ++ [102]) ∧ (newP.all fun q => decide (bA (x.data.toList ++ [102]) ≠ q)) = true) (by decide)) fun z ⟨⟨z1, z2, z3, z4⟩, z5, z6, z7⟩ => ?_
 have xz : x.size = 1 := by rw [← bsize]; exact x3
 have yz : y.size = 1 := by rw [← bsize]; exact y3
 have zz : z.size ≤ 6 := by rw [← bsize]; exact z3
 refine tot_bind (Q := fun _ => True) (tot_ite (fun _ => tot_some trivial) fun _ => tot_ite (fun _ => tot_some trivial) fun _ => tot_ite (fun _ => tot_some trivial) fun _ => tot_some trivial) fun _ _ => ?_
 refine tot_ite (fun _ => ?_) fun _ => ?_
 ·refine tcat rfl rfl (by simp; omega) fun s1 e1 => tcat e1 rfl (by simp; omega) fun s2 e2 => tcat e2 rfl (by simp; omega) fun s3 e3 => tcat e3 rfl (by simp; omega) fun s4 e4 => tcat e4 rfl (by simp; omega) fun s5 e5 => tcat e5 rfl (by simp; omega) fun s6 e6 => tot_bind (acl_text hn _ _) fun A ⟨is, g1, a1⟩ => ?_
  have gl := glen g1 a1
  refine tcat e6 rfl (by simp at gl ⊢; omega) fun s7 e7 => tot_some ?_
  refine item_line (kw := [100, 105, 114]) (k := 3) (p := z.data.toList) ?_ ?_ rfl (by decide) z1 x1 y1 a1 g1 (by decide) z2 x2 y2 z4
  ·rw [← bsize, e7]
   simp at gl ⊢
   omega
  ·rw [e7]
   simp [glueW]
 refine tot_bind (Q := fun _ => True) (tot_ite (fun _ => tot_some trivial) fun _ => tot_ite (fun _ => tot_some trivial) fun _ => tot_ite (fun _ => tot_some trivial) fun _ => tot_some trivial) fun _ _ => ?_
 refine tot_ite (fun _ => ?_) fun _ => ?_
 ·refine tcat rfl rfl (by simp; omega) fun s1 e1 => tcat e1 rfl (by simp; omega) fun s2 e2 => tcat e2 rfl (by simp; omega) fun s3 e3 => tcat e3 rfl (by simp; omega) fun s4 e4 => tcat e4 rfl (by simp; omega) fun s5 e5 => tcat e5 rfl (by simp; omega) fun s6 e6 => tot_bind (acl_text hn _ _) fun A ⟨is, g1, a1⟩ => ?_
  have gl := glen g1 a1
  refine tcat e6 rfl (by simp at gl ⊢; omega) fun s7 e7 => tot_some ?_
  refine item_line (kw := [102, 105, 108, 101]) (k := 4) (p := z.data.toList ++ [102]) ?_ ?_ rfl (by decide) z5 x1 y1 a1 g1 (by decide) z6 x2 y2 z7
  ·rw [← bsize, e7]
   simp at gl ⊢
   omega
  ·rw [e7]
   simp [glueW]
 refine tot_ite (fun _ => ?_) fun _ => tot_ite (fun _ => ?_) fun _ => tot_ite (fun _ => ?_) fun _ => ?_
 ·have hm := List.all_eq_true.1 more_all
  have hc : ∀ u : ByteArray, u ∈ ([{ data := #[117] }, { data := #[118] }, { data := #[119] }] : List ByteArray) → chkL (({ data := #[103, 114, 111, 117, 112, 32, 107, 32] } : ByteArray) ++ u) = true := fun u hu => by
   simp only [List.mem_cons, List.not_mem_nil, or_false] at hu
   rcases hu with rfl | rfl | rfl
   ·exact hm _ (by decide)
   ·exact hm _ (by decide)
   ·exact hm _ (by decide)
  have hz : x.size = 1 := by rw [← bsize]; exact x3
  rw [catS (by rw [hz]; decide), Zo]
  exact tot_some (chk_tot (hc x x4))
 ·exact tot_some (chk_tot (List.all_eq_true.1 more_all _ (by decide)))
 ·refine tot_bind (tot_an (m := 3) (by decide) (by decide) rfl (Q := fun x : ByteArray => pathL x.data.toList = true ∧ wordG x.data.toList ∧ x.data.toList.length ≤ 6 ∧ (newP.all fun q => decide (bA x.data.toList ≠ q)) = true) (by decide)) fun q ⟨q1, q2, q3, q4⟩ => ?_
  have qz : q.size ≤ 6 := by rw [← bsize]; exact q3
  refine tcat rfl rfl (by simp; omega) fun s1 e1 => tcat e1 rfl (by simp; omega) fun s2 e2 => tcat e2 rfl (by simp; omega) fun s3 e3 => tcat e3 rfl (by simp; omega) fun s4 e4 => tcat e4 rfl (by simp; omega) fun s5 e5 => tcat e5 rfl (by simp; omega) fun s6 e6 => tot_bind (acl_text hn _ _) fun A ⟨is, g1, a1⟩ => ?_
  have gl := glen g1 a1
  refine tcat e6 rfl (by simp at gl ⊢; omega) fun s7 e7 => tot_some ?_
  refine item_line (kw := [102, 105, 108, 101]) (k := 4) (p := q.data.toList) ?_ ?_ rfl (by decide) q1 x1 y1 a1 g1 (by decide) q2 x2 y2 q4
  ·rw [← bsize, e7]
   simp at gl ⊢
   omega
  ·rw [e7]
   simp [glueW]
 ·refine tot_bind (tot_an (m := 7) (by decide) (by decide) rfl (Q := fun x : ByteArray => chkL x = true) (List.all_eq_true.1 bad_all)) fun q hq => tot_some (chk_tot hq)
end Go.Proofs.YtgmhbmcdlkajdaaGreatDoor.Ab
