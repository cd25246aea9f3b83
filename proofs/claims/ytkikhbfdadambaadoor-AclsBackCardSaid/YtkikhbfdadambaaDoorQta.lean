/-
 What is told of facts is read as the same. No program in sight.
-/
import Derived.Test.YtkikhbfdadambaaDoorQpa
import Derived.Test.YtkikhbfdadambaaDoorAka
namespace Go.Proofs.YtkikhbfdadambaaDoor.Ab
open Go.RowKit
structure AlF (a b : GFile) : Prop where
 k : a.kind = b.kind
 n : a.name = b.name
 u : a.users = b.users
 o : a.owner = b.owner
 g : a.group = b.group
 c : a.acl = b.acl
def smF (a : GFile) : Prop := a.users.length < 1000000 ∧ a.acl.length < 1000000
theorem eqS_at {n : Nat} {l : List ByteArray} (hl : l.length < 1000000) : ∀ (c k : Nat), k ≤ l.length → l.length - k < c → slices_Equal_string_L1 n l l c (k : Int) = some (.inl ())
 | 0, _, _, h => by omega
 | c + 1, k, hk, hc => by
  rw [slices_Equal_string_L1]
  by_cases h : k < l.length
  ·rw [dlt h, if_pos rfl, idxS h, Option.bind_some, Option.bind_some, wr1 (by omega), eqS_at hl c (k + 1) (by omega) (by omega)]
   simp
  ·rw [dnlt (by omega), if_neg Bool.false_ne_true]
theorem eqS_self {n : Nat} (hn : 1000000 < n) {l : List ByteArray} (hl : l.length < 1000000) : slices_Equal_string n l l = some true := by
 unfold slices_Equal_string
 have h : slices_Equal_string_L1 n l l n 0 = _ := eqS_at (n := n) hl n 0 (by omega) (by omega)
 rw [show ((l.length : Int) != (l.length : Int)) = false by simp, if_neg Bool.false_ne_true, h]
 rfl
theorem same_F {n : Nat} (hn : 1000000 < n) {a b : GFile} (h : AlF a b) (hs : smF a) : acls_same n a b = some true := by
 obtain ⟨h1, h2, h3, h4, h5, h6⟩ := h
 unfold acls_same
 rw [← h1, ← h2, ← h3, ← h4, ← h5, ← h6, eqS_self hn hs.1, eqE_self hs.2 hn]
 simp
theorem same_at {n : Nat} (hn : 1000000 < n) {a b : List GFile} (hl : a.length = b.length) (hz : a.length < 1000000) (hx : ∀ (i : Nat) (h1 : i < a.length) (h2 : i < b.length), AlF a[i] b[i] ∧ smF a[i]) : ∀ (c k : Nat), k ≤ a.length → a.length - k < c → slices_EqualFunc___api_File___api_File_api_File_api_File___acls_same_L1 n a b c (k : Int) = some (.inl ())
 | 0, _, _, h => by omega
 | c + 1, k, hk, hc => by
  rw [slices_EqualFunc___api_File___api_File_api_File_api_File___acls_same_L1]
  by_cases h : k < a.length
  ·have h2 : k < b.length := by omega
   obtain ⟨x1, x2⟩ := hx k h h2
   rw [dlt h, if_pos rfl, idxS h, Option.bind_some, idxS h2, Option.bind_some, same_F hn x1 x2, Option.bind_some, if_pos rfl, wr1 (by omega)]
   exact same_at hn hl hz hx c (k + 1) (by omega) (by omega)
  ·rw [dnlt (by omega), if_neg Bool.false_ne_true]
theorem same_all {n : Nat} (hn : 1000000 < n) {a b : List GFile} (hl : a.length = b.length) (hz : a.length < 1000000) (hx : ∀ (i : Nat) (h1 : i < a.length) (h2 : i < b.length), AlF a[i] b[i] ∧ smF a[i]) : acls_Same n a b = some true := by
 unfold acls_Same slices_EqualFunc___api_File___api_File_api_File_api_File___acls_same
 have h : slices_EqualFunc___api_File___api_File_api_File_api_File___acls_same_L1 n a b n 0 = _ := same_at hn hl hz hx n 0 (by omega) (by omega)
 rw [show ((a.length : Int) != (b.length : Int)) = false by rw [hl]; simp, if_neg Bool.false_ne_true, h]
 rfl
theorem rT_at {n : Nat} {l : List ByteArray} (hl : l.length < 1000000) : ∀ (c k : Nat), k ≤ l.length → l.length - k < c → ref1_SameTexts_L1 n l l c (k : Int) = some (.inl ())
 | 0, _, _, h => by omega
 | c + 1, k, hk, hc => by
  rw [ref1_SameTexts_L1]
  by_cases h : k < l.length
  ·rw [dlt h, if_pos rfl, idxS h, Option.bind_some, Option.bind_some, wr1 (by omega), rT_at hl c (k + 1) (by omega) (by omega)]
   simp
  ·rw [dnlt (by omega), if_neg Bool.false_ne_true]
theorem rT_self {n : Nat} (hn : 1000000 < n) {l : List ByteArray} (hl : l.length < 1000000) : ref1_SameTexts n l l = some true := by
 unfold ref1_SameTexts
 have h : ref1_SameTexts_L1 n l l n 0 = _ := rT_at (n := n) hl n 0 (by omega) (by omega)
 rw [show ((l.length : Int) != (l.length : Int)) = false by simp, if_neg Bool.false_ne_true, h]
 rfl
theorem rA_at {n : Nat} {l : List GEntry} (hl : l.length < 1000000) : ∀ (c k : Nat), k ≤ l.length → l.length - k < c → ref17_SameAcl_L1 n l l c (k : Int) = some (.inl ())
 | 0, _, _, h => by omega
 | c + 1, k, hk, hc => by
  rw [ref17_SameAcl_L1]
  by_cases h : k < l.length
  ·rw [dlt h, if_pos rfl, idxS h, Option.bind_some, Option.bind_some, wr1 (by omega), rA_at hl c (k + 1) (by omega) (by omega)]
   simp
  ·rw [dnlt (by omega), if_neg Bool.false_ne_true]
theorem rA_self {n : Nat} (hn : 1000000 < n) {l : List GEntry} (hl : l.length < 1000000) : ref17_SameAcl n l l = some true := by
 unfold ref17_SameAcl
 have h : ref17_SameAcl_L1 n l l n 0 = _ := rA_at (n := n) hl n 0 (by omega) (by omega)
 rw [show ((l.length : Int) != (l.length : Int)) = false by simp, if_neg Bool.false_ne_true, h]
 rfl
theorem rS_at {n : Nat} (hn : 1000000 < n) {a b : List GFile} (hl : a.length = b.length) (hz : a.length < 1000000) (hx : ∀ (i : Nat) (h1 : i < a.length) (h2 : i < b.length), AlF a[i] b[i] ∧ smF a[i]) : ∀ (c k : Nat), k ≤ a.length → a.length - k < c → ref17_Same_L1 n a b c (k : Int) = some (.inl ())
 | 0, _, _, h => by omega
 | c + 1, k, hk, hc => by
  rw [ref17_Same_L1]
  by_cases h : k < a.length
  ·have h2 : k < b.length := by omega
   obtain ⟨⟨a1, a2, a3, a4, a5, a6⟩, x2⟩ := hx k h h2
   rw [dlt h, if_pos rfl, idxS h, Option.bind_some, idxS h2, Option.bind_some, ← a1, ← a2, ← a3, ← a4, ← a5, ← a6, rT_self hn x2.1, rA_self hn x2.2, wr1 (by omega), rS_at hn hl hz hx c (k + 1) (by omega) (by omega)]
   simp
  ·rw [dnlt (by omega), if_neg Bool.false_ne_true]
theorem rS_all {n : Nat} (hn : 1000000 < n) {a b : List GFile} (hl : a.length = b.length) (hz : a.length < 1000000) (hx : ∀ (i : Nat) (h1 : i < a.length) (h2 : i < b.length), AlF a[i] b[i] ∧ smF a[i]) : ref17_Same n a b = some true := by
 unfold ref17_Same
 have h : ref17_Same_L1 n a b n 0 = _ := rS_at hn hl hz hx n 0 (by omega) (by omega)
 rw [show ((a.length : Int) != (b.length : Int)) = false by rw [hl]; simp, if_neg Bool.false_ne_true, h]
 rfl
theorem entV_len {n : Nat} (hn : 1000000 < n) {s : ByteArray} (hs : s.size < 1000000) : (entV n s).1.length ≤ 100 := by
 obtain ⟨l, b, h, h1, _⟩ := entries_some hn hs
 unfold entV
 rw [h]
 exact h1
theorem fact_small {n : Nat} (hn : 1000000 < n) {ts : List ByteArray} {f : GFile} {a : Int} (hl : ts.length < 1000000) (hz : ∀ t ∈ ts, t.size < 1000000) (h : factF n ts a = some f) : smF f := by
 cases ts with
 | nil => cases h
 | cons w r =>
  unfold factF at h
  dsimp only at h
  rw [List.length_cons] at hl
  have own : ∀ k : Int, fO n k a r = some f → smF f := by
   intro k h
   match r, h, hz with
   | [p, o, g, e], h, hz =>
    have h : (if okO n p o g e then some (fOf k p [] o g (entV n e).1 a) else none) = some f := h
    split at h
    ·cases h
     have := entV_len hn (hz e (by simp))
     exact ⟨by show 0 < _; omega, by show (entV n e).1.length < _; omega⟩
    ·cases h
  split at h
  ·match r, h with
   | [x], h =>
    have h : (if nameB x then some (fOf 1 x [] ByteArray.empty ByteArray.empty [] a) else none) = some f := h
    split at h
    ·cases h
     exact ⟨by show 0 < _; omega, by show 0 < _; omega⟩
    ·cases h
  ·split at h
   ·match r, h, hl with
    | x :: us, h, hl =>
     have h : (if (x :: us).all nameB then some (fOf 2 x us ByteArray.empty ByteArray.empty [] a) else none) = some f := h
     rw [List.length_cons] at hl
     split at h
     ·cases h
      exact ⟨by show us.length < _; omega, by show 0 < _; omega⟩
     ·cases h
   ·split at h
    ·exact own 3 h
    ·split at h
     ·exact own 4 h
     ·cases h
theorem rowsB_len : ∀ tss : List (List ByteArray), (∀ ts ∈ tss, ∀ w ∈ ts, OKW w) → (rowsB tss).length ≤ (tss.map fun ts => (ts.map fun w => w.size + 1).sum + 1).sum
 | [], _ => Nat.le_refl _
 | ts :: r, h => by
  have h1 := rowsB_len r fun us hu => h us (List.mem_cons_of_mem _ hu)
  have h2 := (row_ok ts (h ts (List.mem_cons_self ..))).2
  rw [rowsB, List.length_append, List.length_cons, List.map_cons, List.sum_cons]
  omega
theorem text_L {n : Nat} : ∀ (fs : List GFile) (tss : List (List ByteArray)) (b : ByteArray), fs.map (acls_toldFile n) = tss.map (fun ts => some (joinT ts ⟨#[32]⟩)) → b.size + (rowsB tss).length ≤ 200000 → ∃ r : ByteArray, acls_Text_L n fs b = some (.inl r) ∧ r.data.toList = b.data.toList ++ rowsB tss
 | [], [], b, _, _ => ⟨b, rfl, (List.append_nil _).symm⟩
 | [], _ :: _, _, h, _ => by cases h
 | _ :: _, [], _, h, _ => by cases h
 | f :: fs, ts :: tss, b, h, hz => by
  rw [List.map_cons, List.map_cons] at h
  obtain ⟨h1, h2⟩ := List.cons.inj h
  rw [rowsB, List.length_append, List.length_cons] at hz
  have hj : (joinT ts ⟨#[32]⟩).size = (rowL ts).length := (bsize _).symm
  have s1 : (joinT ts ⟨#[32]⟩ ++ ⟨#[10]⟩ : ByteArray).size = (rowL ts).length + 1 := by rw [ByteArray.size_append, hj]; rfl
  have s2 : (b ++ (joinT ts ⟨#[32]⟩ ++ ⟨#[10]⟩) : ByteArray).size = b.size + ((rowL ts).length + 1) := by rw [ByteArray.size_append, s1]
  obtain ⟨r, r1, r2⟩ := text_L fs tss (b ++ (joinT ts ⟨#[32]⟩ ++ ⟨#[10]⟩)) h2 (by omega)
  rw [acls_Text_L, h1, Option.bind_some, catS (by rw [hj]; show _ + 1 ≤ _; unfold maxLen; omega), Option.bind_some, s1, s2]
  unfold grd
  rw [if_pos (decide_eq_true (by omega)), show decide (200000 < b.size + ((rowL ts).length + 1)) = false from decide_eq_false (by omega), if_neg Bool.false_ne_true, r1]
  refine ⟨r, rfl, ?_⟩
  rw [r2, list_app, list_app, rowsB]
  simp [rowL]
def mkF (f : GFile) (x : GLine) : GFile := fOf f.kind f.name f.users f.owner f.group f.acl x.at_
theorem map_some_at {α β : Type} {F : α → Option β} {xs : List α} {fs : List β} (h : xs.map F = fs.map some) : xs.length = fs.length ∧ ∀ (i : Nat) (h1 : i < xs.length) (h2 : i < fs.length), F xs[i] = some fs[i] := by
 refine ⟨by simpa using congrArg List.length h, fun i h1 h2 => ?_⟩
 have := congrArg (fun l => l[i]?) h
 simpa [h1, h2] using this
theorem back_text {n : Nat} (hn : 1000000 < n) (h0 : ∃ y, acls_EntriesText n [] = some y) {s : ByteArray} (hs : s.size ≤ 40000) {fs : List GFile} {a : Int} (hp : acls_Parse n s = some (fs, a, 0)) : ∃ (t : ByteArray) (gs : List GFile), acls_Text n fs = some (t, true) ∧ acls_Parse n t = some (gs, 0, 0) ∧ acls_Text n gs = some (t, true) ∧ ref17_Same n fs gs = some true := by
 obtain ⟨r, r1, r2, _⟩ := parse_F hn (s := s) (by omega)
 rw [hp] at r1
 cases r1
 obtain ⟨q0, q1, q2⟩ := r2 rfl
 obtain ⟨k1, _⟩ := linesF_ok (s := s)
 obtain ⟨k1, k2, k3⟩ := k1 q0
 dsimp only at q2
 generalize (linesF s).1 = ls at q1 q2 k1 k2 k3
 obtain ⟨m1, m2⟩ := map_some_at q2
 generalize htss : ls.map (fun x => tx x.words) = tss
 have htl : tss.length = ls.length := by rw [← htss, List.length_map]
 have hti : ∀ (i : Nat) (h1 : i < tss.length) (h2 : i < ls.length), tss[i] = tx ls[i].words := fun i h1 h2 => by
  subst htss
  rw [List.getElem_map]
 have hall : ∀ ts ∈ tss, ts ≠ [] ∧ ts.length < 1000000 ∧ ∀ w ∈ ts, OKW w ∧ w.size < 1000000 := by
  intro ts ht
  rw [← htss] at ht
  obtain ⟨x, hx, rfl⟩ := List.mem_map.1 ht
  obtain ⟨a1, a2, a3⟩ := k1 x hx
  refine ⟨fun e => a1 (List.map_eq_nil_iff.1 e), by rw [tx, List.length_map]; omega, fun w hw => ?_⟩
  obtain ⟨v, hv, rfl⟩ := List.mem_map.1 hw
  have := a3 v hv
  exact ⟨this.1, by omega⟩
 have hok : ∀ ts ∈ tss, ∀ w ∈ ts, OKW w := fun ts ht w hw => ((hall ts ht).2.2 w hw).1
 have hlen : (rowsB tss).length ≤ 200000 := by
  have h1 := rowsB_len tss hok
  have h2 : (tss.map fun ts => (ts.map fun w => w.size + 1).sum + 1).sum = lsum ls + ls.length := by
   rw [← htss, List.map_map]
   unfold lsum
   clear q2 k1 k2 k3 m1 m2 htl hti hall hok h1 htss q1
   induction ls with
   | nil => rfl
   | cons x ls ih =>
    rw [List.map_cons, List.sum_cons, List.map_cons, List.sum_cons, List.length_cons, ih]
    have : ((fun ts : List ByteArray => (ts.map fun w => w.size + 1).sum + 1) ∘ fun x : GLine => tx x.words) x = wsum x.words + 1 := by
     simp [tx, wsum, Function.comp_def]
    rw [this]
    omega
  omega
 obtain ⟨n1, n2, n3⟩ := lns_rows tss 0 hok
 have hj := linesJ_tx tss 0 fun ts ht => (hall ts ht).1
 generalize linesJ tss 0 = js at n1 hj
 have hjl : js.length = tss.length := by rw [← hj, List.length_map]
 have hji : ∀ (i : Nat) (h1 : i < js.length) (h2 : i < tss.length), tx js[i].words = tss[i] := fun i h1 h2 => by
  subst hj
  rw [List.getElem_map]
 have hf : ∀ (i : Nat) (h1 : i < fs.length) (h2 : i < tss.length) (h3 : i < js.length), acls_toldFile n fs[i] = some (joinT tss[i] ⟨#[32]⟩) ∧ factF n tss[i] js[i].at_ = some (mkF fs[i] js[i]) ∧ smF fs[i] := by
  intro i h1 h2 h3
  have h4 : i < ls.length := by omega
  have e1 := m2 i h4 h1
  rw [← hti i h2 h4] at e1
  obtain ⟨_, b1, b2⟩ := hall tss[i] (List.getElem_mem h2)
  have b3 : ∀ t ∈ tss[i], t.size < 1000000 := fun t ht => (b2 t ht).2
  obtain ⟨c1, c2⟩ := fact_told hn h0 b1 b3 e1
  exact ⟨c1, c2 js[i].at_, fact_small hn b1 b3 e1⟩
 have hfl : fs.length = tss.length := by omega
 generalize hgs : (fs.zip js).map (fun p => mkF p.1 p.2) = gs
 have hgl : gs.length = fs.length := by rw [← hgs, List.length_map, List.length_zip]; omega
 have hgi : ∀ (i : Nat) (h1 : i < gs.length) (h2 : i < fs.length) (h3 : i < js.length), gs[i] = mkF fs[i] js[i] := fun i h1 h2 h3 => by
  subst hgs
  rw [List.getElem_map, List.getElem_zip]
 have ht1 : fs.map (acls_toldFile n) = tss.map (fun ts => some (joinT ts ⟨#[32]⟩)) := by
  apply List.ext_getElem
  ·rw [List.length_map, List.length_map, hfl]
  ·intro i i1 i2
   rw [List.length_map] at i1 i2
   rw [List.getElem_map, List.getElem_map]
   exact (hf i i1 i2 (by omega)).1
 have hg : ∀ (i : Nat) (h1 : i < gs.length) (h2 : i < tss.length) (h3 : i < js.length), factF n tss[i] js[i].at_ = some gs[i] := fun i h1 h2 h3 => by
  rw [hgi i h1 (by omega) h3]
  exact (hf i (by omega) h2 h3).2.1
 have ht2 : gs.map (acls_toldFile n) = tss.map (fun ts => some (joinT ts ⟨#[32]⟩)) := by
  apply List.ext_getElem
  ·rw [List.length_map, List.length_map, hgl, hfl]
  ·intro i i1 i2
   rw [List.length_map] at i1 i2
   rw [List.getElem_map, List.getElem_map]
   obtain ⟨_, b1, b2⟩ := hall tss[i] (List.getElem_mem i2)
   exact (fact_told hn h0 b1 (fun t ht => (b2 t ht).2) (hg i i1 i2 (by omega))).1
 obtain ⟨t, t1, t2⟩ := text_L fs tss ⟨#[]⟩ ht1 (by show 0 + _ ≤ _; omega)
 obtain ⟨t', t3, t4⟩ := text_L gs tss ⟨#[]⟩ ht2 (by show 0 + _ ≤ _; omega)
 have t2 : t.data.toList = rowsB tss := t2
 have t4 : t'.data.toList = rowsB tss := t4
 have htt : t' = t := bytes_inj (t4.trans t2.symm)
 rw [htt] at t3
 have htz : t.size = (rowsB tss).length := by rw [← bsize, t2]
 have hF : linesF t = (js, 0, 0) := by
  rw [linesF_good2 (by omega) (by rw [t2, n3]; omega) (by rw [t2, n2]), t2, n1]
 have hP : acls_Parse n t = some (gs, 0, 0) := by
  obtain ⟨r, r1, _, r3⟩ := parse_F hn (s := t) (by omega)
  rw [hF] at r3
  rw [r1, r3 rfl (by show js.length ≤ 2000; omega) gs ?_]
  apply List.ext_getElem
  ·rw [List.length_map, List.length_map]
   show js.length = gs.length
   omega
  ·intro i i1 i2
   rw [List.length_map] at i1 i2
   rw [List.getElem_map, List.getElem_map]
   have i1 : i < js.length := i1
   have := hji i i1 (by omega)
   show factF n (tx js[i].words) js[i].at_ = some gs[i]
   rw [this]
   exact hg i i2 (by omega) i1
 have al : ∀ (i : Nat) (h1 : i < gs.length) (h2 : i < fs.length), AlF gs[i] fs[i] ∧ smF gs[i] := fun i h1 h2 => by
  rw [hgi i h1 h2 (by omega)]
  exact ⟨⟨rfl, rfl, rfl, rfl, rfl, rfl⟩, (hf i h2 (by omega) (by omega)).2.2⟩
 refine ⟨t, gs, ?_, hP, ?_, ?_⟩
 ·unfold acls_Text grd
  rw [if_pos (decide_eq_true (by omega)), t1, Option.bind_some]
  dsimp only
  rw [hP, Option.bind_some]
  dsimp only
  rw [show ((0 : Int) != 0) = false from rfl, if_neg Bool.false_ne_true, same_all hn hgl (by omega) al]
  rfl
 ·unfold acls_Text grd
  rw [if_pos (decide_eq_true (by omega)), t3, Option.bind_some]
  dsimp only
  rw [hP, Option.bind_some]
  dsimp only
  rw [show ((0 : Int) != 0) = false from rfl, if_neg Bool.false_ne_true, same_all hn rfl (by omega) fun i h1 h2 => ⟨⟨rfl, rfl, rfl, rfl, rfl, rfl⟩, (al i h1 (by omega)).2⟩]
  rfl
 ·refine rS_all hn hgl.symm (by omega) fun i h1 h2 => ?_
  obtain ⟨⟨a1, a2, a3, a4, a5, a6⟩, _⟩ := al i h2 h1
  exact ⟨⟨a1.symm, a2.symm, a3.symm, a4.symm, a5.symm, a6.symm⟩, (hf i h1 (by omega) (by omega)).2.2⟩
end Go.Proofs.YtkikhbfdadambaaDoor.Ab
