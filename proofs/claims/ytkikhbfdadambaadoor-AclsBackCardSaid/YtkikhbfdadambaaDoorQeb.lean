/-
 Entries that are read are told back as they were. No program in sight.
-/
import Derived.Test.YtkikhbfdadambaaDoorQea
namespace Go.Proofs.YtkikhbfdadambaaDoor.Ab
open Go.RowKit
theorem of_list (s : ByteArray) : (⟨s.data.toList.toArray⟩ : ByteArray) = s := by
 cases s
 rfl
theorem cut_prefix (n : Nat) {s : ByteArray} (hs : s.size < 1000000) : ∃ (rest : ByteArray) (d : Bool), strings_CutPrefix n s ⟨#[100, 58]⟩ = some (rest, d) ∧ s.data.toList = (if d then [100, 58] else []) ++ rest.data.toList ∧ rest.size ≤ s.size := by
 unfold strings_CutPrefix stringslite_CutPrefix stringslite_HasPrefix
 rw [show ((⟨#[100, 58]⟩ : ByteArray).size : Int) = ((2 : Nat) : Int) from rfl]
 by_cases h : 2 ≤ s.size
 ·have hsl : bslc s 0 ((2 : Nat) : Int) = some (s.extract 0 2) := bslcS (s := s) (a := 0) (Nat.zero_le _) h
  rw [show decide (((2 : Nat) : Int) ≤ (s.size : Int)) = true from decide_eq_true (by omega), if_pos rfl, hsl, Option.bind_some, Option.bind_some, eqT]
  by_cases h2 : (s.extract 0 2).data.toList = (⟨#[100, 58]⟩ : ByteArray).data.toList
  ·rw [decide_eq_true h2, if_pos rfl, bslcS h (Nat.le_refl _), Option.bind_some, Option.bind_some]
   refine ⟨_, true, rfl, ?_, by rw [ext_size s (Nat.le_refl _)]; omega⟩
   rw [list_ext, List.drop_zero] at h2
   rw [list_ext, List.take_of_length_le (by rw [bsize]; omega), if_pos rfl]
   have := (List.take_append_drop 2 s.data.toList).symm
   rw [h2] at this
   exact this
  ·rw [decide_eq_false h2, if_neg Bool.false_ne_true, Option.bind_some]
   exact ⟨s, false, rfl, rfl, Nat.le_refl _⟩
 ·rw [show decide (((2 : Nat) : Int) ≤ (s.size : Int)) = false from decide_eq_false (by omega), if_neg Bool.false_ne_true, Option.bind_some, if_neg Bool.false_ne_true, Option.bind_some]
  exact ⟨s, false, rfl, rfl, Nat.le_refl _⟩
theorem letter_size {k : Nat} {t : ByteArray} (hk : k ≤ 6) (h : letterT[k]? = some t) : t.size ≤ 1 := by
 match k, hk with
 | 0, _ | 1, _ | 2, _ | 3, _ | 4, _ | 5, _ | 6, _ =>
  cases h
  exact Nat.le_of_ble_eq_true rfl
theorem entry_some {n : Nat} (hn : 1000000 < n) {s : ByteArray} (hs : s.size < 1000000) : ∃ (x : GEntry) (b : Bool), acls_entry n s = some (x, b) ∧ (b = true → acls_told n x = some s) := by
 have no : ∀ x : GEntry, ∃ (x' : GEntry) (b : Bool), (some (x, false) : Option (GEntry × Bool)) = some (x', b) ∧ (b = true → acls_told n x' = some s) := fun x => ⟨x, false, rfl, fun h => by cases h⟩
 obtain ⟨rest, d, h1, h2, h3⟩ := cut_prefix n hs
 have hc := splitT_cut 58 rest
 have hj := join_cutL 58 rest.data.toList
 have hm := cut_mem 58 rest.data.toList
 rw [← hc] at hj hm
 rw [bsize] at hm
 unfold acls_entry
 rw [h1, Option.bind_some]
 dsimp only
 rw [split_some n 58 (by omega), Option.bind_some]
 generalize splitT 58 rest = ps at hj hm
 by_cases hl : ps.length = 3
 ·obtain ⟨a, b, e, rfl⟩ : ∃ a b e, ps = [a, b, e] := by
   match ps, hl with
   | [a, b, e], _ => exact ⟨a, b, e, rfl⟩
  have ha : a.size ≤ rest.size := by have := hm a.data.toList (by simp); rwa [bsize] at this
  have hb : b.size ≤ rest.size := by have := hm b.data.toList (by simp); rwa [bsize] at this
  rw [show ((([a, b, e] : List ByteArray).length : Int) != 3) = false from rfl, if_neg Bool.false_ne_true, show idx [a, b, e] 1 = some b from rfl, show idx [a, b, e] 2 = some e from rfl, show idx [a, b, e] 0 = some a from rfl]
  simp only [Option.bind_some]
  rw [emptyB, atomName_some b (by omega) (by omega)]
  have hcase : (((if decide (b.size = 0) then some false else (some (nameB b)).bind fun t29 => some (!t29)) : Option Bool) = some true) ∨ ((((if decide (b.size = 0) then some false else (some (nameB b)).bind fun t29 => some (!t29)) : Option Bool) = some false) ∧ b.size ≤ 30) := by
   by_cases h0 : b.size = 0
   ·exact .inr ⟨by rw [decide_eq_true h0]; rfl, by omega⟩
   ·rw [decide_eq_false h0, if_neg Bool.false_ne_true, Option.bind_some]
    cases hnm : nameB b with
    | false => exact .inl rfl
    | true =>
     refine .inr ⟨rfl, ?_⟩
     unfold nameB at hnm
     simp only [Bool.and_eq_true, decide_eq_true_eq] at hnm
     exact hnm.1.1.2
  rcases hcase with hcase | ⟨hcase, hbs⟩
  ·rw [hcase, Option.bind_some, if_pos rfl]
   exact no _
  ·rw [hcase, Option.bind_some, if_neg Bool.false_ne_true]
   obtain ⟨m, bb, m1, m2⟩ := bits_some hn e
   obtain ⟨k, k1, k2, k3⟩ := kind_some n a (!(decide (b.size = 0)))
   rw [m1, Option.bind_some, k1, Option.bind_some]
   cases bb with
   | false => exact no _
   | true =>
    obtain ⟨q, rfl, q2, q3⟩ := m2 rfl
    rw [if_pos rfl]
    refine ⟨_, _, rfl, fun h => ?_⟩
    have hk0 : 0 < k := by
     have := of_decide_eq_true h
     omega
    have hlet := k3 hk0
    obtain ⟨r, r1, r2⟩ := told_some hn (x := ⟨(k : Int), d, b, (q : Int)⟩) (k := k) (m := q) (t := a) rfl hk0 k2 hlet rfl q2 (by show b.size ≤ 1000; omega) (letter_size k2 hlet)
    rw [r1]
    refine congrArg some (bytes_inj ?_)
    rw [r2, h2, ← hj, ← q3]
    simp only [List.map_cons, List.map_nil, Lib.join_cons, Lib.joinTail, List.flatten_cons, List.flatten_nil, List.append_nil, List.cons_append, List.nil_append]
 ·have : ((ps.length : Int) != 3) = true := by rw [bne_iff_ne]; omega
  rw [this, if_pos rfl, Option.bind_some, if_pos rfl]
  exact no _
def TR (n : Nat) (out : List GEntry) (ps : List ByteArray) : Prop := out.map (acls_told n) = ps.map some
theorem TR.len {n : Nat} {out : List GEntry} {ps : List ByteArray} (h : TR n out ps) : out.length = ps.length := by
 have := congrArg List.length h
 simpa using this
theorem TR.at {n : Nat} {out : List GEntry} {ps : List ByteArray} (h : TR n out ps) {k : Nat} (h1 : k < out.length) (h2 : k < ps.length) : acls_told n out[k] = some ps[k] := by
 have := congrArg (fun l => l[k]?) h
 simpa [h1, h2] using this
theorem entries_at {n : Nat} (hn : 1000000 < n) {ps : List ByteArray} (hp : ∀ p ∈ ps, p.size < 1000000) (hl : ps.length ≤ 100) : ∀ (c i : Nat) (out : List GEntry), i ≤ ps.length → ps.length - i < c → TR n out (ps.take i) → ∃ r, acls_Entries_L1 n ps c (out, (i : Int)) = some r ∧ (r = .inr ([], false) ∨ ∃ l, r = .inl l ∧ TR n l ps)
 | 0, _, _, _, h, _ => by omega
 | c + 1, i, out, hi, hc, ht => by
  have htl := ht.len
  rw [List.length_take] at htl
  rw [acls_Entries_L1]
  by_cases h : i < ps.length
  ·obtain ⟨x, b, x1, x2⟩ := entry_some hn (hp ps[i] (List.getElem_mem h))
   rw [dlt h, if_pos rfl, idxS h, Option.bind_some, x1, Option.bind_some]
   cases b with
   | false => exact ⟨_, rfl, .inl rfl⟩
   | true =>
    rw [if_pos rfl, appS (by rw [List.length_singleton]; omega), Option.bind_some, wr1 (by omega)]
    refine entries_at hn hp hl c (i + 1) _ (by omega) (by omega) ?_
    unfold TR
    rw [List.map_append, ht, List.take_succ_eq_append_getElem h, List.map_append, List.map_singleton, List.map_singleton]
    congr 2
    exact x2 rfl
  ·rw [dnlt (by omega), if_neg Bool.false_ne_true]
   refine ⟨_, rfl, .inr ⟨out, rfl, ?_⟩⟩
   rw [List.take_of_length_le (by omega)] at ht
   exact ht
theorem etext_at {n : Nat} {l : List GEntry} {ps : List ByteArray} (ht : TR n l ps) (hl : ps.length ≤ 100) : ∀ (c i : Nat), i ≤ ps.length → ps.length - i < c → acls_EntriesText_L1 n l c (ps.take i, (i : Int)) = some ps
 | 0, _, _, h => by omega
 | c + 1, i, hi, hc => by
  have hlen := ht.len
  rw [acls_EntriesText_L1]
  by_cases h : i < ps.length
  ·have h1 : i < l.length := by omega
   rw [dlt h1, if_pos rfl, idxS h1, Option.bind_some, ht.at h1 h, Option.bind_some, appS (by rw [List.length_singleton, List.length_take]; omega), Option.bind_some, wr1 (by omega), ← List.take_succ_eq_append_getElem h]
   exact etext_at ht hl c (i + 1) (by omega) (by omega)
  ·rw [dnlt (by omega), if_neg Bool.false_ne_true, List.take_of_length_le (by omega)]
theorem eqE_at {n : Nat} {l : List GEntry} (hl : l.length < 1000000) : ∀ (c k : Nat), k ≤ l.length → l.length - k < c → slices_Equal_Entry_L1 n l l c (k : Int) = some (.inl ())
 | 0, _, _, h => by omega
 | c + 1, k, hk, hc => by
  rw [slices_Equal_Entry_L1]
  by_cases h : k < l.length
  ·rw [dlt h, if_pos rfl, idxS h, Option.bind_some, Option.bind_some, wr1 (by omega), eqE_at hl c (k + 1) (by omega) (by omega)]
   simp
  ·rw [dnlt (by omega), if_neg Bool.false_ne_true]
theorem eqE_self {n : Nat} {l : List GEntry} (hl : l.length < 1000000) (hn : 1000000 < n) : slices_Equal_Entry n l l = some true := by
 unfold slices_Equal_Entry
 have h : slices_Equal_Entry_L1 n l l n 0 = _ := eqE_at (n := n) hl n 0 (by omega) (by omega)
 rw [show ((l.length : Int) != (l.length : Int)) = false by simp, if_neg Bool.false_ne_true, h]
 rfl
theorem entries_some {n : Nat} (hn : 1000000 < n) {s : ByteArray} (hs : s.size < 1000000) : ∃ (l : List GEntry) (b : Bool), acls_Entries n s = some (l, b) ∧ l.length ≤ 100 ∧ (b = true → acls_EntriesText n l = some (s, true)) := by
 have hc := splitT_cut 44 s
 have hj := join_cutL 44 s.data.toList
 have hm := cut_mem 44 s.data.toList
 rw [← hc] at hj hm
 rw [bsize] at hm
 have hE : acls_Entries n s = acls_Entries n s := rfl
 conv at hE => rhs; unfold acls_Entries
 rw [split_some n 44 hs, Option.bind_some] at hE
 generalize splitT 44 s = ps at hj hm hE
 by_cases hl : ps.length ≤ 100
 ·have hp : ∀ p ∈ ps, p.size < 1000000 := fun p hp => by
   have := hm p.data.toList (List.mem_map_of_mem hp)
   rw [bsize] at this
   omega
  have hr : ∃ r, acls_Entries_L1 n ps n ([], 0) = some r ∧ (r = .inr ([], false) ∨ ∃ l, r = .inl l ∧ TR n l ps) := entries_at hn hp hl n 0 [] (by omega) (by omega) rfl
  obtain ⟨r, r1, r2⟩ := hr
  rw [show decide ((100 : Int) < (ps.length : Int)) = false from decide_eq_false (by omega), if_neg Bool.false_ne_true, r1, Option.bind_some] at hE
  rcases r2 with rfl | ⟨l, rfl, ht⟩
  ·exact ⟨[], false, hE, by simp, fun h => by cases h⟩
  ·have hlen := ht.len
   have hE : acls_Entries n s = some (l, true) := hE
   refine ⟨l, true, hE, by omega, fun _ => ?_⟩
   have hL : acls_EntriesText_L1 n l n ([], 0) = some ps := etext_at ht hl n 0 (by omega) (by omega)
   have hjs : joinT ps ⟨#[44]⟩ = s := by
    unfold joinT
    rw [show (⟨#[44]⟩ : ByteArray).data.toList = [44] from rfl, hj, of_list]
   have hjl : (Lib.join (ps.map (·.data.toList)) (⟨#[44]⟩ : ByteArray).data.toList).length ≤ 140737488355328 := by
    rw [show (⟨#[44]⟩ : ByteArray).data.toList = [44] from rfl, hj, bsize]
    omega
   unfold acls_EntriesText strings_Join
   rw [show decide ((100 : Int) < (l.length : Int)) = false from decide_eq_false (by omega), if_neg Bool.false_ne_true, hL, Option.bind_some, if_pos ⟨by omega, hjl⟩, Option.bind_some, hjs, hE, Option.bind_some]
   dsimp only
   rw [if_pos rfl, eqE_self (by omega) hn, Option.bind_some, if_pos rfl]
 ·rw [show decide ((100 : Int) < (ps.length : Int)) = true from decide_eq_true (by omega), if_pos rfl] at hE
  exact ⟨[], false, hE, by simp, fun h => by cases h⟩
end Go.Proofs.YtkikhbfdadambaaDoor.Ab
