/-
 Files of numbers are texts of few bytes; entries of numbers are entries. No program in sight.
-/
import Derived.Test.YtkikhbfdadambaaDoorQca
namespace Go.Proofs.YtkikhbfdadambaaDoor.Ab
open Go.RowKit
theorem acl_size {n : Nat} (hn : 10 < n) (t : Int) (d : Bool) : Tot (law17_Acl n t d) fun s => s.size ≤ 150 := by
 refine (acl_text hn t d).mono ?_
 rintro s ⟨is, h1, h2⟩
 have h3 := h2.len
 rw [bsize] at h3
 unfold goodIs at h1
 simp only [Bool.and_eq_true, decide_eq_true_eq] at h1
 have := h1.2.2.2.2
 omega
theorem tz {β : Type} {a b : ByteArray} {f : ByteArray → Option β} {R : β → Prop} {p q : Nat} (ha : a.size ≤ p) (hb : b.size ≤ q) (h : Nat.ble (p + q) 100000 = true) (k : ∀ s : ByteArray, s.size ≤ p + q → Tot (f s) R) : Tot ((cat a b).bind f) R := by
 have := Nat.le_of_ble_eq_true h
 rw [catS (by unfold maxLen; omega), Option.bind_some]
 exact k _ (by rw [ByteArray.size_append]; omega)
theorem small_all {l : List ByteArray} {m : Nat} (h : (l.all fun b => Nat.ble b.size m) = true) : ∀ x ∈ l, x.size ≤ m := fun x hx => Nat.le_of_ble_eq_true (List.all_eq_true.1 h x hx)
theorem base_size {n : Nat} (hn : 10 < n) (v : Int) : Tot (law17_Base n v) fun s => s.size ≤ 5000 := by
 unfold law17_Base
 refine tot_bind (tot_an (m := 3) (by decide) (by decide) rfl (small_all (m := 3) rfl)) fun x hx => ?_
 refine tz (p := 100) (Nat.le_of_ble_eq_true (by kernel_rfl)) hx (by rfl) fun s hs => ?_
 refine tz (p := 103) (q := 11) hs (Nat.le_of_ble_eq_true (by rfl)) (by rfl) fun s hs => ?_
 repeat (first
  | refine tz (by first | assumption | exact Nat.le_refl _) (by first | assumption | exact Nat.le_refl _) (by rfl) fun s hs => ?_
  | refine tot_bind (acl_size hn _ _) fun s hs => ?_)
 exact tot_some (Nat.le_trans (by assumption) (Nat.le_of_ble_eq_true (by rfl)))
theorem tot_b4 {a b c d : Bool} : Tot ((if a then some true else (if b then some true else (if c then some true else some d))) : Option Bool) fun _ => True := by
 cases a <;> cases b <;> cases c <;> exact tot_some trivial
theorem line_size {n : Nat} (hn : 10 < n) (v : Int) : Tot (law17_Line n v) fun s => s.size ≤ 1000 := by
 unfold law17_Line
 refine tot_bind (tot_tm (m := 3) (by decide) rfl (small_all (m := 1) rfl)) fun x hx => ?_
 refine tot_bind (tot_an (m := 1) (by decide) (by decide) rfl (small_all (m := 1) rfl)) fun x2 hx2 => ?_
 refine tot_bind (tot_tm (m := 5) (by decide) rfl (small_all (m := 6) rfl)) fun x3 hx3 => ?_
 refine tot_bind tot_b4 fun b1 _ => tot_ite (fun _ => ?_) fun _ => ?_
 ·repeat (first
   | refine tz (by first | assumption | exact Nat.le_refl _) (by first | assumption | exact Nat.le_refl _) (by rfl) fun s hs => ?_
   | refine tot_bind (acl_size hn _ _) fun s hs => ?_)
  exact tot_some (Nat.le_trans (by assumption) (Nat.le_of_ble_eq_true (by rfl)))
 ·refine tot_bind tot_b4 fun b2 _ => tot_ite (fun _ => ?_) fun _ => tot_ite (fun _ => ?_) fun _ => tot_ite (fun _ => ?_) fun _ => tot_ite (fun _ => ?_) fun _ => ?_
  ·repeat (first
    | refine tz (by first | assumption | exact Nat.le_refl _) (by first | assumption | exact Nat.le_refl _) (by rfl) fun s hs => ?_
    | refine tot_bind (acl_size hn _ _) fun s hs => ?_)
   exact tot_some (Nat.le_trans (by assumption) (Nat.le_of_ble_eq_true (by rfl)))
  ·refine tz (Nat.le_refl _) hx rfl fun s hs => ?_
   exact tot_some (Nat.le_trans (by assumption) (Nat.le_of_ble_eq_true (by rfl)))
  ·exact tot_some (Nat.le_of_ble_eq_true rfl)
  ·refine tot_bind (tot_an (m := 3) (by decide) (by decide) rfl (small_all (m := 6) rfl)) fun x4 hx4 => ?_
   repeat (first
    | refine tz (by first | assumption | exact Nat.le_refl _) (by first | assumption | exact Nat.le_refl _) (by rfl) fun s hs => ?_
    | refine tot_bind (acl_size hn _ _) fun s hs => ?_)
   exact tot_some (Nat.le_trans (by assumption) (Nat.le_of_ble_eq_true (by rfl)))
  ·refine tot_bind (tot_an (m := 7) (by decide) (by decide) rfl (small_all (m := 30) rfl)) fun x5 hx5 => ?_
   exact tot_some (by omega)
theorem filex_at {n : Nat} (hn : 1000000 < n) {l : List Int} : ∀ (c i : Nat) (s : ByteArray), i ≤ l.length → i ≤ 20 → 20 - i < c → s.size ≤ 5000 + 1001 * i → Tot (law17_File_L1 n l c (s, (i : Int))) fun r => r.size ≤ 40000
 | 0, _, _, _, _, h, _ => by omega
 | c + 1, i, s, hi, h20, hc, hs => by
  have e : decide ((i : Int) < 20) = decide (i < 20) := dI i 20
  rw [law17_File_L1, e]
  by_cases h : i < l.length ∧ i < 20
  ·rw [dlt h.1, if_pos rfl, show decide (i < 20) = true from decide_eq_true h.2, Option.bind_some, if_pos rfl, idxS h.1, Option.bind_some]
   refine tot_bind (line_size (by omega) _) fun t ht => ?_
   have s1 : (s ++ t).size = s.size + t.size := ByteArray.size_append
   have s2 : (s ++ t ++ ⟨#[10]⟩ : ByteArray).size = s.size + t.size + 1 := by rw [ByteArray.size_append, s1]; rfl
   rw [catS (by unfold maxLen; omega), Option.bind_some, catS (by rw [s1]; show _ + 1 ≤ _; unfold maxLen; omega), Option.bind_some, wr1 (by omega)]
   exact filex_at hn c (i + 1) _ (by omega) (by omega) (by omega) (by omega)
  ·have hf : ((if (decide ((i : Int) < (l.length : Int))) then some (decide (i < 20)) else some false) : Option Bool) = some false := by
    by_cases h1 : i < l.length
    ·rw [dlt h1, if_pos rfl, show decide (i < 20) = false from decide_eq_false (by omega)]
    ·rw [dnlt (by omega), if_neg Bool.false_ne_true]
   rw [hf, Option.bind_some, if_neg Bool.false_ne_true]
   exact tot_some (by omega)
theorem file_size {n : Nat} (hn : 1000000 < n) (l : List Int) (b : Bool) : Tot (law17_File n l b) fun s => s.size ≤ 40000 := by
 unfold law17_File
 have h1 : Tot ((if b then (if (decide (0 < (l.length : Int))) then (idx l 0).bind fun x => (law17_Base n x).bind fun t16 => some t16 else (law17_Base n 388058199295).bind fun t162 => some t162) else some ({ data := #[] }) : Option ByteArray)) fun s => s.size ≤ 5000 := by
  refine tot_ite (fun _ => tot_ite (fun h => ?_) fun _ => ?_) fun _ => tot_some (Nat.zero_le _)
  ·have := of_decide_eq_true h
   have h0 : idx l 0 = some l[0] := idxS (k := 0) (by omega)
   rw [h0, Option.bind_some]
   exact tot_bind (base_size (by omega) _) fun s hs => tot_some hs
  ·exact tot_bind (base_size (by omega) _) fun s hs => tot_some hs
 refine tot_bind h1 fun s hs => ?_
 have hL : Tot (law17_File_L1 n l n (s, 0)) _ := filex_at hn n 0 s (by omega) (by omega) (by omega) (by omega)
 exact tot_bind hL fun r hr => tot_some hr
theorem no44 {p b : List UInt8} (hp : p ∈ pfx) (hb : b ∈ bt8) : (44 : UInt8) ∉ p ++ b := by
 have h1 : ∀ p ∈ pfx, (44 : UInt8) ∉ p := by decide
 have h2 : ∀ b ∈ bt8, (44 : UInt8) ∉ b := by decide
 intro h
 rcases List.mem_append.1 h with h | h
 ·exact h1 p hp h
 ·exact h2 b hb h
theorem AclT.cut {is : List Nat} {l : List UInt8} (h : AclT is l) : (cutL 44 l).length = is.length ∧ ∀ q ∈ cutL 44 l, ∃ p ∈ pfx, ∃ b ∈ bt8, q = p ++ b := by
 induction h with
 | one hp hb =>
  have hp := List.mem_of_getElem? hp
  rw [cutL_no (no44 hp hb)]
  refine ⟨rfl, fun q hq => ?_⟩
  rw [List.mem_singleton] at hq
  exact ⟨_, hp, _, hb, hq⟩
 | cons hp hb _ ih =>
  have hp := List.mem_of_getElem? hp
  rw [← List.append_assoc, cutL_pre (no44 hp hb)]
  refine ⟨by rw [List.length_cons, List.length_cons, ih.1], fun q hq => ?_⟩
  rcases List.mem_cons.1 hq with rfl | hq
  ·exact ⟨_, hp, _, hb, rfl⟩
  ·exact ih.2 q hq
def isTrue2 (o : Option (GEntry × Bool)) : Bool := match o with
 | some (_, true) => true
 | _ => false
theorem entry_all : (pfx.all fun p => bt8.all fun b => isTrue2 (acls_entry 1000001 ⟨(p ++ b).toArray⟩)) = true := by kernel_rfl
theorem entry_yes {s : ByteArray} {p b : List UInt8} (hp : p ∈ pfx) (hb : b ∈ bt8) (hs : s.data.toList = p ++ b) : ∃ x, acls_entry 1000001 s = some (x, true) := by
 have h := List.all_eq_true.1 (List.all_eq_true.1 entry_all p hp) b hb
 rw [← hs, of_list] at h
 unfold isTrue2 at h
 split at h
 ·rename_i x e
  exact ⟨x, e⟩
 ·cases h
theorem entries_yes_at {n : Nat} {ps : List ByteArray} (hp : ∀ p ∈ ps, ∃ x, acls_entry n p = some (x, true)) (hl : ps.length ≤ 100) : ∀ (c i : Nat) (out : List GEntry), i ≤ ps.length → ps.length - i < c → out.length ≤ i → ∃ l, acls_Entries_L1 n ps c (out, (i : Int)) = some (.inl l)
 | 0, _, _, _, h, _ => by omega
 | c + 1, i, out, hi, hc, ho => by
  rw [acls_Entries_L1]
  by_cases h : i < ps.length
  ·obtain ⟨x, hx⟩ := hp ps[i] (List.getElem_mem h)
   rw [dlt h, if_pos rfl, idxS h, Option.bind_some, hx, Option.bind_some]
   dsimp only
   rw [if_pos rfl, appS (by rw [List.length_singleton]; omega), Option.bind_some, wr1 (by omega)]
   exact entries_yes_at hp hl c (i + 1) _ (by omega) (by omega) (by rw [List.length_append, List.length_singleton]; omega)
  ·rw [dnlt (by omega), if_neg Bool.false_ne_true]
   exact ⟨out, rfl⟩
theorem acl_entries (t : Int) : ∃ (s : ByteArray) (is : List Nat) (m : List GEntry), law17_Acl 1000001 t true = some s ∧ s.size ≤ 150 ∧ AclT is s.data.toList ∧ acls_Entries 1000001 s = some (m, true) ∧ acls_EntriesText 1000001 m = some (s, true) := by
 have hn : 1000000 < 1000001 := by decide
 obtain ⟨s, e, is, h1, h2⟩ := acl_text (n := 1000001) (by decide) t true
 obtain ⟨s', e', hz⟩ := acl_size (n := 1000001) (by decide) t true
 rw [e] at e'
 cases e'
 have hlen : is.length ≤ 15 := by
  unfold goodIs at h1
  simp only [Bool.and_eq_true, decide_eq_true_eq] at h1
  exact h1.2.2.2.2
 obtain ⟨c1, c2⟩ := h2.cut
 have hc := splitT_cut 44 s
 obtain ⟨m, b, m1, m2, m3⟩ := entries_some hn (s := s) (by omega)
 have hps : (splitT 44 s).length ≤ 100 := by
  have := congrArg List.length hc
  rw [List.length_map] at this
  omega
 have hpe : ∀ p ∈ splitT 44 s, ∃ x, acls_entry 1000001 p = some (x, true) := fun p hp => by
  have : p.data.toList ∈ cutL 44 s.data.toList := hc ▸ List.mem_map_of_mem hp
  obtain ⟨q, hq, b, hb, he⟩ := c2 _ this
  exact entry_yes hq hb he
 have hL : ∃ l, acls_Entries_L1 1000001 (splitT 44 s) 1000001 ([], 0) = some (.inl l) := entries_yes_at hpe hps 1000001 0 [] (Nat.zero_le _) (by omega) (Nat.zero_le _)
 obtain ⟨l, hL⟩ := hL
 have hE : acls_Entries 1000001 s = some (l, true) := by
  unfold acls_Entries
  rw [split_some _ 44 (by omega), Option.bind_some, show decide ((100 : Int) < ((splitT 44 s).length : Int)) = false from decide_eq_false (by omega), if_neg Bool.false_ne_true, hL]
  rfl
 rw [m1] at hE
 cases hE
 exact ⟨s, is, _, e, hz, h2, m1, m3 rfl⟩
theorem AclT.bytes {is : List Nat} {l : List UInt8} (h : AclT is l) : (∀ x ∈ l, badB x = false ∧ gapB x = false) ∧ l ≠ [] ∧ l.head? ≠ some 35 := by
 have hp0 : ∀ p ∈ pfx, (∀ x ∈ p, badB x = false ∧ gapB x = false) ∧ p ≠ [] ∧ p.head? ≠ some 35 := by decide
 have hb0 : ∀ b ∈ bt8, ∀ x ∈ b, badB x = false ∧ gapB x = false := by decide
 have hd : ∀ (p r : List UInt8), p ≠ [] → p.head? ≠ some 35 → p ++ r ≠ [] ∧ (p ++ r).head? ≠ some 35 := fun p r h1 h2 => by
  cases p with
  | nil => exact absurd rfl h1
  | cons x p => exact ⟨by simp, h2⟩
 induction h with
 | one hp hb =>
  obtain ⟨a1, a2, a3⟩ := hp0 _ (List.mem_of_getElem? hp)
  refine ⟨fun x hx => ?_, hd _ _ a2 a3⟩
  rcases List.mem_append.1 hx with hx | hx
  ·exact a1 x hx
  ·exact hb0 _ hb x hx
 | cons hp hb _ ih =>
  obtain ⟨a1, a2, a3⟩ := hp0 _ (List.mem_of_getElem? hp)
  refine ⟨fun x hx => ?_, hd _ _ a2 a3⟩
  rcases List.mem_append.1 hx with hx | hx
  ·exact a1 x hx
  ·rcases List.mem_append.1 hx with hx | hx
   ·exact hb0 _ hb x hx
   ·rcases List.mem_cons.1 hx with rfl | hx
    ·decide
    ·exact ih.1 x hx
theorem acl_word {is : List Nat} {s : ByteArray} (h : AclT is s.data.toList) : OKW s := by
 obtain ⟨h1, h2, h3⟩ := h.bytes
 exact ⟨⟨h2, fun x hx => (h1 x hx).2, h3⟩, fun x hx => (h1 x hx).1⟩
end Go.Proofs.YtkikhbfdadambaaDoor.Ab
