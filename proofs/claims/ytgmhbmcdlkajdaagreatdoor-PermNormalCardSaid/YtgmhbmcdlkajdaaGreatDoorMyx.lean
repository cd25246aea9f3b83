/-
 Who may what, through each directory: the program's answer is the document's. No program in sight.
-/
import Derived.Test.YtgmhbmcdlkajdaaGreatDoorCnx
namespace Go.Proofs.YtgmhbmcdlkajdaaGreatDoor.Ab
open Go.RowKit
def passB (l : List GFile) (u : ByteArray) : Nat → ByteArray → Bool
 | 0, _ => true
 | c + 1, p => decide (p.size = 0) || (canB l u p 1 && passB l u c (parentT p))
theorem pathL_size {s : ByteArray} (h : pathL s.data.toList = true) : 0 < s.size ∧ s.size ≤ 200 := by
 unfold pathL at h
 simp only [Bool.or_eq_true, Bool.and_eq_true, decide_eq_true_eq] at h
 rw [← bsize]
 rcases h with h | h
 ·rw [h]; decide
 ·have := h.1.1
  omega
theorem can_path {l : List GFile} (hg : GoodL l) {u p : ByteArray} {b : Int} (h : canB l u p b = true) : pathL p.data.toList = true := by
 unfold canB at h
 rw [Bool.and_eq_true] at h
 obtain ⟨m1, m2, m3⟩ := findF_mem h.1
 have := (hg.1 _ m1).2.1 (of_decide_eq_true m2)
 rwa [m3] at this
theorem parent_cases {s : ByteArray} (hp : pathL s.data.toList = true) : (s = { data := #[47] } ∧ parentT s = { data := #[] }) ∨ (s ≠ { data := #[47] } ∧ acls_Parent NF s = some (parentT s) ∧ 0 < (parentT s).size ∧ (parentT s).size < s.size) := by
 by_cases h : s.data.toList = [47]
 ·have e : s = { data := #[47] } := bytes_inj h
  refine .inl ⟨e, ?_⟩
  unfold parentT
  rw [e, parent_top (show 1000 < NF by decide)]
  rfl
 ·obtain ⟨p, h1, h2, h3, h4⟩ := parent_both hp h (show 1000 < NF by decide)
  have e : parentT s = p := by
   unfold parentT
   rw [h1]
   rfl
  refine .inr ⟨fun e2 => h (by rw [e2]), ?_, ?_, ?_⟩
  ·rw [e]; exact h2
  ·rw [e]; exact h4
  ·rw [e]; exact h3
theorem may_loop {l : List GFile} {u : ByteArray} (hg : GoodL l) (hl : l.length ≤ 20000) : ∀ (m : Nat) (p : ByteArray) (c d : Nat), pathL p.data.toList = true → p.size < m → p.size < c → p.size < d → perm_May_L1 NF l u c p = some (if passB l u m (parentT p) then .inl () else .inr false) ∧ ref17_May_L1 NF l u d (parentT p) = some (if passB l u m (parentT p) then .inl () else .inr false)
 | 0, _, _, _, _, h, _, _ => by omega
 | m + 1, p, c, d, hp, hm, hc, hd => by
  obtain ⟨c, rfl⟩ : ∃ e, c = e + 1 := ⟨c - 1, by omega⟩
  obtain ⟨d, rfl⟩ : ∃ e, d = e + 1 := ⟨d - 1, by omega⟩
  have hz := pathL_size hp
  rw [perm_May_L1, ref17_May_L1, eq47]
  rcases parent_cases hp with ⟨h1, h2⟩ | ⟨h0, ha, h3, h4⟩
  ·rw [h1] at h2 ⊢
   rw [h2, emptyB]
   exact ⟨rfl, rfl⟩
  ·have hn : decide (p.data.toList = [47]) = false := decide_eq_false fun e => h0 (bytes_inj e)
   have he : ((parentT p).toList == ({ data := #[] } : ByteArray).toList) = false := by rw [emptyB]; exact decide_eq_false (by omega)
   obtain ⟨x1, x2⟩ := can_both hg hl u (parentT p) 1
   rw [hn, if_neg (by decide), ha, Zo, he, if_neg (show ¬ false = true by decide), if_neg (show ¬ false = true by decide), x1, x2, Zo, Zo]
   unfold passB
   rw [show decide ((parentT p).size = 0) = false from decide_eq_false (by omega), Bool.false_or]
   cases hcan : canB l u (parentT p) 1 with
   | false => exact ⟨rfl, rfl⟩
   | true =>
    have hp2 := can_path hg hcan
    rw [if_pos rfl, if_pos rfl, parent_ok hp2, Zo, Bool.true_and]
    exact may_loop hg hl m (parentT p) c d hp2 (by omega) (by omega) (by omega)
def mayB (l : List GFile) (u p : ByteArray) (b : Int) : Bool := canB l u p b && passB l u 1000 (parentT p)
theorem may_both {l : List GFile} (hg : GoodL l) (hl : l.length ≤ 20000) (u p : ByteArray) (b : Int) : perm_May NF l u p b = some (mayB l u p b) ∧ ref17_May NF l u p b = some (mayB l u p b) := by
 obtain ⟨x1, x2⟩ := can_both hg hl u p b
 unfold perm_May ref17_May mayB
 rw [x1, x2, Zo, Zo]
 cases hcan : canB l u p b with
 | false => exact ⟨rfl, rfl⟩
 | true =>
  have hp := can_path hg hcan
  have hz := pathL_size hp
  obtain ⟨y1, y2⟩ := may_loop (u := u) hg hl 1000 p NF NF hp (by omega) (show _ < 30000 by omega) (show _ < 30000 by omega)
  rw [if_pos rfl, if_pos rfl, parent_ok hp, Zo, y1, y2, Bool.true_and]
  cases passB l u 1000 (parentT p) <;> exact ⟨rfl, rfl⟩
/-! ### PermTells -/
theorem who_tot (n : Nat) (v : Int) : Tot (law20_Who n v) fun _ => True := by
 unfold law20_Who
 exact tot_bind (tot_an (m := 7) (by decide) (by decide) rfl (Q := fun _ => True) (fun _ _ => trivial)) fun x _ => tot_some trivial
theorem where_tot (n : Nat) (v : Int) : Tot (law20_Where n v) fun p => pathL p.data.toList = true := by
 unfold law20_Where
 exact tot_bind (tot_tm (m := 10) (by decide) rfl (Q := fun p : ByteArray => pathL p.data.toList = true) (by decide)) fun x hx => tot_some hx
end Go.Proofs.YtgmhbmcdlkajdaaGreatDoor.Ab
