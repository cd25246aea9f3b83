/-
 Lines of whatever text: they are there. No program in sight.
-/
import Derived.Test.YtgmhbmcdlkajdaaGreatDoorPy
import Derived.Test.YtgmhbmcdlkajdaaGreatDoorTo
namespace Go.Proofs.YtgmhbmcdlkajdaaGreatDoor.Ab
open Go.RowKit
def okW (k : Nat) (o : List GWord) : Prop := o.length ≤ k ∧ ∀ w ∈ o, w.text.size ≤ k
theorem okW.up {k m : Nat} {o : List GWord} (h : okW k o) (hm : k ≤ m) : okW m o := ⟨Nat.le_trans h.1 hm, fun w hw => Nat.le_trans (h.2 w hw) hm⟩
theorem word_end {n : Nat} {s : ByteArray} (hs : s.size < 4611686018427387904) : ∀ (c k : Nat), k ≤ s.size → s.size - k < c → ∃ j : Nat, ref1_words_L2 n s c (k : Int) = some (j : Int) ∧ k ≤ j ∧ j ≤ s.size ∧ (∀ b, bidx s (k : Int) = some b → (b == 32) = false → (b == 9) = false → k + 1 ≤ j)
 | 0, _, _, h => by omega
 | c + 1, k, hk, hc => by
  rw [ref1_words_L2]
  by_cases h : k < s.size
  ·rw [dlt h, if_pos rfl, bidxS h, Zo]
   generalize ((s.data.toList[k]'(by rw [bsize]; exact h)).toNat : Int) = b
   rw [wr1 (by omega)]
   obtain ⟨j, e, h1, h2, _⟩ := word_end (n := n) hs c (k + 1) (by omega) (by omega)
   cases e1 : (b == 32) with
   | true =>
    rw [bne, e1, if_neg (by decide)]
    exact ⟨k, rfl, by omega, by omega, fun b' hb h3 _ => by cases hb; rw [e1] at h3; cases h3⟩
   | false =>
    rw [bne, e1, if_pos (by decide)]
    cases e2 : (b == 9) with
    | true =>
     rw [bne, e2, if_neg (by decide)]
     exact ⟨k, rfl, by omega, by omega, fun b' hb _ h3 => by cases hb; rw [e2] at h3; cases h3⟩
    | false =>
     rw [bne, e2, if_pos (by decide)]
     exact ⟨j, e, by omega, h2, fun _ _ _ _ => h1⟩
  ·rw [dnlt (by omega), if_neg (by decide)]
   refine ⟨k, rfl, by omega, hk, fun b hb _ _ => ?_⟩
   unfold bidx at hb
   rw [if_pos (by omega), Int.toNat_natCast, bget, List.getElem?_eq_none (by rw [bsize]; omega)] at hb
   cases hb
theorem words_loop {n : Nat} {s : ByteArray} {a : Int} (hs : s.size < 1000000) (hn : s.size < n) : ∀ (c i : Nat) (out : List GWord), i ≤ s.size → s.size - i < c → out.length ≤ i → (∀ w ∈ out, w.text.size ≤ s.size) → Tot (ref1_words_L1 n s a c (out, (i : Int))) fun r => match r with | .inl o => okW s.size o | .inr o => okW s.size o
 | 0, _, _, _, h, _, _ => by omega
 | c + 1, i, out, hi, hc, ho, hw => by
  rw [ref1_words_L1]
  by_cases h : i < s.size
  ·obtain ⟨j, e, h1, h2, h3⟩ := word_end (n := n) (s := s) (by omega) n i hi (by omega)
   rw [dlt h, if_pos rfl, bidxS h, Zo]
   rw [bidxS h] at h3
   generalize hb : ((s.data.toList[i]'(by rw [bsize]; exact h)).toNat : Int) = b at h3 ⊢
   have go : (b == 32) = false → (b == 9) = false → Tot (if (b == 35) then some (.inr out) else (ref1_words_L2 n s n (i : Int)).bind fun k7 => (bslc s (i : Int) k7).bind fun s3 => (app out [(⟨s3, (IntKind.i64.wrap (a + (i : Int)))⟩ : GWord)]).bind fun l => ref1_words_L1 n s a c (l, k7)) fun (r : List GWord ⊕ List GWord) => match r with | .inl o => okW s.size o | .inr o => okW s.size o := fun e1 e2 => by
    refine tot_ite (fun _ => tot_some ⟨by omega, hw⟩) fun _ => ?_
    have h4 := h3 b rfl e1 e2
    rw [e, Zo, bslcS h1 h2, Zo, appS (by simp; omega), Zo]
    refine words_loop hs hn c j _ h2 (by omega) (by rw [List.length_append, List.length_singleton]; omega) fun w hx => ?_
    rcases List.mem_append.1 hx with hx | hx
    ·exact hw w hx
    ·obtain rfl := List.mem_singleton.1 hx
     show (s.extract i j).size ≤ _
     rw [ext_size s h2]
     omega
   have back : Tot (ref1_words_L1 n s a c (out, (IntKind.i64.wrap ((i : Int) + 1)))) fun r => match r with | .inl o => okW s.size o | .inr o => okW s.size o := by
    rw [wr1 (by omega)]
    exact words_loop hs hn c (i + 1) out (by omega) (by omega) (by omega) hw
   rw [Zo]
   cases e1 : (b == 32) with
   | true => rw [if_pos rfl, Zo, if_pos rfl]; exact back
   | false =>
    rw [if_neg (by decide), Zo]
    cases e2 : (b == 9) with
    | true => rw [if_pos rfl]; exact back
    | false => rw [if_neg (by decide)]; exact go e1 e2
  ·rw [dnlt (by omega), if_neg (by decide)]
   exact tot_some ⟨by omega, hw⟩
theorem words_tot {n : Nat} {s : ByteArray} {a : Int} (hs : s.size < 1000000) (hn : s.size < n) : Tot (ref1_words n s a) fun o => okW s.size o := by
 unfold ref1_words
 have h : Tot (ref1_words_L1 n s a n ([], 0)) _ := words_loop hs hn n 0 [] (by omega) (by omega) (by simp) (by simp)
 exact tot_bind h fun r hr => by
  cases r with
  | inl o => exact tot_some hr
  | inr o => exact tot_some hr
theorem lines1 {n : Nat} {s : ByteArray} (hs : s.size < 1000000) : ∀ (c i : Nat) (k : Int), i ≤ s.size → s.size - i < c → Tot (ref1_Lines_L1 n s c (k, (i : Int))) fun _ => True
 | 0, _, _, _, h => by omega
 | c + 1, i, k, hi, hc => by
  rw [ref1_Lines_L1]
  by_cases h : i < s.size
  ·rw [dlt h, if_pos rfl, bidxS h, Zo, wr1 (by omega)]
   exact tot_ite (fun _ => lines1 hs c (i + 1) _ (by omega) (by omega)) fun _ => lines1 hs c (i + 1) _ (by omega) (by omega)
  ·rw [dnlt (by omega), if_neg (by decide)]
   exact tot_some trivial
theorem lines2 {n : Nat} {s : ByteArray} (hs : s.size < 1000000) : ∀ (c i : Nat), i ≤ s.size → s.size - i < c → Tot (ref1_Lines_L2 n s c (i : Int)) fun r => ∀ x, r = .inr x → x.1 = []
 | 0, _, _, h => by omega
 | c + 1, i, hi, hc => by
  rw [ref1_Lines_L2]
  by_cases h : i < s.size
  ·rw [dlt h, if_pos rfl, bidxS h, Zo, wr1 (by omega)]
   have ih := lines2 (n := n) hs c (i + 1) (by omega) (by omega)
   have hno : ∀ v : Int, Tot (some (.inr ([], v, 7)) : Option (Unit ⊕ (List GLine × Int × Int))) fun r => ∀ x, r = .inr x → x.1 = [] := fun v => tot_some fun x e => by cases e; rfl
   refine tot_ite (fun _ => ?_) fun _ => ?_
   ·refine tot_ite (fun _ => ih) fun h2 => ?_
    have h2 : ¬ i + 1 = s.size := fun e => by
     have : (((i + 1 : Nat) : Int) == (s.size : Int)) = true := by simp [e]
     rw [this] at h2
     cases h2
    refine tot_bind (tot_bidx (by omega) (by omega)) fun _ _ => ?_
    exact tot_ite (fun _ => ih) fun _ => tot_ite (fun _ => ih) fun _ => tot_ite (fun _ => ih) fun _ => tot_ite (fun _ => tot_ite (fun _ => ih) fun _ => hno _) fun _ => hno _
   ·exact tot_ite (fun _ => ih) fun _ => tot_ite (fun _ => ih) fun _ => tot_ite (fun _ => tot_ite (fun _ => ih) fun _ => hno _) fun _ => hno _
  ·rw [dnlt (by omega), if_neg (by decide)]
   exact tot_some fun x e => by cases e
theorem lines3 {n : Nat} {s : ByteArray} (hs : s.size < 1000000) (hn : s.size < n) : ∀ (c i fr : Nat) (out : List GLine), i ≤ s.size + 1 → fr ≤ i → s.size + 1 - i < c → out.length ≤ i → (∀ x ∈ out, okW s.size x.words) → Tot (ref1_Lines_L3 n s c (out, (fr : Int), (i : Int))) fun o => o.length ≤ s.size + 1 ∧ ∀ x ∈ o, okW s.size x.words
 | 0, _, _, _, _, _, h, _, _ => by omega
 | c + 1, i, fr, out, hi, hf, hc, ho, hw => by
  rw [ref1_Lines_L3]
  by_cases h : i ≤ s.size
  ·rw [show decide ((i : Int) ≤ (s.size : Int)) = true from decide_eq_true (by omega), if_pos rfl, wr1 (by omega)]
   refine tot_bind (Q := fun _ => True) ?_ fun b _ => ?_
   ·refine tot_ite (fun h2 => ?_) fun _ => tot_some trivial
    have h2 := of_decide_eq_true h2
    exact tot_bind (tot_bidx (by omega) (by omega)) fun _ _ => tot_some trivial
   refine tot_ite (fun _ => ?_) fun _ => ?_
   ·exact lines3 hs hn c (i + 1) fr out (by omega) (by omega) (by omega) (by omega) hw
   ·refine tot_bind (Q := fun b => b = true → fr < i) ?_ fun b hb => ?_
    ·refine tot_ite (fun h2 => ?_) fun _ => tot_some fun e => by cases e
     have h2 := of_decide_eq_true h2
     rw [wr (by omega) (by omega)]
     exact tot_bind (tot_bidx (by omega) (by omega)) fun _ _ => tot_some fun _ => by omega
    refine tot_bind (Q := fun e => ∃ k : Nat, e = (k : Int) ∧ fr ≤ k ∧ k ≤ s.size) ?_ fun e he => ?_
    ·refine tot_ite (fun h2 => ?_) fun _ => ?_
     ·have := hb h2
      rw [wr (by omega) (by omega)]
      exact tot_some ⟨i - 1, by omega, by omega, by omega⟩
     ·exact tot_some ⟨i, rfl, hf, h⟩
    obtain ⟨k, rfl, h1, h2⟩ := he
    rw [bslcS h1 h2, Zo]
    have hsz : (s.extract fr k).size ≤ s.size := by rw [ext_size s h2]; omega
    refine tot_bind (words_tot (by omega) (by omega)) fun w hwl => ?_
    have hout : ∀ x ∈ out, okW s.size x.words := hw
    refine tot_ite (fun h3 => ?_) fun _ => ?_
    ·have h3 := of_decide_eq_true h3
     refine tot_bind (tot_idx (Q := fun _ => True) (by omega) h3 fun _ _ => trivial) fun x _ => ?_
     rw [appS (by simp; omega), Zo]
     refine lines3 hs hn c (i + 1) (i + 1) _ (by omega) (by omega) (by omega) (by rw [List.length_append, List.length_singleton]; omega) fun y hy => ?_
     rcases List.mem_append.1 hy with hy | hy
     ·exact hout y hy
     ·obtain rfl := List.mem_singleton.1 hy
      exact hwl.up hsz
    ·exact lines3 hs hn c (i + 1) (i + 1) out (by omega) (by omega) (by omega) (by omega) hw
  ·rw [show decide ((i : Int) ≤ (s.size : Int)) = false from decide_eq_false (by omega), if_neg (by decide)]
   exact tot_some ⟨by omega, hw⟩
theorem lines_tot {n : Nat} {s : ByteArray} (hs : s.size < 200000) (hn : s.size + 2 < n) : Tot (ref1_Lines n s) fun r => r.1.length ≤ s.size + 1 ∧ ∀ x ∈ r.1, okW s.size x.words := by
 unfold ref1_Lines
 have h1 : Tot (ref1_Lines_L1 n s n (0, 0)) _ := lines1 (n := n) (s := s) (by omega) n 0 0 (by omega) (by omega)
 have h2 : Tot (ref1_Lines_L2 n s n 0) _ := lines2 (n := n) (s := s) (by omega) n 0 (by omega) (by omega)
 have h3 : Tot (ref1_Lines_L3 n s n ([], 0, 0)) _ := lines3 (n := n) (s := s) (by omega) (by omega) n 0 0 [] (by omega) (by omega) (by omega) (by simp) (by simp)
 refine tot_bind h1 fun k _ => ?_
 refine tot_bind (Q := fun _ => True) (tot_ite (fun _ => tot_some trivial) fun _ => tot_some trivial) fun b _ => ?_
 refine tot_ite (fun _ => tot_some (by simp)) fun _ => ?_
 refine tot_bind h2 fun r hr => ?_
 cases r with
 | inl u => exact tot_bind h3 fun o ho => tot_some ho
 | inr x =>
  have := hr x rfl
  exact tot_some (by rw [this]; simp)
end Go.Proofs.YtgmhbmcdlkajdaaGreatDoor.Ab
