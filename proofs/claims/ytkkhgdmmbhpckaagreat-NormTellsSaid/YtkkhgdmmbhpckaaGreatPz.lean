/-
 The document's facts of a text of numbers: they are there, whatever the numbers. No program in sight.
-/
import Derived.Test.YtkkhgdmmbhpckaaGreatPk
import Derived.Test.YtkkhgdmmbhpckaaGreatScb
namespace Go.Proofs.YtkkhgdmmbhpckaaGreat.Ab
open Go.RowKit
def Tot {α : Type} (o : Option α) (Q : α → Prop) : Prop := ∃ x, o = some x ∧ Q x
section
variable {α β : Type}
theorem qa_ {x : α} {Q : α → Prop} (h : Q x) : Tot (some x) Q := ⟨x, rfl, h⟩
theorem qg_ {o : Option α} {Q : α → Prop} {f : α → Option β} {R : β → Prop} (h : Tot o Q) (k : ∀ x, Q x → Tot (f x) R) : Tot (o.bind f) R := by
 obtain ⟨x, rfl, hx⟩ := h;exact k x hx
theorem qh_ {c : Bool} {a b : Option α} {Q : α → Prop} (h1 : c = true → Tot a Q) (h2 : c = false → Tot b Q) : Tot (if c then a else b) Q := by
 cases c with
 | true => exact h1 rfl
 | false => exact h2 rfl
theorem Tot.mono {o : Option α} {Q R : α → Prop} (h : Tot o Q) (k : ∀ x, Q x → R x) : Tot o R := by
 obtain ⟨x, e, hx⟩ := h;exact ⟨x, e, k x hx⟩
theorem z6_ {xs : List α} {i : Int} {Q : α → Prop} (h0 : 0 ≤ i) (h1 : i < xs.length) (h : ∀ x ∈ xs, Q x) : Tot (idx xs i) Q := by
 obtain ⟨k, rfl⟩ : ∃ k : Nat, i = (k : Int) := ⟨i.toNat, by omega⟩;have hk : k < xs.length := by omega
 exact ⟨_, idxS hk, h _ (List.getElem_mem hk)⟩
theorem ky_ {s : ByteArray} {i : Int} (h0 : 0 ≤ i) (h1 : i < s.size) : Tot (bidx s i) fun _ => True := by
 obtain ⟨k, rfl⟩ : ∃ k : Nat, i = (k : Int) := ⟨i.toNat, by omega⟩;exact ⟨_, b6_ (by omega), trivial⟩
theorem nL_ {xs : List α} {a b : Nat} (h1 : a ≤ b) (h2 : b ≤ xs.length) : Tot (slc xs (a : Int) (b : Int)) fun l => l = (xs.take b).drop a := ⟨_, slcS h1 h2, rfl⟩
theorem dW_ {a b : ByteArray} {p q : Nat} (h1 : a.size ≤ p) (h2 : b.size ≤ q) (h : p + q ≤ maxLen) : Tot (cat a b) fun s => s.size ≤ p + q := ⟨_, catS (by omega), by
 show (a ++ b).size ≤ _;rw [ByteArray.size_append];omega⟩
theorem uw_ {xs : List α} {m : Nat} {t : Int} {Q : α → Prop} (hm : (BitVec.ofInt 64 (m : Int)).toNat = m) (h64 : m < 9223372036854775808) (hl : xs.length = m + 1) (h : ∀ x ∈ xs, Q x) : Tot (idx xs (IntKind.i64.wrap (an t (m : Int) : Int))) Q := by
 have h1 : an t (m : Int) ≤ m := by have := an_le t (m : Int); omega
 rw [wr (by omega) (by omega)];exact z6_ (by omega) (by omega) h
theorem tot_tm {xs : List α} {m : Nat} {t : Int} {Q : α → Prop} (hm : 0 < m) (hl : xs.length = m) (h : ∀ x ∈ xs, Q x) : Tot (idx xs (Int.tmod (IntKind.i64.wrap (an t 255 : Int)) (m : Int))) Q := by
 rw [an8];have e : Int.tmod ((an t 255 : Nat) : Int) (m : Int) = ((an t 255 % m : Nat) : Int) := by
  rw [Int.tmod_eq_emod_of_nonneg (by omega)];omega
 rw [e];have := Nat.mod_lt (an t 255) hm;exact z6_ (by omega) (by omega) h
end
theorem nm_tot {n : Nat} {t : Int} : Tot (uu_ n t) fun s => s.size ≤ 13 := by
 unfold uu_;refine qg_ (uw_ (m := 7) rfl (by decide) rfl (Q := fun s => s.size ≤ 13) (by decide)) fun x hx => qa_ hx
theorem qQ_ {β : Type} {a b : ByteArray} {p : Nat} {f : ByteArray → Option β} {R : β → Prop} (h1 : a.size ≤ p) (h2 : b.size ≤ 13) (hp : p ≤ 200) (k : ∀ s : ByteArray, s.size ≤ p + 13 → Tot (f s) R) : Tot ((cat a b).bind f) R :=
 qg_ (dW_ h1 h2 (by have : maxLen ≥ 100000 := (by decide); omega)) k
theorem p7_ {n : Nat} {t : Int} : Tot (vL_ n t) fun s => s.size ≤ 150 := by
 unfold vL_;refine qg_ (tot_tm (m := 3) (by decide) rfl (Q := fun s => s.size ≤ 13) (by decide)) fun x hx => ?_;refine qg_ (uw_ (m := 3) rfl (by decide) rfl (Q := fun s => s.size ≤ 13) (by decide)) fun x2 hx2 => ?_;refine qg_ (uw_ (m := 3) rfl (by decide) rfl (Q := fun s => s.size ≤ 13) (by decide)) fun x3 hx3 => ?_;refine qg_ nm_tot fun x4 hx4 => ?_
 generalize Int.tmod (IntKind.i64.wrap (an t 255 : Int)) 24 = m;refine qg_ (Q := fun (_ : Bool) => True) (qh_ (fun _ => qa_ trivial) fun _ => qh_ (fun _ => qa_ trivial) fun _ => qa_ trivial) fun _ _ => ?_;refine qh_ (fun _ => qQ_ (p := 13) (by decide) hx (by decide) fun s h => qQ_ h (by decide) (by decide) fun s h => qQ_ h hx2 (by decide) fun s h => qa_ (by omega)) fun _ => ?_
 refine qg_ (Q := fun (_ : Bool) => True) (qh_ (fun _ => qa_ trivial) fun _ => qh_ (fun _ => qa_ trivial) fun _ => qa_ trivial) fun _ _ => ?_;refine qh_ (fun _ => qQ_ (p := 13) (by decide) hx2 (by decide) fun s h => qQ_ h (by decide) (by decide) fun s h => qQ_ h hx3 (by decide) fun s h => qa_ (by omega)) fun _ => ?_
 refine qg_ (Q := fun (_ : Bool) => True) (qh_ (fun _ => qa_ trivial) fun _ => qh_ (fun _ => qa_ trivial) fun _ => qh_ (fun _ => qa_ trivial) fun _ => qa_ trivial) fun _ _ => ?_
 refine qh_ (fun _ => qQ_ (p := 13) (by decide) hx2 (by decide) fun s h => qQ_ h (by decide) (by decide) fun s h => qg_ (uw_ (m := 1) (by decide) (by decide) rfl (Q := fun s => s.size ≤ 13) (by decide)) fun y hy => qQ_ h hy (by decide) fun s h => qQ_ h (by decide) (by decide) fun s h => qQ_ h hx4 (by decide) fun s h => qa_ (by omega)) fun _ => ?_
 refine qh_ (fun _ => qQ_ (p := 13) (by decide) hx4 (by decide) fun s h => qQ_ h (by decide) (by decide) fun s h => qg_ (uw_ (m := 1) (by decide) (by decide) rfl (Q := fun s => s.size ≤ 13) (by decide)) fun y hy => qQ_ h hy (by decide) fun s h => qQ_ h (by decide) (by decide) fun s h => qQ_ h hx2 (by decide) fun s h => qQ_ h (by decide) (by decide) fun s h => qQ_ h hx3 (by decide) fun s h => qQ_ h (by decide) (by decide) fun s h => qg_ (uw_ (m := 3) (by decide) (by decide) rfl (Q := fun s => s.size ≤ 13) (by decide)) fun z hz => qQ_ h hz (by decide) fun s h => qa_ (by omega)) fun _ => ?_
 refine qg_ (Q := fun (_ : Bool) => True) (qh_ (fun _ => qa_ trivial) fun _ => qa_ trivial) fun _ _ => ?_;refine qh_ (fun _ => qQ_ (p := 13) (by decide) hx4 (by decide) fun s h => qQ_ h (by decide) (by decide) fun s h => qQ_ h hx2 (by decide) fun s h => qQ_ h (by decide) (by decide) fun s h => qQ_ h hx3 (by decide) fun s h => qa_ (by omega)) fun _ => ?_
 refine qg_ (Q := fun (_ : Bool) => True) (qh_ (fun _ => qa_ trivial) fun _ => qh_ (fun _ => qa_ trivial) fun _ => qa_ trivial) fun _ _ => ?_;refine qh_ (fun _ => qQ_ (p := 13) (by decide) hx4 (by decide) fun s h => qQ_ h (by decide) (by decide) fun s h => qQ_ h hx (by decide) fun s h => qQ_ h (by decide) (by decide) fun s h => qQ_ h hx2 (by decide) fun s h => qa_ (by omega)) fun _ => ?_
 refine qh_ (fun _ => qQ_ (p := 13) (by decide) hx4 (by decide) fun s h => qQ_ h (by decide) (by decide) fun s h => qQ_ h hx (by decide) fun s h => qQ_ h (by decide) (by decide) fun s h => qQ_ h hx2 (by decide) fun s h => qQ_ h (by decide) (by decide) fun s h => qQ_ h hx3 (by decide) fun s h => qa_ (by omega)) fun _ => ?_
 refine qh_ (fun _ => qQ_ (p := 13) (by decide) hx4 (by decide) fun s h => qa_ (by omega)) fun _ => ?_;refine qh_ (fun _ => qQ_ (p := 13) (by decide) hx4 (by decide) fun s h => qa_ (by omega)) fun _ => ?_;refine qh_ (fun _ => qg_ (uw_ (m := 7) (by decide) (by decide) rfl (Q := fun s => s.size ≤ 13) (by decide)) fun y hy => qa_ (by omega)) fun _ => ?_
 refine qh_ (fun _ => qa_ (by decide)) fun _ => ?_;exact qQ_ (p := 13) (by decide) hx (by decide) fun s h => qQ_ h (by decide) (by decide) fun s h => qQ_ h hx3 (by decide) fun s h => qa_ (by omega)
theorem uq_ {n : Nat} {l : List Int} : ∀ (c i : Nat) (w : Bool) (s : ByteArray), i ≤ 30 → 30 - i < c → s.size ≤ 60 + 151 * i → Tot (jN_ n l c (w, s, (i : Int))) fun s => s.size ≤ 5000
 | 0, _, _, _, _, h, _ => by omega
 | c + 1, i, w, s, hi, hc, hs => by
  rw [jN_];by_cases h : i < l.length
  ·rw [dlt h, if_pos rfl, Zo]
   by_cases h2 : i < 30
   ·rw [show decide ((i : Int) < 30) = true from decide_eq_true (by omega), if_pos rfl, idxS h, Zo]
    refine qg_ (Q := fun _ => True) ?_ fun ⟨w2, t⟩ _ => ?_
    ·exact qh_ (fun _ => qh_ (fun _ => qa_ trivial) fun _ => qa_ trivial) fun _ => qa_ trivial
    ·dsimp only
     rw [wr1 (by omega)];refine qh_ (fun _ => ?_) fun _ => ?_
     ·exact uq_ c (i + 1) w2 s (by omega) (by omega) (by omega)
     ·rw [Zo]
      refine qg_ p7_ fun s2 h2 => ?_;refine qg_ (dW_ hs h2 (by have : maxLen ≥ 100000 := (by decide); omega)) fun s3 h3 => ?_;refine qg_ (dW_ h3 (q := 1) (by decide) (by have : maxLen ≥ 100000 := (by decide); omega)) fun s4 h4 => ?_;exact uq_ c (i + 1) w2 s4 (by omega) (by omega) (by omega)
   ·rw [show decide ((i : Int) < 30) = false from decide_eq_false (by omega), if_neg (by decide)]
    exact qa_ (by omega)
  ·rw [dnlt (by omega), if_neg (by decide), Zo, if_neg (by decide)]
   exact qa_ (by omega)
theorem p8_ {n : Nat} (hn : 100 ≤ n) (l : List Int) (w : Bool) : Tot (zI_ n l w) fun s => s.size ≤ 5000 := by
 unfold zI_;refine qg_ (Q := fun p => p.2.size ≤ 60) ?_ fun ⟨w2, s⟩ hs => ?_
 ·exact qh_ (fun _ => qa_ (by decide)) fun _ => qa_ (by decide)
 ·have h : Tot (jN_ n l n (w2, s, 0)) _ := uq_ n 0 w2 s (by omega) (by omega) (by simpa using hs)
  exact qg_ h fun s h => qa_ h
def okW (k : Nat) (o : List GWord) : Prop := o.length ≤ k ∧ ∀ w ∈ o, w.text.size ≤ k
theorem okW.up {k m : Nat} {o : List GWord} (h : okW k o) (hm : k ≤ m) : okW m o := ⟨Nat.le_trans h.1 hm, fun w hw => Nat.le_trans (h.2 w hw) hm⟩
theorem fZ_ {n : Nat} {s : ByteArray} (hs : s.size < 4611686018427387904) : ∀ (c k : Nat), k ≤ s.size → s.size - k < c → ∃ j : Nat, xd_ n s c (k : Int) = some (j : Int) ∧ k ≤ j ∧ j ≤ s.size ∧ (∀ b, bidx s (k : Int) = some b → (b == 32) = false → (b == 9) = false → k + 1 ≤ j)
 | 0, _, _, h => by omega
 | c + 1, k, hk, hc => by
  rw [xd_];by_cases h : k < s.size
  ·rw [dlt h, if_pos rfl, b6_ h, Zo]
   generalize ((s.data.toList[k]'(by rw [nq_]; exact h)).toNat : Int) = b;rw [wr1 (by omega)];obtain ⟨j, e, h1, h2, _⟩ := fZ_ (n := n) hs c (k + 1) (by omega) (by omega);cases e1 : (b == 32) with
   | true =>
    rw [bne, e1, if_neg (by decide)];exact ⟨k, rfl, by omega, by omega, fun b' hb h3 _ => by cases hb; rw [e1] at h3; cases h3⟩
   | false =>
    rw [bne, e1, if_pos (by decide)];cases e2 : (b == 9) with
    | true =>
     rw [bne, e2, if_neg (by decide)];exact ⟨k, rfl, by omega, by omega, fun b' hb _ h3 => by cases hb; rw [e2] at h3; cases h3⟩
    | false =>
     rw [bne, e2, if_pos (by decide)];exact ⟨j, e, by omega, h2, fun _ _ _ _ => h1⟩
  ·rw [dnlt (by omega), if_neg (by decide)]
   refine ⟨k, rfl, by omega, hk, fun b hb _ _ => ?_⟩;unfold bidx at hb;rw [if_pos (by omega), Int.toNat_natCast, bget, List.getElem?_eq_none (by rw [nq_]; omega)] at hb;cases hb
theorem kP_ {n : Nat} {s : ByteArray} {a : Int} (hs : s.size < 1000000) (hn : s.size < n) : ∀ (c i : Nat) (out : List GWord), i ≤ s.size → s.size - i < c → out.length ≤ i → (∀ w ∈ out, w.text.size ≤ s.size) → Tot (qZ_ n s a c (out, (i : Int))) fun r => match r with | .inl o => okW s.size o | .inr o => okW s.size o
 | 0, _, _, _, h, _, _ => by omega
 | c + 1, i, out, hi, hc, ho, hw => by
  rw [qZ_];by_cases h : i < s.size
  ·obtain ⟨j, e, h1, h2, h3⟩ := fZ_ (n := n) (s := s) (by omega) n i hi (by omega)
   rw [dlt h, if_pos rfl, b6_ h, Zo];rw [b6_ h] at h3;generalize hb : ((s.data.toList[i]'(by rw [nq_]; exact h)).toNat : Int) = b at h3 ⊢
   have go : (b == 32) = false → (b == 9) = false → Tot (if (b == 35) then some (.inr out) else (xd_ n s n (i : Int)).bind fun k7 => (bslc s (i : Int) k7).bind fun s3 => (app out [(⟨s3, (IntKind.i64.wrap (a + (i : Int)))⟩ : GWord)]).bind fun l => qZ_ n s a c (l, k7)) fun (r : List GWord ⊕ List GWord) => match r with | .inl o => okW s.size o | .inr o => okW s.size o := fun e1 e2 => by
    refine qh_ (fun _ => qa_ ⟨by omega, hw⟩) fun _ => ?_;have h4 := h3 b rfl e1 e2;rw [e, Zo, bslcS h1 h2, Zo, appS (by simp; omega), Zo];refine kP_ hs hn c j _ h2 (by omega) (by rw [List.length_append, List.length_singleton]; omega) fun w hx => ?_;rcases List.mem_append.1 hx with hx | hx
    ·exact hw w hx
    ·obtain rfl := List.mem_singleton.1 hx
     show (s.extract i j).size ≤ _;rw [fX_ s h2];omega
   have back : Tot (qZ_ n s a c (out, (IntKind.i64.wrap ((i : Int) + 1)))) fun r => match r with | .inl o => okW s.size o | .inr o => okW s.size o := by
    rw [wr1 (by omega)];exact kP_ hs hn c (i + 1) out (by omega) (by omega) (by omega) hw
   rw [Zo];cases e1 : (b == 32) with
   | true => rw [if_pos rfl, Zo, if_pos rfl]; exact back
   | false =>
    rw [if_neg (by decide), Zo];cases e2 : (b == 9) with
    | true => rw [if_pos rfl]; exact back
    | false => rw [if_neg (by decide)]; exact go e1 e2
  ·rw [dnlt (by omega), if_neg (by decide)]
   exact qa_ ⟨by omega, hw⟩
theorem nt_ {n : Nat} {s : ByteArray} {a : Int} (hs : s.size < 1000000) (hn : s.size < n) : Tot (vI_ n s a) fun o => okW s.size o := by
 unfold vI_;have h : Tot (qZ_ n s a n ([], 0)) _ := kP_ hs hn n 0 [] (by omega) (by omega) (by simp) (by simp);exact qg_ h fun r hr => by
  cases r with
  | inl o => exact qa_ hr
  | inr o => exact qa_ hr
theorem nu_ {n : Nat} {s : ByteArray} (hs : s.size < 1000000) : ∀ (c i : Nat) (k : Int), i ≤ s.size → s.size - i < c → Tot (jK_ n s c (k, (i : Int))) fun _ => True
 | 0, _, _, _, h => by omega
 | c + 1, i, k, hi, hc => by
  rw [jK_];by_cases h : i < s.size
  ·rw [dlt h, if_pos rfl, b6_ h, Zo, wr1 (by omega)]
   exact qh_ (fun _ => nu_ hs c (i + 1) _ (by omega) (by omega)) fun _ => nu_ hs c (i + 1) _ (by omega) (by omega)
  ·rw [dnlt (by omega), if_neg (by decide)]
   exact qa_ trivial
theorem rI_ {n : Nat} {s : ByteArray} (hs : s.size < 1000000) : ∀ (c i : Nat), i ≤ s.size → s.size - i < c → Tot (qH_ n s c (i : Int)) fun r => ∀ x, r = .inr x → x.1 = []
 | 0, _, _, h => by omega
 | c + 1, i, hi, hc => by
  rw [qH_];by_cases h : i < s.size
  ·rw [dlt h, if_pos rfl, b6_ h, Zo, wr1 (by omega)]
   have ih := rI_ (n := n) hs c (i + 1) (by omega) (by omega);have hno : ∀ v : Int, Tot (some (.inr ([], v, 7)) : Option (Unit ⊕ (List GLine × Int × Int))) fun r => ∀ x, r = .inr x → x.1 = [] := fun v => qa_ fun x e => by cases e; rfl
   refine qh_ (fun _ => ?_) fun _ => ?_
   ·refine qh_ (fun _ => ih) fun h2 => ?_
    have h2 : ¬ i + 1 = s.size := fun e => by
     have : (((i + 1 : Nat) : Int) == (s.size : Int)) = true := by simp [e]
     rw [this] at h2;cases h2
    refine qg_ (ky_ (by omega) (by omega)) fun _ _ => ?_;exact qh_ (fun _ => ih) fun _ => qh_ (fun _ => ih) fun _ => qh_ (fun _ => ih) fun _ => qh_ (fun _ => qh_ (fun _ => ih) fun _ => hno _) fun _ => hno _
   ·exact qh_ (fun _ => ih) fun _ => qh_ (fun _ => ih) fun _ => qh_ (fun _ => qh_ (fun _ => ih) fun _ => hno _) fun _ => hno _
  ·rw [dnlt (by omega), if_neg (by decide)]
   exact qa_ fun x e => by cases e
theorem f0_ {n : Nat} {s : ByteArray} (hs : s.size < 1000000) (hn : s.size < n) : ∀ (c i fr : Nat) (out : List GLine), i ≤ s.size + 1 → fr ≤ i → s.size + 1 - i < c → out.length ≤ i → (∀ x ∈ out, okW s.size x.words) → Tot (jj_ n s c (out, (fr : Int), (i : Int))) fun o => o.length ≤ s.size + 1 ∧ ∀ x ∈ o, okW s.size x.words
 | 0, _, _, _, _, _, h, _, _ => by omega
 | c + 1, i, fr, out, hi, hf, hc, ho, hw => by
  rw [jj_];by_cases h : i ≤ s.size
  ·rw [show decide ((i : Int) ≤ (s.size : Int)) = true from decide_eq_true (by omega), if_pos rfl, wr1 (by omega)]
   refine qg_ (Q := fun _ => True) ?_ fun b _ => ?_
   ·refine qh_ (fun h2 => ?_) fun _ => qa_ trivial
    have h2 := of_decide_eq_true h2;exact qg_ (ky_ (by omega) (by omega)) fun _ _ => qa_ trivial
   refine qh_ (fun _ => ?_) fun _ => ?_
   ·exact f0_ hs hn c (i + 1) fr out (by omega) (by omega) (by omega) (by omega) hw
   ·refine qg_ (Q := fun b => b = true → fr < i) ?_ fun b hb => ?_
    ·refine qh_ (fun h2 => ?_) fun _ => qa_ fun e => by cases e
     have h2 := of_decide_eq_true h2;rw [wr (by omega) (by omega)];exact qg_ (ky_ (by omega) (by omega)) fun _ _ => qa_ fun _ => by omega
    refine qg_ (Q := fun e => ∃ k : Nat, e = (k : Int) ∧ fr ≤ k ∧ k ≤ s.size) ?_ fun e he => ?_
    ·refine qh_ (fun h2 => ?_) fun _ => ?_
     ·have := hb h2
      rw [wr (by omega) (by omega)];exact qa_ ⟨i - 1, by omega, by omega, by omega⟩
     ·exact qa_ ⟨i, rfl, hf, h⟩
    obtain ⟨k, rfl, h1, h2⟩ := he;rw [bslcS h1 h2, Zo];have hsz : (s.extract fr k).size ≤ s.size := by rw [fX_ s h2]; omega
    refine qg_ (nt_ (by omega) (by omega)) fun w hwl => ?_;have hout : ∀ x ∈ out, okW s.size x.words := hw;refine qh_ (fun h3 => ?_) fun _ => ?_
    ·have h3 := of_decide_eq_true h3
     refine qg_ (z6_ (Q := fun _ => True) (by omega) h3 fun _ _ => trivial) fun x _ => ?_;rw [appS (by simp; omega), Zo];refine f0_ hs hn c (i + 1) (i + 1) _ (by omega) (by omega) (by omega) (by rw [List.length_append, List.length_singleton]; omega) fun y hy => ?_;rcases List.mem_append.1 hy with hy | hy
     ·exact hout y hy
     ·obtain rfl := List.mem_singleton.1 hy
      exact hwl.up hsz
    ·exact f0_ hs hn c (i + 1) (i + 1) out (by omega) (by omega) (by omega) (by omega) hw
  ·rw [show decide ((i : Int) ≤ (s.size : Int)) = false from decide_eq_false (by omega), if_neg (by decide)]
   exact qa_ ⟨by omega, hw⟩
theorem nv_ {n : Nat} {s : ByteArray} (hs : s.size < 200000) (hn : s.size + 2 < n) : Tot (vJ_ n s) fun r => r.1.length ≤ s.size + 1 ∧ ∀ x ∈ r.1, okW s.size x.words := by
 unfold vJ_;have h1 : Tot (jK_ n s n (0, 0)) _ := nu_ (n := n) (s := s) (by omega) n 0 0 (by omega) (by omega);have h2 : Tot (qH_ n s n 0) _ := rI_ (n := n) (s := s) (by omega) n 0 (by omega) (by omega);have h3 : Tot (jj_ n s n ([], 0, 0)) _ := f0_ (n := n) (s := s) (by omega) (by omega) n 0 0 [] (by omega) (by omega) (by omega) (by simp) (by simp);refine qg_ h1 fun k _ => ?_
 refine qg_ (Q := fun _ => True) (qh_ (fun _ => qa_ trivial) fun _ => qa_ trivial) fun b _ => ?_;refine qh_ (fun _ => qa_ (by simp)) fun _ => ?_;refine qg_ h2 fun r hr => ?_;cases r with
 | inl u => exact qg_ h3 fun o ho => qa_ ho
 | inr x =>
  have := hr x rfl;exact qa_ (by rw [this]; simp)
theorem f1_ {n : Nat} {s : ByteArray} (hs : s.size < 1000000) : ∀ (c i : Nat) (k : Int), i ≤ s.size → s.size - i < c → Tot (jx_ n s c (k, (i : Int))) fun _ => True
 | 0, _, _, _, h => by omega
 | c + 1, i, k, hi, hc => by
  rw [jx_];by_cases h : i < s.size
  ·rw [dlt h, if_pos rfl, b6_ h, Zo, wr1 (by omega)]
   refine qg_ (Q := fun _ => True) (qh_ (fun _ => qa_ trivial) fun _ => qa_ trivial) fun b _ => ?_;refine qh_ (fun _ => qa_ trivial) fun _ => ?_;rw [Zo];refine qh_ (fun _ => qa_ trivial) fun _ => ?_;refine qg_ (ky_ (by omega) (by omega)) fun _ _ => ?_;exact qh_ (fun _ => qa_ trivial) fun _ => f1_ hs c (i + 1) _ (by omega) (by omega)
  ·rw [dnlt (by omega), if_neg (by decide)]
   exact qa_ trivial
theorem s1_ {n : Nat} {s : ByteArray} (hs : s.size < 1000000) (hn : s.size < n) : Tot (zr_ n s) fun _ => True := by
 unfold zr_;have h : Tot (jx_ n s n (0, 0)) _ := f1_ (n := n) hs n 0 0 (by omega) (by omega);exact qg_ h fun r _ => by cases r <;> exact qa_ trivial
theorem nw_ {n : Nat} {b : Int} : Tot (zH_ n b) fun _ => True := by
 unfold zH_;exact qh_ (fun _ => qh_ (fun _ => qa_ trivial) fun _ => qh_ (fun _ => qa_ trivial) fun _ => qa_ trivial) fun _ => qh_ (fun _ => qa_ trivial) fun _ => qa_ trivial
theorem b9_ {n : Nat} {s : ByteArray} (hs : s.size < 1000000) : ∀ (c i : Nat), i ≤ s.size → s.size - i < c → Tot (jt_ n s c (i : Int)) fun _ => True
 | 0, _, _, h => by omega
 | c + 1, i, hi, hc => by
  rw [jt_];by_cases h : i < s.size
  ·rw [dlt h, if_pos rfl, b6_ h, Zo, wr1 (by omega)]
   have ih := b9_ (n := n) hs c (i + 1) (by omega) (by omega);refine qg_ nw_ fun b _ => ?_;exact qh_ (fun _ => ih) fun _ => qh_ (fun _ => qh_ (fun _ => qh_ (fun _ => qa_ trivial) fun _ => ih) fun _ => ih) fun _ => ih
  ·rw [dnlt (by omega), if_neg (by decide)]
   exact qa_ trivial
theorem p9_ {n : Nat} {s : ByteArray} (hs : s.size < 1000000) (hn : s.size < n) : Tot (wi_ n s) fun _ => True := by
 unfold wi_;have h : Tot (jt_ n s n 0) _ := b9_ (n := n) hs n 0 (by omega) (by omega);refine qg_ (Q := fun _ => True) ?_ fun b _ => ?_
 ·refine qh_ (fun _ => qa_ trivial) fun h1 => qh_ (fun _ => qa_ trivial) fun _ => ?_
  have h1 := of_decide_eq_false h1;refine qg_ (ky_ (by omega) (by omega)) fun _ _ => qg_ nw_ fun _ _ => qa_ trivial
 ·refine qh_ (fun _ => qa_ trivial) fun _ => ?_
  exact qg_ h fun r _ => by cases r <;> exact qa_ trivial
def sodK (k : Int) : Bool := k == 6 || k == 7
def sodN (k : Int) (j : Nat) : Nat := if sodK k = true ∧ 3 ≤ j then 1 else 0
theorem kQ_ {n : Nat} {t : GLine} {k : Int} {m : Nat} (hm : m < 1000000) (hn : m < n) (hw : okW m t.words) : ∀ (c i : Nat) (v : Int) (out : List ByteArray), 1 ≤ i → i ≤ t.words.length → t.words.length - i < c → out.length + sodN k i = i - 1 →
  Tot (jM_ n t k c (v, out, (i : Int))) fun r => (∀ x, r = .inl x → x.2.length + sodN k t.words.length = t.words.length - 1) ∧ ∀ x, r = .inr x → x.1.l = []
 | 0, _, _, _, _, _, h, _ => by omega
 | c + 1, i, v, out, h1, hi, hc, ho => by
  have hwl := hw.1;rw [jM_];by_cases h : i < t.words.length
  ·have hx : (t.words[i]).text.size ≤ m := hw.2 _ (List.getElem_mem h)
   rw [dlt h, if_pos rfl, idxS h, Zo];have hq : Tot ((if ((i : Int) == 2) then (if (k == 6) then some true else some (k == 7)) else some false) : Option Bool) fun b => b = (decide (i = 2) && sodK k) := by
    by_cases e : i = 2
    ·subst e
     unfold sodK;cases h6 : (k == 6) with
     | true => exact qa_ rfl
     | false => exact qa_ (by simp)
    ·have : ((i : Int) == 2) = false := by simp; omega
     rw [this, decide_eq_false e];exact qa_ rfl
   rw [wr1 (by omega)];refine qg_ hq fun b hb => ?_;subst hb;refine qh_ (fun h2 => ?_) fun h2 => ?_
   ·rw [Bool.and_eq_true, decide_eq_true_eq] at h2
    refine qg_ (s1_ (n := n) (s := (t.words[i]).text) (by omega) (by omega)) fun q _ => ?_;refine qh_ (fun _ => qa_ ⟨fun x e => (by cases e), fun x e => (by cases e; rfl)⟩) fun _ => ?_;refine kQ_ hm hn hw c (i + 1) q out (by omega) (by omega) (by omega) ?_;have e1 : sodN k (i + 1) = 1 := if_pos ⟨h2.2, by omega⟩;have e2 : sodN k i = 0 := if_neg (by omega);omega
   ·refine qg_ (p9_ (n := n) (s := (t.words[i]).text) (by omega) (by omega)) fun q _ => ?_
    refine qh_ (fun _ => ?_) fun _ => qa_ ⟨fun x e => (by cases e), fun x e => (by cases e; rfl)⟩;have hlen : out.length ≤ i := by omega
    rw [appS (by simp; omega), Zo];refine kQ_ hm hn hw c (i + 1) v _ (by omega) (by omega) (by omega) ?_;rw [List.length_append, List.length_singleton];have e : sodN k (i + 1) = sodN k i := by
     unfold sodN;by_cases hk : sodK k = true
     ·rw [hk] at h2
      have h2 : ¬ i = 2 := by simpa using h2
      by_cases h3 : 3 ≤ i
      ·rw [if_pos ⟨hk, by omega⟩, if_pos ⟨hk, h3⟩]
      ·rw [if_neg (by omega), if_neg (by omega)]
     ·rw [if_neg fun h => hk h.1, if_neg fun h => hk h.1]
    omega
  ·rw [dnlt (by omega), if_neg (by decide)]
   have : i = t.words.length := by omega
   subst this;exact qa_ ⟨fun x e => (by cases e; exact ho), fun x e => (by cases e)⟩
theorem ur_ {n : Nat} {t : GLine} {ks : List ByteArray} (h0 : 0 < t.words.length) (hk : ks.length < 1000000) : ∀ (c i : Nat) (v : Int), i ≤ ks.length → ks.length - i < c → Tot (jL_ n t ks c (v, (i : Int))) fun _ => True
 | 0, _, _, _, h => by omega
 | c + 1, i, v, hi, hc => by
  rw [jL_];by_cases h : i < ks.length
  ·rw [dlt h, if_pos rfl, idxS h, Zo, wr1 (by omega)]
   refine qg_ (z6_ (Q := fun _ => True) (by omega) (by omega) fun _ _ => trivial) fun _ _ => ?_;exact qh_ (fun _ => ur_ h0 hk c (i + 1) _ (by omega) (by omega)) fun _ => ur_ h0 hk c (i + 1) _ (by omega) (by omega)
  ·rw [dnlt (by omega), if_neg (by decide)]
   exact qa_ trivial
theorem da_ {a b : Bool} : Tot ((if a then some true else some b) : Option Bool) fun c => c = (a || b) := by
 cases a with
 | true => exact qa_ rfl
 | false => exact qa_ rfl
theorem ra_ {n : Nat} {t : GLine} {m : Nat} (hm : m < 1000000) (hn : m + 20 < n) (hw : okW m t.words) : Tot (vK_ n t) fun r => r.1.l.length ≤ m := by
 have hwl := hw.1;unfold vK_;refine qh_ (fun _ => qa_ (Nat.zero_le _)) fun h0 => ?_;have h0 : 0 < t.words.length := by
  have : ¬ (t.words.length : Int) = 0 := by simpa using h0
  omega
 have hz : Tot (idx t.words 0) fun _ => True := z6_ (by omega) (by omega) fun _ _ => trivial;refine qg_ (Q := fun l => l.length = 9) (qa_ rfl) fun ks hks => ?_;have h1 : Tot (jL_ n t ks n (0, 1)) _ := ur_ (n := n) h0 (by omega) n 1 0 (by omega) (by omega);refine qg_ h1 fun k _ => ?_
 refine qg_ (Q := fun r => (∃ f, r = .inr f ∧ f.1.l = []) ∨ ∃ b, r = .inl b ∧ (b = true → ((k == 1 || k == 2) = true ∧ t.words.length = 2) ∨ ((k == 3 || k == 4) = true ∧ t.words.length = 3) ∨ ((k == 5) = true ∧ t.words.length = 4) ∨ (sodK k = true ∧ 5 ≤ t.words.length) ∨ ((k == 8) = true ∧ 3 ≤ t.words.length))) ?_ fun r hr => ?_
 ·refine qg_ da_ fun b hb => ?_
  refine qh_ (fun e => qa_ (.inr ⟨_, rfl, fun h => .inl ⟨hb ▸ e, by have : (t.words.length : Int) = 2 := (by simpa using h); omega⟩⟩)) fun _ => ?_;refine qg_ da_ fun b hb => ?_;refine qh_ (fun e => qa_ (.inr ⟨_, rfl, fun h => .inr (.inl ⟨hb ▸ e, by have : (t.words.length : Int) = 3 := (by simpa using h); omega⟩)⟩)) fun _ => ?_
  refine qh_ (fun e => qa_ (.inr ⟨_, rfl, fun h => .inr (.inr (.inl ⟨e, by have : (t.words.length : Int) = 4 := (by simpa using h); omega⟩))⟩)) fun _ => ?_;refine qg_ da_ fun b hb => ?_;refine qh_ (fun e => qa_ (.inr ⟨_, rfl, fun h => .inr (.inr (.inr (.inl ⟨show (k == 6 || k == 7) = true from hb ▸ e, by
   have := of_decide_eq_true h;omega⟩)))⟩)) fun _ => ?_
  refine qh_ (fun e => qa_ (.inr ⟨_, rfl, fun h => .inr (.inr (.inr (.inr ⟨e, by have := of_decide_eq_true h; omega⟩)))⟩)) fun _ => ?_;exact qg_ hz fun x _ => qa_ (.inl ⟨_, rfl, rfl⟩)
 rcases hr with ⟨f, rfl, hf⟩ | ⟨b, rfl, hb⟩
 ·exact qa_ (by rw [hf]; exact Nat.zero_le _)
 dsimp only;refine qh_ (fun e => ?_) fun _ => qg_ hz fun x _ => qa_ (Nat.zero_le _);have hb := hb e;have h2 : Tot (jM_ n t k n (0, [], 1)) _ := kQ_ (n := n) (k := k) hm (by omega) hw n 1 0 [] (by omega) (by omega) (by omega) (by simp [sodN]);have hsod : sodN k t.words.length ≤ 1 := by unfold sodN; split <;> omega
 have hsod2 : sodK k = false → sodN k t.words.length = 0 := fun e => if_neg fun h => by rw [e] at h; cases h.1
 refine qg_ h2 fun r hr => ?_;cases r with
 | inr x => exact qa_ (by rw [hr.2 x rfl]; exact Nat.zero_le _)
 | inl p =>
  obtain ⟨v, names⟩ := p;have hlen : names.length + sodN k t.words.length = t.words.length - 1 := hr.1 _ rfl;dsimp only;have k1 : (k == 1 || k == 2) = true → sodK k = false ∧ (k == 3 || k == 4) = false ∧ (k == 5) = false ∧ (k == 8) = false := by
   intro h;rcases Bool.or_eq_true .. ▸ h with h | h <;> (obtain rfl := eq_of_beq h; decide)
  have k2 : (k == 3 || k == 4) = true → sodK k = false ∧ (k == 5) = false ∧ (k == 8) = false := by
   intro h;rcases Bool.or_eq_true .. ▸ h with h | h <;> (obtain rfl := eq_of_beq h; decide)
  have k3 : (k == 5) = true → sodK k = false ∧ (k == 8) = false := by
   intro h;obtain rfl := eq_of_beq h;decide
  have k4 : sodK k = true → (k == 8) = false ∧ (k == 5) = false := by
   intro h;rcases Bool.or_eq_true .. ▸ h with h | h <;> (obtain rfl := eq_of_beq h; decide)
  have k5 : (k == 8) = true → sodK k = false := by
   intro h;obtain rfl := eq_of_beq h;decide
  have hpos : 1 ≤ names.length := by
   rcases hb with h | h | h | h | h
   ·have := hsod2 (k1 h.1).1; omega
   ·have := hsod2 (k2 h.1).1; omega
   ·have := hsod2 (k3 h.1).1; omega
   ·omega
   ·have := hsod2 (k5 h.1); omega
  have hle : names.length ≤ t.words.length := by omega
  refine qg_ (z6_ (Q := fun _ => True) (by omega) (by omega) fun _ _ => trivial) fun x9 _ => ?_;refine qg_ da_ fun b hb2 => ?_;refine qh_ (fun e => ?_) fun e34 => ?_
  ·rw [hb2] at e
   have h2 : 2 ≤ names.length := by
    rcases hb with h | h | h | h | h
    ·rw [(k1 h.1).2.1] at e; cases e
    ·have := hsod2 (k2 h.1).1; omega
    ·have := hsod2 (k3 h.1).1; omega
    ·omega
    ·have := hsod2 (k5 h.1)
     obtain rfl := eq_of_beq h.1;cases e
   exact qg_ (z6_ (Q := fun _ => True) (by omega) (by omega) fun _ _ => trivial) fun _ _ => qa_ (Nat.zero_le _)
  rw [hb2] at e34;refine qh_ (fun e => ?_) fun e5 => ?_
  ·have h3 : 3 ≤ names.length := by
    have := hsod2 (k3 e).1;rcases hb with h | h | h | h | h
    ·rw [(k1 h.1).2.2.1] at e; cases e
    ·rw [h.1] at e34; cases e34
    ·omega
    ·rw [(k3 e).1] at h; cases h.1
    ·rw [(k3 e).2] at h; cases h.1
   exact qg_ (z6_ (Q := fun _ => True) (by omega) (by omega) fun _ _ => trivial) fun _ _ => qg_ (z6_ (Q := fun _ => True) (by omega) (by omega) fun _ _ => trivial) fun _ _ => qa_ (Nat.zero_le _)
  refine qg_ da_ fun b hb3 => ?_;refine qh_ (fun e => ?_) fun e6 => ?_
  ·refine qg_ (nL_ (a := 1) hpos (Nat.le_refl _)) fun q hq => ?_
   exact qh_ (fun _ => qa_ (by subst hq; simp only [List.length_drop, List.length_take]; omega)) fun _ => qa_ (Nat.zero_le _)
  rw [hb3] at e6;refine qh_ (fun e => ?_) fun e8 => qa_ (Nat.zero_le _);have h2 : 2 ≤ names.length := by
   have := hsod2 (k5 e);rcases hb with h | h | h | h | h
   ·rw [(k1 h.1).2.2.2] at e; cases e
   ·rw [h.1] at e34; cases e34
   ·rw [h.1] at e5; cases e5
   ·rw [(k4 h.1).1] at e; cases e
   ·omega
  refine qg_ (z6_ (Q := fun _ => True) (by omega) (by omega) fun _ _ => trivial) fun _ _ => ?_;refine qg_ (nL_ (a := 2) h2 (Nat.le_refl _)) fun q hq => ?_;exact qh_ (fun _ => qa_ (by subst hq; simp only [List.length_drop, List.length_take]; omega)) fun _ => qa_ (Nat.zero_le _)
theorem ge_ {n : Nat} {r : List GLine × Int × Int} {m : Nat} (hm : m < 1000000) (hn : m + 20 < n) (hw : ∀ x ∈ r.1, okW m x.words) : ∀ (c i : Nat) (out : List GFact), i ≤ 2000 → i ≤ r.1.length → 2000 - i < c → out.length ≤ i → (∀ f ∈ out, f.l.length ≤ m) →
  Tot (jT_ n r c (out, (i : Int))) fun q => ∀ o, (q = .inl o ∨ ∃ a b, q = .inr (o, a, b)) → o.length ≤ 2000 ∧ ∀ f ∈ o, f.l.length ≤ m
 | 0, _, _, _, _, h, _, _ => by omega
 | c + 1, i, out, hi, hl, hc, ho, hf => by
  rw [jT_];have hno : ∀ a b : Int, Tot (some (.inr ([], a, b)) : Option (List GFact ⊕ (List GFact × Int × Int))) fun q => ∀ o, (q = .inl o ∨ ∃ a b, q = .inr (o, a, b)) → o.length ≤ 2000 ∧ ∀ f ∈ o, f.l.length ≤ m := fun a b => qa_ fun o h => by
   rcases h with h | ⟨a, b, h⟩
   ·cases h
   ·cases h
    simp
  by_cases h : i < r.1.length
  ·rw [dlt h, if_pos rfl]
   refine qh_ (fun _ => ?_) fun h2 => ?_
   ·rw [idxS h, Zo]
    exact hno _ _
   ·have h2 : i ≠ 2000 := fun e => by subst e; cases h2
    rw [idxS h, Zo];refine qg_ (ra_ hm hn (hw _ (List.getElem_mem h))) fun q hq => ?_;refine qh_ (fun _ => hno _ _) fun _ => ?_;rw [appS (by simp; omega), Zo, wr1 (by omega)];refine ge_ hm hn hw c (i + 1) _ (by omega) (by omega) (by omega) (by rw [List.length_append, List.length_singleton]; omega) fun f hx => ?_;rcases List.mem_append.1 hx with hx | hx
    ·exact hf f hx
    ·obtain rfl := List.mem_singleton.1 hx
     exact hq
  ·rw [dnlt (by omega), if_neg (by decide)]
   exact qa_ fun o h => by
    rcases h with h | ⟨a, b, h⟩
    ·cases h
     exact ⟨by omega, hf⟩
    ·cases h
theorem nx_ {n : Nat} {s : ByteArray} (hs : s.size ≤ 5000) (hn : 10000 ≤ n) : Tot (zg_ n s) fun r => r.1.length ≤ 2000 ∧ ∀ f ∈ r.1, f.l.length ≤ 5000 := by
 unfold zg_;refine qg_ (nv_ (n := n) (s := s) (by omega) (by omega)) fun r hr => ?_;refine qh_ (fun _ => qa_ (by simp)) fun _ => ?_;have h : Tot (jT_ n r n ([], 0)) _ := ge_ (m := 5000) (by omega) (by omega) (fun x hx => (hr.2 x hx).up hs) n 0 [] (by omega) (by omega) (by omega) (by simp) (by simp);refine qg_ h fun q hq => ?_;cases q with
 | inl o => exact qa_ (hq o (.inl rfl))
 | inr x => exact qa_ (hq x.1 (.inr ⟨_, _, rfl⟩))
theorem rb_ {n : Nat} (hn : 10000 ≤ n) (l : List Int) : ∃ s f a e, zI_ n l true = some s ∧ zg_ n s = some (f, a, e) ∧ f.length ≤ 2000 ∧ ∀ x ∈ f, x.l.length ≤ 5000 := by
 obtain ⟨s, h1, h2⟩ := p8_ (n := n) (by omega) l true;obtain ⟨⟨f, a, e⟩, h3, h4, h5⟩ := nx_ (n := n) h2 hn;exact ⟨s, f, a, e, h1, h3, h4, h5⟩
end Go.Proofs.YtkkhgdmmbhpckaaGreat.Ab
