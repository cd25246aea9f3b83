/-
  A slice that reads as a list of tuples. No walk here.
-/
import Derived.Test.YtdckfddlcmkdlaaOrd
import Derived.Test.YtdckfddlcmkdlaaLaw
namespace Go.Proofs.Ytdckfddlcmkdlaa
open Go.RowKit
namespace Rd

/-- Six cells that are a tuple. -/
def Cs (w : World) (b o : Nat) (x : Tp) : Prop := ∀ j v, x.enc[j]? = some v → w.cell? ⟨b, o + j, none⟩ = some v
theorem Cs.cells {w : World} {b o : Nat} {x : Tp} (h : Cs w b o x) :
    w.cell? ⟨b, o, none⟩ = some (.string x.ot) ∧ w.cell? ⟨b, o + 1, none⟩ = some (.string x.oi) ∧ w.cell? ⟨b, o + 2, none⟩ = some (.string x.rl) ∧ w.cell? ⟨b, o + 3, none⟩ = some (.string x.st) ∧ w.cell? ⟨b, o + 4, none⟩ = some (.string x.si) ∧ w.cell? ⟨b, o + 5, none⟩ = some (.string x.sr) :=
  ⟨h 0 _ rfl, h 1 _ rfl, h 2 _ rfl, h 3 _ rfl, h 4 _ rfl, h 5 _ rfl⟩
theorem Cs.reads {w : World} {b o : Nat} {x : Tp} (h : Cs w b o x) : ∀ j v, x.enc[j]? = some v → w.cell? ((⟨b, o, none⟩ : Addr).add j) = some v := by
  intro j v hv
  have hadd : (⟨b, o, none⟩ : Addr).add j = ⟨b, o + j, none⟩ := by unfold Addr.add; split <;> simp_all
  rw [hadd]
  exact h j v hv
theorem Cs.keep {w w' : World} {b o : Nat} {x : Tp} (h : Cs w b o x) (hk : ∀ i, w'.cell? ⟨b, i, none⟩ = w.cell? ⟨b, i, none⟩) : Cs w' b o x := fun j v hv => (hk _).trans (h j v hv)

/-- 'slice A n c' reads as xs. -/
structure At (w : World) (A : Option Addr) (n c : Nat) (xs : List Tp) : Prop where
  len : xs.length = n
  cap : n ≤ c
  max : c ≤ maxLen
  nilc : A = none → c = 0
  at_ : ∀ (i : Nat) (x : Tp), xs[i]? = some x → ∃ b o, A = some ⟨b, o, none⟩ ∧ b < w.heap.size ∧ Cs w b (o + i * 6) x
section
variable {w w' : World} {A : Option Addr} {n c : Nat} {xs : List Tp}
theorem At.keep (h : At w A n c xs) (hs : w.heap.size ≤ w'.heap.size) (hk : ∀ b i, b < w.heap.size → w'.cell? ⟨b, i, none⟩ = w.cell? ⟨b, i, none⟩) : At w' A n c xs :=
  ⟨h.len, h.cap, h.max, h.nilc, fun i x hx => by
    obtain ⟨b, o, e, hb, hc⟩ := h.at_ i x hx
    exact ⟨b, o, e, by omega, hc.keep fun j => hk b j hb⟩⟩
theorem At.ext (h : At w A n c xs) (hb : Below w.heap.size w w') : At w' A n c xs := h.keep hb.size fun b i hlt => hb.cell (p := ⟨b, i, none⟩) hlt
theorem At.nil (w : World) : At w none 0 0 [] := ⟨rfl, Nat.le_refl _, by simp [maxLen], fun _ => rfl, fun i x hx => by simp at hx⟩
theorem At.empty (w : World) (A : Option Addr) {c : Nat} (hc : c ≤ maxLen) (hA : A = none → c = 0) : At w A 0 c [] := ⟨rfl, Nat.zero_le _, hc, hA, fun i x hx => by simp at hx⟩
/-- The k-th element. -/
theorem At.get (h : At w A n c xs) {k : Nat} (hk : k < n) : ∃ b o x, A = some ⟨b, o, none⟩ ∧ b < w.heap.size ∧ xs[k]? = some x ∧ Cs w b (o + k * 6) x := by
  have hl : k < xs.length := by rw [h.len]; exact hk
  obtain ⟨b, o, e, hb, hc⟩ := h.at_ k _ (List.getElem?_eq_getElem hl)
  exact ⟨b, o, _, e, hb, List.getElem?_eq_getElem hl, hc⟩
theorem At.take (h : At w A n c xs) {k : Nat} (hk : k ≤ n) : At w A k c (xs.take k) :=
  ⟨by rw [List.length_take, h.len]; omega, by have := h.cap; omega, h.max, h.nilc, fun i x hx => by
    rw [List.getElem?_take] at hx
    split at hx
    · exact h.at_ i x hx
    · cases hx⟩
theorem At.drop (h : At w A n c xs) {k : Nat} (hk : k ≤ n) : At w (if c = k then A else A.map (·.add (k * 6))) (n - k) (c - k) (xs.drop k) := by
  refine ⟨by rw [List.length_drop, h.len], by have := h.cap; omega, by have := h.max; omega, fun hA => ?_, fun i x hx => ?_⟩
  · by_cases hck : c = k
    · omega
    · rw [if_neg hck, Option.map_eq_none_iff] at hA
      have := h.nilc hA
      omega
  · rw [List.getElem?_drop] at hx
    obtain ⟨b, o, e, hb, hc⟩ := h.at_ (k + i) x hx
    have hlt : k + i < xs.length := (List.getElem?_eq_some_iff.1 hx).1
    rw [h.len] at hlt
    have := h.cap
    rw [if_neg (by omega), e]
    refine ⟨b, o + k * 6, ?_, hb, ?_⟩
    · simp only [Option.map_some, Addr.add]
      split
      · rename_i h0; simp [h0]
      · rfl
    · have e2 : o + k * 6 + i * 6 = o + (k + i) * 6 := by omega
      rw [e2]
      exact hc
end

/-- The cells of a list of tuples, one behind the other. -/
def flat (xs : List Tp) : List Value := xs.flatMap Tp.enc
theorem flat_len : ∀ xs : List Tp, (flat xs).length = xs.length * 6
  | [] => rfl
  | x :: xs => by
    have ih := flat_len xs
    unfold flat at *
    rw [List.flatMap_cons, List.length_append, ih, Tp.enc_len, List.length_cons]
    omega
theorem flat_at : ∀ (xs : List Tp) (i : Nat) (x : Tp), xs[i]? = some x → ∀ j v, x.enc[j]? = some v → (flat xs)[i * 6 + j]? = some v
  | [], i, x, h, _, _, _ => by simp at h
  | y :: xs, 0, x, h, j, v, hv => by
    simp at h
    subst h
    have hj : j < y.enc.length := (List.getElem?_eq_some_iff.1 hv).1
    unfold flat
    rw [List.flatMap_cons, Nat.zero_mul, Nat.zero_add, List.getElem?_append_left hj]
    exact hv
  | y :: xs, i + 1, x, h, j, v, hv => by
    have ih := flat_at xs i x (by simpa using h) j v hv
    unfold flat at *
    rw [List.flatMap_cons, List.getElem?_append_right (by rw [Tp.enc_len]; omega), Tp.enc_len]
    have : (i + 1) * 6 + j - 6 = i * 6 + j := by omega
    rw [this]
    exact ih
theorem flat_one (xs : List Tp) : ∀ v ∈ flat xs, v.oneCell' = true := by
  intro v hv
  obtain ⟨x, _, hx⟩ := List.mem_flatMap.1 hv
  exact x.enc_one v hx
theorem flat_append (a b : List Tp) : flat (a ++ b) = flat a ++ flat b := by simp [flat]
/-- Every cell of the flat row, out of the elements'. -/
theorem flat_cases : ∀ (xs : List Tp) (t : Nat) (v : Value), (flat xs)[t]? = some v → ∃ i x j, xs[i]? = some x ∧ x.enc[j]? = some v ∧ t = i * 6 + j
  | [], t, v, h => by simp [flat] at h
  | y :: xs, t, v, h => by
    unfold flat at h
    rw [List.flatMap_cons] at h
    by_cases ht : t < 6
    · rw [List.getElem?_append_left (by rw [Tp.enc_len]; exact ht)] at h
      exact ⟨0, y, t, by simp, h, by omega⟩
    · rw [List.getElem?_append_right (by rw [Tp.enc_len]; omega), Tp.enc_len] at h
      obtain ⟨i, x, j, h1, h2, h3⟩ := flat_cases xs (t - 6) v h
      exact ⟨i + 1, x, j, by simpa using h1, h2, by omega⟩
/-- An owned row of cells, as a list of tuples. -/
theorem At.of_own {w : World} {base : Nat} {e : TypeId} {A : Option Addr} {n c : Nat} {xs : List Tp} (h : w.ownsRow base e 6 (.slice A n c) n (flat xs)) : At w A n c xs := by
  obtain ⟨hl, hc⟩ := h
  rw [flat_len] at hl
  have hn : xs.length = n := by omega
  rcases hc with ⟨hv, h0⟩ | ⟨g, cap, cur, hv, hg, hh, hnc, hm, hs, ht⟩
  · injection hv with h1 h2 h3
    subst h1; subst h2; subst h3
    exact ⟨hn, Nat.le_refl _, by simp [maxLen], fun _ => rfl, fun i x hx => by
      have := (List.getElem?_eq_some_iff.1 hx).1
      omega⟩
  · injection hv with h1 h2 h3
    subst h1; subst h3
    have hlt : g < w.heap.size := (Array.getElem?_eq_some_iff.1 hh).1
    refine ⟨hn, hnc, hm, fun h => (by cases h), fun i x hx => ⟨g, 0, rfl, hlt, fun j v hv => ?_⟩⟩
    rw [cell_of_row w g _ cur e (0, 0) hh]
    have h1 := flat_at xs i x hx j v hv
    rw [← ht, List.getElem?_take] at h1
    split at h1
    · rw [Nat.zero_add, ← Array.getElem?_toList]
      exact h1
    · cases h1
end Rd
end Go.Proofs.Ytdckfddlcmkdlaa
