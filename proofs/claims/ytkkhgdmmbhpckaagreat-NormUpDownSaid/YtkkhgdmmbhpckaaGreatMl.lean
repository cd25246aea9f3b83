/-
 Maps of lists, and maps, told plainly. No program in sight.
-/
import Derived.Test.YtkkhgdmmbhpckaaGreatPk
namespace Go.Proofs.YtkkhgdmmbhpckaaGreat.Ab
open Go.RowKit
section
variable {K α : Type} [BEq K] [LawfulBEq K]
theorem madd_get (k k' : K) (ys : List α) : ∀ es : List (K × List α), mgetD k [] (madd k' ys es) = if k == k' then mgetD k [] es ++ ys else mgetD k [] es
 | [] => by
  cases h : (k == k') <;> simp [madd, mgetD, mget, h]
 | p :: r => by
  have ih := madd_get k k' ys r
  cases h1 : (k' == p.1) with
  | true =>
   have e1 : k' = p.1 := by simpa using h1
   cases h2 : (k == k') with
   | true =>
    have e2 : k = k' := by simpa using h2
    subst e2
    simp [madd, mgetD, mget, h1]
   | false =>
    have h3 : (k == p.1) = false := by rw [← e1]; exact h2
    simp [madd, mgetD, mget, h1, h2, h3]
  | false =>
   cases h3 : (k == p.1) with
   | true =>
    have e3 : k = p.1 := by simpa using h3
    have h2 : (k == k') = false := by
     cases h2 : (k == k') with
     | false => rfl
     | true =>
      have e2 : k = k' := by simpa using h2
      rw [← e2, e3] at h1
      simp at h1
    simp [madd, mgetD, mget, h1, h2, h3]
   | false =>
    simp only [mgetD] at ih
    simp [madd, mgetD, mget, h1, h3, ih]
omit [LawfulBEq K] in
theorem madd_len (k : K) (ys : List α) : ∀ es : List (K × List α), (madd k ys es).length ≤ es.length + 1
 | [] => by simp [madd]
 | p :: r => by
  have ih := madd_len k ys r
  unfold madd
  split <;> simp <;> omega
structure small (m : Nat) (es : List (K × List α)) : Prop where
 l : es.length ≤ m
 g : ∀ k, (mgetD k [] es).length ≤ m
theorem small.add {m : Nat} {es : List (K × List α)} (h : small m es) (k : K) (y : α) : small (m + 1) (madd k [y] es) := ⟨Nat.le_trans (madd_len k [y] es) (Nat.add_le_add_right h.l 1), fun k' => by
 rw [madd_get]
 have := h.g k'
 split
 ·rw [List.length_append, List.length_singleton]; omega
 ·omega⟩
omit [LawfulBEq K] in
theorem small.up {m m' : Nat} {es : List (K × List α)} (h : small m es) (k : m ≤ m') : small m' es := ⟨Nat.le_trans h.l k, fun x => Nat.le_trans (h.g x) k⟩
omit [LawfulBEq K] in
theorem small_nil {m : Nat} : small m ([] : List (K × List α)) := ⟨Nat.zero_le _, fun _ => Nat.zero_le _⟩
omit [LawfulBEq K] in
theorem small.fam {m : Nat} {es : List (K × List α)} (h : small m es) (hm : m < 4294967296) (k : K) : famG k es = true := by
 have h1 := h.l
 have h2 := h.g k
 simp only [famG, Bool.and_eq_true, decide_eq_true_eq]
 omega
omit [LawfulBEq K] in
theorem small.dec {m : Nat} {es : List (K × List α)} (h : small m es) (hm : m ≤ 4294967296) : decide (es.length ≤ 4294967296) = true := decide_eq_true (Nat.le_trans h.l hm)
theorem fold_get {β : Type} (key : β → K) (val : β → α) (k : K) : ∀ (l : List β) (es : List (K × List α)), mgetD k [] (l.foldl (fun es t => madd (key t) [val t] es) es) = mgetD k [] es ++ (l.filter fun t => k == key t).map val
 | [], es => by simp
 | t :: r, es => by
  rw [List.foldl_cons, fold_get key val k r, madd_get, List.filter_cons]
  split <;> simp
theorem fold_small {β : Type} (key : β → K) (val : β → α) : ∀ (l : List β) (m : Nat) (es : List (K × List α)), small m es → small (m + l.length) (l.foldl (fun es t => madd (key t) [val t] es) es)
 | [], m, es, h => h
 | t :: r, m, es, h => by
  have := fold_small key val r (m + 1) _ (h.add (key t) (val t))
  rw [List.foldl_cons, List.length_cons, show m + (r.length + 1) = m + 1 + r.length by omega]
  exact this
end
theorem grd_t {β : Type} {c : Bool} {k : Option β} (h : c = true) : grd c k = k := by
 unfold grd
 rw [if_pos h]
theorem mset_get {K V : Type} [BEq K] [LawfulBEq K] (k k' : K) (v z : V) : ∀ m : List (K × V), mgetD k z (mset k' v m) = if k == k' then v else mgetD k z m
 | [] => by cases h : (k == k') <;> simp [mset, mgetD, mget, h]
 | p :: r => by
  have ih := mset_get k k' v z r
  cases h1 : (k' == p.1) with
  | true =>
   have e1 : k' = p.1 := by simpa using h1
   cases h2 : (k == k') with
   | true =>
    have e2 : k = k' := by simpa using h2
    subst e2
    simp [mset, mgetD, mget, h1]
   | false =>
    have h3 : (k == p.1) = false := by rw [← e1]; exact h2
    simp [mset, mgetD, mget, h1, h2, h3]
  | false =>
   cases h3 : (k == p.1) with
   | true =>
    have e3 : k = p.1 := by simpa using h3
    have h2 : (k == k') = false := by
     cases h2 : (k == k') with
     | false => rfl
     | true =>
      have e2 : k = k' := by simpa using h2
      rw [← e2, e3] at h1
      simp at h1
    simp [mset, mgetD, mget, h1, h2, h3]
   | false =>
    simp only [mgetD] at ih
    simp [mset, mgetD, mget, h1, h3, ih]
end Go.Proofs.YtkkhgdmmbhpckaaGreat.Ab
