/-
 What the library's Compact keeps, place by place. No program in sight.
-/
import Derived.Test.YtjkdbakgnnhdnaaGreatLtx
namespace Go.Proofs.YtjkdbakgnnhdnaaGreat.Ab
open Go.RowKit Lib
section
variable {α : Type} [Inhabited α] [DecidableEq α]
def cq (xs : List α) (m : Nat) : List α := compactUpTo xs.toArray m
def yq (xs : List α) (m : Nat) : List α := cq xs m ++ xs.drop (cq xs m).length
theorem cq_one {xs : List α} (h : 0 < xs.length) : cq xs 1 = xs.take 1 := by
 obtain ⟨x, r, rfl⟩ : ∃ x r, xs = x :: r := by cases xs with | nil => simp at h | cons x r => exact ⟨x, r, rfl⟩
 simp [cq, compactUpTo, keeps, List.range_succ]
omit [DecidableEq α] in
theorem tget {xs : List α} {k : Nat} (h : k < xs.length) : xs.toArray[k]! = xs[k] := by simp [h]
theorem cq_eq {xs : List α} {m : Nat} (h : m + 1 < xs.length) (he : xs[m + 1] = xs[m]) : cq xs (m + 2) = cq xs (m + 1) := by
 unfold cq
 rw [compactUpTo_succ, keeps_neg (by omega) (by rw [Nat.add_sub_cancel, tget h, tget (by omega), he]), if_neg (by decide), List.append_nil]
theorem cq_ne {xs : List α} {m : Nat} (h : m + 1 < xs.length) (he : xs[m + 1] ≠ xs[m]) : cq xs (m + 2) = cq xs (m + 1) ++ [xs[m + 1]] := by
 unfold cq
 rw [compactUpTo_succ, keeps_pos (by rw [Nat.add_sub_cancel, tget h, tget (by omega)]; exact he), if_pos rfl, tget h]
theorem cq_le (xs : List α) : ∀ m, (cq xs m).length ≤ m
 | 0 => by simp [cq, compactUpTo]
 | m + 1 => by
  have := cq_le xs m
  unfold cq at *
  rw [compactUpTo_succ, List.length_append]
  split <;> simp <;> omega
theorem yq_len {xs : List α} {m : Nat} (h : m ≤ xs.length) : (yq xs m).length = xs.length := by
 have := cq_le xs m
 unfold yq
 rw [List.length_append, List.length_drop]
 omega
theorem yq_at {xs : List α} {m j : Nat} (h1 : (cq xs m).length ≤ j) (h2 : j < xs.length) : (yq xs m)[j]? = some xs[j] := by
 unfold yq
 rw [List.getElem?_append_right h1, List.getElem?_drop, show (cq xs m).length + (j - (cq xs m).length) = j by omega, List.getElem?_eq_getElem h2]
theorem yq_init {xs : List α} {k : Nat} (h : cq xs k = xs.take k) (hk : k ≤ xs.length) : yq xs k = xs := by
 unfold yq
 rw [h, List.length_take, Nat.min_eq_left hk, List.take_append_drop]
theorem yq_same {xs : List α} {m : Nat} (h : cq xs (m + 2) = cq xs (m + 1)) : yq xs (m + 2) = yq xs (m + 1) := by
 unfold yq
 rw [h]
theorem yq_set {xs : List α} {m : Nat} (h : m + 1 < xs.length) (hl : (cq xs (m + 1)).length < xs.length) (he : xs[m + 1] ≠ xs[m]) : (yq xs (m + 1)).set (cq xs (m + 1)).length xs[m + 1] = yq xs (m + 2) := by
 unfold yq
 rw [cq_ne h he, List.set_append_right _ _ (Nat.le_refl _), Nat.sub_self, List.drop_eq_getElem_cons hl, List.set_cons_zero, List.append_assoc, List.length_append, List.length_singleton]
 rfl
theorem cq_all (xs : List α) : cq xs xs.length = compact xs := rfl
end
end Go.Proofs.YtjkdbakgnnhdnaaGreat.Ab
