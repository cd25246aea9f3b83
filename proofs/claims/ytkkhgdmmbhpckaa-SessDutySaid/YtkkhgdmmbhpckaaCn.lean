/-
  How many of one list are in another one. No program in sight.
-/
import Derived.Test.YtkkhgdmmbhpckaaPk
namespace Go.Proofs.Ytkkhgdmmbhpckaa.Ab
open Go.RowKit
theorem one_of {α : Type} [DecidableEq α] (x : α) : ∀ {b : List α}, b.Nodup → b.countP (fun y => decide (x = y)) = if x ∈ b then 1 else 0
  | [], _ => rfl
  | y :: b, h => by
    obtain ⟨h1, h2⟩ := List.nodup_cons.1 h
    have ih := one_of x h2
    by_cases e : x = y
    · subst e
      rw [if_neg h1] at ih
      rw [List.countP_cons_of_pos (by simp), ih, if_pos (List.mem_cons_self ..)]
    · rw [List.countP_cons_of_neg (by simp [e]), ih]
      simp [List.mem_cons, e]
/-- How many pairs of places hold the same. -/
def pairsN {α : Type} [DecidableEq α] (a b : List α) : Nat := (a.map fun x => b.countP fun y => decide (x = y)).sum
theorem pairsN_cons {α : Type} [DecidableEq α] (x : α) (a b : List α) : pairsN (x :: a) b = (b.countP fun y => decide (x = y)) + pairsN a b := rfl
theorem pairsN_eq {α : Type} [DecidableEq α] {b : List α} (h : b.Nodup) : ∀ a : List α, pairsN a b = a.countP fun x => decide (x ∈ b)
  | [] => rfl
  | x :: a => by
    rw [pairsN_cons, pairsN_eq h a, one_of x h]
    by_cases e : x ∈ b
    · rw [if_pos e, List.countP_cons_of_pos (by simp [e])]
      omega
    · rw [if_neg e, List.countP_cons_of_neg (by simp [e])]
      omega
end Go.Proofs.Ytkkhgdmmbhpckaa.Ab
