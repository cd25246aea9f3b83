/-
  A box that holds a row: all of it written at once.
-/
import Derived.Test.YtkikhbfdadambaaDoorAbJ
namespace Go.Proofs.YtkikhbfdadambaaDoor.Ab
theorem boxL_drop {α : Type} {f : α → Value} {l : List α} {n : Nat} (h : l.length = n) : List.drop n (boxL f l) = [] := by
  rw [boxL, List.drop_eq_nil_of_le (by simp [h])]
theorem boxL_length {α : Type} {f : α → Value} {l : List α} {n : Nat} (h : l.length = n) : (boxL f l).length = n := by
  rw [boxL, List.length_map, h]
end Go.Proofs.YtkikhbfdadambaaDoor.Ab
