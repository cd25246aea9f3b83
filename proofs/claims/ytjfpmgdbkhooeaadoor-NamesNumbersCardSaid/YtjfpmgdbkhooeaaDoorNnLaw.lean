/-
  The walk of entaillaw0.NamesNumbers: each pair of the table holds one number twice; the two texts of errors are as they should be.
-/
import Derived.Test.YtjfpmgdbkhooeaaDoorNnAll
import Derived.Test.YtjfpmgdbkhooeaaDoorNnErr
import Derived.Lib.Hide
namespace Go.Proofs.YtjfpmgdbkhooeaaDoor
open Go.RowKit

namespace Nn
theorem flat_len (l : List Int) : (l.flatMap fun n => [Value.int .i64 n, .int .i64 n]).length = 2 * l.length := by
  induction l with
  | nil => rfl
  | cons a l ih => rw [List.flatMap_cons, List.length_append, ih]; simp; omega
theorem flat_at (l : List Int) : ∀ k, k < l.length → (l.flatMap fun n => [Value.int .i64 n, .int .i64 n])[k * 2]? = some (.int .i64 (l.getD k 0)) ∧ (l.flatMap fun n => [Value.int .i64 n, .int .i64 n])[k * 2 + 1]? = some (.int .i64 (l.getD k 0)) := by
  induction l with
  | nil => intro k h; simp at h
  | cons a l ih =>
    intro k h
    cases k with
    | zero => simp
    | succ k =>
      have := ih k (by simpa using h)
      have e : (k + 1) * 2 = k * 2 + 2 := by omega
      rw [e]
      simpa using this
def num (k : Nat) : Int := nums.getD k 0
theorem cells_at (k : Nat) (h : k < 78) : cells[k * 2]? = some (.int .i64 (num k)) ∧ cells[k * 2 + 1]? = some (.int .i64 (num k)) := by
  have := flat_at nums k h
  unfold cells num
  simpa using this
def Table (B : Nat) (w : World) : Prop := ∀ k, k < 78 → w.cell? ⟨B, k * 2, none⟩ = some (.int .i64 (num k)) ∧ w.cell? ⟨B, k * 2 + 1, none⟩ = some (.int .i64 (num k))
theorem all_table (w : World) : Calls Tryd.prog 8 #[] w fun e w' => e = .returned (.slice (some ⟨w.heap.size, 0, none⟩) 78 78) ∧ Table w.heap.size w' ∧ Below w.heap.size w w' := by
  refine (all_any w).mono ?_
  rintro e w' ⟨rfl, rfl⟩
  refine ⟨rfl, fun k h => ?_, (Below.refl _ _).alloc (Nat.le_refl _) _⟩
  have hb : (w.alloc (.cells cells 25)).heap[w.heap.size]? = some (.cells cells 25 (0, 0)) := heap_alloc_new w _
  rw [cell_of_row _ _ _ _ _ _ hb, cell_of_row _ _ _ _ _ _ hb]
  exact cells_at k h

set_option maxRecDepth 100000 in
set_option maxHeartbeats 1000000 in
theorem law_any (w : World) : Calls Tryd.prog 3 #[] w fun e w' => e = .returned (.bool true) ∧ Below w.heap.size w w' := by
  go_enter Tryd.func3, Tryd.ntmps3
  go_wp2_with (go_at_call 8; refine (all_table _).mono ?_; rintro e w1 ⟨rfl, ht, hb⟩; have HT := Lib.hid ht; clear ht)
  go_loopw [2] (fun i wr => ∃ k n : Nat, k ≤ 78 ∧ i = .int .i64 k ∧ wr = w1.drewN n) (fun i _ => 78 - (intOf i).toNat)
  case atStart => exact ⟨0, 0, by omega, rfl, rfl⟩
  case round =>
    obtain ⟨k, n, hk, rfl, rfl⟩ := hrel
    by_cases hlt : k < 78
    · obtain ⟨c0, c1⟩ := HT.out k hlt
      clear HT
      go_wp2
      go_quiet (fail)
      go_wp2
      go_roundw
      case rel => exact ⟨k + 1, _, by omega, by go_num, rfl⟩
      case measure => simp [intOf]; omega
    · clear HT
      go_wp2_with (first | (go_at_call 9; refine (error23 _).mono ?_; rintro e w1 ⟨rfl, rfl⟩) | (go_at_call 9; refine (error0 _).mono ?_; rintro e w1 ⟨rfl, rfl⟩))
      go_ret
      exact ⟨rfl, below_drewN hb _⟩
end Nn
end Go.Proofs.YtjfpmgdbkhooeaaDoor
