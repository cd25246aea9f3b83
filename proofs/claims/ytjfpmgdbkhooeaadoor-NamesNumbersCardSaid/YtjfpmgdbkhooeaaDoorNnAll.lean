/-
  The walks of entaillaw0.NamesNumbers: the table of pairs, an error's text at 23 and at 0, the law.
-/
import Derived.Test.YtjfpmgdbkhooeaaDoorRows
import Derived.WalkKit
import Derived.WalkSpells
import Derived.WalkLawsBesides
import Derived.Deep.QuietTactic
import Derived.BigQuiet
import Derived.Handy
namespace Go.Proofs.YtjfpmgdbkhooeaaDoor
open Go.RowKit

namespace Nn
def nums : List Int := [0, 1, 2, 3, 4, 5, 6, 7, 8, 9, 10, 11, 12, 13, 14, 15, 16, 17, 18, 19, 20, 21, 22, 23, 30, 250, 1000000, 100000, 200000, 2000, 20, 20000, 1000, 1, 2, 1, 2, 3, 4, 5, 1, 2, 3, 4, 5, 6, 1, 2, 3, 4, 5, 6, 7, 8, 1, 2, 3, 4, 1, 2, 3, 4, 5, 6, 1, 2, 3, 4, 5, 6, 7, 1, 2, 3, 1, 2, 3, 4]
def cells : Array Value := (nums.flatMap fun n => [Value.int .i64 n, .int .i64 n]).toArray

theorem wp_of_run {P : Program} {o : Oper} {a : Act} {w w' : World} {next : Act → World → Prop} {Q : Exit → Act → World → Prop} {v : Value}
    (h : (execOp a.eval o).run P w = .ok (.value v) w') (k : next (a.put o.dst v) w') : Oper.wp P o a w next Q := by
  unfold Oper.wp
  rw [h]
  exact k

set_option maxRecDepth 100000 in
set_option maxHeartbeats 4000000 in
theorem all_any (w : World) : Calls Tryd.prog 8 #[] w fun e w' => e = .returned (.slice (some ⟨w.heap.size, 0, none⟩) 78 78) ∧ w' = w.alloc (.cells cells 25) := by
  go_enter Tryd.func8, Tryd.ntmps8
  go_wp2
  refine wp_of_run (v := .slice (some ⟨w.heap.size, 0, none⟩) 78 78) (w' := w.alloc (.cells cells 25)) (by kernel_rfl) ?_
  go_wp2
  go_ret
  exact ⟨rfl, rfl⟩
end Nn
end Go.Proofs.YtjfpmgdbkhooeaaDoor
