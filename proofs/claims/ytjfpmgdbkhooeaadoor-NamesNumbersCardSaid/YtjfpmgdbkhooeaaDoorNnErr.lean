/-
  The walks of entaillaw0.NamesNumbers: the table of pairs, an error's text at 23 and at 0, the law.
-/
import Derived.Test.YtjfpmgdbkhooeaaDoorRows
import Derived.WalkKit
import Derived.WalkSpells
import Derived.WalkLawsBesides
import Derived.Deep.QuietTactic
import Derived.BigQuiet
import Derived.Handy
namespace Go.Proofs.YtjfpmgdbkhooeaaDoor
open Go.RowKit

namespace Nn
set_option maxRecDepth 100000 in
set_option maxHeartbeats 1000000 in
theorem error23 (w : World) : Calls Tryd.prog 9 #[.int .i64 23] w fun e w' => e = .returned (.string ⟨#[101, 114, 114, 111, 114, 32, 50, 51]⟩) ∧ w' = w := by
  go_enter Tryd.func9, Tryd.ntmps9
  go_wp2
  go_ret
  exact ⟨rfl, rfl⟩
set_option maxRecDepth 100000 in
set_option maxHeartbeats 1000000 in
theorem error0 (w : World) : Calls Tryd.prog 9 #[.int .i64 0] w fun e w' => e = .returned (.string ⟨#[101, 114, 114, 111, 114, 32, 48]⟩) ∧ w' = w := by
  go_enter Tryd.func9, Tryd.ntmps9
  go_wp2
  go_ret
  exact ⟨rfl, rfl⟩
end Nn
end Go.Proofs.YtjfpmgdbkhooeaaDoor
