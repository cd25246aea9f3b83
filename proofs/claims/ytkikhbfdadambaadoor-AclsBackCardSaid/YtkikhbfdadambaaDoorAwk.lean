/-
  What the document fixes, of file policies: reckoned.
-/
import Derived.Test.YtkikhbfdadambaaDoorAwa
namespace Go.Proofs.YtkikhbfdadambaaDoor.Ab
open Go.RowKit
theorem awake17 : law17_awake 1000001 = some true := by kernel_rfl
end Go.Proofs.YtkikhbfdadambaaDoor.Ab
