/-
  A closed call of layer 16, reckoned by the kernel.
-/
import Derived.Test.YtjkclhcbjjnlaaaGreatDoorRwa
namespace Go.Proofs.YtjkclhcbjjnlaaaGreatDoor.Ab
open Go.RowKit
set_option maxRecDepth 100000 in
theorem kn_bk : PureOK Tryz.prog 33 [.v (.string { data := #[116] }), rowsK] (.tu [rolesK, .v (.bool true)]) true := eval_ok (N := 1000000) (n := 400) fol primsS_ok (by kernel_rfl)
set_option maxRecDepth 100000 in
theorem kn_ck : PureOK Tryz.prog 15 [typesD] (.v (.int .i64 0)) true := eval_ok (N := 1000000) (n := 400) fol primsS_ok (by kernel_rfl)
end Go.Proofs.YtjkclhcbjjnlaaaGreatDoor.Ab
