/-
  A closed call of layer 16, reckoned by the kernel.
-/
import Derived.Test.YtjkclhcbjjnlaaaGreatDoorRwa
namespace Go.Proofs.YtjkclhcbjjnlaaaGreatDoor.Ab
open Go.RowKit
set_option maxRecDepth 100000 in
theorem kn_sk : PureOK Tryz.prog 34 [typesD, rowsK, .ag [.v (.string { data := #[114, 95, 112, 101, 114, 109] }), .v (.string { data := #[116, 124, 100, 111, 47, 105, 116] })], .v (.string { data := #[99, 97, 110] }), .ag [.v (.string { data := #[114, 95, 117, 115, 101, 114] }), .v (.string { data := #[116, 124, 117] }), .v (.string { data := #[] })]] (.tu [.v (.bool true), .v (.int .i64 0)]) true := eval_ok (N := 1000000) (n := 400) fol primsS_ok (by kernel_rfl)
end Go.Proofs.YtjkclhcbjjnlaaaGreatDoor.Ab
