/-
  Closed calls of layer 16, reckoned by the kernel.
-/
import Derived.Test.YtjkclhcbjjnlaaaGreatDoorRq
namespace Go.Proofs.YtjkclhcbjjnlaaaGreatDoor.Ab
open Go.RowKit
def factsK : D := .sl [[.v (.int .i64 1), .v (.string { data := #[117] }), .v (.string { data := #[] }), .v (.string { data := #[] }), .v (.int .i64 0), .sl [], .v (.int .i64 0)], [.v (.int .i64 2), .v (.string { data := #[114] }), .v (.string { data := #[] }), .v (.string { data := #[] }), .v (.int .i64 0), .sl [], .v (.int .i64 7)], [.v (.int .i64 4), .v (.string { data := #[117] }), .v (.string { data := #[114] }), .v (.string { data := #[] }), .v (.int .i64 0), .sl [], .v (.int .i64 14)], [.v (.int .i64 5), .v (.string { data := #[114] }), .v (.string { data := #[100, 111] }), .v (.string { data := #[105, 116] }), .v (.int .i64 0), .sl [], .v (.int .i64 25)]]
def rolesK : D := .ag [.sl [[.v (.string { data := #[117] })]], .sl [[.v (.string { data := #[114] })]], .sl [], .sl [[.v (.string { data := #[117] }), .v (.string { data := #[114] })]], .sl [[.v (.string { data := #[114] }), .v (.string { data := #[100, 111] }), .v (.string { data := #[105, 116] })]], .sl [], .sl [], .sl []]
def rowsK : D := .sl [[.v (.string { data := #[114, 95, 112, 101, 114, 109] }), .v (.string { data := #[116, 124, 100, 111, 47, 105, 116] }), .v (.string { data := #[103, 114, 97, 110, 116] }), .v (.string { data := #[114, 95, 114, 111, 108, 101] }), .v (.string { data := #[116, 124, 114] }), .v (.string { data := #[] })], [.v (.string { data := #[114, 95, 114, 111, 108, 101] }), .v (.string { data := #[116, 124, 114] }), .v (.string { data := #[109, 101, 109, 98, 101, 114] }), .v (.string { data := #[114, 95, 117, 115, 101, 114] }), .v (.string { data := #[116, 124, 117] }), .v (.string { data := #[] })], [.v (.string { data := #[114, 95, 116, 101, 110, 97, 110, 116] }), .v (.string { data := #[116, 124, 116] }), .v (.string { data := #[114, 111, 108, 101] }), .v (.string { data := #[114, 95, 114, 111, 108, 101] }), .v (.string { data := #[116, 124, 114] }), .v (.string { data := #[] })], [.v (.string { data := #[114, 95, 116, 101, 110, 97, 110, 116] }), .v (.string { data := #[116, 124, 116] }), .v (.string { data := #[117, 115, 101, 114] }), .v (.string { data := #[114, 95, 117, 115, 101, 114] }), .v (.string { data := #[116, 124, 117] }), .v (.string { data := #[] })]]
set_option maxRecDepth 100000 in
theorem kn_rf : PureOK Tryz.prog 5 [.v (.string { data := #[117, 115, 101, 114, 32, 117, 10, 114, 111, 108, 101, 32, 114, 10, 97, 115, 115, 105, 103, 110, 32, 117, 32, 114, 10, 103, 114, 97, 110, 116, 32, 114, 32, 100, 111, 32, 105, 116, 10] })] (.tu [factsK, .v (.int .i64 0), .v (.int .i64 0)]) true := eval_ok (N := 1000000) (n := 400) fol primsS_ok (by kernel_rfl)
set_option maxRecDepth 100000 in
theorem kn_of : PureOK Tryz.prog 7 [factsK] (rolesK) true := eval_ok (N := 1000000) (n := 400) fol primsS_ok (by kernel_rfl)
set_option maxRecDepth 100000 in
theorem kn_nm : PureOK Tryz.prog 36 [rolesK] (rolesK) true := eval_ok (N := 1000000) (n := 400) fol primsS_ok (by kernel_rfl)
set_option maxRecDepth 100000 in
theorem kn_tu : PureOK Tryz.prog 6 [.v (.string { data := #[116] }), rolesK] (rowsK) true := eval_ok (N := 1000000) (n := 400) fol primsS_ok (by kernel_rfl)
set_option maxRecDepth 100000 in
theorem kn_sm : PureOK Tryz.prog 35 [rolesK, rolesK] (.v (.bool true)) true := eval_ok (N := 1000000) (n := 400) fol primsS_ok (by kernel_rfl)
end Go.Proofs.YtjkclhcbjjnlaaaGreatDoor.Ab
