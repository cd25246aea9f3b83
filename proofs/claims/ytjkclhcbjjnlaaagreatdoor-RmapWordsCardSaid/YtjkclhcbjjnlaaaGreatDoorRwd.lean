/-
  entaillaw16.awake, reckoned by the kernel.
-/
import Derived.Test.YtjkclhcbjjnlaaaGreatDoorRwb
import Derived.Test.YtjkclhcbjjnlaaaGreatDoorRwc
namespace Go.Proofs.YtjkclhcbjjnlaaaGreatDoor.Ab
open Go.RowKit
def primsA : List Pr1 := prX 5 [.v (.string { data := #[117, 115, 101, 114, 32, 117, 10, 114, 111, 108, 101, 32, 114, 10, 97, 115, 115, 105, 103, 110, 32, 117, 32, 114, 10, 103, 114, 97, 110, 116, 32, 114, 32, 100, 111, 32, 105, 116, 10] })] (.tu [factsK, .v (.int .i64 0), .v (.int .i64 0)]) :: prX 7 [factsK] (rolesK) :: prX 36 [rolesK] (rolesK) :: prX 6 [.v (.string { data := #[116] }), rolesK] (rowsK) :: prX 15 [typesD] (.v (.int .i64 0)) :: prX 33 [.v (.string { data := #[116] }), rowsK] (.tu [rolesK, .v (.bool true)]) :: prX 34 [typesD, rowsK, .ag [.v (.string { data := #[114, 95, 112, 101, 114, 109] }), .v (.string { data := #[116, 124, 100, 111, 47, 105, 116] })], .v (.string { data := #[99, 97, 110] }), .ag [.v (.string { data := #[114, 95, 117, 115, 101, 114] }), .v (.string { data := #[116, 124, 117] }), .v (.string { data := #[] })]] (.tu [.v (.bool true), .v (.int .i64 0)]) :: prX 35 [rolesK, rolesK] (.v (.bool true)) :: primsS
theorem primsA_each : ∀ p ∈ primsA, Pr1OK Tryz.prog p := fun p hp => by
  rcases List.mem_cons.1 hp with rfl | hp
  · exact prX_ok kn_rf
  rcases List.mem_cons.1 hp with rfl | hp
  · exact prX_ok kn_of
  rcases List.mem_cons.1 hp with rfl | hp
  · exact prX_ok kn_nm
  rcases List.mem_cons.1 hp with rfl | hp
  · exact prX_ok kn_tu
  rcases List.mem_cons.1 hp with rfl | hp
  · exact prX_ok kn_ck
  rcases List.mem_cons.1 hp with rfl | hp
  · exact prX_ok kn_bk
  rcases List.mem_cons.1 hp with rfl | hp
  · exact prX_ok kn_sk
  rcases List.mem_cons.1 hp with rfl | hp
  · exact prX_ok kn_sm
  exact primsS_each p hp
set_option maxRecDepth 100000 in
theorem awake16 : PureOK Tryz.prog 12 [] (.v (.bool true)) true := eval_ok (N := 1000000) (n := 400) fol (primOf_ok _ primsA_each) (by kernel_rfl)
end Go.Proofs.YtjkclhcbjjnlaaaGreatDoor.Ab
