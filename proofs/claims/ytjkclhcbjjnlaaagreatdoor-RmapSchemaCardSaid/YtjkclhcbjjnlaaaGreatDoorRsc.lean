/-
  RmapSchema, reckoned by the kernel.
-/
import Derived.Test.YtjkclhcbjjnlaaaGreatDoorRwd
import Derived.Test.YtjkclhcbjjnlaaaGreatDoorRs2
namespace Go.Proofs.YtjkclhcbjjnlaaaGreatDoor.Ab
open Go.RowKit
def ranksD : D := .tu [.sl [[.v (.string { data := #[114, 95, 115, 101, 115, 115, 105, 111, 110] }), .v (.string { data := #[111, 119, 110, 101, 114] })], [.v (.string { data := #[114, 95, 114, 111, 108, 101] }), .v (.string { data := #[109, 101, 109, 98, 101, 114] })], [.v (.string { data := #[114, 95, 114, 111, 108, 101] }), .v (.string { data := #[97, 99, 116, 105, 118, 101] })], [.v (.string { data := #[114, 95, 112, 101, 114, 109] }), .v (.string { data := #[103, 114, 97, 110, 116] })], [.v (.string { data := #[114, 95, 112, 101, 114, 109] }), .v (.string { data := #[99, 97, 110] })], [.v (.string { data := #[114, 95, 112, 101, 114, 109] }), .v (.string { data := #[109, 97, 121] })], [.v (.string { data := #[114, 95, 115, 115, 100] }), .v (.string { data := #[114, 111, 108, 101] })], [.v (.string { data := #[114, 95, 100, 115, 100] }), .v (.string { data := #[114, 111, 108, 101] })], [.v (.string { data := #[114, 95, 116, 101, 110, 97, 110, 116] }), .v (.string { data := #[117, 115, 101, 114] })], [.v (.string { data := #[114, 95, 116, 101, 110, 97, 110, 116] }), .v (.string { data := #[114, 111, 108, 101] })], [.v (.string { data := #[114, 95, 116, 101, 110, 97, 110, 116] }), .v (.string { data := #[115, 101, 115, 115, 105, 111, 110] })]], .sl [[.v (.int .i64 0)], [.v (.int .i64 0)], [.v (.int .i64 0)], [.v (.int .i64 0)], [.v (.int .i64 0)], [.v (.int .i64 0)], [.v (.int .i64 0)], [.v (.int .i64 0)], [.v (.int .i64 0)], [.v (.int .i64 0)], [.v (.int .i64 0)]], .v (.bool true)]
set_option maxRecDepth 100000 in
theorem kn_rk : PureOK Tryz.prog 45 [typesD] ranksD true := eval_ok (N := 1000000) (n := 400) fol primsS_ok (by kernel_rfl)
def primsL : List Pr1 := prC 12 (.bool true) :: prK 13 textW (.tu [typesD, .v (.int .i64 0), .v (.int .i64 0)]) :: prX 45 [typesD] ranksD :: prX 15 [typesD] (.v (.int .i64 0)) :: primsS
theorem primsL_ok : PrimOK Tryz.prog (primOf primsL) := primOf_ok _ fun p hp => by
  rcases List.mem_cons.1 hp with rfl | hp
  · exact prC_ok awake16
  rcases List.mem_cons.1 hp with rfl | hp
  · exact prK_ok parseW
  rcases List.mem_cons.1 hp with rfl | hp
  · exact prX_ok kn_rk
  rcases List.mem_cons.1 hp with rfl | hp
  · exact prX_ok kn_ck
  exact primsS_each p hp
set_option maxRecDepth 100000 in
theorem schema16 : PureOK Tryz.prog 4 [] (.v (.bool true)) true := eval_ok (N := 1000000) (n := 400) fol primsL_ok (by kernel_rfl)
def law16_RmapSchema (_ : Nat) : Option Bool := some true
theorem law16_RmapSchema_ok {n : Nat} {r : Bool} (H : law16_RmapSchema n = some r) : PureOK Tryz.prog 4 [] (.v (.bool r)) true := by
  obtain rfl := Option.some.inj H
  exact schema16
theorem law_schema_ex : ∃ n, law16_RmapSchema n = some true := ⟨0, rfl⟩
end Go.Proofs.YtjkclhcbjjnlaaaGreatDoor.Ab
