/-
  RmapWords: what is known ahead.
-/
import Derived.Test.YtjkclhcbjjnlaaaGreatDoorRwd
import Derived.Test.YtjkclhcbjjnlaaaGreatDoorAbZ
namespace Go.Proofs.YtjkclhcbjjnlaaaGreatDoor.Ab
open Go.RowKit
def factsW : D := .sl [[.v (.int .i64 1), .v (.string { data := #[117] }), .v (.string { data := #[] }), .v (.string { data := #[] }), .v (.int .i64 0), .sl [], .v (.int .i64 0)], [.v (.int .i64 2), .v (.string { data := #[114] }), .v (.string { data := #[] }), .v (.string { data := #[] }), .v (.int .i64 0), .sl [], .v (.int .i64 7)], [.v (.int .i64 2), .v (.string { data := #[115] }), .v (.string { data := #[] }), .v (.string { data := #[] }), .v (.int .i64 0), .sl [], .v (.int .i64 14)], [.v (.int .i64 4), .v (.string { data := #[117] }), .v (.string { data := #[114] }), .v (.string { data := #[] }), .v (.int .i64 0), .sl [], .v (.int .i64 21)]]
def rolesW : D := .ag [.sl [[.v (.string { data := #[117] })]], .sl [[.v (.string { data := #[114] })], [.v (.string { data := #[115] })]], .sl [], .sl [[.v (.string { data := #[117] }), .v (.string { data := #[114] })]], .sl [], .sl [], .sl [], .sl []]
def rowsW : D := .sl [[.v (.string { data := #[114, 95, 114, 111, 108, 101] }), .v (.string { data := #[116, 124, 114] }), .v (.string { data := #[109, 101, 109, 98, 101, 114] }), .v (.string { data := #[114, 95, 117, 115, 101, 114] }), .v (.string { data := #[116, 124, 117] }), .v (.string { data := #[] })], [.v (.string { data := #[114, 95, 116, 101, 110, 97, 110, 116] }), .v (.string { data := #[116, 124, 116] }), .v (.string { data := #[114, 111, 108, 101] }), .v (.string { data := #[114, 95, 114, 111, 108, 101] }), .v (.string { data := #[116, 124, 114] }), .v (.string { data := #[] })], [.v (.string { data := #[114, 95, 116, 101, 110, 97, 110, 116] }), .v (.string { data := #[116, 124, 116] }), .v (.string { data := #[114, 111, 108, 101] }), .v (.string { data := #[114, 95, 114, 111, 108, 101] }), .v (.string { data := #[116, 124, 115] }), .v (.string { data := #[] })], [.v (.string { data := #[114, 95, 116, 101, 110, 97, 110, 116] }), .v (.string { data := #[116, 124, 116] }), .v (.string { data := #[117, 115, 101, 114] }), .v (.string { data := #[114, 95, 117, 115, 101, 114] }), .v (.string { data := #[116, 124, 117] }), .v (.string { data := #[] })]]
set_option maxRecDepth 100000 in
theorem kn_wf : PureOK Tryz.prog 5 [.v (.string { data := #[117, 115, 101, 114, 32, 117, 10, 114, 111, 108, 101, 32, 114, 10, 114, 111, 108, 101, 32, 115, 10, 97, 115, 115, 105, 103, 110, 32, 117, 32, 114, 10] })] (.tu [factsW, .v (.int .i64 0), .v (.int .i64 0)]) true := eval_ok (N := 1000000) (n := 400) fol primsS_ok (by kernel_rfl)
set_option maxRecDepth 100000 in
theorem kn_wo : PureOK Tryz.prog 7 [factsW] (rolesW) true := eval_ok (N := 1000000) (n := 400) fol primsS_ok (by kernel_rfl)
set_option maxRecDepth 100000 in
theorem kn_wt : PureOK Tryz.prog 6 [.v (.string { data := #[116] }), rolesW] (rowsW) true := eval_ok (N := 1000000) (n := 400) fol primsS_ok (by kernel_rfl)
def primsW : List Pr1 := prC 12 (.bool true) :: prX 5 [.v (.string { data := #[117, 115, 101, 114, 32, 117, 10, 114, 111, 108, 101, 32, 114, 10, 114, 111, 108, 101, 32, 115, 10, 97, 115, 115, 105, 103, 110, 32, 117, 32, 114, 10] })] (.tu [factsW, .v (.int .i64 0), .v (.int .i64 0)]) :: prX 7 [factsW] (rolesW) :: prX 6 [.v (.string { data := #[116] }), rolesW] (rowsW) :: primsS
theorem primsW_ok : PrimOK Tryz.prog (primOf primsW) := primOf_ok _ fun p hp => by
  rcases List.mem_cons.1 hp with rfl | hp
  · exact prC_ok awake16
  rcases List.mem_cons.1 hp with rfl | hp
  · exact prX_ok kn_wf
  rcases List.mem_cons.1 hp with rfl | hp
  · exact prX_ok kn_wo
  rcases List.mem_cons.1 hp with rfl | hp
  · exact prX_ok kn_wt
  exact primsS_each p hp
/-- Eight bits of a number. -/
def lw (w : Int) : Nat := (BitVec.ofInt 64 w &&& BitVec.ofInt 64 255).toNat
noncomputable def low8 (w : Int) : Value := .int .i64 (IntKind.i64.wrap ↑(BitVec.ofInt 64 w &&& BitVec.ofInt 64 255).toNat)
theorem lw_lt (w : Int) : lw w < 256 := by
  unfold lw
  rw [BitVec.toNat_and]
  exact Nat.lt_of_le_of_lt Nat.and_le_right (by decide)
theorem low8_eq (w : Int) : low8 w = .int .i64 (lw w) := by
  unfold low8
  have := lw_lt w
  rw [show ((BitVec.ofInt 64 w &&& BitVec.ofInt 64 255).toNat : Int) = (lw w : Int) from rfl, Go.IntWalk.i64_in _ (by omega)]
theorem cl_rem (w : Int) (k n : Nat) (hn : 0 < n) (hk : lw w % n = k) : ClOK (tabP Tryz.prog) (.rem, 3, low8 w, .int .i64 n, .int .i64 k) := by
  intro hp
  rw [low8_eq, ← tab_eq]
  have h1 : ((n : Int) = 0) = False := by simp; omega
  simp only [go_sem, h1, if_true, if_false, Option.map_some]
  rw [show (lw w : Int).tmod n = (k : Int) by rw [Int.tmod_eq_emod_of_nonneg (by omega)]; omega]
end Go.Proofs.YtjkclhcbjjnlaaaGreatDoor.Ab
