/-
  A known text, parsed once.
-/
import Derived.Test.YtkdpiembjjefaaaGreatDoorGw
namespace Go.Proofs.YtkdpiembjjefaaaGreatDoor.Ab
open Go.RowKit
def textG : ByteArray := { data := #[117, 115, 101, 114, 32, 117, 10, 103, 114, 111, 117, 112, 32, 103, 32, 117, 10, 100, 105, 114, 32, 47, 32, 117, 32, 103, 32, 117, 58, 58, 114, 119, 120, 44, 103, 58, 58, 45, 45, 45, 44, 111, 58, 58, 45, 45, 45, 10, 102, 105, 108, 101, 32, 47, 102, 32, 117, 32, 103, 32, 117, 58, 58, 114, 119, 120, 44, 103, 58, 58, 45, 45, 45, 44, 111, 58, 58, 45, 45, 45, 10] }
def factsG : D := .tu [.sl [[.v (.int .i64 1), .v (.string { data := #[117] }), .sl [], .v (.string ByteArray.empty), .v (.string ByteArray.empty), .sl [], .v (.int .i64 0)], [.v (.int .i64 2), .v (.string { data := #[103] }), .sl [[.v (.string { data := #[117] })]], .v (.string ByteArray.empty), .v (.string ByteArray.empty), .sl [], .v (.int .i64 7)], [.v (.int .i64 3), .v (.string { data := #[47] }), .sl [], .v (.string { data := #[117] }), .v (.string { data := #[103] }), .sl [[.v (.int .i64 1), .v (.bool false), .v (.string ByteArray.empty), .v (.int .i64 7)], [.v (.int .i64 3), .v (.bool false), .v (.string ByteArray.empty), .v (.int .i64 0)], [.v (.int .i64 6), .v (.bool false), .v (.string ByteArray.empty), .v (.int .i64 0)]], .v (.int .i64 17)], [.v (.int .i64 4), .v (.string { data := #[47, 102] }), .sl [], .v (.string { data := #[117] }), .v (.string { data := #[103] }), .sl [[.v (.int .i64 1), .v (.bool false), .v (.string ByteArray.empty), .v (.int .i64 7)], [.v (.int .i64 3), .v (.bool false), .v (.string ByteArray.empty), .v (.int .i64 0)], [.v (.int .i64 6), .v (.bool false), .v (.string ByteArray.empty), .v (.int .i64 0)]], .v (.int .i64 48)]], .v (.int .i64 0), .v (.int .i64 0)]
set_option maxRecDepth 100000 in
theorem parseG : PureOK Tryz.prog 4 [.v (.string textG)] factsG true := eval_ok (N := 100000) (n := 200) fol primsT_ok (by kernel_rfl)
/-- What a function of one text is known to say of this text. -/
def prK (f : FuncId) (s : ByteArray) (d : D) : Pr1 := (f, fun vs => match vs with
  | [.v (.string t)] => if t = s then some (lift false d) else none
  | _ => none)
theorem prK_ok {P : Program} {f : FuncId} {s : ByteArray} {d : D} (h : PureOK P f [.v (.string s)] d true) : Pr1OK P (prK f s d) := by
  intro vs w hw hp nx
  simp only [prK] at hw
  split at hw
  · split at hw
    · rename_i e
      subst e
      cases hw
      exact (inl_of_pure (b := false) (is := []) rfl h (.inl rfl)).mono fun v hp nx h => h
    · cases hw
  · cases hw
end Go.Proofs.YtkdpiembjjefaaaGreatDoor.Ab
