/-
  The schema of roles as it is parsed, known ahead.
-/
import Derived.Test.YtjkclhcbjjnlaaaGreatDoorRs1
namespace Go.Proofs.YtjkclhcbjjnlaaaGreatDoor.Ab
open Go.RowKit
/-- What a function of one text is known to say of this text. -/
def prK (f : FuncId) (s : ByteArray) (d : D) : Pr1 := (f, fun vs => match vs with
  | [.v (.string t)] => if t = s then some (lift false d) else none
  | _ => none)
theorem prK_ok {P : Program} {f : FuncId} {s : ByteArray} {d : D} (h : PureOK P f [.v (.string s)] d true) : Pr1OK P (prK f s d) := by
  intro vs w hw hp nx
  simp only [prK] at hw
  split at hw
  · split at hw
    · rename_i e
      subst e
      cases hw
      exact (inl_of_pure (b := false) (is := []) rfl h (.inl rfl)).mono fun v hp nx h => h
    · cases hw
  · cases hw
def primsS : List Pr1 := prK 13 textS (.tu [typesD, .v (.int .i64 0), .v (.int .i64 0)]) :: primsK
theorem primsS_each : ∀ p ∈ primsS, Pr1OK Tryz.prog p := fun p hp => by
  rcases List.mem_cons.1 hp with rfl | hp
  · exact prK_ok parseS
  · exact primsK_each p hp
theorem primsS_ok : PrimOK Tryz.prog (primOf primsS) := primOf_ok _ primsS_each
end Go.Proofs.YtjkclhcbjjnlaaaGreatDoor.Ab
