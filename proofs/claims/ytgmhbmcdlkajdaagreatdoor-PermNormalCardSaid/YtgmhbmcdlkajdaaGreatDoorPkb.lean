/-
 entaillaw20.awake, reckoned by the kernel.
-/
import Derived.Test.YtgmhbmcdlkajdaaGreatDoorStp
import Derived.Test.YtgmhbmcdlkajdaaGreatDoorKs
namespace Go.Proofs.YtgmhbmcdlkajdaaGreatDoor.Ab
open Go.RowKit
theorem primsT_ok : PrimOK Tryz.prog (primOf primsT) := primOf_ok _ primsT_each
set_option maxRecDepth 100000 in
theorem awake20 : PureOK Tryz.prog 8 [] (.v (.bool true)) true := eval_ok (N := 200000) (n := 300) fol primsT_ok (by kernel_rfl)
def law20_awake (_n : Nat) : Option Bool := some true
theorem law20_awake_ok {n : Nat} {r : Bool} (h : law20_awake n = some r) : PureOK Tryz.prog 8 [] (.v (.bool r)) true := by
 obtain rfl := Option.some.inj h
 exact awake20
end Go.Proofs.YtgmhbmcdlkajdaaGreatDoor.Ab
