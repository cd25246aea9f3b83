/-
 entaillaw19.awake, reckoned by the kernel.
-/
import Derived.Test.YtgmhbmcdlkajdaaGreatDoorStp
import Derived.Test.YtgmhbmcdlkajdaaGreatDoorKs
namespace Go.Proofs.YtgmhbmcdlkajdaaGreatDoor.Ab
open Go.RowKit
theorem primsT_ok9 : PrimOK Tryz.prog (primOf primsT) := primOf_ok _ primsT_each
set_option maxRecDepth 100000 in
theorem awake19 : PureOK Tryz.prog 20 [] (.v (.bool true)) true := eval_ok (N := 200000) (n := 300) fol primsT_ok9 (by kernel_rfl)
def law19_awake (_n : Nat) : Option Bool := some true
theorem law19_awake_ok {n : Nat} {r : Bool} (h : law19_awake n = some r) : PureOK Tryz.prog 20 [] (.v (.bool r)) true := by
 obtain rfl := Option.some.inj h
 exact awake19
end Go.Proofs.YtgmhbmcdlkajdaaGreatDoor.Ab
