/-
 entaillaw19.awake, reckoned by the kernel.
-/
import Derived.Test.YtgmhbmcdlkajdaaGreatDoorStp
import Derived.Test.YtgmhbmcdlkajdaaGreatDoorKs
namespace Go.Proofs.YtgmhbmcdlkajdaaGreatDoor.Ab
open Go.RowKit
theorem primsT_ok9 : PrimOK Tryz.prog (primOf primsT) := primOf_ok _ primsT_each
set_option maxRecDepth 100000 in
theorem awake19 : PureOK Tryz.prog 20 [] (.v (.bool true)) true := eval_ok (N := 200000) (n := 300) fol primsT_ok9 (by kernel_rfl)
def law19_awake (_n : Nat) : Option Bool := some true
theorem law19_awake_ok {n : Nat} {r : Bool} (h : law19_awake n = some r) : PureOK Tryz.prog 20 [] (.v (.bool r)) true := by
 obtain rfl := Option.some.inj h
 exact awake19
def ann (n m : Int) : Nat := (BitVec.ofInt 64 n &&& ~~~BitVec.ofInt 64 m).toNat
@[go_sem ↓ high] theorem intV_andNot (a b : Int) : intV .andNot .i64 a b = some (.int .i64 (IntKind.i64.wrap (ann a b : Int))) := rfl
end Go.Proofs.YtgmhbmcdlkajdaaGreatDoor.Ab
