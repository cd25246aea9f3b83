/-
 entaillaw10.awake, reckoned by the kernel.
-/
import Derived.Test.YtjkdbakgnnhdnaaZpt
namespace Go.Proofs.Ytjkdbakgnnhdnaa.Ab
open Go.RowKit
theorem prims10_ok : PrimOK Try.prog (primOf prims0) := primOf_ok _ prims0_each
set_option maxRecDepth 100000 in
theorem awake10 : PureOK Try.prog 7 [] (.v (.bool true)) true := eval_ok (N := 200000) (n := 400) fol prims10_ok (by kernel_rfl)
def law10_awake (_n : Nat) : Option Bool := some true
theorem law10_awake_ok {n : Nat} {r : Bool} (h : law10_awake n = some r) : PureOK Try.prog 7 [] (.v (.bool r)) true := by
 obtain rfl := Option.some.inj h
 exact awake10
end Go.Proofs.Ytjkdbakgnnhdnaa.Ab
