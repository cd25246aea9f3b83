/-
  entaillaw20.awake, reckoned by the kernel; what is never reached.
-/
import Derived.Test.YthnejfmbglbpgaaDoorStp
import Derived.Test.YthnejfmbglbpgaaDoorKs
namespace Go.Proofs.YthnejfmbglbpgaaDoor.Ab
open Go.RowKit
theorem primsT_ok : PrimOK Tryd.prog (primOf primsT) := primOf_ok _ primsT_each
set_option maxRecDepth 100000 in
theorem awake20 : PureOK Tryd.prog 7 [] (.v (.bool true)) true := eval_ok (N := 200000) (n := 300) fol primsT_ok (by kernel_rfl)
def law20_awake (_n : Nat) : Option Bool := some true
theorem law20_awake_ok {n : Nat} {r : Bool} (h : law20_awake n = some r) : PureOK Tryd.prog 7 [] (.v (.bool r)) true := by
  obtain rfl := Option.some.inj h
  exact awake20
/-- Nothing is said of a path's parent: it is not reached. -/
def acls_Parent (_n : Nat) (_s : ByteArray) : Option ByteArray := none
theorem acls_Parent_ok {n : Nat} {s r : ByteArray} (h : acls_Parent n s = some r) : PureOK Tryd.prog 16 [D.v (.string s)] (D.v (.string r)) true := nomatch h
end Go.Proofs.YthnejfmbglbpgaaDoor.Ab
