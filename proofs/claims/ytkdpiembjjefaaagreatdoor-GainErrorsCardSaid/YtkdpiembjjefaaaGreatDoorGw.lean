/-
  entaillaw19.awake, reckoned by the kernel.
-/
import Derived.Test.YtkdpiembjjefaaaGreatDoorStp
namespace Go.Proofs.YtkdpiembjjefaaaGreatDoor.Ab
open Go.RowKit
theorem primsT_ok : PrimOK Tryz.prog (primOf primsT) := primOf_ok _ primsT_each
set_option maxRecDepth 100000 in
theorem awake19 : PureOK Tryz.prog 8 [] (.v (.bool true)) true := eval_ok (N := 200000) (n := 300) fol primsT_ok (by kernel_rfl)
end Go.Proofs.YtkdpiembjjefaaaGreatDoor.Ab
