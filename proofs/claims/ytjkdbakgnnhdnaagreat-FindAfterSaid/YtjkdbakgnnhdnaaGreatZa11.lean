/-
 entaillaw11.awake, reckoned by the kernel.
-/
import Derived.Test.YtjkdbakgnnhdnaaGreatZp
namespace Go.Proofs.YtjkdbakgnnhdnaaGreat.Ab
open Go.RowKit
set_option maxRecDepth 100000 in
theorem awake11 : PureOK Tryz.prog 6 [] (.v (.bool true)) true := eval_ok (N := 100000) (n := 200) fol (primOf_ok _ prims0_each) (by kernel_rfl)
end Go.Proofs.YtjkdbakgnnhdnaaGreat.Ab
