/-
 The groups' schema: its text read, and found by names.
-/
import Derived.Test.YtjkdbakgnnhdnaaSxe
import Derived.Test.YtjkdbakgnnhdnaaZpt
import Derived.Test.YtjkdbakgnnhdnaaSgs
namespace Go.Proofs.Ytjkdbakgnnhdnaa.Ab
open Go.RowKit
def textG : ByteArray := { data := #[116, 121, 112, 101, 32, 117, 32, 116, 121, 112, 101, 32, 103, 32, 123, 32, 109, 58, 32, 117, 32, 124, 32, 103, 35, 109, 59, 32, 125] }
def bU : ByteArray := { data := #[117] }
def bG : ByteArray := { data := #[103] }
def bM : ByteArray := { data := #[109] }
def relG : GRel := ⟨bM, [⟨bU, ByteArray.empty, ByteArray.empty⟩, ⟨bG, ByteArray.empty, bM⟩], []⟩
def typesG : List GType := [⟨bU, []⟩, ⟨bG, [relG]⟩]
def schemaG : WellSchema := ⟨[(bU, 1), (bG, 1)], [(⟨bG, bM⟩, relG)], []⟩
set_option maxRecDepth 100000 in
theorem typesG_ok : PureOK Try.prog 4 [.v (.string textG)] (.sl (typesG.map eGType)) true := eval_ok (N := 100000) (n := 200) fol (primOf_ok _ prims0_each) (by kernel_rfl)
set_option maxRecDepth 100000 in
theorem schemaG_ok : PureOK Try.prog 25 [.sl (typesG.map eGType)] (.tu [.pt (eWellSchema schemaG) 0, .v (.int .i64 0)]) false := evalX_ok (N := 100000) (n := 200) fol (primOf_ok _ prims0_each) (by kernel_rfl)
end Go.Proofs.Ytjkdbakgnnhdnaa.Ab
