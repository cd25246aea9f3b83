/-
  Two texts held against each other: the library's own contract, laid at this program.
-/
import Derived.Shelf.Small.Strs
import Derived.Test.YthnejfmbglbpgaaDoorTab
namespace Go.Proofs.YthnejfmbglbpgaaDoor.Ab
open Go.Shelf Go.RowKit
def csRen : Go.Shelf.Ren := ⟨fun | 213 => 63 | 265 => 78 | n => n, fun | 9 => 9 | 3 => 3 | n => n, fun | n => n⟩
theorem csLaid : Lays.n213 Tryd.prog csRen := {
  mixed := by kernel_rfl
  f213 := Tryd.func63.trans (congrArg some (by kernel_rfl))
  f265 := Tryd.func78.trans (congrArg some (by kernel_rfl))
  t3 := Tryd.underlying3
  a3 := Tryd.isAgg3
  z3 := Tryd.sizeOf3
  v3 := Tryd.zeroValue3
  t9 := Tryd.underlying9
  a9 := Tryd.isAgg9
  z9 := Tryd.sizeOf9
  v9 := Tryd.zeroValue9 }
theorem csOk : Pr1OK Tryd.prog (prS 63) :=
  prS_ok ⟨_, Tryd.func63, by kernel_rfl, by kernel_rfl⟩ fun a b w => Any.bytealg_CompareString csLaid a b w
end Go.Proofs.YthnejfmbglbpgaaDoor.Ab
