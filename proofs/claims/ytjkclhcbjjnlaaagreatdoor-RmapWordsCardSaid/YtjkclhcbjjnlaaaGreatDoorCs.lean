/-
  Two texts held against each other: the library's own contract, laid at this program.
-/
import Derived.Shelf.Small.Strs
import Derived.Test.YtjkclhcbjjnlaaaGreatDoorTab
namespace Go.Proofs.YtjkclhcbjjnlaaaGreatDoor.Ab
open Go.Shelf Go.RowKit
def csRen : Go.Shelf.Ren := ⟨fun | 213 => 150 | 265 => 206 | n => n, fun | 9 => 9 | 3 => 3 | n => n, fun | n => n⟩
theorem csLaid : Lays.n213 Tryz.prog csRen := {
  mixed := by kernel_rfl
  f213 := Tryz.func150.trans (congrArg some (by kernel_rfl))
  f265 := Tryz.func206.trans (congrArg some (by kernel_rfl))
  t3 := Tryz.underlying3
  a3 := Tryz.isAgg3
  z3 := Tryz.sizeOf3
  v3 := Tryz.zeroValue3
  t9 := Tryz.underlying9
  a9 := Tryz.isAgg9
  z9 := Tryz.sizeOf9
  v9 := Tryz.zeroValue9 }
theorem csOk : Pr1OK Tryz.prog (prS 150) :=
  prS_ok ⟨_, Tryz.func150, by kernel_rfl, by kernel_rfl⟩ fun a b w => Any.bytealg_CompareString csLaid a b w
end Go.Proofs.YtjkclhcbjjnlaaaGreatDoor.Ab
