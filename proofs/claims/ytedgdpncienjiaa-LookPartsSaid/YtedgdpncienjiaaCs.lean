/-
  Two texts held against each other: the library's own contract, laid at this program.
-/
import Derived.Shelf.Small.Strs
import Derived.Test.YtedgdpncienjiaaTab
namespace Go.Proofs.Ytedgdpncienjiaa.Ab
open Go.Shelf Go.RowKit
def csRen : Go.Shelf.Ren := ⟨fun | 213 => 47 | 265 => 62 | n => n, fun | 9 => 9 | 3 => 3 | n => n, fun | n => n⟩
theorem csLaid : Lays.n213 Try.prog csRen := {
  mixed := by kernel_rfl
  f213 := Try.func47.trans (congrArg some (by kernel_rfl))
  f265 := Try.func62.trans (congrArg some (by kernel_rfl))
  t3 := Try.underlying3
  a3 := Try.isAgg3
  z3 := Try.sizeOf3
  v3 := Try.zeroValue3
  t9 := Try.underlying9
  a9 := Try.isAgg9
  z9 := Try.sizeOf9
  v9 := Try.zeroValue9 }
theorem csOk : Pr1OK Try.prog (prS 47) :=
  prS_ok ⟨_, Try.func47, by kernel_rfl, by kernel_rfl⟩ fun a b w => Any.bytealg_CompareString csLaid a b w
end Go.Proofs.Ytedgdpncienjiaa.Ab
