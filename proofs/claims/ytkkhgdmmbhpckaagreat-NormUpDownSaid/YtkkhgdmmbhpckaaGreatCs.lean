/-
 Two texts held against each other: the library's own contract, laid at this program.
-/
import Derived.Shelf.Small.Strs
import Derived.Test.YtkkhgdmmbhpckaaGreatTab
namespace Go.Proofs.YtkkhgdmmbhpckaaGreat.Ab
open Go.Shelf Go.RowKit
def csRen : Go.Shelf.Ren := ⟨fun | 213 => 84 | 265 => 112 | n => n, fun | 9 => 9 | 3 => 3 | n => n, fun | n => n⟩
theorem csLaid : Lays.n213 Tryz.prog csRen := {
 mixed := by kernel_rfl
 f213 := Tryz.func84.trans (congrArg some (by kernel_rfl))
 f265 := Tryz.func112.trans (congrArg some (by kernel_rfl))
 t3 := Tryz.underlying3
 a3 := Tryz.isAgg3
 z3 := Tryz.sizeOf3
 v3 := Tryz.zeroValue3
 t9 := Tryz.underlying9
 a9 := Tryz.isAgg9
 z9 := Tryz.sizeOf9
 v9 := Tryz.zeroValue9 }
theorem csOk : Pr1OK Tryz.prog (prS 84) :=
 prS_ok ⟨_, Tryz.func84, by kernel_rfl, by kernel_rfl⟩ fun a b w => Any.bytealg_CompareString csLaid a b w
end Go.Proofs.YtkkhgdmmbhpckaaGreat.Ab
