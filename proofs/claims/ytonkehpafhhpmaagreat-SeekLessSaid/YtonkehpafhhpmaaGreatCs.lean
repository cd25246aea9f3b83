/-
  Two texts held against each other: the library's own contract, laid at this program.
-/
import Derived.Shelf.Small.Strs
import Derived.Test.YtonkehpafhhpmaaGreatTab
namespace Go.Proofs.YtonkehpafhhpmaaGreat.Ab
open Go.Shelf Go.RowKit
def csRen : Ren := ⟨fun | 213 => 100 | 265 => 119 | n => n, fun | 9 => 9 | 3 => 3 | n => n, fun | n => n⟩
theorem csLaid : Lays.n213 Tryz.prog csRen := {
  mixed := by kernel_rfl
  f213 := Tryz.func100.trans (congrArg some (by kernel_rfl))
  f265 := Tryz.func119.trans (congrArg some (by kernel_rfl))
  t3 := Tryz.underlying3
  a3 := Tryz.isAgg3
  z3 := Tryz.sizeOf3
  v3 := Tryz.zeroValue3
  t9 := Tryz.underlying9
  a9 := Tryz.isAgg9
  z9 := Tryz.sizeOf9
  v9 := Tryz.zeroValue9 }
theorem csOk : Pr1OK Tryz.prog (prS 100) :=
  prS_ok ⟨_, Tryz.func100, by kernel_rfl, by kernel_rfl⟩ fun a b w => Any.bytealg_CompareString csLaid a b w
end Go.Proofs.YtonkehpafhhpmaaGreat.Ab
