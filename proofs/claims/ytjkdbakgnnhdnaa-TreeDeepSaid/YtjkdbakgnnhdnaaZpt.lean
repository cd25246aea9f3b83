/-
 What is known ahead of some functions of the library.
-/
import Derived.Shelf.Small.Strs
import Derived.Test.YtjkdbakgnnhdnaaTab
namespace Go.Proofs.Ytjkdbakgnnhdnaa.Ab
open Go.Shelf Go.RowKit
def csRen : Go.Shelf.Ren := ⟨fun | 213 => 81 | 265 => 88 | n => n, fun | 9 => 9 | 3 => 3 | n => n, fun | n => n⟩
theorem csLaid : Lays.n213 Try.prog csRen := {
 mixed := by kernel_rfl
 f213 := Try.func81.trans (congrArg some (by kernel_rfl))
 f265 := Try.func88.trans (congrArg some (by kernel_rfl))
 t3 := Try.underlying3
 a3 := Try.isAgg3
 z3 := Try.sizeOf3
 v3 := Try.zeroValue3
 t9 := Try.underlying9
 a9 := Try.isAgg9
 z9 := Try.sizeOf9
 v9 := Try.zeroValue9 }
theorem csOk : Pr1OK Try.prog (prS 81) :=
 prS_ok ⟨_, Try.func81, by kernel_rfl, by kernel_rfl⟩ fun a b w => Any.bytealg_CompareString csLaid a b w
open Go.RowKit
theorem clT : PureOK Try.prog 55 [.sl []] (.sl []) true :=
 clone_nil tab_ok fol Try.func55 (T := 26) (B := 4) rfl (by kernel_rfl) (by kernel_rfl) (by decide) rfl (by simp only [go_sem]) (by simp only [go_sem]) (by simp only [go_sem]; decide) (by simp only [go_sem]; decide)
theorem clU : PureOK Try.prog 59 [.sl []] (.sl []) true :=
 clone_nil tab_ok fol Try.func59 (T := 35) (B := 4) rfl (by kernel_rfl) (by kernel_rfl) (by decide) rfl (by simp only [go_sem]) (by simp only [go_sem]) (by simp only [go_sem]; decide) (by simp only [go_sem]; decide)
theorem clW : PureOK Try.prog 69 [.sl []] (.sl []) true :=
 clone_nil tab_ok fol Try.func69 (T := 129) (B := 4) rfl (by kernel_rfl) (by kernel_rfl) (by decide) rfl (by simp only [go_sem]) (by simp only [go_sem]) (by simp only [go_sem]; decide) (by simp only [go_sem]; decide)
def prims0 : List Pr1 := [prS 81, prN 55, prN 59, prN 69]
theorem prims0_each : ∀ p ∈ prims0, Pr1OK Try.prog p := by
 intro p hp
 simp only [prims0, List.mem_cons, List.not_mem_nil, or_false] at hp
 rcases hp with rfl | rfl | rfl | rfl
 ·exact csOk
 ·exact prN_ok clT
 ·exact prN_ok clU
 ·exact prN_ok clW
end Go.Proofs.Ytjkdbakgnnhdnaa.Ab
