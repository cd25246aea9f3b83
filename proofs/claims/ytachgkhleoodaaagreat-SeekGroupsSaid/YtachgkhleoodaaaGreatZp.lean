/-
 What is known ahead of some functions of the library.
-/
import Derived.Test.YtachgkhleoodaaaGreatKs
namespace Go.Proofs.YtachgkhleoodaaaGreat.Ab
open Go.RowKit
theorem clT : PureOK Tryz.prog 63 [.sl []] (.sl []) true :=
 clone_nil tab_ok fol Tryz.func63 (T := 25) (B := 4) rfl (by kernel_rfl) (by kernel_rfl) (by decide) rfl (by simp only [go_sem]) (by simp only [go_sem]) (by simp only [go_sem]; decide) (by simp only [go_sem]; decide)
theorem clU : PureOK Tryz.prog 90 [.sl []] (.sl []) true :=
 clone_nil tab_ok fol Tryz.func90 (T := 67) (B := 4) rfl (by kernel_rfl) (by kernel_rfl) (by decide) rfl (by simp only [go_sem]) (by simp only [go_sem]) (by simp only [go_sem]; decide) (by simp only [go_sem]; decide)
theorem clW : PureOK Tryz.prog 104 [.sl []] (.sl []) true :=
 clone_nil tab_ok fol Tryz.func104 (T := 141) (B := 4) rfl (by kernel_rfl) (by kernel_rfl) (by decide) rfl (by simp only [go_sem]) (by simp only [go_sem]) (by simp only [go_sem]; decide) (by simp only [go_sem]; decide)
def prims0 : List Pr1 := [prS 84, prN 63, prN 90, prN 104]
theorem prims0_each : ∀ p ∈ prims0, Pr1OK Tryz.prog p := by
 intro p hp
 simp only [prims0, List.mem_cons, List.not_mem_nil, or_false] at hp
 rcases hp with rfl | rfl | rfl | rfl
 ·exact csOk
 ·exact prN_ok clT
 ·exact prN_ok clU
 ·exact prN_ok clW
end Go.Proofs.YtachgkhleoodaaaGreat.Ab
