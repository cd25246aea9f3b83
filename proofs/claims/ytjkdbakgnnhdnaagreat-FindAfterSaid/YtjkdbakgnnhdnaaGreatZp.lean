/-
 What is known ahead of some functions of the library.
-/
import Derived.Test.YtjkdbakgnnhdnaaGreatKs
namespace Go.Proofs.YtjkdbakgnnhdnaaGreat.Ab
open Go.RowKit
theorem clT : PureOK Tryz.prog 70 [.sl []] (.sl []) true :=
 clone_nil tab_ok fol Tryz.func70 (T := 25) (B := 4) rfl (by kernel_rfl) (by kernel_rfl) (by decide) rfl (by simp only [go_sem]) (by simp only [go_sem]) (by simp only [go_sem]; decide) (by simp only [go_sem]; decide)
theorem clU : PureOK Tryz.prog 85 [.sl []] (.sl []) true :=
 clone_nil tab_ok fol Tryz.func85 (T := 80) (B := 4) rfl (by kernel_rfl) (by kernel_rfl) (by decide) rfl (by simp only [go_sem]) (by simp only [go_sem]) (by simp only [go_sem]; decide) (by simp only [go_sem]; decide)
theorem clW : PureOK Tryz.prog 106 [.sl []] (.sl []) true :=
 clone_nil tab_ok fol Tryz.func106 (T := 146) (B := 4) rfl (by kernel_rfl) (by kernel_rfl) (by decide) rfl (by simp only [go_sem]) (by simp only [go_sem]) (by simp only [go_sem]; decide) (by simp only [go_sem]; decide)
theorem clS : PureOK Tryz.prog 27 [.sl []] (.sl []) true :=
 clone_nil tab_ok fol Tryz.func27 (T := 33) (B := 4) rfl (by kernel_rfl) (by kernel_rfl) (by decide) rfl (by simp only [go_sem]) (by simp only [go_sem]) (by simp only [go_sem]; decide) (by simp only [go_sem]; decide)
def prims0 : List Pr1 := [prS 116, prN 70, prN 85, prN 106, prN 27]
theorem prims0_each : ∀ p ∈ prims0, Pr1OK Tryz.prog p := by
 intro p hp
 simp only [prims0, List.mem_cons, List.not_mem_nil, or_false] at hp
 rcases hp with rfl | rfl | rfl | rfl | rfl
 ·exact csOk
 ·exact prN_ok clT
 ·exact prN_ok clU
 ·exact prN_ok clW
 ·exact prN_ok clS
end Go.Proofs.YtjkdbakgnnhdnaaGreat.Ab
