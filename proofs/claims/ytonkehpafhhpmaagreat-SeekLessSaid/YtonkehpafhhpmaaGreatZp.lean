/-
  What is known ahead of some functions of the library.
-/
import Derived.Test.YtonkehpafhhpmaaGreatCs
namespace Go.Proofs.YtonkehpafhhpmaaGreat.Ab
open Go.RowKit

theorem clT : PureOK Tryz.prog 79 [.sl []] (.sl []) true :=
  clone_nil tab_ok fol Tryz.func79 (T := 31) (B := 4) rfl (by kernel_rfl) (by kernel_rfl) (by decide) rfl (by simp only [go_sem]) (by simp only [go_sem]) (by simp only [go_sem]; decide) (by simp only [go_sem]; decide)
theorem clU : PureOK Tryz.prog 107 [.sl []] (.sl []) true :=
  clone_nil tab_ok fol Tryz.func107 (T := 91) (B := 4) rfl (by kernel_rfl) (by kernel_rfl) (by decide) rfl (by simp only [go_sem]) (by simp only [go_sem]) (by simp only [go_sem]; decide) (by simp only [go_sem]; decide)
theorem clW : PureOK Tryz.prog 130 [.sl []] (.sl []) true :=
  clone_nil tab_ok fol Tryz.func130 (T := 155) (B := 4) rfl (by kernel_rfl) (by kernel_rfl) (by decide) rfl (by simp only [go_sem]) (by simp only [go_sem]) (by simp only [go_sem]; decide) (by simp only [go_sem]; decide)
theorem clS : PureOK Tryz.prog 22 [.sl []] (.sl []) true :=
  clone_nil tab_ok fol Tryz.func22 (T := 42) (B := 4) rfl (by kernel_rfl) (by kernel_rfl) (by decide) rfl (by simp only [go_sem]) (by simp only [go_sem]) (by simp only [go_sem]; decide) (by simp only [go_sem]; decide)
def prims0 : List Pr1 := [prS 100, prN 79, prN 107, prN 130, prN 22]
theorem prims0_each : ∀ p ∈ prims0, Pr1OK Tryz.prog p := by
  intro p hp
  simp only [prims0, List.mem_cons, List.not_mem_nil, or_false] at hp
  rcases hp with rfl | rfl | rfl | rfl | rfl
  · exact csOk
  · exact prN_ok clT
  · exact prN_ok clU
  · exact prN_ok clW
  · exact prN_ok clS
end Go.Proofs.YtonkehpafhhpmaaGreat.Ab
