/-
  What is known ahead of layer 16.
-/
import Derived.Test.YtjkclhcbjjnlaaaGreatDoorJn
namespace Go.Proofs.YtjkclhcbjjnlaaaGreatDoor.Ab
open Go.RowKit
theorem cl_s : PureOK Tryz.prog 90 [.sl []] (.sl []) true :=
  clone_nil tab_ok fol Tryz.func90 (T := 22) (B := 4) rfl (by kernel_rfl) (by kernel_rfl) (by decide) rfl (by simp only [go_sem]) (by simp only [go_sem]) (by simp only [go_sem]; decide) (by simp only [go_sem]; decide)
theorem cl_p : PureOK Tryz.prog 99 [.sl []] (.sl []) true :=
  clone_nil tab_ok fol Tryz.func99 (T := 29) (B := 4) rfl (by kernel_rfl) (by kernel_rfl) (by decide) rfl (by simp only [go_sem]) (by simp only [go_sem]) (by simp only [go_sem]; decide) (by simp only [go_sem]; decide)
theorem cl_g : PureOK Tryz.prog 105 [.sl []] (.sl []) true :=
  clone_nil tab_ok fol Tryz.func105 (T := 30) (B := 4) rfl (by kernel_rfl) (by kernel_rfl) (by decide) rfl (by simp only [go_sem]) (by simp only [go_sem]) (by simp only [go_sem]; decide) (by simp only [go_sem]; decide)
def primsK : List Pr1 := prN 90 :: prN 99 :: prN 105 :: primsJ
theorem primsK_each : ∀ p ∈ primsK, Pr1OK Tryz.prog p := fun p hp => by
  rcases List.mem_cons.1 hp with rfl | hp
  · exact prN_ok cl_s
  rcases List.mem_cons.1 hp with rfl | hp
  · exact prN_ok cl_p
  rcases List.mem_cons.1 hp with rfl | hp
  · exact prN_ok cl_g
  · exact primsJ_each p hp
theorem primsK_ok : PrimOK Tryz.prog (primOf primsK) := primOf_ok _ primsK_each
end Go.Proofs.YtjkclhcbjjnlaaaGreatDoor.Ab
