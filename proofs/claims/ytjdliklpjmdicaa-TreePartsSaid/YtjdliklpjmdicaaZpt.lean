/-
  What is known ahead of some functions of the library.
-/
import Derived.Test.YtjdliklpjmdicaaCs
namespace Go.Proofs.Ytjdliklpjmdicaa.Ab
open Go.RowKit

theorem clT : PureOK Try.prog 55 [.sl []] (.sl []) true :=
  clone_nil tab_ok fol Try.func55 (T := 49) (B := 4) rfl (by kernel_rfl) (by kernel_rfl) (by decide) rfl (by simp only [go_sem]) (by simp only [go_sem]) (by simp only [go_sem]; decide) (by simp only [go_sem]; decide)
theorem clU : PureOK Try.prog 59 [.sl []] (.sl []) true :=
  clone_nil tab_ok fol Try.func59 (T := 27) (B := 4) rfl (by kernel_rfl) (by kernel_rfl) (by decide) rfl (by simp only [go_sem]) (by simp only [go_sem]) (by simp only [go_sem]; decide) (by simp only [go_sem]; decide)
theorem clW : PureOK Try.prog 69 [.sl []] (.sl []) true :=
  clone_nil tab_ok fol Try.func69 (T := 129) (B := 4) rfl (by kernel_rfl) (by kernel_rfl) (by decide) rfl (by simp only [go_sem]) (by simp only [go_sem]) (by simp only [go_sem]; decide) (by simp only [go_sem]; decide)
def prims0 : List Pr1 := [prS 81, prN 55, prN 59, prN 69]
theorem prims0_each : ∀ p ∈ prims0, Pr1OK Try.prog p := by
  intro p hp
  simp only [prims0, List.mem_cons, List.not_mem_nil, or_false] at hp
  rcases hp with rfl | rfl | rfl | rfl
  · exact csOk
  · exact prN_ok clT
  · exact prN_ok clU
  · exact prN_ok clW
end Go.Proofs.Ytjdliklpjmdicaa.Ab
