/-
  entaillaw24.awake, reckoned by the kernel.
-/
import Derived.Test.YtkkhgdmmbhpckaaTab
import Derived.Test.YtkkhgdmmbhpckaaAbI
namespace Go.Proofs.Ytkkhgdmmbhpckaa.Ab
open Go.RowKit

theorem clG : PureOK Try.prog 74 [.sl []] (.sl []) true :=
  clone_nil tab_ok fol Try.func74 (T := 23) (B := 4) rfl (by kernel_rfl) (by kernel_rfl) (by decide) rfl (by simp only [go_sem]) (by simp only [go_sem]) (by simp only [go_sem]; decide) (by simp only [go_sem]; decide)
def primsG : List Pr1 := [prN 74]
theorem primsG_ok : PrimOK Try.prog (primOf primsG) := primOf_ok _ fun p hp => by
  simp only [primsG, List.mem_singleton] at hp
  rw [hp]
  exact prN_ok clG
theorem awake24 : PureOK Try.prog 15 [] (.v (.bool true)) true := eval_ok (N := 100000) (n := 200) fol primsG_ok (by kernel_rfl)
end Go.Proofs.Ytkkhgdmmbhpckaa.Ab
