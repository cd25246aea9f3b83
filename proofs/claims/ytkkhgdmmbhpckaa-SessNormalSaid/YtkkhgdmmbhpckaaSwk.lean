/-
 entaillaw15.awake, reckoned by the kernel.
-/
import Derived.Test.YtkkhgdmmbhpckaaTab
import Derived.Test.YtkkhgdmmbhpckaaAbI
namespace Go.Proofs.Ytkkhgdmmbhpckaa.Ab
open Go.RowKit
theorem cl_s : PureOK Try.prog 74 [.sl []] (.sl []) true :=
 clone_nil tab_ok fol Try.func74 (T := 23) (B := 4) rfl (by kernel_rfl) (by kernel_rfl) (by decide) rfl (by simp only [go_sem]) (by simp only [go_sem]) (by simp only [go_sem]; decide) (by simp only [go_sem]; decide)
def prims15 : List Pr1 := [prN 74]
theorem prims15_ok : PrimOK Try.prog (primOf prims15) := primOf_ok _ fun p hp => by
 simp only [prims15, List.mem_singleton] at hp
 rw [hp]
 exact prN_ok cl_s
theorem awake15 : PureOK Try.prog 31 [] (.v (.bool true)) true := eval_ok (N := 100000) (n := 200) fol prims15_ok (by kernel_rfl)
def law15_awake (_n : Nat) : Option Bool := some true
theorem law15_awake_ok {n : Nat} {r : Bool} (h : law15_awake n = some r) : PureOK Try.prog 31 [] (.v (.bool r)) true := by
 obtain rfl := Option.some.inj h
 exact awake15
end Go.Proofs.Ytkkhgdmmbhpckaa.Ab
