/-
 What the document fixes of role policies as values: reckoned by the kernel.
-/
import Derived.Test.YtkkhgdmmbhpckaaGreatCs
import Derived.Test.YtkkhgdmmbhpckaaGreatAbI
namespace Go.Proofs.YtkkhgdmmbhpckaaGreat.Ab
open Go.RowKit
theorem cl_s : PureOK Tryz.prog 28 [.sl []] (.sl []) true :=
 clone_nil tab_ok fol Tryz.func28 (T := 23) (B := 4) rfl (by kernel_rfl) (by kernel_rfl) (by decide) rfl (by simp only [go_sem]) (by simp only [go_sem]) (by simp only [go_sem]; decide) (by simp only [go_sem]; decide)
theorem cl_p : PureOK Tryz.prog 56 [.sl []] (.sl []) true :=
 clone_nil tab_ok fol Tryz.func56 (T := 24) (B := 4) rfl (by kernel_rfl) (by kernel_rfl) (by decide) rfl (by simp only [go_sem]) (by simp only [go_sem]) (by simp only [go_sem]; decide) (by simp only [go_sem]; decide)
theorem cl_g : PureOK Tryz.prog 62 [.sl []] (.sl []) true :=
 clone_nil tab_ok fol Tryz.func62 (T := 25) (B := 4) rfl (by kernel_rfl) (by kernel_rfl) (by decide) rfl (by simp only [go_sem]) (by simp only [go_sem]) (by simp only [go_sem]; decide) (by simp only [go_sem]; decide)
def prims14 : List Pr1 := [prS 84, prN 28, prN 56, prN 62]
theorem prims14_ok : PrimOK Tryz.prog (primOf prims14) := primOf_ok _ fun p hp => by
 simp only [prims14, List.mem_cons, List.not_mem_nil, or_false] at hp
 rcases hp with rfl | rfl | rfl | rfl
 ·exact csOk
 ·exact prN_ok cl_s
 ·exact prN_ok cl_p
 ·exact prN_ok cl_g
theorem awake14 : PureOK Tryz.prog 10 [] (.v (.bool true)) true := eval_ok (N := 200000) (n := 300) fol prims14_ok (by kernel_rfl)
def law14_awake (_n : Nat) : Option Bool := some true
theorem law14_awake_ok {n : Nat} {r : Bool} (h : law14_awake n = some r) : PureOK Tryz.prog 10 [] (.v (.bool r)) true := by
 obtain rfl := Option.some.inj h
 exact awake14
end Go.Proofs.YtkkhgdmmbhpckaaGreat.Ab
