/-
  entaillaw5.awake, reckoned by the kernel, as one of the functions that are read off the code.
-/
import Derived.Test.YtedgdpncienjiaaRo
namespace Go.Proofs.Ytedgdpncienjiaa.Ab
open Go.RowKit
theorem clU5 : PureOK Try.prog 20 [.sl []] (.sl []) true :=
  clone_nil tab_ok fol Try.func20 (T := 47) (B := 4) rfl (by kernel_rfl) (by kernel_rfl) (by decide) rfl (by simp only [go_sem]) (by simp only [go_sem]) (by simp only [go_sem]; decide) (by simp only [go_sem]; decide)
theorem clR5 : PureOK Try.prog 21 [.sl []] (.sl []) true :=
  clone_nil tab_ok fol Try.func21 (T := 50) (B := 4) rfl (by kernel_rfl) (by kernel_rfl) (by decide) rfl (by simp only [go_sem]) (by simp only [go_sem]) (by simp only [go_sem]; decide) (by simp only [go_sem]; decide)
theorem clS5 : PureOK Try.prog 28 [.sl []] (.sl []) true :=
  clone_nil tab_ok fol Try.func28 (T := 35) (B := 4) rfl (by kernel_rfl) (by kernel_rfl) (by decide) rfl (by simp only [go_sem]) (by simp only [go_sem]) (by simp only [go_sem]; decide) (by simp only [go_sem]; decide)
def primsA5 : List Pr1 := [prS 47, prN 22, prN 20, prN 21, prN 28]
theorem primsA5_ok : PrimOK Try.prog (primOf primsA5) := primOf_ok _ fun p hp => by
  simp only [primsA5, List.mem_cons, List.not_mem_nil, or_false] at hp
  rcases hp with rfl | rfl | rfl | rfl | rfl
  · exact csOk
  · exact prN_ok cloneT0
  · exact prN_ok clU5
  · exact prN_ok clR5
  · exact prN_ok clS5
theorem awake5 : PureOK Try.prog 14 [] (.v (.bool true)) true := eval_ok (N := 100000) (n := 200) fol primsA5_ok (by kernel_rfl)
def law5_awake (_n : Nat) : Option Bool := some true
theorem law5_awake_ok {n : Nat} {r : Bool} (h : law5_awake n = some r) : PureOK Try.prog 14 [] (.v (.bool r)) true := by
  obtain rfl := Option.some.inj h
  exact awake5
end Go.Proofs.Ytedgdpncienjiaa.Ab
