/-
  entaillaw5.awake, reckoned by the kernel, as one of the functions that are read off the code.
-/
import Derived.Test.YtdckfddlcmkdlaaRo
namespace Go.Proofs.Ytdckfddlcmkdlaa.Ab
open Go.RowKit
theorem clU5 : PureOK Try.prog 72 [.sl []] (.sl []) true :=
  clone_nil tab_ok fol Try.func72 (T := 81) (B := 4) rfl (by kernel_rfl) (by kernel_rfl) (by decide) rfl (by simp only [go_sem]) (by simp only [go_sem]) (by simp only [go_sem]; decide) (by simp only [go_sem]; decide)
theorem clR5 : PureOK Try.prog 73 [.sl []] (.sl []) true :=
  clone_nil tab_ok fol Try.func73 (T := 84) (B := 4) rfl (by kernel_rfl) (by kernel_rfl) (by decide) rfl (by simp only [go_sem]) (by simp only [go_sem]) (by simp only [go_sem]; decide) (by simp only [go_sem]; decide)
theorem clS5 : PureOK Try.prog 84 [.sl []] (.sl []) true :=
  clone_nil tab_ok fol Try.func84 (T := 69) (B := 4) rfl (by kernel_rfl) (by kernel_rfl) (by decide) rfl (by simp only [go_sem]) (by simp only [go_sem]) (by simp only [go_sem]; decide) (by simp only [go_sem]; decide)
def primsA5 : List Pr1 := [prS 97, prN 55, prN 72, prN 73, prN 84]
theorem primsA5_ok : PrimOK Try.prog (primOf primsA5) := primOf_ok _ fun p hp => by
  simp only [primsA5, List.mem_cons, List.not_mem_nil, or_false] at hp
  rcases hp with rfl | rfl | rfl | rfl | rfl
  · exact csOk
  · exact prN_ok cloneT0
  · exact prN_ok clU5
  · exact prN_ok clR5
  · exact prN_ok clS5
theorem awake5 : PureOK Try.prog 47 [] (.v (.bool true)) true := eval_ok (N := 100000) (n := 200) fol primsA5_ok (by kernel_rfl)
def law5_awake (_n : Nat) : Option Bool := some true
theorem law5_awake_ok {n : Nat} {r : Bool} (h : law5_awake n = some r) : PureOK Try.prog 47 [] (.v (.bool r)) true := by
  obtain rfl := Option.some.inj h
  exact awake5
end Go.Proofs.Ytdckfddlcmkdlaa.Ab
