/-
  entaillaw4.awake, reckoned by the kernel, as one of the functions that are read off the code.
-/
import Derived.Test.YtdckfddlcmkdlaaRo
namespace Go.Proofs.Ytdckfddlcmkdlaa.Ab
open Go.RowKit
@[go_sem] theorem tabFb : tab 106 = { ok := true, kind := .other, size := 1, bytes := 8, zero := [.nilFunc] } := tab_is (by kernel_rfl)
def primsA4 : List Pr1 := [prS 97, prN 55]
theorem primsA4_ok : PrimOK Try.prog (primOf primsA4) := primOf_ok _ fun p hp => by
  simp only [primsA4, List.mem_cons, List.not_mem_nil, or_false] at hp
  rcases hp with rfl | rfl
  · exact csOk
  · exact prN_ok cloneT0
theorem awake4 : PureOK Try.prog 35 [] (.v (.bool true)) true := eval_ok (N := 100000) (n := 200) fol primsA4_ok (by kernel_rfl)
def law4_awake (_n : Nat) : Option Bool := some true
theorem law4_awake_ok {n : Nat} {r : Bool} (h : law4_awake n = some r) : PureOK Try.prog 35 [] (.v (.bool r)) true := by
  obtain rfl := Option.some.inj h
  exact awake4
end Go.Proofs.Ytdckfddlcmkdlaa.Ab
