/-
  StorErrors: what is known ahead; what a number's bits say.
-/
import Derived.Test.YtdckfddlcmkdlaaCs
namespace Go.Proofs.Ytdckfddlcmkdlaa.Ab
open Go.RowKit

theorem clT : PureOK Try.prog 55 [.sl []] (.sl []) true :=
  clone_nil tab_ok fol Try.func55 (T := 23) (B := 4) rfl (by kernel_rfl) (by kernel_rfl) (by decide) rfl (by simp only [go_sem]) (by simp only [go_sem]) (by simp only [go_sem]; decide) (by simp only [go_sem]; decide)
theorem clU : PureOK Try.prog 72 [.sl []] (.sl []) true :=
  clone_nil tab_ok fol Try.func72 (T := 81) (B := 4) rfl (by kernel_rfl) (by kernel_rfl) (by decide) rfl (by simp only [go_sem]) (by simp only [go_sem]) (by simp only [go_sem]; decide) (by simp only [go_sem]; decide)
theorem clR : PureOK Try.prog 73 [.sl []] (.sl []) true :=
  clone_nil tab_ok fol Try.func73 (T := 84) (B := 4) rfl (by kernel_rfl) (by kernel_rfl) (by decide) rfl (by simp only [go_sem]) (by simp only [go_sem]) (by simp only [go_sem]; decide) (by simp only [go_sem]; decide)
theorem clS : PureOK Try.prog 84 [.sl []] (.sl []) true :=
  clone_nil tab_ok fol Try.func84 (T := 69) (B := 4) rfl (by kernel_rfl) (by kernel_rfl) (by decide) rfl (by simp only [go_sem]) (by simp only [go_sem]) (by simp only [go_sem]; decide) (by simp only [go_sem]; decide)
def prims0 : List Pr1 := [prS 97, prN 55, prN 72, prN 73, prN 84]
theorem prims0_each : ∀ p ∈ prims0, Pr1OK Try.prog p := by
  intro p hp
  simp only [prims0, List.mem_cons, List.not_mem_nil, or_false] at hp
  rcases hp with rfl | rfl | rfl | rfl | rfl
  · exact csOk
  · exact prN_ok clT
  · exact prN_ok clU
  · exact prN_ok clR
  · exact prN_ok clS
theorem awake4 : PureOK Try.prog 35 [] (.v (.bool true)) true := eval_ok (N := 100000) (n := 200) fol (primOf_ok _ prims0_each) (by kernel_rfl)
def prims4 : List Pr1 := prC 35 (.bool true) :: prims0
theorem prims4_ok : PrimOK Try.prog (primOf prims4) := primOf_ok _ fun p hp => by
  rcases List.mem_cons.1 hp with rfl | hp
  · exact prC_ok awake4
  · exact prims0_each p hp
/-- Some bits of a number. -/
noncomputable def andv (w m : Int) : Value := .int .i64 (IntKind.i64.wrap ↑(BitVec.ofInt 64 w &&& BitVec.ofInt 64 m).toNat)
def bitB (w m : Int) : Bool := !(IntKind.i64.wrap ↑(BitVec.ofInt 64 w &&& BitVec.ofInt 64 m).toNat == 0)
noncomputable def clB (w m : Int) (b : Bool) : Cl := (.neq, 3, andv w m, .int .i64 0, .bool b)
theorem clB_ok {w m : Int} {b : Bool} (h : bitB w m = b) : ClOK (tabP Try.prog) (clB w m b) := by
  intro hp
  rw [← tab_eq]
  simp only [clB, andv, go_sem, if_true, Option.map_some]
  rw [← h]
  rfl
end Go.Proofs.Ytdckfddlcmkdlaa.Ab
