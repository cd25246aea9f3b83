/-
  SessErrors: what is known ahead; what a number's low bits leave.
-/
import Derived.Test.YtkkhgdmmbhpckaaTab
namespace Go.Proofs.Ytkkhgdmmbhpckaa.Ab
open Go.RowKit

theorem cl74 : PureOK Try.prog 74 [.sl []] (.sl []) true :=
  clone_nil tab_ok fol Try.func74 (T := 23) (B := 4) rfl (by kernel_rfl) (by kernel_rfl) (by decide) rfl (by simp only [go_sem]) (by simp only [go_sem]) (by simp only [go_sem]; decide) (by simp only [go_sem]; decide)
def prims0 : List Pr1 := [prN 74]
theorem prims0_ok : PrimOK Try.prog (primOf prims0) := primOf_ok _ fun p hp => by
  simp only [prims0, List.mem_singleton] at hp
  rw [hp]
  exact prN_ok cl74
theorem awake : PureOK Try.prog 31 [] (.v (.bool true)) true := eval_ok (N := 100000) (n := 200) fol prims0_ok (by kernel_rfl)
def prims1 : List Pr1 := [prN 74, prC 31 (.bool true)]
theorem prims1_ok : PrimOK Try.prog (primOf prims1) := primOf_ok _ fun p hp => by
  simp only [prims1, List.mem_cons, List.not_mem_nil, or_false] at hp
  rcases hp with rfl | rfl
  · exact prN_ok cl74
  · exact prC_ok awake
/-- The low eight bits. -/
def lw (w : Int) : Nat := (BitVec.ofInt 64 w &&& BitVec.ofInt 64 255).toNat
noncomputable def low (w : Int) : Value := .int .i64 (IntKind.i64.wrap ↑(BitVec.ofInt 64 w &&& BitVec.ofInt 64 255).toNat)
theorem lw_lt (w : Int) : lw w < 256 := by
  unfold lw
  rw [BitVec.toNat_and]
  exact Nat.lt_of_le_of_lt Nat.and_le_right (by decide)
theorem low_eq (w : Int) : low w = .int .i64 (lw w) := by
  unfold low
  have := lw_lt w
  rw [show ((BitVec.ofInt 64 w &&& BitVec.ofInt 64 255).toNat : Int) = (lw w : Int) from rfl, Go.IntWalk.i64_in _ (by omega)]
theorem cl_rem (w : Int) (k n : Nat) (hn : 0 < n) (hk : lw w % n = k) : ClOK (tabP Try.prog) (.rem, 3, low w, .int .i64 n, .int .i64 k) := by
  intro hp
  rw [low_eq, ← tab_eq]
  have h1 : ((n : Int) = 0) = False := by simp; omega
  simp only [go_sem, h1, if_true, if_false, Option.map_some]
  rw [show (lw w : Int).tmod n = (k : Int) by rw [Int.tmod_eq_emod_of_nonneg (by omega)]; omega]
end Go.Proofs.Ytkkhgdmmbhpckaa.Ab
