/-
  FindErrors: what is known ahead; what a number's bits say.
-/
import Derived.Test.YtonkehpafhhpmaaGreatZa11
namespace Go.Proofs.YtonkehpafhhpmaaGreat.Ab
open Go.RowKit

def primsF : List Pr1 := prC 11 (.bool true) :: prims0
theorem primsF_ok : PrimOK Tryz.prog (primOf primsF) := primOf_ok _ fun p hp => by
  rcases List.mem_cons.1 hp with rfl | hp
  · exact prC_ok awake11
  · exact prims0_each p hp
/-- Some bits of a number. -/
noncomputable def andv (w m : Int) : Value := .int .i64 (IntKind.i64.wrap ↑(BitVec.ofInt 64 w &&& BitVec.ofInt 64 m).toNat)
def bitB (w m : Int) : Bool := !(IntKind.i64.wrap ↑(BitVec.ofInt 64 w &&& BitVec.ofInt 64 m).toNat == 0)
noncomputable def clB (w m : Int) (b : Bool) : Cl := (.neq, 3, andv w m, .int .i64 0, .bool b)
theorem clB_ok {w m : Int} {b : Bool} (h : bitB w m = b) : ClOK (tabP Tryz.prog) (clB w m b) := by
  intro hp
  rw [← tab_eq]
  simp only [clB, andv, go_sem, if_true, Option.map_some]
  rw [← h]
  rfl
/-- Eight bits behind some. -/
def hw (w : Int) : Nat := (BitVec.ofInt 64 (w.fdiv (2 ^ (min (4 : Int).toNat 64))) &&& BitVec.ofInt 64 255).toNat
noncomputable def high (w : Int) : Value := .int .i64 (IntKind.i64.wrap ↑(BitVec.ofInt 64 (w.fdiv (2 ^ (min (4 : Int).toNat 64))) &&& BitVec.ofInt 64 255).toNat)
theorem hw_lt (w : Int) : hw w < 256 := by
  unfold hw
  rw [BitVec.toNat_and]
  exact Nat.lt_of_le_of_lt Nat.and_le_right (by decide)
theorem high_eq (w : Int) : high w = .int .i64 (hw w) := by
  unfold high
  have := hw_lt w
  rw [show ((BitVec.ofInt 64 (w.fdiv (2 ^ (min (4 : Int).toNat 64))) &&& BitVec.ofInt 64 255).toNat : Int) = (hw w : Int) from rfl, Go.IntWalk.i64_in _ (by omega)]
theorem cl_rem (w : Int) (k n : Nat) (hn : 0 < n) (hk : hw w % n = k) : ClOK (tabP Tryz.prog) (.rem, 3, high w, .int .i64 n, .int .i64 k) := by
  intro hp
  rw [high_eq, ← tab_eq]
  have h1 : ((n : Int) = 0) = False := by simp; omega
  simp only [go_sem, h1, if_true, if_false, Option.map_some]
  rw [show (hw w : Int).tmod n = (k : Int) by rw [Int.tmod_eq_emod_of_nonneg (by omega)]; omega]
end Go.Proofs.YtonkehpafhhpmaaGreat.Ab
