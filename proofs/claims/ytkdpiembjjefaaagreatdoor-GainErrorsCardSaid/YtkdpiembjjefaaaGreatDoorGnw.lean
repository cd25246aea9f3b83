/-
  GainErrors: what is known ahead; what a number's bits say.
-/
import Derived.Test.YtkdpiembjjefaaaGreatDoorGk
import Derived.Test.YtkdpiembjjefaaaGreatDoorAbZ
namespace Go.Proofs.YtkdpiembjjefaaaGreatDoor.Ab
open Go.RowKit
def primsG : List Pr1 := prC 8 (.bool true) :: prK 4 textG factsG :: primsT
theorem primsG_ok : PrimOK Tryz.prog (primOf primsG) := primOf_ok _ fun p hp => by
  rcases List.mem_cons.1 hp with rfl | hp
  · exact prC_ok awake19
  · rcases List.mem_cons.1 hp with rfl | hp
    · exact prK_ok parseG
    · exact primsT_each p hp
/-- Eight bits. -/
def lw (w : Int) : Nat := (BitVec.ofInt 64 w &&& BitVec.ofInt 64 255).toNat
noncomputable def low (w : Int) : Value := .int .i64 (IntKind.i64.wrap ↑(BitVec.ofInt 64 w &&& BitVec.ofInt 64 255).toNat)
theorem lw_lt (w : Int) : lw w < 256 := by
  unfold lw
  rw [BitVec.toNat_and]
  exact Nat.lt_of_le_of_lt Nat.and_le_right (by decide)
theorem low_eq (w : Int) : low w = .int .i64 (lw w) := by
  unfold low
  have := lw_lt w
  rw [show ((BitVec.ofInt 64 w &&& BitVec.ofInt 64 255).toNat : Int) = (lw w : Int) from rfl, Go.IntWalk.i64_in _ (by omega)]
/-- Eight bits behind eight. -/
def hw (w : Int) : Nat := (BitVec.ofInt 64 (w.fdiv (2 ^ (min (8 : Int).toNat 64))) &&& BitVec.ofInt 64 255).toNat
noncomputable def high (w : Int) : Value := .int .i64 (IntKind.i64.wrap ↑(BitVec.ofInt 64 (w.fdiv (2 ^ (min (8 : Int).toNat 64))) &&& BitVec.ofInt 64 255).toNat)
theorem hw_lt (w : Int) : hw w < 256 := by
  unfold hw
  rw [BitVec.toNat_and]
  exact Nat.lt_of_le_of_lt Nat.and_le_right (by decide)
theorem high_eq (w : Int) : high w = .int .i64 (hw w) := by
  unfold high
  have := hw_lt w
  rw [show ((BitVec.ofInt 64 (w.fdiv (2 ^ (min (8 : Int).toNat 64))) &&& BitVec.ofInt 64 255).toNat : Int) = (hw w : Int) from rfl, Go.IntWalk.i64_in _ (by omega)]
noncomputable def clA (w : Int) (k : Nat) : Cl := (.rem, 3, low w, .int .i64 13, .int .i64 k)
noncomputable def clH (w : Int) (k : Nat) : Cl := (.rem, 3, high w, .int .i64 11, .int .i64 k)
theorem clA_ok {w : Int} {k : Nat} (hk : lw w % 13 = k) : ClOK (tabP Tryz.prog) (clA w k) := by
  intro hp
  rw [clA, low_eq, ← tab_eq]
  simp only [go_sem, if_true]
  rw [show (lw w : Int).tmod 13 = (k : Int) by rw [Int.tmod_eq_emod_of_nonneg (by omega)]; omega]
  rfl
theorem clH_ok {w : Int} {k : Nat} (hk : hw w % 11 = k) : ClOK (tabP Tryz.prog) (clH w k) := by
  intro hp
  rw [clH, high_eq, ← tab_eq]
  simp only [go_sem, if_true]
  rw [show (hw w : Int).tmod 11 = (k : Int) by rw [Int.tmod_eq_emod_of_nonneg (by omega)]; omega]
  rfl
end Go.Proofs.YtkdpiembjjefaaaGreatDoor.Ab
