/-
  SeekLess: what is known ahead; what a number's bits say.
-/
import Derived.Test.YtonkehpafhhpmaaGreatZa9
namespace Go.Proofs.YtonkehpafhhpmaaGreat.Ab
open Go.RowKit

def primsL : List Pr1 := prC 8 (.bool true) :: prims0
theorem primsL_ok : PrimOK Tryz.prog (primOf primsL) := primOf_ok _ fun p hp => by
  rcases List.mem_cons.1 hp with rfl | hp
  · exact prC_ok awake9
  · exact prims0_each p hp
/-- A bit of a number. -/
def bA (w m : Int) : Int := IntKind.i64.wrap ↑(BitVec.ofInt 64 w &&& BitVec.ofInt 64 m).toNat
def bS (w k : Int) : Int := IntKind.i64.wrap ↑(BitVec.ofInt 64 (w.fdiv (2 ^ (min k.toNat 64))) &&& BitVec.ofInt 64 1).toNat
noncomputable def cAnd (w m v : Int) : Cl := (.and, 3, .int .i64 w, .int .i64 m, .int .i64 v)
noncomputable def cShr (w k v : Int) : Cl := (.and, 3, .int .i64 (w.fdiv (2 ^ (min k.toNat 64))), .int .i64 1, .int .i64 v)
theorem cAnd_ok {w m v : Int} (h : bA w m = v) : ClOK (tabP Tryz.prog) (cAnd w m v) := by
  intro hp
  rw [← tab_eq]
  simp only [cAnd, go_sem, if_true, Option.map_some]
  rw [← h]
  rfl
theorem cShr_ok {w k v : Int} (h : bS w k = v) : ClOK (tabP Tryz.prog) (cShr w k v) := by
  intro hp
  rw [← tab_eq]
  simp only [cShr, go_sem, if_true, Option.map_some]
  rw [← h]
  rfl
theorem nat_and_pow (n k : Nat) : n &&& 2 ^ k = 0 ∨ n &&& 2 ^ k = 2 ^ k := by
  cases h : n.testBit k with
  | true =>
    right
    apply Nat.eq_of_testBit_eq
    intro i
    rw [Nat.testBit_and, Nat.testBit_two_pow]
    by_cases e : k = i
    · subst e; simp [h]
    · simp [e]
  | false =>
    left
    apply Nat.eq_of_testBit_eq
    intro i
    rw [Nat.testBit_and, Nat.testBit_two_pow]
    by_cases e : k = i
    · subst e; simp [h]
    · simp [e]
theorem and_c (x : BitVec 64) (m : Int) (k : Nat) (hm : (BitVec.ofInt 64 m).toNat = 2 ^ k) (hw : IntKind.i64.wrap ((2 ^ k : Nat) : Int) = m) : IntKind.i64.wrap ((x &&& BitVec.ofInt 64 m).toNat : Int) = 0 ∨ IntKind.i64.wrap ((x &&& BitVec.ofInt 64 m).toNat : Int) = m := by
  rw [BitVec.toNat_and, hm]
  rcases nat_and_pow x.toNat k with h | h
  · left; rw [h]; decide
  · right; rw [h]; exact hw
theorem bA_1 (w : Int) : bA w 1 = 0 ∨ bA w 1 = 1 := and_c _ 1 0 (by decide) (by decide)
theorem bA_2 (w : Int) : bA w 2 = 0 ∨ bA w 2 = 2 := and_c _ 2 1 (by decide) (by decide)
theorem bA_4 (w : Int) : bA w 4 = 0 ∨ bA w 4 = 4 := and_c _ 4 2 (by decide) (by decide)
theorem bS_or (w k : Int) : bS w k = 0 ∨ bS w k = 1 := and_c _ 1 0 (by decide) (by decide)
end Go.Proofs.YtonkehpafhhpmaaGreat.Ab
