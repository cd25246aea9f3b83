/-
  Plain lemmas on numbers, strings and lists. No program in sight.
-/
import Derived.Test.YtdckfddlcmkdlaaRows
import Derived.WalkKit
import Derived.Lib.Bytealg
import Derived.Sort.Walk0
namespace Go.Proofs.Ytdckfddlcmkdlaa
open Go.RowKit

namespace Pl
/-- Masks of low bits on an int64: the rest by a power of two. -/
theorem and_mask (n m : Int) (k : Nat) (hm : (BitVec.ofInt 64 m).toNat = 2 ^ k - 1) (hk : k ≤ 62) : bits .and .i64 n m = n % (2 ^ k : Nat) := by
  have key : (BitVec.ofInt 64 n &&& BitVec.ofInt 64 m).toNat = (n % ((2 ^ 64 : Nat) : Int)).toNat % 2 ^ k := by
    rw [BitVec.toNat_and, BitVec.toNat_ofInt, hm, Nat.and_two_pow_sub_one_eq_mod]
  show IntKind.i64.wrap ((BitVec.ofInt 64 n &&& BitVec.ofInt 64 m).toNat : Nat) = _
  rw [key, IntKind.wrap_i64]
  have h1 : (2 : Nat) ^ k ≤ 2 ^ 62 := Nat.pow_le_pow_right (by omega) hk
  have h2 : (2 : Nat) ^ 64 = 2 ^ k * 2 ^ (64 - k) := by rw [← Nat.pow_add]; congr 1; omega
  have h4 : 0 < (2 : Nat) ^ k := Nat.two_pow_pos k
  have h3 : ((n % ((2 ^ 64 : Nat) : Int)).toNat % 2 ^ k : Nat) = n % ((2 ^ k : Nat) : Int) := by
    rw [Int.natCast_emod, Int.toNat_of_nonneg (Int.emod_nonneg _ (by decide)), Int.emod_emod_of_dvd]
    rw [h2]
    exact Int.ofNat_dvd.2 (Nat.dvd_mul_right _ _)
  rw [h3]
  have h5 := Int.emod_nonneg n (show ((2 ^ k : Nat) : Int) ≠ 0 by omega)
  have h6 := Int.emod_lt_of_pos n (show (0 : Int) < ((2 ^ k : Nat) : Int) by omega)
  have h7 : ((2 ^ k : Nat) : Int) ≤ 2 ^ 62 := by exact_mod_cast h1
  generalize n % ((2 ^ k : Nat) : Int) = x at *
  generalize ((2 ^ k : Nat) : Int) = y at *
  omega
theorem and1 (n : Int) : bits .and .i64 n 1 = n % 2 := and_mask n 1 1 (by decide) (by decide)
theorem and3 (n : Int) : bits .and .i64 n 3 = n % 4 := and_mask n 3 2 (by decide) (by decide)
theorem and7 (n : Int) : bits .and .i64 n 7 = n % 8 := and_mask n 7 3 (by decide) (by decide)
theorem and15 (n : Int) : bits .and .i64 n 15 = n % 16 := and_mask n 15 4 (by decide) (by decide)
theorem and31 (n : Int) : bits .and .i64 n 31 = n % 32 := and_mask n 31 5 (by decide) (by decide)
theorem and255 (n : Int) : bits .and .i64 n 255 = n % 256 := and_mask n 255 8 (by decide) (by decide)

/-- A pick among literal texts. -/
theorem pick_at {l : List ByteArray} {i : Nat} (h : i < l.length) : (l.map Value.string)[i]? = some (.string (l.getD i ByteArray.empty)) := by
  simp [h]
end Pl
end Go.Proofs.Ytdckfddlcmkdlaa
