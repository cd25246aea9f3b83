/-
  Three bits. No program in sight.
-/
import Derived.Test.YthnejfmbglbpgaaDoorPgm
namespace Go.Proofs.YthnejfmbglbpgaaDoor.Ab
open Go.RowKit
def orW (w b : Int) : Int := IntKind.i64.wrap ((BitVec.ofInt IntKind.i64.bits w ||| BitVec.ofInt IntKind.i64.bits b).toNat : Int)
def nz (x b : Int) : Bool := (IntKind.i64.wrap (an x b : Int)) != 0
theorem an7 (x : Int) : 0 ≤ IntKind.i64.wrap (an x 7 : Int) ∧ IntKind.i64.wrap (an x 7 : Int) ≤ 7 := by
  have h := an_le x 7
  rw [show (BitVec.ofInt 64 7).toNat = 7 from rfl] at h
  rw [wrap_an x 7 (by decide)]
  omega
theorem of8 {p : Int → Prop} (h : ∀ i : Fin 8, p (i.1 : Int)) {x : Int} (hx : 0 ≤ x ∧ x ≤ 7) : p x := by
  have := h ⟨x.toNat, by omega⟩
  rwa [show ((x.toNat : Nat) : Int) = x by omega] at this
theorem bit_nz {x b : Int} (hx : 0 ≤ x ∧ x ≤ 7) (hb : b = 1 ∨ b = 2 ∨ b = 4) : bitOn x b = nz x b := by
  revert hb
  refine of8 (p := fun x => b = 1 ∨ b = 2 ∨ b = 4 → bitOn x b = nz x b) (fun i => ?_) hx
  rintro (rfl | rfl | rfl) <;> revert i <;> decide
theorem or_all : ∀ i j : Fin 8, (0 ≤ orW i.1 j.1 ∧ orW i.1 j.1 ≤ 7) ∧ nz (orW i.1 j.1) 1 = (nz i.1 1 || nz j.1 1) ∧ nz (orW i.1 j.1) 2 = (nz i.1 2 || nz j.1 2) ∧ nz (orW i.1 j.1) 4 = (nz i.1 4 || nz j.1 4) := by decide
theorem and_all : ∀ i j : Fin 8, nz (IntKind.i64.wrap (an i.1 j.1 : Int)) 1 = (nz i.1 1 && nz j.1 1) ∧ nz (IntKind.i64.wrap (an i.1 j.1 : Int)) 2 = (nz i.1 2 && nz j.1 2) ∧ nz (IntKind.i64.wrap (an i.1 j.1 : Int)) 4 = (nz i.1 4 && nz j.1 4) := by decide
theorem or_ok {w x : Int} (hw : 0 ≤ w ∧ w ≤ 7) (hx : 0 ≤ x ∧ x ≤ 7) : (0 ≤ orW w x ∧ orW w x ≤ 7) ∧ nz (orW w x) 1 = (nz w 1 || nz x 1) ∧ nz (orW w x) 2 = (nz w 2 || nz x 2) ∧ nz (orW w x) 4 = (nz w 4 || nz x 4) :=
  of8 (p := fun w => (0 ≤ orW w x ∧ orW w x ≤ 7) ∧ nz (orW w x) 1 = (nz w 1 || nz x 1) ∧ nz (orW w x) 2 = (nz w 2 || nz x 2) ∧ nz (orW w x) 4 = (nz w 4 || nz x 4)) (fun i => of8 (p := fun x => (0 ≤ orW i.1 x ∧ orW i.1 x ≤ 7) ∧ nz (orW i.1 x) 1 = (nz i.1 1 || nz x 1) ∧ nz (orW i.1 x) 2 = (nz i.1 2 || nz x 2) ∧ nz (orW i.1 x) 4 = (nz i.1 4 || nz x 4)) (fun j => or_all i j) hx) hw
theorem and_ok {w x b : Int} (hw : 0 ≤ w ∧ w ≤ 7) (hx : 0 ≤ x ∧ x ≤ 7) (hb : b = 1 ∨ b = 2 ∨ b = 4) : nz (IntKind.i64.wrap (an w x : Int)) b = (nz w b && nz x b) := by
  refine of8 (p := fun w => nz (IntKind.i64.wrap (an w x : Int)) b = (nz w b && nz x b)) (fun i => of8 (p := fun x => nz (IntKind.i64.wrap (an i.1 x : Int)) b = (nz i.1 b && nz x b)) (fun j => ?_) hx) hw
  rcases hb with rfl | rfl | rfl
  · exact (and_all i j).1
  · exact (and_all i j).2.1
  · exact (and_all i j).2.2
end Go.Proofs.YthnejfmbglbpgaaDoor.Ab
