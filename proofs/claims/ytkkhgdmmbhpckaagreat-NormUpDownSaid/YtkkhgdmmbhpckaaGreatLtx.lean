/-
 The order of texts; Compact of what is sorted is the set; Once is the set. No program in sight.
-/
import Derived.Test.YtkkhgdmmbhpckaaGreatLin
import Derived.Test.YtkkhgdmmbhpckaaGreatAbU
import Derived.Lib.SlicesCompact
import Derived.Lib.Strings
namespace Go.Proofs.YtkkhgdmmbhpckaaGreat
open Go.RowKit
namespace Lin
variable {α : Type} (O : Lin α)
end Lin
theorem bytes_inj {a b : ByteArray} (h : a.data.toList = b.data.toList) : a = b := by
 cases a; cases b
 congr
 exact Array.toList_inj.1 h
theorem bl_lt : ∀ (x y : List UInt8), Op.bytesLess x y = decide (x < y)
 | [], [] => by simp [Op.bytesLess]
 | _ :: _, [] => by simp [Op.bytesLess]
 | [], _ :: _ => by simp [Op.bytesLess]
 | a :: x, b :: y => by
  rw [Op.bytesLess, bl_lt x y]
  simp only [List.cons_lt_cons_iff]
  by_cases h1 : a < b <;> by_cases h2 : a = b <;> by_cases h3 : x < y <;> simp [h1, h2, h3]
theorem u8_irrefl (a : UInt8) : ¬ a < a := by rw [UInt8.lt_iff_toNat_lt]; omega
theorem bl_irrefl : ∀ a : List UInt8, Op.bytesLess a a = false
 | [] => rfl
 | a :: x => by simp [Op.bytesLess, bl_irrefl x]
theorem bl_trans : ∀ {a b c : List UInt8}, Op.bytesLess a b = true → Op.bytesLess b c = true → Op.bytesLess a c = true
 | _, [], [], _, h => by simp [Op.bytesLess] at h
 | [], [], _ :: _, h, _ => by simp [Op.bytesLess] at h
 | _ :: _, [], _ :: _, h, _ => by simp [Op.bytesLess] at h
 | _, _ :: _, [], _, h => by simp [Op.bytesLess] at h
 | [], _ :: _, _ :: _, _, _ => by simp [Op.bytesLess]
 | a :: x, b :: y, c :: z, h1, h2 => by
  have ih := bl_trans (a := x) (b := y) (c := z)
  simp only [Op.bytesLess, Bool.or_eq_true, Bool.and_eq_true, decide_eq_true_eq, beq_iff_eq] at *
  rcases h1 with h1 | ⟨h1, h3⟩ <;> rcases h2 with h2 | ⟨h2, h4⟩
  ·left; rw [UInt8.lt_iff_toNat_lt] at *; omega
  ·subst h2; exact .inl h1
  ·subst h1; exact .inl h2
  ·subst h1; subst h2; exact .inr ⟨rfl, ih h3 h4⟩
theorem bl_total : ∀ {a b : List UInt8}, Op.bytesLess a b = false → Op.bytesLess b a = false → a = b
 | [], [], _, _ => rfl
 | [], _ :: _, h, _ => by simp [Op.bytesLess] at h
 | _ :: _, [], _, h => by simp [Op.bytesLess] at h
 | a :: x, b :: y, h1, h2 => by
  have ih := bl_total (a := x) (b := y)
  simp only [Op.bytesLess, Bool.or_eq_false_iff, Bool.and_eq_false_imp, decide_eq_false_iff_not, beq_iff_eq] at *
  have e : a = b := by
   have k1 := h1.1; have k2 := h2.1
   rw [UInt8.lt_iff_toNat_lt] at k1 k2
   exact UInt8.toNat_inj.1 (by omega)
  subst e
  rw [ih (h1.2 rfl) (h2.2 rfl)]
def tx : Lin ByteArray where
 lt a b := Op.bytesLess a.toList b.toList
 irrefl _ := bl_irrefl _
 trans := bl_trans
 total h1 h2 := by
  have := bl_total h1 h2
  rw [Lib.toList_data, Lib.toList_data] at this
  exact bytes_inj this
namespace Ab
open Go.Sort
theorem toT_toList (s : ByteArray) : toT s = s.toList := (Lib.toList_data s).symm
theorem lt_toT (x y : List UInt8) : tx.lt (ofT x) (ofT y) = decide (x < y) := by
 show Op.bytesLess _ _ = _
 rw [← toT_toList, ← toT_toList, toT_ofT, toT_ofT, bl_lt]
theorem srt_sorted (xs : List ByteArray) : (srtT xs).Pairwise fun a b => tx.lt b a = false := by
 unfold srtT
 refine List.pairwise_map.2 ?_
 have h := List.pairwise_mergeSort (le := fun x y : List UInt8 => decide (x ≤ y)) (fun a b c h1 h2 => by
   simp only [decide_eq_true_eq] at *
   exact List.le_trans h1 h2) (fun a b => by
   simp only [Bool.or_eq_true, decide_eq_true_eq]
   exact List.le_total a b) (xs.map toT)
 refine h.imp fun {a b} h => ?_
 rw [lt_toT]
 simpa using h
theorem srt_mem (xs : List ByteArray) (x : ByteArray) : x ∈ srtT xs ↔ x ∈ xs := by
 have hp := (List.mergeSort_perm (xs.map toT) fun x y => decide (x ≤ y)).map ofT
 rw [map_ofT_toT] at hp
 exact hp.mem_iff
end Ab
end Go.Proofs.YtkkhgdmmbhpckaaGreat
