/-
  The order of texts; Compact of what is sorted is the set; Once is the set. No program in sight.
-/
import Derived.Test.YtedgdpncienjiaaLin
import Derived.Test.YtedgdpncienjiaaAbU
import Derived.Lib.SlicesCompact
import Derived.Lib.Strings
namespace Go.Proofs.Ytedgdpncienjiaa
open Go.RowKit
namespace Lin
variable {α : Type} (O : Lin α)
theorem compact_mem [Inhabited α] [DecidableEq α] (d : Array α) (x : α) : ∀ m, x ∈ Lib.compactUpTo d m ↔ ∃ j, j < m ∧ d[j]! = x
  | 0 => by simp [Lib.compactUpTo]
  | m + 1 => by
    have ih := compact_mem d x m
    rw [Lib.compactUpTo_succ, List.mem_append, ih]
    by_cases hk : Lib.keeps d m = true
    · rw [if_pos hk, List.mem_singleton]
      constructor
      · rintro (⟨j, h1, h2⟩ | h)
        · exact ⟨j, by omega, h2⟩
        · exact ⟨m, by omega, h.symm⟩
      · rintro ⟨j, h1, h2⟩
        rcases Nat.lt_or_ge j m with h | h
        · exact .inl ⟨j, h, h2⟩
        · have : j = m := by omega
          subst this
          exact .inr h2.symm
    · rw [if_neg hk]
      simp only [List.not_mem_nil, or_false]
      have h0 : m ≠ 0 := by
        rintro rfl
        exact hk (by simp [Lib.keeps])
      have he : d[m]! = d[m - 1]! := by
        by_cases e : d[m]! = d[m - 1]!
        · exact e
        · exact absurd (Lib.keeps_pos e) hk
      constructor
      · rintro ⟨j, h1, h2⟩
        exact ⟨j, by omega, h2⟩
      · rintro ⟨j, h1, h2⟩
        rcases Nat.lt_or_ge j m with h | h
        · exact ⟨j, h, h2⟩
        · have : j = m := by omega
          subst this
          exact ⟨j - 1, by omega, by rw [← he, h2]⟩
theorem compact_rises [Inhabited α] [DecidableEq α] (d : Array α) (hs : ∀ i j, i < j → j < d.size → O.lt d[j]! d[i]! = false) : ∀ m, m ≤ d.size → O.Rises (Lib.compactUpTo d m)
  | 0, _ => by simp [Lib.compactUpTo, Rises]
  | m + 1, hm => by
    have ih := compact_rises d hs m (by omega)
    rw [Lib.compactUpTo_succ]
    by_cases hk : Lib.keeps d m = true
    · rw [if_pos hk]
      refine List.pairwise_append.2 ⟨ih, List.pairwise_singleton .., fun x hx y hy => ?_⟩
      rw [List.mem_singleton.1 hy]
      obtain ⟨j, hj, rfl⟩ := (compact_mem d x m).1 hx
      cases h1 : O.lt d[j]! d[m]! with
      | true => rfl
      | false =>
        exfalso
        have e := O.total h1 (hs j m hj (by omega))
        have hne : d[m]! ≠ d[m - 1]! := fun e2 => by rw [Lib.keeps_neg (by omega) e2] at hk; cases hk
        rcases Nat.lt_or_ge j (m - 1) with h | h
        · have k1 := hs j (m - 1) h (by omega)
          have k2 := hs (m - 1) m (by omega) (by omega)
          rw [e] at k1
          exact hne (O.total k2 k1)
        · have : j = m - 1 := by omega
          subst this
          exact hne e.symm
    · rw [if_neg hk, List.append_nil]
      exact ih
/-- Compact of any sorting is the set. -/
theorem compact_sorted [Inhabited α] [DecidableEq α] {l s : List α} (hm : ∀ x, x ∈ s ↔ x ∈ l) (hs : s.Pairwise fun a b => O.lt b a = false) : Lib.compact s = O.ofL l := by
  have hs' : ∀ i j, i < j → j < s.toArray.size → O.lt s.toArray[j]! s.toArray[i]! = false := fun i j h1 h2 => by
    have h3 : j < s.length := by simpa using h2
    have := List.pairwise_iff_getElem.1 hs i j (by omega) h3 h1
    simpa [h3, show i < s.length by omega] using this
  refine O.ext (O.compact_rises _ hs' _ (by simp)) (O.rises_ofL l) fun x => ?_
  rw [O.mem_ofL, ← hm]
  refine (compact_mem _ x _).trans ⟨?_, fun hx => ?_⟩
  · rintro ⟨j, hj, rfl⟩
    have : s.toArray[j]! = s[j] := by simp [hj]
    rw [this]
    exact List.getElem_mem hj
  · obtain ⟨j, hj, rfl⟩ := List.getElem_of_mem hx
    exact ⟨j, hj, by simp [hj]⟩
end Lin
theorem bytes_inj {a b : ByteArray} (h : a.data.toList = b.data.toList) : a = b := by
  cases a; cases b
  congr
  exact Array.toList_inj.1 h
theorem beqS (a b : ByteArray) : (a.toList == b.toList) = decide (a = b) := by
  rw [Lib.toList_data, Lib.toList_data, Bool.eq_iff_iff]
  simp only [beq_iff_eq, decide_eq_true_eq]
  exact ⟨bytes_inj, fun h => by rw [h]⟩
theorem bl_lt : ∀ (x y : List UInt8), Op.bytesLess x y = decide (x < y)
  | [], [] => by simp [Op.bytesLess]
  | _ :: _, [] => by simp [Op.bytesLess]
  | [], _ :: _ => by simp [Op.bytesLess]
  | a :: x, b :: y => by
    rw [Op.bytesLess, bl_lt x y]
    simp only [List.cons_lt_cons_iff]
    by_cases h1 : a < b <;> by_cases h2 : a = b <;> by_cases h3 : x < y <;> simp [h1, h2, h3]
theorem u8_irrefl (a : UInt8) : ¬ a < a := by rw [UInt8.lt_iff_toNat_lt]; omega
theorem bl_irrefl : ∀ a : List UInt8, Op.bytesLess a a = false
  | [] => rfl
  | a :: x => by simp [Op.bytesLess, u8_irrefl, bl_irrefl x]
theorem bl_trans : ∀ {a b c : List UInt8}, Op.bytesLess a b = true → Op.bytesLess b c = true → Op.bytesLess a c = true
  | _, [], [], _, h => by simp [Op.bytesLess] at h
  | [], [], _ :: _, h, _ => by simp [Op.bytesLess] at h
  | _ :: _, [], _ :: _, h, _ => by simp [Op.bytesLess] at h
  | _, _ :: _, [], _, h => by simp [Op.bytesLess] at h
  | [], _ :: _, _ :: _, _, _ => by simp [Op.bytesLess]
  | a :: x, b :: y, c :: z, h1, h2 => by
    have ih := bl_trans (a := x) (b := y) (c := z)
    simp only [Op.bytesLess, Bool.or_eq_true, Bool.and_eq_true, decide_eq_true_eq, beq_iff_eq] at *
    rcases h1 with h1 | ⟨h1, h3⟩ <;> rcases h2 with h2 | ⟨h2, h4⟩
    · left; rw [UInt8.lt_iff_toNat_lt] at *; omega
    · subst h2; exact .inl h1
    · subst h1; exact .inl h2
    · subst h1; subst h2; exact .inr ⟨rfl, ih h3 h4⟩
theorem bl_total : ∀ {a b : List UInt8}, Op.bytesLess a b = false → Op.bytesLess b a = false → a = b
  | [], [], _, _ => rfl
  | [], _ :: _, h, _ => by simp [Op.bytesLess] at h
  | _ :: _, [], _, h => by simp [Op.bytesLess] at h
  | a :: x, b :: y, h1, h2 => by
    have ih := bl_total (a := x) (b := y)
    simp only [Op.bytesLess, Bool.or_eq_false_iff, Bool.and_eq_false_imp, decide_eq_false_iff_not, beq_iff_eq] at *
    have e : a = b := by
      have k1 := h1.1; have k2 := h2.1
      rw [UInt8.lt_iff_toNat_lt] at k1 k2
      exact UInt8.toNat_inj.1 (by omega)
    subst e
    rw [ih (h1.2 rfl) (h2.2 rfl)]
/-- The order of texts. -/
def tx : Lin ByteArray where
  lt a b := Op.bytesLess a.toList b.toList
  irrefl _ := bl_irrefl _
  trans := bl_trans
  total h1 h2 := by
    have := bl_total h1 h2
    rw [Lib.toList_data, Lib.toList_data] at this
    exact bytes_inj this
namespace Ab
open Go.Sort
theorem toT_toList (s : ByteArray) : toT s = s.toList := (Lib.toList_data s).symm
theorem lt_toT (x y : List UInt8) : tx.lt (ofT x) (ofT y) = decide (x < y) := by
  show Op.bytesLess _ _ = _
  rw [← toT_toList, ← toT_toList, toT_ofT, toT_ofT, bl_lt]
theorem srt_sorted (xs : List ByteArray) : (srtT xs).Pairwise fun a b => tx.lt b a = false := by
  unfold srtT
  refine List.pairwise_map.2 ?_
  have h := List.pairwise_mergeSort (le := fun x y : List UInt8 => decide (x ≤ y)) (fun a b c h1 h2 => by
      simp only [decide_eq_true_eq] at *
      exact List.le_trans h1 h2) (fun a b => by
      simp only [Bool.or_eq_true, decide_eq_true_eq]
      exact List.le_total a b) (xs.map toT)
  refine h.imp fun {a b} h => ?_
  rw [lt_toT]
  simpa using h
theorem srt_mem (xs : List ByteArray) (x : ByteArray) : x ∈ srtT xs ↔ x ∈ xs := by
  have hp := (List.mergeSort_perm (xs.map toT) fun x y => decide (x ≤ y)).map ofT
  rw [map_ofT_toT] at hp
  exact hp.mem_iff
theorem compact_ofT (zs : List (List UInt8)) : (Lib.compact zs).map ofT = Lib.compact (zs.map ofT) := by
  have hg : ∀ j, ofT (zs.toArray[j]!) = (zs.map ofT).toArray[j]! ∨ zs.length ≤ j := fun j => by
    rcases Nat.lt_or_ge j zs.length with h | h
    · exact .inl (by simp [h])
    · exact .inr h
  have hinj : ∀ a b : List UInt8, ofT a = ofT b ↔ a = b := fun a b => ⟨fun h => by rw [← toT_ofT a, ← toT_ofT b, h], fun h => by rw [h]⟩
  unfold Lib.compact Lib.compactUpTo
  rw [List.map_map, List.length_map]
  have e1 : (List.range zs.length).filter (Lib.keeps zs.toArray) = (List.range zs.length).filter (Lib.keeps (zs.map ofT).toArray) := by
    refine List.filter_congr fun j hj => ?_
    have hj := List.mem_range.1 hj
    unfold Lib.keeps
    rw [decide_eq_decide]
    have a1 := (hg j).resolve_right (by omega)
    have a2 := (hg (j - 1)).resolve_right (by omega)
    rw [← a1, ← a2, ne_eq, ne_eq, hinj]
  rw [e1]
  refine List.map_congr_left fun j hj => ?_
  have hj := List.mem_range.1 (List.mem_filter.1 hj).1
  exact (hg j).resolve_right (by omega)
/-- What Compact leaves of what is sorted. -/
theorem once_set (xs : List ByteArray) : cmpT (srtT xs) = tx.ofL xs := by
  unfold cmpT
  rw [compact_ofT, map_ofT_toT]
  exact tx.compact_sorted (srt_mem xs) (srt_sorted xs)
end Ab
end Go.Proofs.Ytedgdpncienjiaa
