/-
 The order of texts; Compact of what is sorted is the set; Once is the set. No program in sight.
-/
import Derived.Handy
import Derived.Sort.Statements
import Derived.Test.YtjkdbakgnnhdnaaAbU
import Derived.Lib.SlicesCompact
import Derived.Lib.Strings
namespace Go.Proofs.Ytjkdbakgnnhdnaa
open Go.RowKit
structure Lin (α : Type) where
 lt : α → α → Bool
 irrefl : ∀ x, lt x x = false
 trans : ∀ {x y z}, lt x y = true → lt y z = true → lt x z = true
 total : ∀ {x y}, lt x y = false → lt y x = false → x = y
namespace Lin
variable {α : Type} (O : Lin α)
theorem asymm {x y : α} (h : O.lt x y = true) : O.lt y x = false := by
 cases h2 : O.lt y x with
 | false => rfl
 | true =>
  have := O.trans h h2
  rw [O.irrefl] at this
  cases this
theorem ne {x y : α} (h : O.lt x y = true) : x ≠ y := by
 rintro rfl
 rw [O.irrefl] at h
 cases h
theorem swo : Go.Sort.SWO O.lt where
 irrefl := O.irrefl
 trans _ _ _ := O.trans
 ntrans x y z h1 h2 := by
  cases h : O.lt x z with
  | false => rfl
  | true =>
   cases h3 : O.lt y x with
   | true =>
    have := O.trans h3 h
    rw [h2] at this
    cases this
   | false =>
    have := O.total h1 h3
    subst this
    rw [h2] at h
    cases h
def Rises (l : List α) : Prop := l.Pairwise fun x y => O.lt x y = true
theorem ext : ∀ {a b : List α}, O.Rises a → O.Rises b → (∀ x, x ∈ a ↔ x ∈ b) → a = b
 | [], [], _, _, _ => rfl
 | [], y :: _, _, _, h => by
  have := (h y).2 (List.mem_cons_self ..)
  cases this
 | x :: _, [], _, _, h => by
  have := (h x).1 (List.mem_cons_self ..)
  cases this
 | x :: a, y :: b, ha, hb, h => by
  obtain ⟨ha1, ha2⟩ := List.pairwise_cons.1 ha
  obtain ⟨hb1, hb2⟩ := List.pairwise_cons.1 hb
  have hxy : x = y := by
   rcases List.mem_cons.1 ((h x).1 (List.mem_cons_self ..)) with e | e
   ·exact e
   ·rcases List.mem_cons.1 ((h y).2 (List.mem_cons_self ..)) with e2 | e2
    ·exact e2.symm
    ·have h1 := hb1 x e
     have h2 := ha1 y e2
     rw [O.asymm h1] at h2
     cases h2
  subst hxy
  congr 1
  refine ext ha2 hb2 fun z => ⟨fun hz => ?_, fun hz => ?_⟩
  ·rcases List.mem_cons.1 ((h z).1 (List.mem_cons_of_mem _ hz)) with e | e
   ·subst e
    exact absurd rfl (O.ne (ha1 z hz))
   ·exact e
  ·rcases List.mem_cons.1 ((h z).2 (List.mem_cons_of_mem _ hz)) with e | e
   ·subst e
    exact absurd rfl (O.ne (hb1 z hz))
   ·exact e
theorem filter {l : List α} (h : O.Rises l) (p : α → Bool) : O.Rises (l.filter p) := List.Pairwise.filter p h
def ins (x : α) : List α → List α
 | [] => [x]
 | y :: l => if O.lt x y then x :: y :: l else if O.lt y x then y :: ins x l else y :: l
theorem mem_ins {x z : α} : ∀ {l : List α}, z ∈ O.ins x l ↔ z = x ∨ z ∈ l
 | [] => by simp [ins]
 | y :: l => by
  have ih := mem_ins (x := x) (z := z) (l := l)
  simp only [ins]
  by_cases h1 : O.lt x y = true
  ·simp [h1]
  ·by_cases h2 : O.lt y x = true
   ·simp only [h1, h2, if_true, Bool.false_eq_true, if_false, List.mem_cons, ih]
    constructor
    ·rintro (h | h | h) <;> simp [h]
    ·rintro (h | h | h) <;> simp [h]
   ·have := O.total (by simpa using h1) (by simpa using h2)
    subst this
    simp [h1]
theorem rises_ins {x : α} : ∀ {l : List α}, O.Rises l → O.Rises (O.ins x l)
 | [], _ => by simp [ins, Rises]
 | y :: l, h => by
  obtain ⟨h1, h2⟩ := List.pairwise_cons.1 h
  simp only [ins]
  by_cases e1 : O.lt x y = true
  ·rw [if_pos e1]
   refine List.pairwise_cons.2 ⟨fun z hz => ?_, h⟩
   rcases List.mem_cons.1 hz with e | e
   ·subst e; exact e1
   ·exact O.trans e1 (h1 z e)
  ·rw [if_neg e1]
   by_cases e2 : O.lt y x = true
   ·rw [if_pos e2]
    refine List.pairwise_cons.2 ⟨fun z hz => ?_, rises_ins h2⟩
    rcases O.mem_ins.1 hz with e | e
    ·subst e; exact e2
    ·exact h1 z e
   ·rw [if_neg e2]
    exact h
def ofL (l : List α) : List α := l.foldr O.ins []
theorem rises_ofL : ∀ l, O.Rises (O.ofL l)
 | [] => List.Pairwise.nil
 | _ :: l => O.rises_ins (rises_ofL l)
theorem mem_ofL {z : α} : ∀ {l : List α}, z ∈ O.ofL l ↔ z ∈ l
 | [] => by simp [ofL]
 | x :: l => by
  have ih := mem_ofL (z := z) (l := l)
  show z ∈ O.ins x (O.ofL l) ↔ _
  rw [O.mem_ins, ih, List.mem_cons]
def sub [DecidableEq α] (a b : List α) : List α := a.filter fun x => decide (x ∉ b)
end Lin
end Go.Proofs.Ytjkdbakgnnhdnaa
namespace Go.Proofs.Ytjkdbakgnnhdnaa
open Go.RowKit
namespace Lin
variable {α : Type} (O : Lin α)
theorem compact_mem [Inhabited α] [DecidableEq α] (d : Array α) (x : α) : ∀ m, x ∈ Lib.compactUpTo d m ↔ ∃ j, j < m ∧ d[j]! = x
 | 0 => by simp [Lib.compactUpTo]
 | m + 1 => by
  have ih := compact_mem d x m
  rw [Lib.compactUpTo_succ, List.mem_append, ih]
  by_cases hk : Lib.keeps d m = true
  ·rw [if_pos hk, List.mem_singleton]
   constructor
   ·rintro (⟨j, h1, h2⟩ | h)
    ·exact ⟨j, by omega, h2⟩
    ·exact ⟨m, by omega, h.symm⟩
   ·rintro ⟨j, h1, h2⟩
    rcases Nat.lt_or_ge j m with h | h
    ·exact .inl ⟨j, h, h2⟩
    ·have : j = m := by omega
     subst this
     exact .inr h2.symm
  ·rw [if_neg hk]
   simp only [List.not_mem_nil, or_false]
   have h0 : m ≠ 0 := by
    rintro rfl
    exact hk (by simp [Lib.keeps])
   have he : d[m]! = d[m - 1]! := by
    by_cases e : d[m]! = d[m - 1]!
    ·exact e
    ·exact absurd (Lib.keeps_pos e) hk
   constructor
   ·rintro ⟨j, h1, h2⟩
    exact ⟨j, by omega, h2⟩
   ·rintro ⟨j, h1, h2⟩
    rcases Nat.lt_or_ge j m with h | h
    ·exact ⟨j, h, h2⟩
    ·have : j = m := by omega
     subst this
     exact ⟨j - 1, by omega, by rw [← he, h2]⟩
theorem compact_rises [Inhabited α] [DecidableEq α] (d : Array α) (hs : ∀ i j, i < j → j < d.size → O.lt d[j]! d[i]! = false) : ∀ m, m ≤ d.size → O.Rises (Lib.compactUpTo d m)
 | 0, _ => by simp [Lib.compactUpTo, Rises]
 | m + 1, hm => by
  have ih := compact_rises d hs m (by omega)
  rw [Lib.compactUpTo_succ]
  by_cases hk : Lib.keeps d m = true
  ·rw [if_pos hk]
   refine List.pairwise_append.2 ⟨ih, List.pairwise_singleton .., fun x hx y hy => ?_⟩
   rw [List.mem_singleton.1 hy]
   obtain ⟨j, hj, rfl⟩ := (compact_mem d x m).1 hx
   cases h1 : O.lt d[j]! d[m]! with
   | true => rfl
   | false =>
    exfalso
    have e := O.total h1 (hs j m hj (by omega))
    have hne : d[m]! ≠ d[m - 1]! := fun e2 => by rw [Lib.keeps_neg (by omega) e2] at hk; cases hk
    rcases Nat.lt_or_ge j (m - 1) with h | h
    ·have k1 := hs j (m - 1) h (by omega)
     have k2 := hs (m - 1) m (by omega) (by omega)
     rw [e] at k1
     exact hne (O.total k2 k1)
    ·have : j = m - 1 := by omega
     subst this
     exact hne e.symm
  ·rw [if_neg hk, List.append_nil]
   exact ih
theorem compact_sorted [Inhabited α] [DecidableEq α] {l s : List α} (hm : ∀ x, x ∈ s ↔ x ∈ l) (hs : s.Pairwise fun a b => O.lt b a = false) : Lib.compact s = O.ofL l := by
 have hs' : ∀ i j, i < j → j < s.toArray.size → O.lt s.toArray[j]! s.toArray[i]! = false := fun i j h1 h2 => by
  have h3 : j < s.length := by simpa using h2
  have := List.pairwise_iff_getElem.1 hs i j (by omega) h3 h1
  simpa [h3, show i < s.length by omega] using this
 refine O.ext (O.compact_rises _ hs' _ (by simp)) (O.rises_ofL l) fun x => ?_
 rw [O.mem_ofL, ← hm]
 refine (compact_mem _ x _).trans ⟨?_, fun hx => ?_⟩
 ·rintro ⟨j, hj, rfl⟩
  have : s.toArray[j]! = s[j] := by simp [hj]
  rw [this]
  exact List.getElem_mem hj
 ·obtain ⟨j, hj, rfl⟩ := List.getElem_of_mem hx
  exact ⟨j, hj, by simp [hj]⟩
end Lin
theorem bytes_inj {a b : ByteArray} (h : a.data.toList = b.data.toList) : a = b := by
 cases a; cases b
 congr
 exact Array.toList_inj.1 h
theorem beqS (a b : ByteArray) : (a.toList == b.toList) = decide (a = b) := by
 rw [Lib.toList_data, Lib.toList_data, Bool.eq_iff_iff]
 simp only [beq_iff_eq, decide_eq_true_eq]
 exact ⟨bytes_inj, fun h => by rw [h]⟩
theorem u8_irrefl (a : UInt8) : ¬ a < a := by rw [UInt8.lt_iff_toNat_lt]; omega
theorem bl_irrefl : ∀ a : List UInt8, Op.bytesLess a a = false
 | [] => rfl
 | a :: x => by simp [Op.bytesLess, u8_irrefl, bl_irrefl x]
theorem bl_trans : ∀ {a b c : List UInt8}, Op.bytesLess a b = true → Op.bytesLess b c = true → Op.bytesLess a c = true
 | _, [], [], _, h => by simp [Op.bytesLess] at h
 | [], [], _ :: _, h, _ => by simp [Op.bytesLess] at h
 | _ :: _, [], _ :: _, h, _ => by simp [Op.bytesLess] at h
 | _, _ :: _, [], _, h => by simp [Op.bytesLess] at h
 | [], _ :: _, _ :: _, _, _ => by simp [Op.bytesLess]
 | a :: x, b :: y, c :: z, h1, h2 => by
  have ih := bl_trans (a := x) (b := y) (c := z)
  simp only [Op.bytesLess, Bool.or_eq_true, Bool.and_eq_true, decide_eq_true_eq, beq_iff_eq] at *
  rcases h1 with h1 | ⟨h1, h3⟩ <;> rcases h2 with h2 | ⟨h2, h4⟩
  ·left; rw [UInt8.lt_iff_toNat_lt] at *; omega
  ·subst h2; exact .inl h1
  ·subst h1; exact .inl h2
  ·subst h1; subst h2; exact .inr ⟨rfl, ih h3 h4⟩
theorem bl_total : ∀ {a b : List UInt8}, Op.bytesLess a b = false → Op.bytesLess b a = false → a = b
 | [], [], _, _ => rfl
 | [], _ :: _, h, _ => by simp [Op.bytesLess] at h
 | _ :: _, [], _, h => by simp [Op.bytesLess] at h
 | a :: x, b :: y, h1, h2 => by
  have ih := bl_total (a := x) (b := y)
  simp only [Op.bytesLess, Bool.or_eq_false_iff, Bool.and_eq_false_imp, decide_eq_false_iff_not, beq_iff_eq] at *
  have e : a = b := by
   have k1 := h1.1; have k2 := h2.1
   rw [UInt8.lt_iff_toNat_lt] at k1 k2
   exact UInt8.toNat_inj.1 (by omega)
  subst e
  rw [ih (h1.2 rfl) (h2.2 rfl)]
def tx : Lin ByteArray where
 lt a b := Op.bytesLess a.toList b.toList
 irrefl _ := bl_irrefl _
 trans := bl_trans
 total h1 h2 := by
  have := bl_total h1 h2
  rw [Lib.toList_data, Lib.toList_data] at this
  exact bytes_inj this
namespace Ab
open Go.Sort
end Ab
end Go.Proofs.Ytjkdbakgnnhdnaa
