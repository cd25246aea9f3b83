/-
 Words of the functions that are read off the code, told plainly: lists, texts, loops over them. No program in sight.
-/
import Derived.Handy
import Derived.Sort.Statements
import Derived.Test.YtgmhbmcdlkajdaaGreatDoorAbU
import Derived.Lib.SlicesCompact
import Derived.Lib.Strings
namespace Go.Proofs.YtgmhbmcdlkajdaaGreatDoor
open Go.RowKit
structure Lin (α : Type) where
 lt : α → α → Bool
 irrefl : ∀ x, lt x x = false
 trans : ∀ {x y z}, lt x y = true → lt y z = true → lt x z = true
 total : ∀ {x y}, lt x y = false → lt y x = false → x = y
namespace Lin
variable {α : Type} (O : Lin α)
theorem asymm {x y : α} (h : O.lt x y = true) : O.lt y x = false := by
 cases h2 : O.lt y x with
 | false => rfl
 | true =>
  have := O.trans h h2
  rw [O.irrefl] at this
  cases this
theorem ne {x y : α} (h : O.lt x y = true) : x ≠ y := by
 rintro rfl
 rw [O.irrefl] at h
 cases h
theorem swo : Go.Sort.SWO O.lt where
 irrefl := O.irrefl
 trans _ _ _ := O.trans
 ntrans x y z h1 h2 := by
  cases h : O.lt x z with
  | false => rfl
  | true =>
   cases h3 : O.lt y x with
   | true =>
    have := O.trans h3 h
    rw [h2] at this
    cases this
   | false =>
    have := O.total h1 h3
    subst this
    rw [h2] at h
    cases h
def Rises (l : List α) : Prop := l.Pairwise fun x y => O.lt x y = true
theorem ext : ∀ {a b : List α}, O.Rises a → O.Rises b → (∀ x, x ∈ a ↔ x ∈ b) → a = b
 | [], [], _, _, _ => rfl
 | [], y :: _, _, _, h => by
  have := (h y).2 (List.mem_cons_self ..)
  cases this
 | x :: _, [], _, _, h => by
  have := (h x).1 (List.mem_cons_self ..)
  cases this
 | x :: a, y :: b, ha, hb, h => by
  obtain ⟨ha1, ha2⟩ := List.pairwise_cons.1 ha
  obtain ⟨hb1, hb2⟩ := List.pairwise_cons.1 hb
  have hxy : x = y := by
   rcases List.mem_cons.1 ((h x).1 (List.mem_cons_self ..)) with e | e
   ·exact e
   ·rcases List.mem_cons.1 ((h y).2 (List.mem_cons_self ..)) with e2 | e2
    ·exact e2.symm
    ·have h1 := hb1 x e
     have h2 := ha1 y e2
     rw [O.asymm h1] at h2
     cases h2
  subst hxy
  congr 1
  refine ext ha2 hb2 fun z => ⟨fun hz => ?_, fun hz => ?_⟩
  ·rcases List.mem_cons.1 ((h z).1 (List.mem_cons_of_mem _ hz)) with e | e
   ·subst e
    exact absurd rfl (O.ne (ha1 z hz))
   ·exact e
  ·rcases List.mem_cons.1 ((h z).2 (List.mem_cons_of_mem _ hz)) with e | e
   ·subst e
    exact absurd rfl (O.ne (hb1 z hz))
   ·exact e
theorem filter {l : List α} (h : O.Rises l) (p : α → Bool) : O.Rises (l.filter p) := List.Pairwise.filter p h
def ins (x : α) : List α → List α
 | [] => [x]
 | y :: l => if O.lt x y then x :: y :: l else if O.lt y x then y :: ins x l else y :: l
theorem mem_ins {x z : α} : ∀ {l : List α}, z ∈ O.ins x l ↔ z = x ∨ z ∈ l
 | [] => by simp [ins]
 | y :: l => by
  have ih := mem_ins (x := x) (z := z) (l := l)
  simp only [ins]
  by_cases h1 : O.lt x y = true
  ·simp [h1]
  ·by_cases h2 : O.lt y x = true
   ·simp only [h1, h2, if_true, Bool.false_eq_true, if_false, List.mem_cons, ih]
    constructor
    ·rintro (h | h | h) <;> simp [h]
    ·rintro (h | h | h) <;> simp [h]
   ·have := O.total (by simpa using h1) (by simpa using h2)
    subst this
    simp [h1]
theorem rises_ins {x : α} : ∀ {l : List α}, O.Rises l → O.Rises (O.ins x l)
 | [], _ => by simp [ins, Rises]
 | y :: l, h => by
  obtain ⟨h1, h2⟩ := List.pairwise_cons.1 h
  simp only [ins]
  by_cases e1 : O.lt x y = true
  ·rw [if_pos e1]
   refine List.pairwise_cons.2 ⟨fun z hz => ?_, h⟩
   rcases List.mem_cons.1 hz with e | e
   ·subst e; exact e1
   ·exact O.trans e1 (h1 z e)
  ·rw [if_neg e1]
   by_cases e2 : O.lt y x = true
   ·rw [if_pos e2]
    refine List.pairwise_cons.2 ⟨fun z hz => ?_, rises_ins h2⟩
    rcases O.mem_ins.1 hz with e | e
    ·subst e; exact e2
    ·exact h1 z e
   ·rw [if_neg e2]
    exact h
def ofL (l : List α) : List α := l.foldr O.ins []
theorem rises_ofL : ∀ l, O.Rises (O.ofL l)
 | [] => List.Pairwise.nil
 | _ :: l => O.rises_ins (rises_ofL l)
theorem mem_ofL {z : α} : ∀ {l : List α}, z ∈ O.ofL l ↔ z ∈ l
 | [] => by simp [ofL]
 | x :: l => by
  have ih := mem_ofL (z := z) (l := l)
  show z ∈ O.ins x (O.ofL l) ↔ _
  rw [O.mem_ins, ih, List.mem_cons]
def sub [DecidableEq α] (a b : List α) : List α := a.filter fun x => decide (x ∉ b)
def mg : List α → List α → List α
 | [], b => b
 | x :: a, [] => x :: a
 | x :: a, y :: b => if O.lt x y = true then x :: mg a (y :: b) else if O.lt y x = true then y :: mg (x :: a) b else mg a (y :: b)
termination_by a b => a.length + b.length
theorem mg_nil (a : List α) : O.mg a [] = a := by
 cases a <;> rw [mg]
theorem nil_mg (b : List α) : O.mg [] b = b := by rw [mg]
theorem mem_mg (z : α) : ∀ (n : Nat) (a b : List α), a.length + b.length ≤ n → (z ∈ O.mg a b ↔ z ∈ a ∨ z ∈ b)
 | _, [], b, _ => by simp [O.nil_mg]
 | _, x :: a, [], _ => by simp [O.mg_nil]
 | 0, x :: a, y :: b, h => by simp at h
 | n + 1, x :: a, y :: b, h => by
  simp only [List.length_cons] at h
  have i1 := mem_mg z n a (y :: b) (by simp only [List.length_cons]; omega)
  have i2 := mem_mg z n (x :: a) b (by simp only [List.length_cons]; omega)
  rw [mg]
  by_cases h1 : O.lt x y = true
  ·rw [if_pos h1, List.mem_cons, i1, List.mem_cons (a := z) (b := x), or_assoc]
  ·rw [if_neg h1]
   by_cases h2 : O.lt y x = true
   ·rw [if_pos h2, List.mem_cons, i2, List.mem_cons (a := z) (b := y)]
    constructor
    ·rintro (e | e | e)
     ·exact .inr (.inl e)
     ·exact .inl e
     ·exact .inr (.inr e)
    ·rintro (e | e | e)
     ·exact .inr (.inl e)
     ·exact .inl e
     ·exact .inr (.inr e)
   ·have e : x = y := O.total (by simpa using h1) (by simpa using h2)
    rw [if_neg h2, i1, List.mem_cons (a := z) (b := x), e]
    constructor
    ·rintro (e | e)
     ·exact .inl (.inr e)
     ·exact .inr e
    ·rintro ((e | e) | e)
     ·exact .inr (by rw [e]; exact List.mem_cons_self ..)
     ·exact .inl e
     ·exact .inr e
theorem rises_mg : ∀ (n : Nat) (a b : List α), a.length + b.length ≤ n → O.Rises a → O.Rises b → O.Rises (O.mg a b)
 | _, [], b, _, _, hb => by rw [O.nil_mg]; exact hb
 | _, x :: a, [], _, ha, _ => by rw [O.mg_nil]; exact ha
 | 0, x :: a, y :: b, h, _, _ => by simp at h
 | n + 1, x :: a, y :: b, h, ha, hb => by
  simp only [List.length_cons] at h
  obtain ⟨ha1, ha2⟩ := List.pairwise_cons.1 ha
  obtain ⟨hb1, hb2⟩ := List.pairwise_cons.1 hb
  rw [mg]
  by_cases h1 : O.lt x y = true
  ·rw [if_pos h1]
   refine List.pairwise_cons.2 ⟨fun z hz => ?_, rises_mg n a (y :: b) (by simp only [List.length_cons]; omega) ha2 hb⟩
   rcases (O.mem_mg z _ a (y :: b) (Nat.le_refl _)).1 hz with e | e
   ·exact ha1 z e
   ·rcases List.mem_cons.1 e with e | e
    ·rw [e]; exact h1
    ·exact O.trans h1 (hb1 z e)
  ·rw [if_neg h1]
   by_cases h2 : O.lt y x = true
   ·rw [if_pos h2]
    refine List.pairwise_cons.2 ⟨fun z hz => ?_, rises_mg n (x :: a) b (by simp only [List.length_cons]; omega) ha hb2⟩
    rcases (O.mem_mg z _ (x :: a) b (Nat.le_refl _)).1 hz with e | e
    ·rcases List.mem_cons.1 e with e | e
     ·rw [e]; exact h2
     ·exact O.trans h2 (ha1 z e)
    ·exact hb1 z e
   ·rw [if_neg h2]
    exact rises_mg n a (y :: b) (by simp only [List.length_cons]; omega) ha2 hb
theorem mg_ofL (a b : List α) : O.mg (O.ofL a) (O.ofL b) = O.ofL (a ++ b) := O.ext (O.rises_mg _ _ _ (Nat.le_refl _) (O.rises_ofL a) (O.rises_ofL b)) (O.rises_ofL _) fun z => by
 rw [O.mem_mg z _ _ _ (Nat.le_refl _), O.mem_ofL, O.mem_ofL, O.mem_ofL, List.mem_append]
theorem step_left {a b : List α} {i k : Nat} {x : α} (hi : a[i]? = some x) (h : b.length ≤ k ∨ ∃ y, b[k]? = some y ∧ O.lt x y = true) : O.mg (a.drop i) (b.drop k) = x :: O.mg (a.drop (i + 1)) (b.drop k) := by
 obtain ⟨hl, hx⟩ := List.getElem?_eq_some_iff.1 hi
 rw [List.drop_eq_getElem_cons hl, hx]
 rcases h with h | ⟨y, hy, hlt⟩
 ·rw [List.drop_of_length_le h, O.mg_nil, O.mg_nil]
 ·obtain ⟨hl2, hy2⟩ := List.getElem?_eq_some_iff.1 hy
  rw [List.drop_eq_getElem_cons hl2, hy2, mg, if_pos hlt]
theorem step_right {a b : List α} {i k : Nat} {y : α} (hk : b[k]? = some y) (h : a.length ≤ i ∨ ∃ x, a[i]? = some x ∧ O.lt x y = false ∧ O.lt y x = true) : O.mg (a.drop i) (b.drop k) = y :: O.mg (a.drop i) (b.drop (k + 1)) := by
 obtain ⟨hl, hy⟩ := List.getElem?_eq_some_iff.1 hk
 rw [List.drop_eq_getElem_cons hl, hy]
 rcases h with h | ⟨x, hx, h1, h2⟩
 ·rw [List.drop_of_length_le h, O.nil_mg, O.nil_mg]
 ·obtain ⟨hl2, hx2⟩ := List.getElem?_eq_some_iff.1 hx
  rw [List.drop_eq_getElem_cons hl2, hx2, mg, if_neg (by rw [h1]; simp), if_pos h2]
theorem step_both {a b : List α} {i k : Nat} {x y : α} (hi : a[i]? = some x) (hk : b[k]? = some y) (h1 : O.lt x y = false) (h2 : O.lt y x = false) : O.mg (a.drop i) (b.drop k) = O.mg (a.drop (i + 1)) (b.drop k) := by
 obtain ⟨hl, hx⟩ := List.getElem?_eq_some_iff.1 hi
 obtain ⟨hl2, hy⟩ := List.getElem?_eq_some_iff.1 hk
 rw [List.drop_eq_getElem_cons hl, hx, List.drop_eq_getElem_cons hl2, hy, mg, if_neg (by rw [h1]; simp), if_neg (by rw [h2]; simp)]
end Lin
end Go.Proofs.YtgmhbmcdlkajdaaGreatDoor
namespace Go.Proofs.YtgmhbmcdlkajdaaGreatDoor
open Go.RowKit
namespace Lin
variable {α : Type} (O : Lin α)
end Lin
theorem bytes_inj {a b : ByteArray} (h : a.data.toList = b.data.toList) : a = b := by
 cases a; cases b
 congr
 exact Array.toList_inj.1 h
theorem beqS (a b : ByteArray) : (a.toList == b.toList) = decide (a = b) := by
 rw [Lib.toList_data, Lib.toList_data, Bool.eq_iff_iff]
 simp only [beq_iff_eq, decide_eq_true_eq]
 exact ⟨bytes_inj, fun h => by rw [h]⟩
theorem u8_irrefl (a : UInt8) : ¬ a < a := by rw [UInt8.lt_iff_toNat_lt]; omega
theorem bl_irrefl : ∀ a : List UInt8, Op.bytesLess a a = false
 | [] => rfl
 | a :: x => by simp [Op.bytesLess, bl_irrefl x]
theorem bl_trans : ∀ {a b c : List UInt8}, Op.bytesLess a b = true → Op.bytesLess b c = true → Op.bytesLess a c = true
 | _, [], [], _, h => by simp [Op.bytesLess] at h
 | [], [], _ :: _, h, _ => by simp [Op.bytesLess] at h
 | _ :: _, [], _ :: _, h, _ => by simp [Op.bytesLess] at h
 | _, _ :: _, [], _, h => by simp [Op.bytesLess] at h
 | [], _ :: _, _ :: _, _, _ => by simp [Op.bytesLess]
 | a :: x, b :: y, c :: z, h1, h2 => by
  have ih := bl_trans (a := x) (b := y) (c := z)
  simp only [Op.bytesLess, Bool.or_eq_true, Bool.and_eq_true, decide_eq_true_eq, beq_iff_eq] at *
  rcases h1 with h1 | ⟨h1, h3⟩ <;> rcases h2 with h2 | ⟨h2, h4⟩
  ·left; rw [UInt8.lt_iff_toNat_lt] at *; omega
  ·subst h2; exact .inl h1
  ·subst h1; exact .inl h2
  ·subst h1; subst h2; exact .inr ⟨rfl, ih h3 h4⟩
theorem bl_total : ∀ {a b : List UInt8}, Op.bytesLess a b = false → Op.bytesLess b a = false → a = b
 | [], [], _, _ => rfl
 | [], _ :: _, h, _ => by simp [Op.bytesLess] at h
 | _ :: _, [], _, h => by simp [Op.bytesLess] at h
 | a :: x, b :: y, h1, h2 => by
  have ih := bl_total (a := x) (b := y)
  simp only [Op.bytesLess, Bool.or_eq_false_iff, Bool.and_eq_false_imp, decide_eq_false_iff_not, beq_iff_eq] at *
  have e : a = b := by
   have k1 := h1.1; have k2 := h2.1
   rw [UInt8.lt_iff_toNat_lt] at k1 k2
   exact UInt8.toNat_inj.1 (by omega)
  subst e
  rw [ih (h1.2 rfl) (h2.2 rfl)]
def tx : Lin ByteArray where
 lt a b := Op.bytesLess a.toList b.toList
 irrefl _ := bl_irrefl _
 trans := bl_trans
 total h1 h2 := by
  have := bl_total h1 h2
  rw [Lib.toList_data, Lib.toList_data] at this
  exact bytes_inj this
namespace Ab
open Go.Sort
end Ab
end Go.Proofs.YtgmhbmcdlkajdaaGreatDoor
namespace Go.Proofs.YtgmhbmcdlkajdaaGreatDoor.Ab
open Go.RowKit
theorem wr {x : Int} (h1 : -9223372036854775808 ≤ x) (h2 : x < 9223372036854775808) : IntKind.i64.wrap x = x := IntWalk.i64_in _ (by omega)
theorem wr1 {k : Nat} (h : k < 9223372036854775807) : IntKind.i64.wrap ((k : Int) + 1) = ((k + 1 : Nat) : Int) := wrap_one (by omega)
theorem dlt {a b : Nat} (h : a < b) : decide ((a : Int) < (b : Int)) = true := by simp; omega
theorem dnlt {a b : Nat} (h : b ≤ a) : decide ((a : Int) < (b : Int)) = false := by simp; omega
theorem an8 (t : Int) : IntKind.i64.wrap (an t 255 : Int) = (an t 255 : Nat) := wrap_an _ _ (by decide)
theorem idxS {α : Type} {xs : List α} {k : Nat} (h : k < xs.length) : idx xs (k : Int) = some xs[k] := by rw [idx_nat, List.getElem?_eq_getElem h]
theorem appS {α : Type} {xs ys : List α} (h : xs.length + ys.length ≤ 4294967296) : app xs ys = some (xs ++ ys) := if_pos h
theorem slcS {α : Type} {xs : List α} {a b : Nat} (h1 : a ≤ b) (h2 : b ≤ xs.length) : slc xs (a : Int) (b : Int) = some ((xs.take b).drop a) := by
 unfold slc
 rw [if_pos ⟨by omega, by omega, by omega⟩]
 rfl
theorem bget (s : ByteArray) (i : Nat) : s[i]? = s.data.toList[i]? := by
 simp [getElem?_def, ByteArray.getElem_eq_getElem_data, ByteArray.size_data]
theorem bsize (s : ByteArray) : s.data.toList.length = s.size := by simp
theorem bidxS {s : ByteArray} {k : Nat} (h : k < s.size) : bidx s (k : Int) = some ((s.data.toList[k]'(by rw [bsize]; exact h)).toNat : Int) := by
 unfold bidx
 rw [if_pos (by omega), Int.toNat_natCast, bget, List.getElem?_eq_getElem (by rw [bsize]; exact h)]
 rfl
theorem bslcS {s : ByteArray} {a b : Nat} (h1 : a ≤ b) (h2 : b ≤ s.size) : bslc s (a : Int) (b : Int) = some (s.extract a b) := by
 unfold bslc
 rw [if_pos ⟨by omega, by omega, by omega⟩]
 rfl
theorem catS {a b : ByteArray} (h : a.size + b.size ≤ maxLen) : cat a b = some (a ++ b) := if_pos h
theorem list_ext (s : ByteArray) (a b : Nat) : (s.extract a b).data.toList = (s.data.toList.take b).drop a := by
 rw [ByteArray.data_extract, Array.toList_extract, List.extract_eq_take_drop, List.drop_take]
theorem list_app (s t : ByteArray) : (s ++ t).data.toList = s.data.toList ++ t.data.toList := by rw [ByteArray.data_append, Array.toList_append]
theorem ext_one {s : ByteArray} {k : Nat} (h : k < s.size) : (s.extract k (k + 1)).data.toList = [s.data.toList[k]'(by rw [bsize]; exact h)] := by
 have h' : k < s.data.toList.length := by rw [bsize]; exact h
 rw [list_ext, ← List.take_append_getElem h', List.drop_append_of_le_length (by rw [List.length_take]; omega)]
 simp
theorem ext_size (s : ByteArray) {a b : Nat} (h2 : b ≤ s.size) : (s.extract a b).size = b - a := by
 rw [ByteArray.size_extract, Nat.min_eq_left h2]
theorem ixf_loop {α : Type} {L : Nat → Int → Option (Unit ⊕ Int)} {xs : List α} {P : α → Option Bool} (p : α → Bool) (h0 : ∀ c i, L (c + 1) i = if decide (i < (xs.length : Int)) then (idx xs i).bind fun x => (P x).bind fun b => if b then some (.inr i) else L c (IntKind.i64.wrap (i + 1)) else some (.inl ()))
  (hP : ∀ x ∈ xs, P x = some (p x)) (hx : xs.length < 4611686018427387904) : ∀ (c j : Nat), j ≤ xs.length → xs.length - j < c → ∃ r, L c (j : Int) = some r ∧ (((xs.drop j).any p = true ∧ ∃ k : Nat, r = .inr (k : Int)) ∨ ((xs.drop j).any p = false ∧ r = .inl ()))
 | 0, _, _, h => by omega
 | c + 1, j, hj, hc => by
  rw [h0]
  by_cases hlt : j < xs.length
  ·rw [dlt hlt, if_pos rfl, idxS hlt, Option.bind_some, hP _ (List.getElem_mem hlt), Option.bind_some, List.drop_eq_getElem_cons hlt]
   cases hp : p xs[j] with
   | true => exact ⟨_, if_pos rfl, .inl ⟨by rw [List.any_cons, hp, Bool.true_or], j, rfl⟩⟩
   | false =>
    rw [if_neg (by decide), wr1 (by omega)]
    obtain ⟨r, h1, h2⟩ := ixf_loop p h0 hP hx c (j + 1) (by omega) (by omega)
    exact ⟨r, h1, by rw [List.any_cons, hp, Bool.false_or]; exact h2⟩
  ·rw [dnlt (by omega), if_neg (by decide), List.drop_eq_nil_of_le (by omega)]
   exact ⟨_, rfl, .inr ⟨rfl, rfl⟩⟩
theorem same_loop {α : Type} [DecidableEq α] {L : Nat → Int → Option (Unit ⊕ Bool)} {xs ys : List α} {E : α → α → Bool} (hE : ∀ x y, E x y = decide (x = y)) (h0 : ∀ c i, L (c + 1) i = if decide (i < (xs.length : Int)) then (idx xs i).bind fun x => (idx ys i).bind fun y => if E x y then L c (IntKind.i64.wrap (i + 1)) else some (.inr false) else some (.inl ()))
  (hl : xs.length = ys.length) (hx : xs.length < 4611686018427387904) : ∀ (c j : Nat), j ≤ xs.length → xs.length - j < c → L c (j : Int) = some (if xs.drop j = ys.drop j then .inl () else .inr false)
 | 0, _, _, h => by omega
 | c + 1, j, hj, hc => by
  rw [h0]
  by_cases hlt : j < xs.length
  ·rw [dlt hlt, if_pos rfl, idxS hlt, Option.bind_some, idxS (by omega), Option.bind_some, hE, List.drop_eq_getElem_cons hlt, List.drop_eq_getElem_cons (show j < ys.length by omega)]
   by_cases e : xs[j] = ys[j]
   ·rw [decide_eq_true e, if_pos rfl, wr1 (by omega), same_loop hE h0 hl hx c (j + 1) (by omega) (by omega)]
    simp only [List.cons.injEq, e, true_and]
   ·rw [decide_eq_false e, if_neg (by decide), if_neg fun h => e (List.cons.inj h).1]
  ·rw [dnlt (by omega), if_neg (by decide), List.drop_eq_nil_of_le (by omega), List.drop_eq_nil_of_le (by omega), if_pos rfl]
theorem merge_loop {α : Type} (O : Lin α) {L : Nat → List α × Int × Int → Option (List α)} {a b : List α}
  (h0 : ∀ c t i k, L (c + 1) (t, i, k) =
   (((if decide (i < (a.length : Int)) then some (t, true) else some (t, decide (k < (b.length : Int)))) : Option (List α × Bool)).bind fun q =>
   (if q.2 then
    (((if k == (b.length : Int) then some (q.1, true) else (if decide (i < (a.length : Int)) then (idx a i).bind fun x => (idx b k).bind fun y => some (q.1, O.lt x y) else some (q.1, false))) : Option (List α × Bool)).bind fun w =>
    (if w.2 then (idx a i).bind fun x => (app w.1 [x]).bind fun l => L c (l, IntKind.i64.wrap (i + 1), k)
    else (if i == (a.length : Int) then (idx b k).bind fun y => (app w.1 [y]).bind fun l => L c (l, i, IntKind.i64.wrap (k + 1))
     else (idx b k).bind fun y => (idx a i).bind fun x => (if O.lt y x then (app w.1 [y]).bind fun l => L c (l, i, IntKind.i64.wrap (k + 1)) else L c (w.1, IntKind.i64.wrap (i + 1), k)))))
   else some q.1)))
  : ∀ (c : Nat) (t : List α) (i k : Nat), i ≤ a.length → k ≤ b.length → (a.length - i) + (b.length - k) < c → t.length + (a.length - i) + (b.length - k) ≤ 4294967296 → a.length < 4611686018427387904 → b.length < 4611686018427387904 →
   L c (t, (i : Int), (k : Int)) = some (t ++ O.mg (a.drop i) (b.drop k))
 | 0, _, _, _, _, _, h, _, _, _ => by omega
 | c + 1, t, i, k, hi, hk, hc, ht, ha, hb => by
  have ih := merge_loop O h0 c
  rw [h0]
  by_cases h1 : i < a.length
  ·rw [dlt h1, if_pos rfl, Option.bind_some, if_pos rfl]
   by_cases h2 : k < b.length
   ·have e2 : ((k : Int) == (b.length : Int)) = false := by simp; omega
    rw [e2, if_neg (by decide), if_pos rfl, idxS h1, Option.bind_some, idxS h2, Option.bind_some, Option.bind_some]
    cases h3 : O.lt a[i] b[k] with
    | true =>
     dsimp only
     rw [if_pos rfl, Option.bind_some, appS (by simp; omega), Option.bind_some, wr1 (by omega), ih _ _ _ (by omega) hk (by omega) (by simp; omega) ha hb, O.step_left (List.getElem?_eq_getElem h1) (.inr ⟨_, List.getElem?_eq_getElem h2, h3⟩)]
     simp
    | false =>
     have e1 : ((i : Int) == (a.length : Int)) = false := by simp; omega
     dsimp only
     rw [if_neg (by decide), e1, if_neg (by decide), Option.bind_some, Option.bind_some]
     cases h4 : O.lt b[k] a[i] with
     | true =>
      rw [if_pos rfl, appS (by simp; omega), Option.bind_some, wr1 (by omega), ih _ _ _ hi (by omega) (by omega) (by simp; omega) ha hb, O.step_right (List.getElem?_eq_getElem h2) (.inr ⟨_, List.getElem?_eq_getElem h1, h3, h4⟩)]
      simp
     | false =>
      rw [if_neg (by decide), wr1 (by omega), ih _ _ _ (by omega) hk (by omega) (by omega) ha hb, O.step_both (List.getElem?_eq_getElem h1) (List.getElem?_eq_getElem h2) h3 h4]
   ·have e2 : ((k : Int) == (b.length : Int)) = true := by simp; omega
    rw [e2, if_pos rfl, Option.bind_some, if_pos rfl, idxS h1, Option.bind_some, appS (by simp; omega), Option.bind_some, wr1 (by omega), ih _ _ _ (by omega) hk (by omega) (by simp; omega) ha hb, O.step_left (List.getElem?_eq_getElem h1) (.inl (by omega))]
    simp
  ·rw [dnlt (by omega), if_neg (by decide), Option.bind_some]
   by_cases h2 : k < b.length
   ·have e2 : ((k : Int) == (b.length : Int)) = false := by simp; omega
    have e1 : ((i : Int) == (a.length : Int)) = true := by simp; omega
    dsimp only
    rw [dlt h2, if_pos rfl, e2, if_neg (by decide), if_neg (by decide), Option.bind_some]
    dsimp only
    rw [if_neg (by decide), e1, if_pos rfl, idxS h2, Option.bind_some, appS (by simp; omega), Option.bind_some, wr1 (by omega), ih _ _ _ hi (by omega) (by omega) (by simp; omega) ha hb, O.step_right (List.getElem?_eq_getElem h2) (.inl (by omega))]
    simp
   ·dsimp only
    rw [dnlt (by omega), if_neg (by decide), List.drop_eq_nil_of_le (by omega), List.drop_eq_nil_of_le (by omega), O.nil_mg, List.append_nil]
theorem ofL_len {α : Type} (O : Lin α) (l : List α) : (O.ofL l).length ≤ l.length := by
 have ins_len : ∀ (x : α) (l : List α), (O.ins x l).length ≤ l.length + 1 := fun x l => by
  induction l with
  | nil => simp [Lin.ins]
  | cons y r ih =>
   simp only [Lin.ins]
   split
   ·simp
   ·split
    ·simp; omega
    ·simp
 induction l with
 | nil => simp [Lin.ofL]
 | cons x r ih =>
  have := ins_len x (O.ofL r)
  have e : O.ofL (x :: r) = O.ins x (O.ofL r) := rfl
  rw [e, List.length_cons]
  omega
theorem ofL_short {α : Type} (O : Lin α) {l : List α} (h : l.length < 2) : O.ofL l = l := by
 match l, h with
 | [], _ => rfl
 | [x], _ => rfl
end Go.Proofs.YtgmhbmcdlkajdaaGreatDoor.Ab
