/-
 The order of texts; Compact of what is sorted is the set; Once is the set. No program in sight.
-/
import Derived.Handy
import Derived.Sort.Statements
import Derived.Test.YtkkhgdmmbhpckaaGreatAbU
import Derived.Lib.SlicesCompact
import Derived.Lib.Strings
namespace Go.Proofs.YtkkhgdmmbhpckaaGreat
open Go.RowKit
structure Lin (α : Type) where
 lt : α → α → Bool
 irrefl : ∀ x, lt x x = false
 trans : ∀ {x y z}, lt x y = true → lt y z = true → lt x z = true
 total : ∀ {x y}, lt x y = false → lt y x = false → x = y
namespace Lin
variable {α : Type} (O : Lin α)
theorem asymm {x y : α} (h : O.lt x y = true) : O.lt y x = false := by
 cases h2 : O.lt y x with
 | false => rfl
 | true =>
  have := O.trans h h2;rw [O.irrefl] at this;cases this
theorem ne {x y : α} (h : O.lt x y = true) : x ≠ y := by
 rintro rfl;rw [O.irrefl] at h;cases h
theorem swo : Go.Sort.SWO O.lt where
 irrefl := O.irrefl
 trans _ _ _ := O.trans
 ntrans x y z h1 h2 := by
  cases h : O.lt x z with
  | false => rfl
  | true =>
   cases h3 : O.lt y x with
   | true =>
    have := O.trans h3 h;rw [h2] at this;cases this
   | false =>
    have := O.total h1 h3;subst this;rw [h2] at h;cases h
def Rises (l : List α) : Prop := l.Pairwise fun x y => O.lt x y = true
theorem ext : ∀ {a b : List α}, O.Rises a → O.Rises b → (∀ x, x ∈ a ↔ x ∈ b) → a = b
 | [], [], _, _, _ => rfl
 | [], y :: _, _, _, h => by
  have := (h y).2 (List.mem_cons_self ..);cases this
 | x :: _, [], _, _, h => by
  have := (h x).1 (List.mem_cons_self ..);cases this
 | x :: a, y :: b, ha, hb, h => by
  obtain ⟨ha1, ha2⟩ := List.pairwise_cons.1 ha;obtain ⟨hb1, hb2⟩ := List.pairwise_cons.1 hb;have hxy : x = y := by
   rcases List.mem_cons.1 ((h x).1 (List.mem_cons_self ..)) with e | e
   ·exact e
   ·rcases List.mem_cons.1 ((h y).2 (List.mem_cons_self ..)) with e2 | e2
    ·exact e2.symm
    ·have h1 := hb1 x e
     have h2 := ha1 y e2;rw [O.asymm h1] at h2;cases h2
  subst hxy;congr 1
  refine ext ha2 hb2 fun z => ⟨fun hz => ?_, fun hz => ?_⟩
  ·rcases List.mem_cons.1 ((h z).1 (List.mem_cons_of_mem _ hz)) with e | e
   ·subst e
    exact absurd rfl (O.ne (ha1 z hz))
   ·exact e
  ·rcases List.mem_cons.1 ((h z).2 (List.mem_cons_of_mem _ hz)) with e | e
   ·subst e
    exact absurd rfl (O.ne (hb1 z hz))
   ·exact e
theorem nodup {l : List α} (h : O.Rises l) : l.Nodup := h.imp fun hxy => O.ne hxy
theorem filter {l : List α} (h : O.Rises l) (p : α → Bool) : O.Rises (l.filter p) := List.Pairwise.filter p h
def ins (x : α) : List α → List α
 | [] => [x]
 | y :: l => if O.lt x y then x :: y :: l else if O.lt y x then y :: ins x l else y :: l
theorem mem_ins {x z : α} : ∀ {l : List α}, z ∈ O.ins x l ↔ z = x ∨ z ∈ l
 | [] => by simp [ins]
 | y :: l => by
  have ih := mem_ins (x := x) (z := z) (l := l);simp only [ins];by_cases h1 : O.lt x y = true
  ·simp [h1]
  ·by_cases h2 : O.lt y x = true
   ·simp only [h1, h2, if_true, Bool.false_eq_true, if_false, List.mem_cons, ih]
    constructor
    ·rintro (h | h | h) <;> simp [h]
    ·rintro (h | h | h) <;> simp [h]
   ·have := O.total (by simpa using h1) (by simpa using h2)
    subst this;simp [h1]
theorem rises_ins {x : α} : ∀ {l : List α}, O.Rises l → O.Rises (O.ins x l)
 | [], _ => by simp [ins, Rises]
 | y :: l, h => by
  obtain ⟨h1, h2⟩ := List.pairwise_cons.1 h;simp only [ins];by_cases e1 : O.lt x y = true
  ·rw [if_pos e1]
   refine List.pairwise_cons.2 ⟨fun z hz => ?_, h⟩;rcases List.mem_cons.1 hz with e | e
   ·subst e; exact e1
   ·exact O.trans e1 (h1 z e)
  ·rw [if_neg e1]
   by_cases e2 : O.lt y x = true
   ·rw [if_pos e2]
    refine List.pairwise_cons.2 ⟨fun z hz => ?_, rises_ins h2⟩;rcases O.mem_ins.1 hz with e | e
    ·subst e; exact e2
    ·exact h1 z e
   ·rw [if_neg e2]
    exact h
def ofL (l : List α) : List α := l.foldr O.ins []
theorem rises_ofL : ∀ l, O.Rises (O.ofL l)
 | [] => List.Pairwise.nil
 | _ :: l => O.rises_ins (rises_ofL l)
theorem mem_ofL {z : α} : ∀ {l : List α}, z ∈ O.ofL l ↔ z ∈ l
 | [] => by simp [ofL]
 | x :: l => by
  have ih := mem_ofL (z := z) (l := l);show z ∈ O.ins x (O.ofL l) ↔ _;rw [O.mem_ins, ih, List.mem_cons]
theorem ofL_eq {l s : List α} (hs : O.Rises s) (h : ∀ x, x ∈ s ↔ x ∈ l) : O.ofL l = s :=
 O.ext (O.rises_ofL l) hs fun x => O.mem_ofL.trans (h x).symm
theorem ofL_self {l : List α} (h : O.Rises l) : O.ofL l = l := O.ofL_eq h fun _ => Iff.rfl
theorem ofL_congr {a b : List α} (h : ∀ x, x ∈ a ↔ x ∈ b) : O.ofL a = O.ofL b := O.ofL_eq (O.rises_ofL b) fun x => O.mem_ofL.trans (h x).symm
def sub [DecidableEq α] (a b : List α) : List α := a.filter fun x => decide (x ∉ b)
def mg : List α → List α → List α
 | [], b => b
 | x :: a, [] => x :: a
 | x :: a, y :: b => if O.lt x y = true then x :: mg a (y :: b) else if O.lt y x = true then y :: mg (x :: a) b else mg a (y :: b)
termination_by a b => a.length + b.length
theorem mg_nil (a : List α) : O.mg a [] = a := by
 cases a <;> rw [mg]
theorem nil_mg (b : List α) : O.mg [] b = b := by rw [mg]
theorem mem_mg (z : α) : ∀ (n : Nat) (a b : List α), a.length + b.length ≤ n → (z ∈ O.mg a b ↔ z ∈ a ∨ z ∈ b)
 | _, [], b, _ => by simp [O.nil_mg]
 | _, x :: a, [], _ => by simp [O.mg_nil]
 | 0, x :: a, y :: b, h => by simp at h
 | n + 1, x :: a, y :: b, h => by
  simp only [List.length_cons] at h;have i1 := mem_mg z n a (y :: b) (by simp only [List.length_cons]; omega);have i2 := mem_mg z n (x :: a) b (by simp only [List.length_cons]; omega);rw [mg];by_cases h1 : O.lt x y = true
  ·rw [if_pos h1, List.mem_cons, i1, List.mem_cons (a := z) (b := x), or_assoc]
  ·rw [if_neg h1]
   by_cases h2 : O.lt y x = true
   ·rw [if_pos h2, List.mem_cons, i2, List.mem_cons (a := z) (b := y)]
    constructor
    ·rintro (e | e | e)
     ·exact .inr (.inl e)
     ·exact .inl e
     ·exact .inr (.inr e)
    ·rintro (e | e | e)
     ·exact .inr (.inl e)
     ·exact .inl e
     ·exact .inr (.inr e)
   ·have e : x = y := O.total (by simpa using h1) (by simpa using h2)
    rw [if_neg h2, i1, List.mem_cons (a := z) (b := x), e];constructor
    ·rintro (e | e)
     ·exact .inl (.inr e)
     ·exact .inr e
    ·rintro ((e | e) | e)
     ·exact .inr (by rw [e]; exact List.mem_cons_self ..)
     ·exact .inl e
     ·exact .inr e
theorem rises_mg : ∀ (n : Nat) (a b : List α), a.length + b.length ≤ n → O.Rises a → O.Rises b → O.Rises (O.mg a b)
 | _, [], b, _, _, hb => by rw [O.nil_mg]; exact hb
 | _, x :: a, [], _, ha, _ => by rw [O.mg_nil]; exact ha
 | 0, x :: a, y :: b, h, _, _ => by simp at h
 | n + 1, x :: a, y :: b, h, ha, hb => by
  simp only [List.length_cons] at h;obtain ⟨ha1, ha2⟩ := List.pairwise_cons.1 ha;obtain ⟨hb1, hb2⟩ := List.pairwise_cons.1 hb;rw [mg];by_cases h1 : O.lt x y = true
  ·rw [if_pos h1]
   refine List.pairwise_cons.2 ⟨fun z hz => ?_, rises_mg n a (y :: b) (by simp only [List.length_cons]; omega) ha2 hb⟩;rcases (O.mem_mg z _ a (y :: b) (Nat.le_refl _)).1 hz with e | e
   ·exact ha1 z e
   ·rcases List.mem_cons.1 e with e | e
    ·rw [e]; exact h1
    ·exact O.trans h1 (hb1 z e)
  ·rw [if_neg h1]
   by_cases h2 : O.lt y x = true
   ·rw [if_pos h2]
    refine List.pairwise_cons.2 ⟨fun z hz => ?_, rises_mg n (x :: a) b (by simp only [List.length_cons]; omega) ha hb2⟩;rcases (O.mem_mg z _ (x :: a) b (Nat.le_refl _)).1 hz with e | e
    ·rcases List.mem_cons.1 e with e | e
     ·rw [e]; exact h2
     ·exact O.trans h2 (ha1 z e)
    ·exact hb1 z e
   ·rw [if_neg h2]
    exact rises_mg n a (y :: b) (by simp only [List.length_cons]; omega) ha2 hb
theorem mg_ofL (a b : List α) : O.mg (O.ofL a) (O.ofL b) = O.ofL (a ++ b) := O.ext (O.rises_mg _ _ _ (Nat.le_refl _) (O.rises_ofL a) (O.rises_ofL b)) (O.rises_ofL _) fun z => by
 rw [O.mem_mg z _ _ _ (Nat.le_refl _), O.mem_ofL, O.mem_ofL, O.mem_ofL, List.mem_append]
theorem step_left {a b : List α} {i k : Nat} {x : α} (hi : a[i]? = some x) (h : b.length ≤ k ∨ ∃ y, b[k]? = some y ∧ O.lt x y = true) : O.mg (a.drop i) (b.drop k) = x :: O.mg (a.drop (i + 1)) (b.drop k) := by
 obtain ⟨hl, hx⟩ := List.getElem?_eq_some_iff.1 hi;rw [List.drop_eq_getElem_cons hl, hx];rcases h with h | ⟨y, hy, hlt⟩
 ·rw [List.drop_of_length_le h, O.mg_nil, O.mg_nil]
 ·obtain ⟨hl2, hy2⟩ := List.getElem?_eq_some_iff.1 hy
  rw [List.drop_eq_getElem_cons hl2, hy2, mg, if_pos hlt]
theorem step_right {a b : List α} {i k : Nat} {y : α} (hk : b[k]? = some y) (h : a.length ≤ i ∨ ∃ x, a[i]? = some x ∧ O.lt x y = false ∧ O.lt y x = true) : O.mg (a.drop i) (b.drop k) = y :: O.mg (a.drop i) (b.drop (k + 1)) := by
 obtain ⟨hl, hy⟩ := List.getElem?_eq_some_iff.1 hk;rw [List.drop_eq_getElem_cons hl, hy];rcases h with h | ⟨x, hx, h1, h2⟩
 ·rw [List.drop_of_length_le h, O.nil_mg, O.nil_mg]
 ·obtain ⟨hl2, hx2⟩ := List.getElem?_eq_some_iff.1 hx
  rw [List.drop_eq_getElem_cons hl2, hx2, mg, if_neg (by rw [h1]; simp), if_pos h2]
theorem step_both {a b : List α} {i k : Nat} {x y : α} (hi : a[i]? = some x) (hk : b[k]? = some y) (h1 : O.lt x y = false) (h2 : O.lt y x = false) : O.mg (a.drop i) (b.drop k) = O.mg (a.drop (i + 1)) (b.drop k) := by
 obtain ⟨hl, hx⟩ := List.getElem?_eq_some_iff.1 hi;obtain ⟨hl2, hy⟩ := List.getElem?_eq_some_iff.1 hk;rw [List.drop_eq_getElem_cons hl, hx, List.drop_eq_getElem_cons hl2, hy, mg, if_neg (by rw [h1]; simp), if_neg (by rw [h2]; simp)]
end Lin
end Go.Proofs.YtkkhgdmmbhpckaaGreat
namespace Go.Proofs.YtkkhgdmmbhpckaaGreat
open Go.RowKit
namespace Lin
variable {α : Type} (O : Lin α)
theorem wJ_ [Inhabited α] [DecidableEq α] (d : Array α) (x : α) : ∀ m, x ∈ Lib.compactUpTo d m ↔ ∃ j, j < m ∧ d[j]! = x
 | 0 => by simp [Lib.compactUpTo]
 | m + 1 => by
  have ih := wJ_ d x m;rw [Lib.compactUpTo_succ, List.mem_append, ih];by_cases hk : Lib.keeps d m = true
  ·rw [if_pos hk, List.mem_singleton]
   constructor
   ·rintro (⟨j, h1, h2⟩ | h)
    ·exact ⟨j, by omega, h2⟩
    ·exact ⟨m, by omega, h.symm⟩
   ·rintro ⟨j, h1, h2⟩
    rcases Nat.lt_or_ge j m with h | h
    ·exact .inl ⟨j, h, h2⟩
    ·have : j = m := by omega
     subst this;exact .inr h2.symm
  ·rw [if_neg hk]
   simp only [List.not_mem_nil, or_false];have h0 : m ≠ 0 := by
    rintro rfl;exact hk (by simp [Lib.keeps])
   have he : d[m]! = d[m - 1]! := by
    by_cases e : d[m]! = d[m - 1]!
    ·exact e
    ·exact absurd (Lib.keeps_pos e) hk
   constructor
   ·rintro ⟨j, h1, h2⟩
    exact ⟨j, by omega, h2⟩
   ·rintro ⟨j, h1, h2⟩
    rcases Nat.lt_or_ge j m with h | h
    ·exact ⟨j, h, h2⟩
    ·have : j = m := by omega
     subst this;exact ⟨j - 1, by omega, by rw [← he, h2]⟩
theorem compact_rises [Inhabited α] [DecidableEq α] (d : Array α) (hs : ∀ i j, i < j → j < d.size → O.lt d[j]! d[i]! = false) : ∀ m, m ≤ d.size → O.Rises (Lib.compactUpTo d m)
 | 0, _ => by simp [Lib.compactUpTo, Rises]
 | m + 1, hm => by
  have ih := compact_rises d hs m (by omega);rw [Lib.compactUpTo_succ];by_cases hk : Lib.keeps d m = true
  ·rw [if_pos hk]
   refine List.pairwise_append.2 ⟨ih, List.pairwise_singleton .., fun x hx y hy => ?_⟩;rw [List.mem_singleton.1 hy];obtain ⟨j, hj, rfl⟩ := (wJ_ d x m).1 hx;cases h1 : O.lt d[j]! d[m]! with
   | true => rfl
   | false =>
    exfalso;have e := O.total h1 (hs j m hj (by omega));have hne : d[m]! ≠ d[m - 1]! := fun e2 => by rw [Lib.keeps_neg (by omega) e2] at hk; cases hk
    rcases Nat.lt_or_ge j (m - 1) with h | h
    ·have k1 := hs j (m - 1) h (by omega)
     have k2 := hs (m - 1) m (by omega) (by omega);rw [e] at k1;exact hne (O.total k2 k1)
    ·have : j = m - 1 := by omega
     subst this;exact hne e.symm
  ·rw [if_neg hk, List.append_nil]
   exact ih
theorem compact_sorted [Inhabited α] [DecidableEq α] {l s : List α} (hm : ∀ x, x ∈ s ↔ x ∈ l) (hs : s.Pairwise fun a b => O.lt b a = false) : Lib.compact s = O.ofL l := by
 have hs' : ∀ i j, i < j → j < s.toArray.size → O.lt s.toArray[j]! s.toArray[i]! = false := fun i j h1 h2 => by
  have h3 : j < s.length := by simpa using h2
  have := List.pairwise_iff_getElem.1 hs i j (by omega) h3 h1;simpa [h3, show i < s.length by omega] using this
 refine O.ext (O.compact_rises _ hs' _ (by simp)) (O.rises_ofL l) fun x => ?_;rw [O.mem_ofL, ← hm];refine (wJ_ _ x _).trans ⟨?_, fun hx => ?_⟩
 ·rintro ⟨j, hj, rfl⟩
  have : s.toArray[j]! = s[j] := by simp [hj]
  rw [this];exact List.getElem_mem hj
 ·obtain ⟨j, hj, rfl⟩ := List.getElem_of_mem hx
  exact ⟨j, hj, by simp [hj]⟩
end Lin
theorem uk_ {a b : ByteArray} (h : a.data.toList = b.data.toList) : a = b := by
 cases a; cases b;congr
 exact Array.toList_inj.1 h
theorem beqS (a b : ByteArray) : (a.toList == b.toList) = decide (a = b) := by
 rw [Lib.toList_data, Lib.toList_data, Bool.eq_iff_iff];simp only [beq_iff_eq, decide_eq_true_eq];exact ⟨uk_, fun h => by rw [h]⟩
theorem bl_lt : ∀ (x y : List UInt8), Op.bytesLess x y = decide (x < y)
 | [], [] => by simp [Op.bytesLess]
 | _ :: _, [] => by simp [Op.bytesLess]
 | [], _ :: _ => by simp [Op.bytesLess]
 | a :: x, b :: y => by
  rw [Op.bytesLess, bl_lt x y];simp only [List.cons_lt_cons_iff];by_cases h1 : a < b <;> by_cases h2 : a = b <;> by_cases h3 : x < y <;> simp [h1, h2, h3]
theorem nh_ (a : UInt8) : ¬ a < a := by rw [UInt8.lt_iff_toNat_lt]; omega
theorem b1_ : ∀ a : List UInt8, Op.bytesLess a a = false
 | [] => rfl
 | a :: x => by simp [Op.bytesLess, nh_, b1_ x]
theorem fP_ : ∀ {a b c : List UInt8}, Op.bytesLess a b = true → Op.bytesLess b c = true → Op.bytesLess a c = true
 | _, [], [], _, h => by simp [Op.bytesLess] at h
 | [], [], _ :: _, h, _ => by simp [Op.bytesLess] at h
 | _ :: _, [], _ :: _, h, _ => by simp [Op.bytesLess] at h
 | _, _ :: _, [], _, h => by simp [Op.bytesLess] at h
 | [], _ :: _, _ :: _, _, _ => by simp [Op.bytesLess]
 | a :: x, b :: y, c :: z, h1, h2 => by
  have ih := fP_ (a := x) (b := y) (c := z);simp only [Op.bytesLess, Bool.or_eq_true, Bool.and_eq_true, decide_eq_true_eq, beq_iff_eq] at *;rcases h1 with h1 | ⟨h1, h3⟩ <;> rcases h2 with h2 | ⟨h2, h4⟩
  ·left; rw [UInt8.lt_iff_toNat_lt] at *; omega
  ·subst h2; exact .inl h1
  ·subst h1; exact .inl h2
  ·subst h1; subst h2; exact .inr ⟨rfl, ih h3 h4⟩
theorem fQ_ : ∀ {a b : List UInt8}, Op.bytesLess a b = false → Op.bytesLess b a = false → a = b
 | [], [], _, _ => rfl
 | [], _ :: _, h, _ => by simp [Op.bytesLess] at h
 | _ :: _, [], _, h => by simp [Op.bytesLess] at h
 | a :: x, b :: y, h1, h2 => by
  have ih := fQ_ (a := x) (b := y);simp only [Op.bytesLess, Bool.or_eq_false_iff, Bool.and_eq_false_imp, decide_eq_false_iff_not, beq_iff_eq] at *;have e : a = b := by
   have k1 := h1.1; have k2 := h2.1;rw [UInt8.lt_iff_toNat_lt] at k1 k2;exact UInt8.toNat_inj.1 (by omega)
  subst e;rw [ih (h1.2 rfl) (h2.2 rfl)]
def tx : Lin ByteArray where
 lt a b := Op.bytesLess a.toList b.toList
 irrefl _ := b1_ _
 trans := fP_
 total h1 h2 := by
  have := fQ_ h1 h2;rw [Lib.toList_data, Lib.toList_data] at this;exact uk_ this
namespace Ab
open Go.Sort
theorem u6_ (s : ByteArray) : toT s = s.toList := (Lib.toList_data s).symm
theorem lt_toT (x y : List UInt8) : tx.lt (ofT x) (ofT y) = decide (x < y) := by
 show Op.bytesLess _ _ = _;rw [← u6_, ← u6_, gG_, gG_, bl_lt]
theorem u7_ (xs : List ByteArray) : (srtT xs).Pairwise fun a b => tx.lt b a = false := by
 unfold srtT;refine List.pairwise_map.2 ?_;have h := List.pairwise_mergeSort (le := fun x y : List UInt8 => decide (x ≤ y)) (fun a b c h1 h2 => by
   simp only [decide_eq_true_eq] at *;exact List.le_trans h1 h2) (fun a b => by
   simp only [Bool.or_eq_true, decide_eq_true_eq];exact List.le_total a b) (xs.map toT)
 refine h.imp fun {a b} h => ?_;rw [lt_toT];simpa using h
theorem ni_ (xs : List ByteArray) (x : ByteArray) : x ∈ srtT xs ↔ x ∈ xs := by
 have hp := (List.mergeSort_perm (xs.map toT) fun x y => decide (x ≤ y)).map ofT;rw [uf_] at hp;exact hp.mem_iff
theorem dN_ (zs : List (List UInt8)) : (Lib.compact zs).map ofT = Lib.compact (zs.map ofT) := by
 have hg : ∀ j, ofT (zs.toArray[j]!) = (zs.map ofT).toArray[j]! ∨ zs.length ≤ j := fun j => by
  rcases Nat.lt_or_ge j zs.length with h | h
  ·exact .inl (by simp [h])
  ·exact .inr h
 have hinj : ∀ a b : List UInt8, ofT a = ofT b ↔ a = b := fun a b => ⟨fun h => by rw [← gG_ a, ← gG_ b, h], fun h => by rw [h]⟩;unfold Lib.compact Lib.compactUpTo;rw [List.map_map, List.length_map];have e1 : (List.range zs.length).filter (Lib.keeps zs.toArray) = (List.range zs.length).filter (Lib.keeps (zs.map ofT).toArray) := by
  refine List.filter_congr fun j hj => ?_;have hj := List.mem_range.1 hj;unfold Lib.keeps;rw [decide_eq_decide];have a1 := (hg j).resolve_right (by omega);have a2 := (hg (j - 1)).resolve_right (by omega);rw [← a1, ← a2, ne_eq, ne_eq, hinj]
 rw [e1];refine List.map_congr_left fun j hj => ?_;have hj := List.mem_range.1 (List.mem_filter.1 hj).1;exact (hg j).resolve_right (by omega)
theorem p2_ (xs : List ByteArray) : cmpT (srtT xs) = tx.ofL xs := by
 unfold cmpT;rw [dN_, uf_];exact tx.compact_sorted (ni_ xs) (u7_ xs)
end Ab
end Go.Proofs.YtkkhgdmmbhpckaaGreat
