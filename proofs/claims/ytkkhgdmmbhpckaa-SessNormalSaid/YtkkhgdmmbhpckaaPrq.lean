/-
 Comparisons, one behind the other (the plain part of Pre). No program in sight.
-/
import Derived.Test.YtkkhgdmmbhpckaaPk
namespace Go.Proofs.Ytkkhgdmmbhpckaa.Ab
open Go.RowKit
def cmS (a b : ByteArray) : Int := Lib.compareBytes a.data.toList b.data.toList
theorem cm_lt (a b : ByteArray) : decide (cmS a b < 0) = tx.lt a b := by
 have bl_cb : ∀ a b : List UInt8, Op.bytesLess a b = decide (Lib.compareBytes a b < 0) := by
  intro a
  induction a with
  | nil => intro b; cases b <;> simp [Op.bytesLess, Lib.compareBytes]
  | cons a la ih =>
   intro b
   cases b with
   | nil => simp [Op.bytesLess, Lib.compareBytes]
   | cons b lb =>
    have ih := ih lb
    simp only [Op.bytesLess, Lib.compareBytes]
    by_cases h1 : a < b
    ·simp [h1]
    ·by_cases h2 : b < a
     ·have h3 : a ≠ b := by intro e; subst e; exact h1 h2
      simp [h1, h2, h3]
     ·have h3 : a = b := by
       rw [UInt8.lt_iff_toNat_lt] at *
       exact UInt8.toNat_inj.1 (by omega)
      subst h3
      simp [ih]
 show _ = Op.bytesLess a.toList b.toList
 rw [Lib.toList_data, Lib.toList_data, bl_cb]
 rfl
theorem cb_neg : ∀ a b : List UInt8, Lib.compareBytes a b = - Lib.compareBytes b a
 | [], [] => rfl
 | [], _ :: _ => rfl
 | _ :: _, [] => rfl
 | a :: la, b :: lb => by
  have ih := cb_neg la lb
  simp only [Lib.compareBytes]
  by_cases h1 : a < b
  ·have h2 : ¬ b < a := by rw [UInt8.lt_iff_toNat_lt] at *; omega
   simp [h1, h2]
  ·by_cases h2 : b < a
   ·simp [h1, h2]
   ·simp [h1, h2, ih]
theorem cm_neg (a b : ByteArray) : cmS a b = - cmS b a := cb_neg _ _
theorem cm_zero (a b : ByteArray) : cmS a b = 0 ↔ a = b := by
 constructor
 ·intro h
  have h1 := cm_lt a b
  have h2 := cm_lt b a
  have h3 := cm_neg a b
  exact tx.total (h1.symm.trans (decide_eq_false (by omega))) (h2.symm.trans (decide_eq_false (by omega)))
 ·rintro rfl
  have h1 := cm_lt a a
  rw [tx.irrefl] at h1
  have h2 := cm_neg a a
  have h3 := of_decide_eq_false h1
  omega
theorem cm_trans {a b c : ByteArray} (h1 : cmS a b < 0) (h2 : cmS b c < 0) : cmS a c < 0 := by
 have k1 := cm_lt a b
 have k2 := cm_lt b c
 have k3 := cm_lt a c
 rw [decide_eq_true h1] at k1
 rw [decide_eq_true h2] at k2
 rw [tx.trans k1.symm k2.symm] at k3
 exact of_decide_eq_true k3
structure Pre {α : Type} (c : α → α → Int) : Prop where
 neg : ∀ x y, c x y = - c y x
 trans : ∀ x y z, c x y ≤ 0 → c y z ≤ 0 → c x z ≤ 0
def lex {α : Type} (c d : α → α → Int) (x y : α) : Int := if c x y = 0 then d x y else c x y
theorem Pre.lex {α : Type} {c d : α → α → Int} (hc : Pre c) (hd : Pre d) : Pre (lex c d) where
 neg x y := by
  have h1 := hc.neg x y
  have h2 := hd.neg x y
  unfold Ab.lex
  by_cases h : c x y = 0
  ·rw [if_pos h, if_pos (by omega), h2]
  ·rw [if_neg h, if_neg (by omega), h1]
 trans x y z h1 h2 := by
  have n1 := hc.neg x y
  have n2 := hc.neg y z
  have n3 := hc.neg x z
  unfold Ab.lex at *
  have a1 : c x y ≤ 0 := by
   split at h1
   ·omega
   ·exact h1
  have a2 : c y z ≤ 0 := by
   split at h2
   ·omega
   ·exact h2
  have a3 := hc.trans x y z a1 a2
  by_cases h : c x z = 0
  ·have b1 := hc.trans z x y (by omega) a1
   have b2 := hc.trans y z x a2 (by omega)
   have e1 : c x y = 0 := by omega
   have e2 : c y z = 0 := by omega
   rw [if_pos h]
   rw [if_pos e1] at h1
   rw [if_pos e2] at h2
   exact hd.trans x y z h1 h2
  ·rw [if_neg h]
   exact a3
def cmI (a b : Int) : Int := if a < b then -1 else if b < a then 1 else 0
theorem pre_cmI {α : Type} (f : α → Int) : Pre (fun x y => cmI (f x) (f y)) where
 neg x y := by unfold cmI; split <;> split <;> (try split) <;> omega
 trans x y z := by unfold cmI; intro h1 h2; split at h1 <;> split at h2 <;> (try split at h1) <;> (try split at h2) <;> split <;> (try split) <;> omega
theorem pre_cmS {α : Type} (f : α → ByteArray) : Pre (fun x y => cmS (f x) (f y)) where
 neg x y := cm_neg _ _
 trans x y z h1 h2 := by
  by_cases e1 : cmS (f x) (f y) = 0
  ·rw [(cm_zero _ _).1 e1]
   exact h2
  ·by_cases e2 : cmS (f y) (f z) = 0
   ·rw [← (cm_zero _ _).1 e2]
    exact h1
   ·have := cm_trans (a := f x) (b := f y) (c := f z) (by omega) (by omega)
    omega
def cmL : List ByteArray → List ByteArray → Int
 | [], [] => 0
 | [], _ :: _ => -1
 | _ :: _, [] => 1
 | a :: x, b :: y => if cmS a b = 0 then cmL x y else cmS a b
theorem cmL_neg : ∀ x y : List ByteArray, cmL x y = - cmL y x
 | [], [] => rfl
 | [], _ :: _ => rfl
 | _ :: _, [] => rfl
 | a :: x, b :: y => by
  have h := cmL_neg x y
  have k := cm_neg a b
  unfold cmL
  by_cases e : cmS a b = 0
  ·rw [if_pos e, if_pos (by omega), h]
  ·rw [if_neg e, if_neg (by omega), k]
theorem cmL_zero : ∀ {x y : List ByteArray}, cmL x y = 0 → x = y
 | [], [], _ => rfl
 | [], _ :: _, h => by simp [cmL] at h
 | _ :: _, [], h => by simp [cmL] at h
 | a :: x, b :: y, h => by
  unfold cmL at h
  split at h
  ·rename_i e
   rw [(cm_zero a b).1 e, cmL_zero h]
  ·exact absurd h ‹_›
theorem cmL_trans : ∀ x y z : List ByteArray, cmL x y ≤ 0 → cmL y z ≤ 0 → cmL x z ≤ 0
 | [], _, [], _, _ => by simp [cmL]
 | [], _, _ :: _, _, _ => by simp [cmL]
 | _ :: _, [], _, h, _ => by simp [cmL] at h
 | _ :: _, _ :: _, [], _, h => by simp [cmL] at h
 | a :: x, b :: y, c :: z, h1, h2 => by
  have ih := cmL_trans x y z
  unfold cmL at h1 h2 ⊢
  have n1 := cm_neg a c
  by_cases e1 : cmS a b = 0
  ·have := (cm_zero a b).1 e1
   subst this
   rw [if_pos e1] at h1
   by_cases e2 : cmS a c = 0
   ·rw [if_pos e2] at h2 ⊢
    exact ih h1 h2
   ·rw [if_neg e2] at h2 ⊢
    exact h2
  ·rw [if_neg e1] at h1
   by_cases e2 : cmS b c = 0
   ·have := (cm_zero b c).1 e2
    subst this
    rw [if_neg e1]
    exact h1
   ·rw [if_neg e2] at h2
    have := cm_trans (a := a) (b := b) (c := c) (by omega) (by omega)
    rw [if_neg (by omega)]
    omega
theorem pre_cmL {α : Type} (f : α → List ByteArray) : Pre (fun x y => cmL (f x) (f y)) := ⟨fun _ _ => cmL_neg _ _, fun _ _ _ => cmL_trans _ _ _⟩
theorem cmI_zero {a b : Int} (h : cmI a b = 0) : a = b := by unfold cmI at h; split at h <;> (try split at h) <;> omega
theorem cmI_self (a : Int) : cmI a a = 0 := by unfold cmI; rw [if_neg (by omega), if_neg (by omega)]
theorem lex_zero {α : Type} {c d : α → α → Int} {x y : α} (h : lex c d x y = 0) : c x y = 0 ∧ d x y = 0 := by
 unfold lex at h
 split at h
 ·exact ⟨‹_›, h⟩
 ·exact absurd h ‹_›
theorem Pre.lt_trans {α : Type} {c : α → α → Int} (h : Pre c) {x y z : α} (h1 : c x y < 0) (h2 : c y z < 0) : c x z < 0 := by
 have a := h.trans x y z (by omega) (by omega)
 have b := h.neg x z
 have d := h.neg x y
 have e := h.neg y z
 by_cases h0 : c x z = 0
 ·have := h.trans z x y (by omega) (by omega)
  omega
 ·omega
end Go.Proofs.Ytkkhgdmmbhpckaa.Ab
