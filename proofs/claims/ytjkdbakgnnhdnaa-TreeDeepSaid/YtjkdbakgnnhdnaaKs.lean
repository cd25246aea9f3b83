/-
 strings.Compare, cmp of texts: the library's own contract of CompareString, in the words of the functions that are read off the code.
-/
import Derived.Test.YtjkdbakgnnhdnaaZpt
import Derived.Test.YtjkdbakgnnhdnaaPk
namespace Go.Proofs.Ytjkdbakgnnhdnaa.Ab
open Go.Shelf Go.RowKit
def cmS (a b : ByteArray) : Int := Lib.compareBytes a.data.toList b.data.toList
def bytealg_CompareString (_n : Nat) (a b : ByteArray) : Option Int := some (cmS a b)
theorem str_two {w : World} {I : Nat → Prop} {args : Array Value} {a b : ByteArray} (hs : args.size = 2) (h : ∀ (j : Nat) (x : D), [D.v (.string a), D.v (.string b)][j]? = some x → ∃ u, args[j]? = some u ∧ RV1 w I x u) : args = #[.string a, .string b] := by
 obtain ⟨u0, e0, r0⟩ := h 0 _ rfl
 obtain ⟨u1, e1, r1⟩ := h 1 _ rfl
 cases (show RC w I (.v (.string a)) u0 from r0)
 cases (show RC w I (.v (.string b)) u1 from r1)
 apply Array.ext
 ·simpa using hs
 ·intro j h1 h2
  have : j = 0 ∨ j = 1 := by
   have : j < 2 := by simpa using h2
   omega
  rcases this with rfl | rfl
  ·simpa [h1] using e0
  ·simpa [h1] using e1
theorem bytealg_CompareString_ok {n : Nat} {a b : ByteArray} {r : Int} (h : bytealg_CompareString n a b = some r) : PureOK Try.prog 81 [D.v (.string a), D.v (.string b)] (D.v (.int .i64 r)) true := by
 obtain rfl := Option.some.inj h
 refine ⟨⟨_, Try.func81, by kernel_rfl, by kernel_rfl⟩, fun w M0 args _ hs h => ?_⟩
 obtain rfl := str_two hs h
 refine (Any.bytealg_CompareString csLaid a b w).mono ?_
 rintro e w' ⟨rfl, rfl⟩
 exact ⟨_, rfl, ⟨Below.refl _ _, Nat.le_refl _⟩, (.v _ rfl : RC w' _ _ _)⟩
theorem cm_lt (a b : ByteArray) : decide (cmS a b < 0) = tx.lt a b := by
 have bl_cb : ∀ a b : List UInt8, Op.bytesLess a b = decide (Lib.compareBytes a b < 0) := by
  intro a
  induction a with
  | nil => intro b; cases b <;> simp [Op.bytesLess, Lib.compareBytes]
  | cons a la ih =>
   intro b
   cases b with
   | nil => simp [Op.bytesLess, Lib.compareBytes]
   | cons b lb =>
    have ih := ih lb
    simp only [Op.bytesLess, Lib.compareBytes]
    by_cases h1 : a < b
    ·simp [h1]
    ·by_cases h2 : b < a
     ·have h3 : a ≠ b := by intro e; subst e; exact h1 h2
      simp [h1, h2, h3]
     ·have h3 : a = b := by
       rw [UInt8.lt_iff_toNat_lt] at *
       exact UInt8.toNat_inj.1 (by omega)
      subst h3
      simp [ih]
 show _ = Op.bytesLess a.toList b.toList
 rw [Lib.toList_data, Lib.toList_data, bl_cb]
 rfl
theorem cb_neg : ∀ a b : List UInt8, Lib.compareBytes a b = - Lib.compareBytes b a
 | [], [] => rfl
 | [], _ :: _ => rfl
 | _ :: _, [] => rfl
 | a :: la, b :: lb => by
  have ih := cb_neg la lb
  simp only [Lib.compareBytes]
  by_cases h1 : a < b
  ·have h2 : ¬ b < a := by rw [UInt8.lt_iff_toNat_lt] at *; omega
   simp [h1, h2]
  ·by_cases h2 : b < a
   ·simp [h1, h2]
   ·simp [h1, h2, ih]
theorem cm_neg (a b : ByteArray) : cmS a b = - cmS b a := cb_neg _ _
theorem cm_zero (a b : ByteArray) : cmS a b = 0 ↔ a = b := by
 constructor
 ·intro h
  have h1 := cm_lt a b
  have h2 := cm_lt b a
  have h3 := cm_neg a b
  exact tx.total (h1.symm.trans (decide_eq_false (by omega))) (h2.symm.trans (decide_eq_false (by omega)))
 ·rintro rfl
  have h1 := cm_lt a a
  rw [tx.irrefl] at h1
  have h2 := cm_neg a a
  have h3 := of_decide_eq_false h1
  omega
theorem cm_trans {a b c : ByteArray} (h1 : cmS a b < 0) (h2 : cmS b c < 0) : cmS a c < 0 := by
 have k1 := cm_lt a b
 have k2 := cm_lt b c
 have k3 := cm_lt a c
 rw [decide_eq_true h1] at k1
 rw [decide_eq_true h2] at k2
 rw [tx.trans k1.symm k2.symm] at k3
 exact of_decide_eq_true k3
def orI : List Int → Int
 | [] => 0
 | x :: r => if x = 0 then orI r else x
def cfL (x y : List ByteArray) : Int := orI (List.zipWith cmS x y)
theorem cfL_neg : ∀ x y, cfL x y = - cfL y x
 | [], [] => rfl
 | [], _ :: _ => rfl
 | _ :: _, [] => rfl
 | a :: x, b :: y => by
  have ih := cfL_neg x y
  have h := cm_neg a b
  unfold cfL at *
  simp only [List.zipWith_cons_cons, orI]
  by_cases h1 : cmS b a = 0
  ·simp [h, h1, ih]
  ·simp [h, h1]
theorem cfL_zero : ∀ x y : List ByteArray, x.length = y.length → (cfL x y = 0 ↔ x = y)
 | [], [], _ => by simp [cfL, orI]
 | [], _ :: _, h => by simp at h
 | _ :: _, [], h => by simp at h
 | a :: x, b :: y, h => by
  have ih := cfL_zero x y (by simpa using h)
  unfold cfL at *
  simp only [List.zipWith_cons_cons, orI, List.cons.injEq]
  by_cases h1 : cmS a b = 0
  ·rw [if_pos h1, ih]
   have := (cm_zero a b).1 h1
   simp [this]
  ·have : a ≠ b := fun e => h1 ((cm_zero a b).2 e)
   simp [h1, this]
theorem cfL_trans : ∀ x y z : List ByteArray, x.length = y.length → y.length = z.length → cfL x y < 0 → cfL y z < 0 → cfL x z < 0
 | [], [], [], _, _, h, _ => by simp [cfL, orI] at h
 | [], _ :: _, _, h, _, _, _ => by simp at h
 | _ :: _, [], _, h, _, _, _ => by simp at h
 | _, [], _ :: _, _, h, _, _ => by simp at h
 | _, _ :: _, [], _, h, _, _ => by simp at h
 | a :: x, b :: y, c :: z, h1, h2, h3, h4 => by
  have ih := cfL_trans x y z (by simpa using h1) (by simpa using h2)
  unfold cfL at *
  simp only [List.zipWith_cons_cons, orI] at *
  by_cases e1 : cmS a b = 0
  ·have e := (cm_zero a b).1 e1
   subst e
   rw [if_pos e1] at h3
   by_cases e2 : cmS a c = 0
   ·rw [if_pos e2] at h4 ⊢
    exact ih h3 h4
   ·rw [if_neg e2] at h4 ⊢
    exact h4
  ·rw [if_neg e1] at h3
   by_cases e2 : cmS b c = 0
   ·have e := (cm_zero b c).1 e2
    subst e
    rw [if_neg e1]
    exact h3
   ·rw [if_neg e2] at h4
    have h5 := cm_trans h3 h4
    rw [if_neg (by omega)]
    exact h5
def linL {α : Type} (f : α → List ByteArray) (hl : ∀ x y, (f x).length = (f y).length) (hi : ∀ x y, f x = f y → x = y) : Lin α where
 lt x y := decide (cfL (f x) (f y) < 0)
 irrefl x := decide_eq_false (by have := (cfL_zero (f x) (f x) rfl).2 rfl; omega)
 trans h1 h2 := decide_eq_true (cfL_trans _ _ _ (hl _ _) (hl _ _) (of_decide_eq_true h1) (of_decide_eq_true h2))
 total {x y} h1 h2 := hi _ _ ((cfL_zero _ _ (hl _ _)).1 (by
  have k1 := of_decide_eq_false h1
  have k2 := of_decide_eq_false h2
  have k3 := cfL_neg (f x) (f y)
  omega))
end Go.Proofs.Ytjkdbakgnnhdnaa.Ab
