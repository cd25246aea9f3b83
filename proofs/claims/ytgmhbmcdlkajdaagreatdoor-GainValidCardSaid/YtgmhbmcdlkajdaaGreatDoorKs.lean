/-
 strings.Compare, cmp of texts: the library's own contract of CompareString, in the words of the functions that are read off the code.
-/
import Derived.Shelf.Small.Strs
import Derived.Test.YtgmhbmcdlkajdaaGreatDoorTab
import Derived.Test.YtgmhbmcdlkajdaaGreatDoorPk
namespace Go.Proofs.YtgmhbmcdlkajdaaGreatDoor.Ab
open Go.Shelf Go.RowKit
def csRen : Go.Shelf.Ren := ⟨fun | 213 => 113 | 265 => 131 | n => n, fun | 9 => 9 | 3 => 3 | n => n, fun | n => n⟩
theorem csLaid : Lays.n213 Tryz.prog csRen := {
 mixed := by kernel_rfl
 f213 := Tryz.func113.trans (congrArg some (by kernel_rfl))
 f265 := Tryz.func131.trans (congrArg some (by kernel_rfl))
 t3 := Tryz.underlying3
 a3 := Tryz.isAgg3
 z3 := Tryz.sizeOf3
 v3 := Tryz.zeroValue3
 t9 := Tryz.underlying9
 a9 := Tryz.isAgg9
 z9 := Tryz.sizeOf9
 v9 := Tryz.zeroValue9 }
theorem csOk : Pr1OK Tryz.prog (prS 113) :=
 prS_ok ⟨_, Tryz.func113, by kernel_rfl, by kernel_rfl⟩ fun a b w => Any.bytealg_CompareString csLaid a b w
def cmS (a b : ByteArray) : Int := Lib.compareBytes a.data.toList b.data.toList
def bytealg_CompareString (_n : Nat) (a b : ByteArray) : Option Int := some (cmS a b)
theorem str_two {w : World} {I : Nat → Prop} {args : Array Value} {a b : ByteArray} (hs : args.size = 2) (h : ∀ (j : Nat) (x : D), [D.v (.string a), D.v (.string b)][j]? = some x → ∃ u, args[j]? = some u ∧ RV1 w I x u) : args = #[.string a, .string b] := by
 obtain ⟨u0, e0, r0⟩ := h 0 _ rfl
 obtain ⟨u1, e1, r1⟩ := h 1 _ rfl
 cases (show RC w I (.v (.string a)) u0 from r0)
 cases (show RC w I (.v (.string b)) u1 from r1)
 apply Array.ext
 ·simpa using hs
 ·intro j h1 h2
  have : j = 0 ∨ j = 1 := by
   have : j < 2 := by simpa using h2
   omega
  rcases this with rfl | rfl
  ·simpa [h1] using e0
  ·simpa [h1] using e1
theorem bytealg_CompareString_ok {n : Nat} {a b : ByteArray} {r : Int} (h : bytealg_CompareString n a b = some r) : PureOK Tryz.prog 113 [D.v (.string a), D.v (.string b)] (D.v (.int .i64 r)) true := by
 obtain rfl := Option.some.inj h
 refine ⟨⟨_, Tryz.func113, by kernel_rfl, by kernel_rfl⟩, fun w M0 args _ hs h => ?_⟩
 obtain rfl := str_two hs h
 refine (Any.bytealg_CompareString csLaid a b w).mono ?_
 rintro e w' ⟨rfl, rfl⟩
 exact ⟨_, rfl, ⟨Below.refl _ _, Nat.le_refl _⟩, (.v _ rfl : RC w' _ _ _)⟩
theorem cm_lt (a b : ByteArray) : decide (cmS a b < 0) = tx.lt a b := by
 have bl_cb : ∀ a b : List UInt8, Op.bytesLess a b = decide (Lib.compareBytes a b < 0) := by
  intro a
  induction a with
  | nil => intro b; cases b <;> simp [Op.bytesLess, Lib.compareBytes]
  | cons a la ih =>
   intro b
   cases b with
   | nil => simp [Op.bytesLess, Lib.compareBytes]
   | cons b lb =>
    have ih := ih lb
    simp only [Op.bytesLess, Lib.compareBytes]
    by_cases h1 : a < b
    ·simp [h1]
    ·by_cases h2 : b < a
     ·have h3 : a ≠ b := by intro e; subst e; exact h1 h2
      simp [h1, h2, h3]
     ·have h3 : a = b := by
       rw [UInt8.lt_iff_toNat_lt] at *
       exact UInt8.toNat_inj.1 (by omega)
      subst h3
      simp [ih]
 show _ = Op.bytesLess a.toList b.toList
 rw [Lib.toList_data, Lib.toList_data, bl_cb]
 rfl
theorem cb_neg : ∀ a b : List UInt8, Lib.compareBytes a b = - Lib.compareBytes b a
 | [], [] => rfl
 | [], _ :: _ => rfl
 | _ :: _, [] => rfl
 | a :: la, b :: lb => by
  have ih := cb_neg la lb
  simp only [Lib.compareBytes]
  by_cases h1 : a < b
  ·have h2 : ¬ b < a := by rw [UInt8.lt_iff_toNat_lt] at *; omega
   simp [h1, h2]
  ·by_cases h2 : b < a
   ·simp [h1, h2]
   ·simp [h1, h2, ih]
theorem cm_neg (a b : ByteArray) : cmS a b = - cmS b a := cb_neg _ _
theorem cm_zero (a b : ByteArray) : cmS a b = 0 ↔ a = b := by
 constructor
 ·intro h
  have h1 := cm_lt a b
  have h2 := cm_lt b a
  have h3 := cm_neg a b
  exact tx.total (h1.symm.trans (decide_eq_false (by omega))) (h2.symm.trans (decide_eq_false (by omega)))
 ·rintro rfl
  have h1 := cm_lt a a
  rw [tx.irrefl] at h1
  have h2 := cm_neg a a
  have h3 := of_decide_eq_false h1
  omega
theorem cm_trans {a b c : ByteArray} (h1 : cmS a b < 0) (h2 : cmS b c < 0) : cmS a c < 0 := by
 have k1 := cm_lt a b
 have k2 := cm_lt b c
 have k3 := cm_lt a c
 rw [decide_eq_true h1] at k1
 rw [decide_eq_true h2] at k2
 rw [tx.trans k1.symm k2.symm] at k3
 exact of_decide_eq_true k3
end Go.Proofs.YtgmhbmcdlkajdaaGreatDoor.Ab
