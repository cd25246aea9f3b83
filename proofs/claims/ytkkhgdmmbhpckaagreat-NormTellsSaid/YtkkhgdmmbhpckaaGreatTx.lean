/-
 The document's Texts and SameTexts, told plainly. No program in sight.
-/
import Derived.Test.YtkkhgdmmbhpckaaGreatNxf
namespace Go.Proofs.YtkkhgdmmbhpckaaGreat.Ab
open Go.RowKit
theorem dX_ (n : Nat) (a b : List ByteArray) (c : Nat) (t : List ByteArray) (i k : Int) : qG_ n a b (c + 1) (t, i, k) =
   (((if decide (i < (a.length : Int)) then some (t, true) else some (t, decide (k < (b.length : Int)))) : Option (List ByteArray × Bool)).bind fun q =>
   (if q.2 then
    (((if k == (b.length : Int) then some (q.1, true) else (if decide (i < (a.length : Int)) then (idx a i).bind fun x => (idx b k).bind fun y => some (q.1, tx.lt x y) else some (q.1, false))) : Option (List ByteArray × Bool)).bind fun w =>
    (if w.2 then (idx a i).bind fun x => (app w.1 [x]).bind fun l => qG_ n a b c (l, IntKind.i64.wrap (i + 1), k)
    else (if i == (a.length : Int) then (idx b k).bind fun y => (app w.1 [y]).bind fun l => qG_ n a b c (l, i, IntKind.i64.wrap (k + 1))
     else (idx b k).bind fun y => (idx a i).bind fun x => (if tx.lt y x then (app w.1 [y]).bind fun l => qG_ n a b c (l, i, IntKind.i64.wrap (k + 1)) else qG_ n a b c (w.1, IntKind.i64.wrap (i + 1), k)))))
   else some q.1)) := by
 rw [qG_];cases decide (i < (a.length : Int)) <;> cases decide (k < (b.length : Int)) <;> cases (k == (b.length : Int)) <;> cases idx a i <;> cases idx b k <;> rfl
theorem kT_ : ∀ (n : Nat) (l : List ByteArray), l.length + 2 ≤ n → l.length ≤ 4294967296 → xQ_ n l = some (tx.ofL l)
 | 0, _, h, _ => by omega
 | n + 1, l, h, hl => by
  have ih := kT_ n;unfold xQ_;by_cases h2 : l.length < 2
  ·rw [decide_eq_true (by omega), if_pos rfl, appS (by simp; omega), Zo, nr_ tx h2]
  ·rw [decide_eq_false (by omega), if_neg (by decide), show Int.tdiv (l.length : Int) 2 = ((l.length / 2 : Nat) : Int) from rfl, wr (by omega) (by omega)]
   have e1 : slc l 0 ((l.length / 2 : Nat) : Int) = some (l.take (l.length / 2)) := slcS (xs := l) (a := 0) (by omega) (by omega);have e2 : slc l ((l.length / 2 : Nat) : Int) (l.length : Int) = some (l.drop (l.length / 2)) := by
    have := slcS (xs := l) (a := l.length / 2) (b := l.length) (by omega) (Nat.le_refl _);rwa [List.take_length] at this
   have l1 : (l.take (l.length / 2)).length = l.length / 2 := by rw [List.length_take]; omega
   have l2 : (l.drop (l.length / 2)).length = l.length - l.length / 2 := List.length_drop ..;have k1 := xz_ tx (l.take (l.length / 2));have k2 := xz_ tx (l.drop (l.length / 2));rw [e1, Zo, ih _ (by omega) (by omega), Zo, e2, Zo, ih _ (by omega) (by omega), Zo]
   have m : qG_ n (tx.ofL (l.take (l.length / 2))) (tx.ofL (l.drop (l.length / 2))) n ([], 0, 0) = _ := gd_ tx (L := qG_ n (tx.ofL (l.take (l.length / 2))) (tx.ofL (l.drop (l.length / 2)))) (dX_ n _ _) n [] 0 0 (by omega) (by omega) (by omega) (by simp; omega) (by omega) (by omega);rw [m, Zo, List.nil_append, List.drop_zero, List.drop_zero, tx.mg_ofL, List.take_append_drop]
theorem xH_ {n : Nat} {a b : List ByteArray} (hn : a.length < n) (hx : a.length < 4611686018427387904) : qJ_ n a b = some (decide (a = b)) := by
 unfold qJ_;by_cases hl : a.length = b.length
 ·have e : ((a.length : Int) != (b.length : Int)) = false := by simp [hl]
  have h : jv_ n a b n 0 = _ := ku_ (L := jv_ n a b) (E := fun x y => x.toList == y.toList) beqS (fun _ _ => rfl) hl hx n 0 (by omega) (by omega);rw [e, if_neg (by decide), h, List.drop_zero, List.drop_zero, Zo];by_cases e : a = b <;> simp [e]
 ·have e : ((a.length : Int) != (b.length : Int)) = true := by simp; omega
  rw [e, if_pos rfl, decide_eq_false fun h => hl (by rw [h])]
end Go.Proofs.YtkkhgdmmbhpckaaGreat.Ab
