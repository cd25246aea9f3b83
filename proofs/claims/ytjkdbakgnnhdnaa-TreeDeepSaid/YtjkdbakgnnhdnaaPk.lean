/-
 Words of the functions that are read off the code, told plainly: lists, texts, loops over them. No program in sight.
-/
import Derived.Test.YtjkdbakgnnhdnaaLtx
namespace Go.Proofs.Ytjkdbakgnnhdnaa.Ab
open Go.RowKit
theorem wr {x : Int} (h1 : -9223372036854775808 ≤ x) (h2 : x < 9223372036854775808) : IntKind.i64.wrap x = x := IntWalk.i64_in _ (by omega)
theorem wr1 {k : Nat} (h : k < 9223372036854775807) : IntKind.i64.wrap ((k : Int) + 1) = ((k + 1 : Nat) : Int) := wrap_one (by omega)
theorem dlt {a b : Nat} (h : a < b) : decide ((a : Int) < (b : Int)) = true := by simp; omega
theorem dnlt {a b : Nat} (h : b ≤ a) : decide ((a : Int) < (b : Int)) = false := by simp; omega
theorem idxS {α : Type} {xs : List α} {k : Nat} (h : k < xs.length) : idx xs (k : Int) = some xs[k] := by rw [idx_nat, List.getElem?_eq_getElem h]
theorem appS {α : Type} {xs ys : List α} (h : xs.length + ys.length ≤ 4294967296) : app xs ys = some (xs ++ ys) := if_pos h
theorem ofL_len {α : Type} (O : Lin α) (l : List α) : (O.ofL l).length ≤ l.length := by
 have ins_len : ∀ (x : α) (l : List α), (O.ins x l).length ≤ l.length + 1 := fun x l => by
  induction l with
  | nil => simp [Lin.ins]
  | cons y r ih =>
   simp only [Lin.ins]
   split
   ·simp
   ·split
    ·simp; omega
    ·simp
 induction l with
 | nil => simp [Lin.ofL]
 | cons x r ih =>
  have := ins_len x (O.ofL r)
  have e : O.ofL (x :: r) = O.ins x (O.ofL r) := rfl
  rw [e, List.length_cons]
  omega
end Go.Proofs.Ytjkdbakgnnhdnaa.Ab
