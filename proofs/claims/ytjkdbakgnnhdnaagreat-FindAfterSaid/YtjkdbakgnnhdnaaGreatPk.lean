/-
 Words of the functions that are read off the code, told plainly: lists, texts, loops over them. No program in sight.
-/
import Derived.Test.YtjkdbakgnnhdnaaGreatLtx
namespace Go.Proofs.YtjkdbakgnnhdnaaGreat.Ab
open Go.RowKit
theorem wr1 {k : Nat} (h : k < 9223372036854775807) : IntKind.i64.wrap ((k : Int) + 1) = ((k + 1 : Nat) : Int) := wrap_one (by omega)
theorem dlt {a b : Nat} (h : a < b) : decide ((a : Int) < (b : Int)) = true := by simp; omega
theorem dnlt {a b : Nat} (h : b ≤ a) : decide ((a : Int) < (b : Int)) = false := by simp; omega
theorem idxS {α : Type} {xs : List α} {k : Nat} (h : k < xs.length) : idx xs (k : Int) = some xs[k] := by rw [idx_nat, List.getElem?_eq_getElem h]
theorem appS {α : Type} {xs ys : List α} (h : xs.length + ys.length ≤ 4294967296) : app xs ys = some (xs ++ ys) := if_pos h
theorem ixf_loop {α : Type} {L : Nat → Int → Option (Unit ⊕ Int)} {xs : List α} {P : α → Option Bool} (p : α → Bool) (h0 : ∀ c i, L (c + 1) i = if decide (i < (xs.length : Int)) then (idx xs i).bind fun x => (P x).bind fun b => if b then some (.inr i) else L c (IntKind.i64.wrap (i + 1)) else some (.inl ()))
  (hP : ∀ x ∈ xs, P x = some (p x)) (hx : xs.length < 4611686018427387904) : ∀ (c j : Nat), j ≤ xs.length → xs.length - j < c → ∃ r, L c (j : Int) = some r ∧ (((xs.drop j).any p = true ∧ ∃ k : Nat, r = .inr (k : Int)) ∨ ((xs.drop j).any p = false ∧ r = .inl ()))
 | 0, _, _, h => by omega
 | c + 1, j, hj, hc => by
  rw [h0]
  by_cases hlt : j < xs.length
  ·rw [dlt hlt, if_pos rfl, idxS hlt, Option.bind_some, hP _ (List.getElem_mem hlt), Option.bind_some, List.drop_eq_getElem_cons hlt]
   cases hp : p xs[j] with
   | true => exact ⟨_, if_pos rfl, .inl ⟨by rw [List.any_cons, hp, Bool.true_or], j, rfl⟩⟩
   | false =>
    rw [if_neg (by decide), wr1 (by omega)]
    obtain ⟨r, h1, h2⟩ := ixf_loop p h0 hP hx c (j + 1) (by omega) (by omega)
    exact ⟨r, h1, by rw [List.any_cons, hp, Bool.false_or]; exact h2⟩
  ·rw [dnlt (by omega), if_neg (by decide), List.drop_eq_nil_of_le (by omega)]
   exact ⟨_, rfl, .inr ⟨rfl, rfl⟩⟩
theorem ofL_len {α : Type} (O : Lin α) (l : List α) : (O.ofL l).length ≤ l.length := by
 have ins_len : ∀ (x : α) (l : List α), (O.ins x l).length ≤ l.length + 1 := fun x l => by
  induction l with
  | nil => simp [Lin.ins]
  | cons y r ih =>
   simp only [Lin.ins]
   split
   ·simp
   ·split
    ·simp; omega
    ·simp
 induction l with
 | nil => simp [Lin.ofL]
 | cons x r ih =>
  have := ins_len x (O.ofL r)
  have e : O.ofL (x :: r) = O.ins x (O.ofL r) := rfl
  rw [e, List.length_cons]
  omega
end Go.Proofs.YtjkdbakgnnhdnaaGreat.Ab
