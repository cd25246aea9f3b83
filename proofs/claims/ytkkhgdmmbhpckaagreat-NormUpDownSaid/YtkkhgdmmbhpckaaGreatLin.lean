/-
 Sets as rising lists, over any order; merging; what sorting and striking twins gives. No program in sight.
-/
import Derived.Handy
import Derived.Sort.Statements
namespace Go.Proofs.YtkkhgdmmbhpckaaGreat
open Go.RowKit
structure Lin (α : Type) where
 lt : α → α → Bool
 irrefl : ∀ x, lt x x = false
 trans : ∀ {x y z}, lt x y = true → lt y z = true → lt x z = true
 total : ∀ {x y}, lt x y = false → lt y x = false → x = y
namespace Lin
variable {α : Type} (O : Lin α)
theorem asymm {x y : α} (h : O.lt x y = true) : O.lt y x = false := by
 cases h2 : O.lt y x with
 | false => rfl
 | true =>
  have := O.trans h h2
  rw [O.irrefl] at this
  cases this
theorem ne {x y : α} (h : O.lt x y = true) : x ≠ y := by
 rintro rfl
 rw [O.irrefl] at h
 cases h
def Rises (l : List α) : Prop := l.Pairwise fun x y => O.lt x y = true
theorem ext : ∀ {a b : List α}, O.Rises a → O.Rises b → (∀ x, x ∈ a ↔ x ∈ b) → a = b
 | [], [], _, _, _ => rfl
 | [], y :: _, _, _, h => by
  have := (h y).2 (List.mem_cons_self ..)
  cases this
 | x :: _, [], _, _, h => by
  have := (h x).1 (List.mem_cons_self ..)
  cases this
 | x :: a, y :: b, ha, hb, h => by
  obtain ⟨ha1, ha2⟩ := List.pairwise_cons.1 ha
  obtain ⟨hb1, hb2⟩ := List.pairwise_cons.1 hb
  have hxy : x = y := by
   rcases List.mem_cons.1 ((h x).1 (List.mem_cons_self ..)) with e | e
   ·exact e
   ·rcases List.mem_cons.1 ((h y).2 (List.mem_cons_self ..)) with e2 | e2
    ·exact e2.symm
    ·have h1 := hb1 x e
     have h2 := ha1 y e2
     rw [O.asymm h1] at h2
     cases h2
  subst hxy
  congr 1
  refine ext ha2 hb2 fun z => ⟨fun hz => ?_, fun hz => ?_⟩
  ·rcases List.mem_cons.1 ((h z).1 (List.mem_cons_of_mem _ hz)) with e | e
   ·subst e
    exact absurd rfl (O.ne (ha1 z hz))
   ·exact e
  ·rcases List.mem_cons.1 ((h z).2 (List.mem_cons_of_mem _ hz)) with e | e
   ·subst e
    exact absurd rfl (O.ne (hb1 z hz))
   ·exact e
theorem filter {l : List α} (h : O.Rises l) (p : α → Bool) : O.Rises (l.filter p) := List.Pairwise.filter p h
def sub [DecidableEq α] (a b : List α) : List α := a.filter fun x => decide (x ∉ b)
end Lin
end Go.Proofs.YtkkhgdmmbhpckaaGreat
