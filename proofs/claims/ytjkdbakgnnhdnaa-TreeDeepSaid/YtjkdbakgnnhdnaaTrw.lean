/-
 The tree's grower: a node begins.
-/
import Derived.Test.YtjkdbakgnnhdnaaTrh
import Derived.Test.YtjkdbakgnnhdnaaTdl
namespace Go.Proofs.Ytjkdbakgnnhdnaa.Ab
open Go.RowKit
abbrev boxG (bl : Bool) (G : SeekGraph) (m : Nat) (c e : Int) : AO := .bx [.d (.pt (eSeekGraph G) 0) bl, .mo m, .v (.int .i64 c), .v (.int .i64 e)]
theorem upd_twice {o o2 : Option AO} {q : Nat} {hp : Hp} : (upd q o (upd q o2 hp) : Hp) = upd q o hp := by
 funext i
 by_cases h : i = q
 ·rw [h, upd_same, upd_same]
 ·rw [upd_ne _ _ h, upd_ne _ _ h, upd_ne _ _ h]
set_option maxRecDepth 8000 in
theorem begin_ok {bl : Bool} {G : SeekGraph} {m q nx : Nat} {d : Int} {w : Gro} {hp : Hp} (hq : hp q = some (boxG bl G m w.cnt w.e)) :
  InlOK Try.prog 29 [.pt q 0, .v (.int .i64 d)] hp nx fun v hp2 nx2 => v = .v (.bool (beginM d w).1) ∧ hp2 = upd q (some (boxG bl G m (beginM d w).2.cnt (beginM d w).2.e)) hp ∧ nx ≤ nx2 := by
 unfold beginM
 refine inl_run tab_ok fol Try.func29 (by rfl) (by kernel_rfl) (by kernel_rfl) (by exact Nat.le_of_ble_eq_true rfl) ?_
 obtain ⟨a, c, e⟩ := w
 dsimp only at hq ⊢
 cases he : (e == 0) with
 | false =>
  have he2 : (e != 0) = true := by rw [bne, he]; rfl
  refine Z1 (And.intro hq he2) ?_
  exact ⟨_, hp, by simp -implicitDefEqProofs only [go_sem, ↓reduceIte, Try.f29, upd_same, reduceCtorEq, Nat.reduceEqDiff] <;> rfl, ⟨fun i => .inr rfl⟩, rfl, (upd_self hq).symm, by dsimp only; omega⟩
 | true =>
  have he2 : (e != 0) = false := by rw [bne, he]; rfl
  have u := fun o => upd_same q o hp
  have u2 := fun o o2 => @upd_twice o o2 q hp
  rw [if_pos rfl]
  cases h1 : decide (200 < d) with
  | true =>
   refine Z1 (And.intro hq (And.intro he2 (And.intro h1 (And.intro u u2)))) ?_
   exact ⟨_, _, by simp -implicitDefEqProofs only [go_sem, ↓reduceIte, Try.f29, upd_same, reduceCtorEq, Nat.reduceEqDiff] <;> rfl, ⟨fun i => .inr rfl⟩, rfl, rfl, by dsimp only; omega⟩
  | false =>
   cases h2 : decide (20000 < IntKind.i64.wrap (c + 1)) with
   | true =>
    refine Z1 (And.intro hq (And.intro he2 (And.intro h1 (And.intro h2 (And.intro u u2))))) ?_
    exact ⟨_, _, by simp -implicitDefEqProofs only [go_sem, ↓reduceIte, Try.f29, upd_same, reduceCtorEq, Nat.reduceEqDiff] <;> rfl, ⟨fun i => .inr rfl⟩, rfl, rfl, by dsimp only; omega⟩
   | false =>
    refine Z1 (And.intro hq (And.intro he2 (And.intro h1 (And.intro h2 (And.intro u (And.intro u2 he)))))) ?_
    exact ⟨_, _, by simp -implicitDefEqProofs only [go_sem, ↓reduceIte, Try.f29, upd_same, reduceCtorEq, Nat.reduceEqDiff] <;> rfl, ⟨fun i => .inr rfl⟩, rfl, rfl, by dsimp only; omega⟩
end Go.Proofs.Ytjkdbakgnnhdnaa.Ab
