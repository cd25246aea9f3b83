/-
 The library's walks over lists.
-/
import Derived.Test.YtjkdbakgnnhdnaaAbW
namespace Go.Proofs.Ytjkdbakgnnhdnaa.Ab
open Go.RowKit
structure ElOK (tab : Nat → TI) (T E : Nat) (n : Nat) : Prop where
 sl : (tab T).kind = .slice
 el : (tab T).elem = E
 ok : (tab E).ok = true
 size : (tab E).size = n
 agg : (tab E).agg = true ∨ ((tab E).agg = false ∧ n = 1)
def PrdOK {α : Type} (P : Program) (f : FuncId) (caps : List AV) (ld : α → AV) (S : α → Prop) (pr : α → Bool) (ids : List Nat) (hp0 : Hp) : Prop :=
 ∀ (x : α), S x → ∀ (nx : Nat), ∃ nx', nx ≤ nx' ∧ ∀ hp : Hp, (∀ i ∈ ids, hp i = hp0 i) → InlOK P f ([ld x] ++ caps) hp nx fun v2 hp2 nx2 => v2 = .v (.bool (pr x)) ∧ hp2 = hp ∧ nx2 = nx'
open Classical in
noncomputable def PrdOK.nx {α : Type} {P : Program} {f : FuncId} {caps : List AV} {ld : α → AV} {S : α → Prop} {pr : α → Bool} {ids : List Nat} {hp0 : Hp} (h : PrdOK P f caps ld S pr ids hp0) (x : α) (n : Nat) : Nat := if hx : S x then (h x hx n).choose else n
theorem PrdOK.le {α : Type} {P : Program} {f : FuncId} {caps : List AV} {ld : α → AV} {S : α → Prop} {pr : α → Bool} {ids : List Nat} {hp0 : Hp} (h : PrdOK P f caps ld S pr ids hp0) (x : α) (n : Nat) : n ≤ h.nx x n := by
 unfold PrdOK.nx
 split
 ·rename_i hx
  exact (h x hx n).choose_spec.1
 ·exact Nat.le_refl _
theorem PrdOK.inl {α : Type} {P : Program} {f : FuncId} {caps : List AV} {ld : α → AV} {S : α → Prop} {pr : α → Bool} {ids : List Nat} {hp0 : Hp} (h : PrdOK P f caps ld S pr ids hp0) (x : α) (hx : S x) (n : Nat) {hp : Hp} (hh : ∀ i ∈ ids, hp i = hp0 i) : InlOK P f ([ld x] ++ caps) hp n fun v2 hp2 nx2 => v2 = .v (.bool (pr x)) ∧ hp2 = hp ∧ nx2 = h.nx x n := by
 have := (h x hx n).choose_spec.2 hp hh
 unfold PrdOK.nx
 rw [dif_pos hx]
 exact this
section
variable {P : Program} {tab : Nat → TI}
end
end Go.Proofs.Ytjkdbakgnnhdnaa.Ab
