/-
 An answer that is there, and of which something is known. No program in sight.
-/
import Derived.Test.YtkikhbfdadambaaDoorPk
namespace Go.Proofs.YtkikhbfdadambaaDoor.Ab
open Go.RowKit
def Tot {α : Type} (o : Option α) (Q : α → Prop) : Prop := ∃ x, o = some x ∧ Q x
section
variable {α β : Type}
theorem tot_some {x : α} {Q : α → Prop} (h : Q x) : Tot (some x) Q := ⟨x, rfl, h⟩
theorem tot_bind {o : Option α} {Q : α → Prop} {f : α → Option β} {R : β → Prop} (h : Tot o Q) (k : ∀ x, Q x → Tot (f x) R) : Tot (o.bind f) R := by
 obtain ⟨x, rfl, hx⟩ := h
 exact k x hx
theorem tot_ite {c : Bool} {a b : Option α} {Q : α → Prop} (h1 : c = true → Tot a Q) (h2 : c = false → Tot b Q) : Tot (if c then a else b) Q := by
 cases c with
 | true => exact h1 rfl
 | false => exact h2 rfl
theorem Tot.mono {o : Option α} {Q R : α → Prop} (h : Tot o Q) (k : ∀ x, Q x → R x) : Tot o R := by
 obtain ⟨x, e, hx⟩ := h
 exact ⟨x, e, k x hx⟩
theorem tot_idx {xs : List α} {i : Int} {Q : α → Prop} (h0 : 0 ≤ i) (h1 : i < xs.length) (h : ∀ x ∈ xs, Q x) : Tot (idx xs i) Q := by
 obtain ⟨k, rfl⟩ : ∃ k : Nat, i = (k : Int) := ⟨i.toNat, by omega⟩
 have hk : k < xs.length := by omega
 exact ⟨_, idxS hk, h _ (List.getElem_mem hk)⟩
theorem tot_an {xs : List α} {m : Nat} {t : Int} {Q : α → Prop} (hm : (BitVec.ofInt 64 (m : Int)).toNat = m) (h64 : m < 9223372036854775808) (hl : xs.length = m + 1) (h : ∀ x ∈ xs, Q x) : Tot (idx xs (IntKind.i64.wrap (an t (m : Int) : Int))) Q := by
 have h1 : an t (m : Int) ≤ m := by have := an_le t (m : Int); omega
 rw [wr (by omega) (by omega)]
 exact tot_idx (by omega) (by omega) h
theorem tot_tm {xs : List α} {m : Nat} {t : Int} {Q : α → Prop} (hm : 0 < m) (hl : xs.length = m) (h : ∀ x ∈ xs, Q x) : Tot (idx xs (Int.tmod (IntKind.i64.wrap (an t 255 : Int)) (m : Int))) Q := by
 rw [an8]
 have e : Int.tmod ((an t 255 : Nat) : Int) (m : Int) = ((an t 255 % m : Nat) : Int) := by
  rw [Int.tmod_eq_emod_of_nonneg (by omega)]
  omega
 rw [e]
 have := Nat.mod_lt (an t 255) hm
 exact tot_idx (by omega) (by omega) h
end
end Go.Proofs.YtkikhbfdadambaaDoor.Ab
