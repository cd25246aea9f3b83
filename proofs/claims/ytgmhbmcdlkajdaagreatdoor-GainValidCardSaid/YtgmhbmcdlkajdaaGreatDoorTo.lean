/-
 An answer that is there, and of which something is known. No program in sight.
-/
import Derived.Test.YtgmhbmcdlkajdaaGreatDoorPy
import Derived.Test.YtgmhbmcdlkajdaaGreatDoorPk
namespace Go.Proofs.YtgmhbmcdlkajdaaGreatDoor.Ab
open Go.RowKit
def keyE (d : Bool) (k : Int) (nm : ByteArray) (x : GEntry) : Bool := (x.default == d) && ((x.kind == k) && decide (x.name = nm))
def zE : GEntry := ⟨0, false, ByteArray.empty, 0⟩
def findE (l : List GEntry) (d : Bool) (k : Int) (nm : ByteArray) : GEntry × Bool := match l.find? (keyE d k nm) with
 | some x => (x, true)
 | none => (zE, false)
theorem find_fold (n : Nat) (l0 : List GEntry) (d : Bool) (k : Int) (nm : ByteArray) : ∀ l : List GEntry, foldK (mask_Find_L1_f n l0 d k nm) (mask_Find_L1_e n l0 d k nm) l () = some (match l.find? (keyE d k nm) with | some x => .inr (x, true) | none => .inl ())
 | [] => rfl
 | x :: l => by
  have ih := find_fold n l0 d k nm l
  rw [foldK]
  show (if (x.default == d) then (if (x.kind == k) then (if (x.name.toList == nm.toList) then some (.inr (x, true)) else foldK (mask_Find_L1_f n l0 d k nm) (mask_Find_L1_e n l0 d k nm) l ()) else foldK (mask_Find_L1_f n l0 d k nm) (mask_Find_L1_e n l0 d k nm) l ()) else foldK (mask_Find_L1_f n l0 d k nm) (mask_Find_L1_e n l0 d k nm) l ()) = _
  rw [beqS, ih, List.find?_cons]
  unfold keyE
  cases (x.default == d) <;> cases (x.kind == k) <;> cases decide (x.name = nm) <;> rfl
theorem find_some {n : Nat} {l : List GEntry} {d : Bool} {k : Int} {nm : ByteArray} (h : l.length < n) (hx : l.length < 4611686018427387904) : mask_Find n l d k nm = some (findE l d k nm) := by
 unfold mask_Find findE
 have hL : mask_Find_L1 n l d k nm n 0 = _ := mask_Find_L1_list n l d k nm hx n () 0 (by omega) (by omega)
 rw [hL, List.drop_zero, find_fold, Zo]
 cases l.find? (keyE d k nm) <;> rfl
theorem whole_some {n : Nat} {l : List GEntry} {d : Bool} (h : l.length < n) (hn : 3 < n) (hx : l.length < 4611686018427387904) (h1 : (findE l d 1 { data := #[] }).2 = true) (h3 : (findE l d 3 { data := #[] }).2 = true) (h6 : (findE l d 6 { data := #[] }).2 = true) : mask_whole n l d = some true := by
 obtain ⟨m, rfl⟩ : ∃ m, n = m + 1 + 1 + 1 + 1 := ⟨n - 4, by omega⟩
 have e : mask_whole_L1 (m + 1 + 1 + 1 + 1) l d (m + 1 + 1 + 1 + 1) 0 = some (.inl ()) := by
  rw [mask_whole_L1, show decide ((0 : Int) < 3) = true from rfl, if_pos rfl, show idx [(1 : Int), 3, 6] 0 = some 1 from rfl, Zo, find_some h hx, Zo, h1, if_pos rfl,
   mask_whole_L1, show decide (IntKind.i64.wrap (0 + 1) < 3) = true from rfl, if_pos rfl, show idx [(1 : Int), 3, 6] (IntKind.i64.wrap (0 + 1)) = some 3 from rfl, Zo, find_some h hx, Zo, h3, if_pos rfl,
   mask_whole_L1, show decide (IntKind.i64.wrap (IntKind.i64.wrap (0 + 1) + 1) < 3) = true from rfl, if_pos rfl, show idx [(1 : Int), 3, 6] (IntKind.i64.wrap (IntKind.i64.wrap (0 + 1) + 1)) = some 6 from rfl, Zo, find_some h hx, Zo, h6, if_pos rfl, mask_whole_L1]
  rfl
 unfold mask_whole
 rw [e]
 rfl
def Tot {α : Type} (o : Option α) (Q : α → Prop) : Prop := ∃ x, o = some x ∧ Q x
section
variable {α β : Type}
theorem tot_some {x : α} {Q : α → Prop} (h : Q x) : Tot (some x) Q := ⟨x, rfl, h⟩
theorem tot_bind {o : Option α} {Q : α → Prop} {f : α → Option β} {R : β → Prop} (h : Tot o Q) (k : ∀ x, Q x → Tot (f x) R) : Tot (o.bind f) R := by
 obtain ⟨x, rfl, hx⟩ := h
 exact k x hx
theorem tot_ite {c : Bool} {a b : Option α} {Q : α → Prop} (h1 : c = true → Tot a Q) (h2 : c = false → Tot b Q) : Tot (if c then a else b) Q := by
 cases c with
 | true => exact h1 rfl
 | false => exact h2 rfl
theorem Tot.mono {o : Option α} {Q R : α → Prop} (h : Tot o Q) (k : ∀ x, Q x → R x) : Tot o R := by
 obtain ⟨x, e, hx⟩ := h
 exact ⟨x, e, k x hx⟩
theorem tot_idx {xs : List α} {i : Int} {Q : α → Prop} (h0 : 0 ≤ i) (h1 : i < xs.length) (h : ∀ x ∈ xs, Q x) : Tot (idx xs i) Q := by
 obtain ⟨k, rfl⟩ : ∃ k : Nat, i = (k : Int) := ⟨i.toNat, by omega⟩
 have hk : k < xs.length := by omega
 exact ⟨_, idxS hk, h _ (List.getElem_mem hk)⟩
theorem tot_bidx {s : ByteArray} {i : Int} (h0 : 0 ≤ i) (h1 : i < s.size) : Tot (bidx s i) fun _ => True := by
 obtain ⟨k, rfl⟩ : ∃ k : Nat, i = (k : Int) := ⟨i.toNat, by omega⟩
 exact ⟨_, bidxS (by omega), trivial⟩
theorem tot_cat {a b : ByteArray} {p q : Nat} (h1 : a.size ≤ p) (h2 : b.size ≤ q) (h : p + q ≤ maxLen) : Tot (cat a b) fun s => s.size ≤ p + q := ⟨_, catS (by omega), by
 show (a ++ b).size ≤ _
 rw [ByteArray.size_append]
 omega⟩
theorem tot_an {xs : List α} {m : Nat} {t : Int} {Q : α → Prop} (hm : (BitVec.ofInt 64 (m : Int)).toNat = m) (h64 : m < 9223372036854775808) (hl : xs.length = m + 1) (h : ∀ x ∈ xs, Q x) : Tot (idx xs (IntKind.i64.wrap (an t (m : Int) : Int))) Q := by
 have h1 : an t (m : Int) ≤ m := by have := an_le t (m : Int); omega
 rw [wr (by omega) (by omega)]
 exact tot_idx (by omega) (by omega) h
theorem tot_tm {xs : List α} {m : Nat} {t : Int} {Q : α → Prop} (hm : 0 < m) (hl : xs.length = m) (h : ∀ x ∈ xs, Q x) : Tot (idx xs (Int.tmod (IntKind.i64.wrap (an t 255 : Int)) (m : Int))) Q := by
 rw [an8]
 have e : Int.tmod ((an t 255 : Nat) : Int) (m : Int) = ((an t 255 % m : Nat) : Int) := by
  rw [Int.tmod_eq_emod_of_nonneg (by omega)]
  omega
 rw [e]
 have := Nat.mod_lt (an t 255) hm
 exact tot_idx (by omega) (by omega) h
end
end Go.Proofs.YtgmhbmcdlkajdaaGreatDoor.Ab
