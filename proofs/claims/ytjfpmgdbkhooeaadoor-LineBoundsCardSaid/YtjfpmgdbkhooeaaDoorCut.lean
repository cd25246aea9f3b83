/-
  A text that is cut at a byte, told as lists. No program in sight.
-/
import Derived.Test.YtjfpmgdbkhooeaaDoorLsb
import Derived.Test.YtjfpmgdbkhooeaaDoorPk
namespace Go.Proofs.YtjfpmgdbkhooeaaDoor.Ab
open Go.RowKit
/-! ### a text cut at a byte -/
def cutL (c : UInt8) : List UInt8 → List (List UInt8)
  | [] => [[]]
  | b :: l => if b = c then [] :: cutL c l else match cutL c l with
    | p :: ps => (b :: p) :: ps
    | [] => [[b]]
theorem cutL_cons (c b : UInt8) (l : List UInt8) : cutL c (b :: l) = if b = c then [] :: cutL c l else match cutL c l with
    | p :: ps => (b :: p) :: ps
    | [] => [[b]] := rfl
theorem cutL_ne (c : UInt8) : ∀ l, ∃ p ps, cutL c l = p :: ps
  | [] => ⟨[], [], rfl⟩
  | b :: l => by
    obtain ⟨p, ps, e⟩ := cutL_ne c l
    unfold cutL
    rw [e]
    split
    · exact ⟨_, _, rfl⟩
    · exact ⟨_, _, rfl⟩
theorem cutL_no {c : UInt8} : ∀ {p : List UInt8}, c ∉ p → cutL c p = [p]
  | [], _ => rfl
  | b :: p, h => by
    have h1 : ¬ b = c := fun e => h (by simp [e])
    have ih := cutL_no (c := c) (p := p) fun hm => h (List.mem_cons_of_mem _ hm)
    unfold cutL
    rw [if_neg h1, ih]
theorem cutL_app (c : UInt8) (r : List UInt8) : ∀ l : List UInt8, cutL c (l ++ c :: r) = cutL c l ++ cutL c r
  | [] => by simp [cutL]
  | b :: l => by
    have ih := cutL_app c r l
    obtain ⟨p, ps, e⟩ := cutL_ne c l
    rw [List.cons_append, cutL_cons, cutL_cons, ih, e]
    split <;> rfl
theorem cutL_pre {c : UInt8} {p r : List UInt8} (h : c ∉ p) : cutL c (p ++ c :: r) = p :: cutL c r := by rw [cutL_app, cutL_no h]; rfl
theorem cutL_snoc (c : UInt8) (l : List UInt8) : [] ∈ cutL c (l ++ [c]) := by
  rw [cutL_app]
  simp [cutL]
theorem ib_none {c : UInt8} : ∀ {l : List UInt8}, Lib.indexByte l c = -1 → c ∉ l := fun {l} h hm => by
  obtain ⟨k, hk⟩ := List.getElem?_of_mem hm
  exact Lib.indexByte_none h k hk
theorem ib_some {c : UInt8} {l : List UInt8} {o : Nat} (h : Lib.indexByte l c = o) : o < l.length ∧ c ∉ l.take o ∧ l = l.take o ++ c :: l.drop (o + 1) := by
  obtain ⟨h1, h2⟩ := Lib.indexByte_some h
  have hl : o < l.length := (List.getElem?_eq_some_iff.1 h1).1
  refine ⟨hl, fun hm => ?_, ?_⟩
  · obtain ⟨k, hk⟩ := List.getElem?_of_mem hm
    have hk2 : k < o := by
      have := (List.getElem?_eq_some_iff.1 hk).1
      rw [List.length_take] at this
      omega
    rw [List.getElem?_take_of_lt hk2] at hk
    exact h2 k hk2 hk
  · have e : l[o] = c := (List.getElem?_eq_some_iff.1 h1).2
    rw [← e, ← List.drop_eq_getElem_cons hl, List.take_append_drop]
theorem ib_cases (l : List UInt8) (c : UInt8) : Lib.indexByte l c = -1 ∨ ∃ o : Nat, Lib.indexByte l c = o := by
  have := Lib.indexByte_ge l c
  by_cases h : Lib.indexByte l c = -1
  · exact .inl h
  · exact .inr ⟨(Lib.indexByte l c).toNat, by omega⟩
theorem splitK_cut (c : UInt8) : ∀ (m : Nat) (l : List UInt8), l.length ≤ m → Lib.splitK [c] 0 (Lib.count l [c]) l = cutL c l
  | m, l, hm => by
    rcases ib_cases l c with h | ⟨o, h⟩
    · have hno := ib_none h
      rw [cutL_no hno, Lib.count_one, List.count_eq_zero_of_not_mem hno]
      rfl
    · obtain ⟨h1, h2, h3⟩ := ib_some h
      have ec : Lib.count l [c] = Lib.count (l.drop (o + 1)) [c] + 1 := by
        rw [Lib.count_one, Lib.count_one]
        conv => lhs; rw [h3]
        rw [List.count_append, List.count_eq_zero_of_not_mem h2, List.count_cons_self]
        omega
      have hi : Lib.index l [c] = o := by rw [Lib.index_one, h]
      rw [ec]
      unfold Lib.splitK
      rw [hi, if_neg (by simp)]
      have e1 : ((o : Int).toNat + 0) = o := by omega
      have e2 : ((o : Int).toNat + [c].length) = o + 1 := by simp
      rw [e1, e2]
      match m with
      | 0 => omega
      | m + 1 =>
        rw [splitK_cut c m (l.drop (o + 1)) (by rw [List.length_drop]; omega)]
        conv => rhs; rw [h3]
        rw [cutL_pre h2]
theorem splitT_cut (c : UInt8) (s : ByteArray) : (splitT c s).map (·.data.toList) = cutL c s.data.toList := by
  unfold splitT
  rw [Lib.splitB_data]
  exact splitK_cut c _ _ (Nat.le_refl _)
end Go.Proofs.YtjfpmgdbkhooeaaDoor.Ab
