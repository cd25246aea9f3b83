/-
  Loops over a text's bytes; is one of a list such; the words of names and ids. No program in sight.
-/
import Derived.Test.YtkikhbfdadambaaDoorPk
namespace Go.Proofs.YtkikhbfdadambaaDoor.Ab
open Go.RowKit
/-- Are all bytes such? -/
theorem all_loop {L : Nat → Int → Option (Unit ⊕ Bool)} {s : ByteArray} (p : Int → Bool) (h1 : ∀ (c i : Nat) (x : UInt8), bidx s (i : Int) = some (x.toNat : Int) → i < s.size → L (c + 1) (i : Int) = if p (x.toNat : Int) then L c ((i + 1 : Nat) : Int) else some (.inr false))
    (h2 : ∀ (c i : Nat), s.size ≤ i → L (c + 1) (i : Int) = some (.inl ())) : ∀ (c i : Nat), i ≤ s.size → s.size - i < c → L c (i : Int) = some (if (s.data.toList.drop i).all fun x => p (x.toNat : Int) then .inl () else .inr false)
  | 0, _, _, h => by omega
  | c + 1, i, hi, hc => by
    by_cases h : i < s.size
    · have hb : i < s.data.toList.length := by rw [bsize]; exact h
      rw [h1 c i _ (bidxS h) h, List.drop_eq_getElem_cons hb, List.all_cons]
      cases p (s.data.toList[i].toNat : Int) with
      | true => rw [if_pos rfl, all_loop p h1 h2 c (i + 1) (by omega) (by omega), Bool.true_and]
      | false => rw [if_neg (by decide), Bool.false_and, if_neg (by decide)]
    · rw [h2 _ _ (by omega), List.drop_eq_nil_of_le (by rw [bsize]; omega)]
      rfl
/-- A small letter or a digit. -/
def firstB (c : Int) : Bool := (decide (97 ≤ c) && decide (c ≤ 122)) || (decide (48 ≤ c) && decide (c ≤ 57))
theorem first_if (c : Int) : (if (decide (97 ≤ c)) then (if (decide (c ≤ 122)) then some true else (if (decide (48 ≤ c)) then some (decide (c ≤ 57)) else some false)) else (if (decide (48 ≤ c)) then some (decide (c ≤ 57)) else some false)) = some (firstB c) := by
  unfold firstB
  cases decide (97 ≤ c) <;> cases decide (c ≤ 122) <;> cases decide (48 ≤ c) <;> simp
def plainB (c : Int) : Bool := firstB c || c == 95 || c == 45 || c == 46
def nameB (s : ByteArray) : Bool := decide (0 < s.size) && decide (s.size ≤ 30) && (match s.data.toList.head? with | some x => firstB (x.toNat : Int) | none => false) && s.data.toList.all fun x => plainB (x.toNat : Int)
def idC (c : Int) : Bool := plainB c || c == 47 || c == 124 || c == 42
def idB (s : ByteArray) : Bool := (s.data.toList.all fun x => idC (x.toNat : Int)) && decide (0 < s.size) && decide (s.size ≤ 250)
theorem emptyB (s : ByteArray) : (s.toList == ({ data := #[] } : ByteArray).toList) = decide (s.size = 0) := by
  rw [Lib.toList_data, Lib.toList_data]
  rw [Bool.eq_iff_iff, beq_iff_eq, decide_eq_true_eq, ← bsize]
  exact ⟨fun h => by rw [h]; rfl, fun h => List.eq_nil_of_length_eq_zero h⟩
theorem bidx0 {s : ByteArray} (h : 0 < s.size) : ∃ x, bidx s 0 = some (x.toNat : Int) ∧ s.data.toList.head? = some x := by
  have hb : 0 < s.data.toList.length := by rw [bsize]; exact h
  exact ⟨_, bidxS (k := 0) h, by rw [List.head?_eq_getElem?, List.getElem?_eq_getElem hb]⟩
/-- A name, by its loop. -/
theorem name_eq {L : Option (Unit ⊕ Bool)} {s : ByteArray} {b1 : Bool} {X : Int → Option Bool} (hb : b1 = decide (s.size = 0)) (hX : ∀ c, X c = some (firstB c)) (hL : L = some (if s.data.toList.all fun x => plainB (x.toNat : Int) then .inl () else .inr false)) :
    (((if b1 then some true else (if (decide (30 < (s.size : Int))) then some true else (bidx s 0).bind fun ch => (X ch).bind fun t => some (!t))) : Option Bool).bind fun t => (if t then some false else L.bind fun | .inl _ => some true | .inr r => some r)) = some (nameB s) := by
  subst hb
  unfold nameB
  by_cases h : s.size = 0
  · rw [decide_eq_true h, if_pos rfl, Option.bind_some, if_pos rfl, decide_eq_false (show ¬ 0 < s.size by omega)]
    simp
  · rw [decide_eq_false h, if_neg (by decide), decide_eq_true (show 0 < s.size by omega)]
    by_cases h3 : s.size ≤ 30
    · rw [show decide (30 < (s.size : Int)) = false from decide_eq_false (by omega), if_neg (by decide), decide_eq_true h3]
      obtain ⟨x, e1, e2⟩ := bidx0 (s := s) (by omega)
      rw [e1, Option.bind_some, hX, Option.bind_some, Option.bind_some, e2, hL]
      dsimp only
      cases firstB (x.toNat : Int) <;> cases (s.data.toList.all fun x => plainB (x.toNat : Int)) <;> rfl
    · rw [show decide (30 < (s.size : Int)) = true from decide_eq_true (by omega), if_pos rfl, Option.bind_some, if_pos rfl, decide_eq_false h3]
      simp
/-- Is one of a list such, told by the place of the first? -/
theorem ixf_some {α : Type} {L : Nat → Int → Option (Unit ⊕ Int)} {xs : List α} {P : α → Option Bool} (p : α → Bool) (h0 : ∀ c i, L (c + 1) i = if decide (i < (xs.length : Int)) then (idx xs i).bind fun x => (P x).bind fun b => if b then some (.inr i) else L c (IntKind.i64.wrap (i + 1)) else some (.inl ()))
    (hP : ∀ x ∈ xs, P x = some (p x)) (hx : xs.length < 4611686018427387904) {n : Nat} (hn : xs.length < n) : ∃ v : Int, ((L n 0).bind fun | .inl _ => some (-1) | .inr r => some r) = some v ∧ decide (0 ≤ v) = xs.any p := by
  obtain ⟨r, h1, h2⟩ := ixf_loop p h0 hP hx n 0 (by omega) (by omega)
  have h1' : L n 0 = some r := h1
  rw [h1']
  rw [List.drop_zero] at h2
  rcases h2 with ⟨h3, k, rfl⟩ | ⟨h3, rfl⟩
  · exact ⟨(k : Int), rfl, by rw [h3]; exact decide_eq_true (by omega)⟩
  · exact ⟨-1, rfl, by rw [h3]; rfl⟩
end Go.Proofs.YtkikhbfdadambaaDoor.Ab
