/-
  Sets as rising lists, over any order; merging; what sorting and striking twins gives. No program in sight.
-/
import Derived.Handy
import Derived.Sort.Statements
namespace Go.Proofs.Ytedgdpncienjiaa
open Go.RowKit

/-- An order of all. -/
structure Lin (α : Type) where
  lt : α → α → Bool
  irrefl : ∀ x, lt x x = false
  trans : ∀ {x y z}, lt x y = true → lt y z = true → lt x z = true
  total : ∀ {x y}, lt x y = false → lt y x = false → x = y
namespace Lin
variable {α : Type} (O : Lin α)
theorem asymm {x y : α} (h : O.lt x y = true) : O.lt y x = false := by
  cases h2 : O.lt y x with
  | false => rfl
  | true =>
    have := O.trans h h2
    rw [O.irrefl] at this
    cases this
theorem ne {x y : α} (h : O.lt x y = true) : x ≠ y := by
  rintro rfl
  rw [O.irrefl] at h
  cases h
theorem swo : Go.Sort.SWO O.lt where
  irrefl := O.irrefl
  trans _ _ _ := O.trans
  ntrans x y z h1 h2 := by
    cases h : O.lt x z with
    | false => rfl
    | true =>
      cases h3 : O.lt y x with
      | true =>
        have := O.trans h3 h
        rw [h2] at this
        cases this
      | false =>
        have := O.total h1 h3
        subst this
        rw [h2] at h
        cases h
/-! ### Sets as rising lists -/
def Rises (l : List α) : Prop := l.Pairwise fun x y => O.lt x y = true
theorem ext : ∀ {a b : List α}, O.Rises a → O.Rises b → (∀ x, x ∈ a ↔ x ∈ b) → a = b
  | [], [], _, _, _ => rfl
  | [], y :: _, _, _, h => by
    have := (h y).2 (List.mem_cons_self ..)
    cases this
  | x :: _, [], _, _, h => by
    have := (h x).1 (List.mem_cons_self ..)
    cases this
  | x :: a, y :: b, ha, hb, h => by
    obtain ⟨ha1, ha2⟩ := List.pairwise_cons.1 ha
    obtain ⟨hb1, hb2⟩ := List.pairwise_cons.1 hb
    have hxy : x = y := by
      rcases List.mem_cons.1 ((h x).1 (List.mem_cons_self ..)) with e | e
      · exact e
      · rcases List.mem_cons.1 ((h y).2 (List.mem_cons_self ..)) with e2 | e2
        · exact e2.symm
        · have h1 := hb1 x e
          have h2 := ha1 y e2
          rw [O.asymm h1] at h2
          cases h2
    subst hxy
    congr 1
    refine ext ha2 hb2 fun z => ⟨fun hz => ?_, fun hz => ?_⟩
    · rcases List.mem_cons.1 ((h z).1 (List.mem_cons_of_mem _ hz)) with e | e
      · subst e
        exact absurd rfl (O.ne (ha1 z hz))
      · exact e
    · rcases List.mem_cons.1 ((h z).2 (List.mem_cons_of_mem _ hz)) with e | e
      · subst e
        exact absurd rfl (O.ne (hb1 z hz))
      · exact e
theorem nodup {l : List α} (h : O.Rises l) : l.Nodup := h.imp fun hxy => O.ne hxy
theorem filter {l : List α} (h : O.Rises l) (p : α → Bool) : O.Rises (l.filter p) := List.Pairwise.filter p h

def ins (x : α) : List α → List α
  | [] => [x]
  | y :: l => if O.lt x y then x :: y :: l else if O.lt y x then y :: ins x l else y :: l
theorem mem_ins {x z : α} : ∀ {l : List α}, z ∈ O.ins x l ↔ z = x ∨ z ∈ l
  | [] => by simp [ins]
  | y :: l => by
    have ih := mem_ins (x := x) (z := z) (l := l)
    simp only [ins]
    by_cases h1 : O.lt x y = true
    · simp [h1]
    · by_cases h2 : O.lt y x = true
      · simp only [h1, h2, if_true, Bool.false_eq_true, if_false, List.mem_cons, ih]
        constructor
        · rintro (h | h | h) <;> simp [h]
        · rintro (h | h | h) <;> simp [h]
      · have := O.total (by simpa using h1) (by simpa using h2)
        subst this
        simp [h1]
theorem rises_ins {x : α} : ∀ {l : List α}, O.Rises l → O.Rises (O.ins x l)
  | [], _ => by simp [ins, Rises]
  | y :: l, h => by
    obtain ⟨h1, h2⟩ := List.pairwise_cons.1 h
    simp only [ins]
    by_cases e1 : O.lt x y = true
    · rw [if_pos e1]
      refine List.pairwise_cons.2 ⟨fun z hz => ?_, h⟩
      rcases List.mem_cons.1 hz with e | e
      · subst e; exact e1
      · exact O.trans e1 (h1 z e)
    · rw [if_neg e1]
      by_cases e2 : O.lt y x = true
      · rw [if_pos e2]
        refine List.pairwise_cons.2 ⟨fun z hz => ?_, rises_ins h2⟩
        rcases O.mem_ins.1 hz with e | e
        · subst e; exact e2
        · exact h1 z e
      · rw [if_neg e2]
        exact h
/-- The set of a list. -/
def ofL (l : List α) : List α := l.foldr O.ins []
theorem rises_ofL : ∀ l, O.Rises (O.ofL l)
  | [] => List.Pairwise.nil
  | _ :: l => O.rises_ins (rises_ofL l)
theorem mem_ofL {z : α} : ∀ {l : List α}, z ∈ O.ofL l ↔ z ∈ l
  | [] => by simp [ofL]
  | x :: l => by
    have ih := mem_ofL (z := z) (l := l)
    show z ∈ O.ins x (O.ofL l) ↔ _
    rw [O.mem_ins, ih, List.mem_cons]
theorem ofL_eq {l s : List α} (hs : O.Rises s) (h : ∀ x, x ∈ s ↔ x ∈ l) : O.ofL l = s :=
  O.ext (O.rises_ofL l) hs fun x => O.mem_ofL.trans (h x).symm
theorem ofL_self {l : List α} (h : O.Rises l) : O.ofL l = l := O.ofL_eq h fun _ => Iff.rfl
theorem ofL_congr {a b : List α} (h : ∀ x, x ∈ a ↔ x ∈ b) : O.ofL a = O.ofL b := O.ofL_eq (O.rises_ofL b) fun x => O.mem_ofL.trans (h x).symm

/-- What is left of one set without another. -/
def sub [DecidableEq α] (a b : List α) : List α := a.filter fun x => decide (x ∉ b)
theorem mem_sub [DecidableEq α] {a b : List α} {x : α} : x ∈ sub a b ↔ x ∈ a ∧ x ∉ b := by simp [sub]
theorem rises_sub [DecidableEq α] {a : List α} (h : O.Rises a) (b : List α) : O.Rises (sub a b) := O.filter h _

def mg : List α → List α → List α
  | [], b => b
  | x :: a, [] => x :: a
  | x :: a, y :: b => if O.lt x y = true then x :: mg a (y :: b) else if O.lt y x = true then y :: mg (x :: a) b else mg a (y :: b)
termination_by a b => a.length + b.length

theorem mg_nil (a : List α) : O.mg a [] = a := by
  cases a <;> rw [mg]
theorem nil_mg (b : List α) : O.mg [] b = b := by rw [mg]
theorem mem_mg (z : α) : ∀ (n : Nat) (a b : List α), a.length + b.length ≤ n → (z ∈ O.mg a b ↔ z ∈ a ∨ z ∈ b)
  | _, [], b, _ => by simp [O.nil_mg]
  | _, x :: a, [], _ => by simp [O.mg_nil]
  | 0, x :: a, y :: b, h => by simp at h
  | n + 1, x :: a, y :: b, h => by
    simp only [List.length_cons] at h
    have i1 := mem_mg z n a (y :: b) (by simp only [List.length_cons]; omega)
    have i2 := mem_mg z n (x :: a) b (by simp only [List.length_cons]; omega)
    rw [mg]
    by_cases h1 : O.lt x y = true
    · rw [if_pos h1, List.mem_cons, i1, List.mem_cons (a := z) (b := x), or_assoc]
    · rw [if_neg h1]
      by_cases h2 : O.lt y x = true
      · rw [if_pos h2, List.mem_cons, i2, List.mem_cons (a := z) (b := y)]
        constructor
        · rintro (e | e | e)
          · exact .inr (.inl e)
          · exact .inl e
          · exact .inr (.inr e)
        · rintro (e | e | e)
          · exact .inr (.inl e)
          · exact .inl e
          · exact .inr (.inr e)
      · have e : x = y := O.total (by simpa using h1) (by simpa using h2)
        rw [if_neg h2, i1, List.mem_cons (a := z) (b := x), e]
        constructor
        · rintro (e | e)
          · exact .inl (.inr e)
          · exact .inr e
        · rintro ((e | e) | e)
          · exact .inr (by rw [e]; exact List.mem_cons_self ..)
          · exact .inl e
          · exact .inr e
theorem rises_mg : ∀ (n : Nat) (a b : List α), a.length + b.length ≤ n → O.Rises a → O.Rises b → O.Rises (O.mg a b)
  | _, [], b, _, _, hb => by rw [O.nil_mg]; exact hb
  | _, x :: a, [], _, ha, _ => by rw [O.mg_nil]; exact ha
  | 0, x :: a, y :: b, h, _, _ => by simp at h
  | n + 1, x :: a, y :: b, h, ha, hb => by
    simp only [List.length_cons] at h
    obtain ⟨ha1, ha2⟩ := List.pairwise_cons.1 ha
    obtain ⟨hb1, hb2⟩ := List.pairwise_cons.1 hb
    rw [mg]
    by_cases h1 : O.lt x y = true
    · rw [if_pos h1]
      refine List.pairwise_cons.2 ⟨fun z hz => ?_, rises_mg n a (y :: b) (by simp only [List.length_cons]; omega) ha2 hb⟩
      rcases (O.mem_mg z _ a (y :: b) (Nat.le_refl _)).1 hz with e | e
      · exact ha1 z e
      · rcases List.mem_cons.1 e with e | e
        · rw [e]; exact h1
        · exact O.trans h1 (hb1 z e)
    · rw [if_neg h1]
      by_cases h2 : O.lt y x = true
      · rw [if_pos h2]
        refine List.pairwise_cons.2 ⟨fun z hz => ?_, rises_mg n (x :: a) b (by simp only [List.length_cons]; omega) ha hb2⟩
        rcases (O.mem_mg z _ (x :: a) b (Nat.le_refl _)).1 hz with e | e
        · rcases List.mem_cons.1 e with e | e
          · rw [e]; exact h2
          · exact O.trans h2 (ha1 z e)
        · exact hb1 z e
      · rw [if_neg h2]
        exact rises_mg n a (y :: b) (by simp only [List.length_cons]; omega) ha2 hb
/-- The set of a list is its halves' sets made one. -/
theorem mg_ofL (a b : List α) : O.mg (O.ofL a) (O.ofL b) = O.ofL (a ++ b) := O.ext (O.rises_mg _ _ _ (Nat.le_refl _) (O.rises_ofL a) (O.rises_ofL b)) (O.rises_ofL _) fun z => by
  rw [O.mem_mg z _ _ _ (Nat.le_refl _), O.mem_ofL, O.mem_ofL, O.mem_ofL, List.mem_append]

/-- One step of the loop. -/
theorem step_left {a b : List α} {i k : Nat} {x : α} (hi : a[i]? = some x) (h : b.length ≤ k ∨ ∃ y, b[k]? = some y ∧ O.lt x y = true) : O.mg (a.drop i) (b.drop k) = x :: O.mg (a.drop (i + 1)) (b.drop k) := by
  obtain ⟨hl, hx⟩ := List.getElem?_eq_some_iff.1 hi
  rw [List.drop_eq_getElem_cons hl, hx]
  rcases h with h | ⟨y, hy, hlt⟩
  · rw [List.drop_of_length_le h, O.mg_nil, O.mg_nil]
  · obtain ⟨hl2, hy2⟩ := List.getElem?_eq_some_iff.1 hy
    rw [List.drop_eq_getElem_cons hl2, hy2, mg, if_pos hlt]
theorem step_right {a b : List α} {i k : Nat} {y : α} (hk : b[k]? = some y) (h : a.length ≤ i ∨ ∃ x, a[i]? = some x ∧ O.lt x y = false ∧ O.lt y x = true) : O.mg (a.drop i) (b.drop k) = y :: O.mg (a.drop i) (b.drop (k + 1)) := by
  obtain ⟨hl, hy⟩ := List.getElem?_eq_some_iff.1 hk
  rw [List.drop_eq_getElem_cons hl, hy]
  rcases h with h | ⟨x, hx, h1, h2⟩
  · rw [List.drop_of_length_le h, O.nil_mg, O.nil_mg]
  · obtain ⟨hl2, hx2⟩ := List.getElem?_eq_some_iff.1 hx
    rw [List.drop_eq_getElem_cons hl2, hx2, mg, if_neg (by rw [h1]; simp), if_pos h2]
theorem step_both {a b : List α} {i k : Nat} {x y : α} (hi : a[i]? = some x) (hk : b[k]? = some y) (h1 : O.lt x y = false) (h2 : O.lt y x = false) : O.mg (a.drop i) (b.drop k) = O.mg (a.drop (i + 1)) (b.drop k) := by
  obtain ⟨hl, hx⟩ := List.getElem?_eq_some_iff.1 hi
  obtain ⟨hl2, hy⟩ := List.getElem?_eq_some_iff.1 hk
  rw [List.drop_eq_getElem_cons hl, hx, List.drop_eq_getElem_cons hl2, hy, mg, if_neg (by rw [h1]; simp), if_neg (by rw [h2]; simp)]

/-! ### Sorted, and twins struck -/
/-- Each once, where twins stand side by side. -/
def cpt [DecidableEq α] : List α → List α
  | [] => []
  | [x] => [x]
  | x :: y :: l => if x = y then cpt (y :: l) else x :: cpt (y :: l)
theorem mem_cpt [DecidableEq α] {z : α} : ∀ {l : List α}, z ∈ cpt l ↔ z ∈ l
  | [] => Iff.rfl
  | [x] => Iff.rfl
  | x :: y :: l => by
    have ih := mem_cpt (z := z) (l := y :: l)
    rw [cpt]
    split
    · rename_i h
      subst h
      rw [ih]
      simp
    · rw [List.mem_cons, ih, List.mem_cons (b := x)]
theorem rises_cpt [DecidableEq α] : ∀ {l : List α}, (l.Pairwise fun a b => O.lt b a = false) → O.Rises (cpt l)
  | [], _ => List.Pairwise.nil
  | [x], _ => List.pairwise_singleton ..
  | x :: y :: l, h => by
    obtain ⟨h1, h2⟩ := List.pairwise_cons.1 h
    have ih := rises_cpt (l := y :: l) h2
    rw [cpt]
    split
    · exact ih
    · rename_i hne
      refine List.pairwise_cons.2 ⟨fun z hz => ?_, ih⟩
      have hz' := mem_cpt.1 hz
      have k1 := h1 z hz'
      cases k2 : O.lt x z with
      | true => rfl
      | false =>
        exfalso
        have e := O.total k1 k2
        subst e
        rcases List.mem_cons.1 hz' with e | e
        · exact hne e
        · have k3 := (List.pairwise_cons.1 h2).1 _ e
          have k4 := h1 y (List.mem_cons_self ..)
          exact hne (O.total k3 k4)
/-- Any sorting, twins struck, is the set. -/
theorem cpt_sorted [DecidableEq α] {l s : List α} (hm : ∀ x, x ∈ s ↔ x ∈ l) (hs : s.Pairwise fun a b => O.lt b a = false) : cpt s = O.ofL l :=
  O.ext (O.rises_cpt hs) (O.rises_ofL l) fun x => by rw [mem_cpt, O.mem_ofL, hm]
theorem ofL_filter (l : List α) (p : α → Bool) : O.ofL (l.filter p) = (O.ofL l).filter p :=
  O.ext (O.rises_ofL _) (O.filter (O.rises_ofL l) p) fun x => by simp [O.mem_ofL]
theorem ofL_nil : O.ofL [] = [] := rfl
theorem ofL_eq_nil {l : List α} : O.ofL l = [] ↔ l = [] := by
  constructor
  · intro h
    cases l with
    | nil => rfl
    | cons x r =>
      have : x ∈ O.ofL (x :: r) := O.mem_ofL.2 (List.mem_cons_self ..)
      rw [h] at this
      cases this
  · rintro rfl; rfl
end Lin
end Go.Proofs.Ytedgdpncienjiaa
