/-
  Loops over rising lists, in the words of the functions that are read off the code: bisection; does a list rise; one set without another.
-/
import Derived.Test.YtedgdpncienjiaaPk
namespace Go.Proofs.Ytedgdpncienjiaa.Ab
open Go.RowKit
variable {α : Type}
theorem u64w {a : Nat} (h : a < 9223372036854775808) : IntKind.u64.wrap (a : Int) = (a : Int) := by
  show ((a : Int) % 18446744073709551616) = _
  omega
theorem sh1 (a : Nat) : sh (a : Int) 1 = ((a / 2 : Nat) : Int) := by
  show (a : Int).fdiv 2 = _
  rw [Int.fdiv_eq_ediv_of_nonneg _ (by decide)]
  rfl
/-- The middle, as the library reckons it. -/
theorem mid1 {i j : Nat} (h : i + j < 9223372036854775808) : IntKind.i64.wrap (sh (IntKind.u64.wrap (IntKind.i64.wrap ((i : Int) + (j : Int)))) 1) = (((i + j) / 2 : Nat) : Int) := by
  rw [wr (x := (i : Int) + (j : Int)) (by omega) (by omega), show (i : Int) + (j : Int) = ((i + j : Nat) : Int) by omega, u64w h, sh1, wr (by omega) (by omega)]
/-- The middle, by division. -/
theorem mid2 {i j : Nat} (h : i + j < 9223372036854775808) : IntKind.i64.wrap (Int.tdiv (IntKind.i64.wrap ((i : Int) + (j : Int))) 2) = (((i + j) / 2 : Nat) : Int) := by
  rw [wr (x := (i : Int) + (j : Int)) (by omega) (by omega), show (i : Int) + (j : Int) = ((i + j : Nat) : Int) by omega, show Int.tdiv ((i + j : Nat) : Int) 2 = (((i + j) / 2 : Nat) : Int) from rfl, wr (by omega) (by omega)]
/-- Bisection ends where the first stands that is not less. -/
theorem bis_loop (O : Lin α) {L : Nat → Int × Int → Option Int} {s : List α} {t : α} (h1 : ∀ (c i j : Nat) (h : i < j) (hj : j ≤ s.length), L (c + 1) ((i : Int), (j : Int)) = if O.lt (s[(i + j) / 2]'(by omega)) t then L c ((((i + j) / 2 + 1 : Nat) : Int), (j : Int)) else L c ((i : Int), (((i + j) / 2 : Nat) : Int)))
    (h2 : ∀ c (i : Nat), L (c + 1) ((i : Int), (i : Int)) = some (i : Int)) (hs : O.Rises s) : ∀ (c i j : Nat), i ≤ j → j ≤ s.length → j - i < c → (∀ (q : Nat) (h : q < s.length), q < i → O.lt s[q] t = true) → (∀ (q : Nat) (h : q < s.length), j ≤ q → O.lt s[q] t = false) →
      ∃ k : Nat, L c ((i : Int), (j : Int)) = some (k : Int) ∧ k ≤ s.length ∧ (∀ (q : Nat) (h : q < s.length), q < k → O.lt s[q] t = true) ∧ (∀ (q : Nat) (h : q < s.length), k ≤ q → O.lt s[q] t = false)
  | 0, _, _, _, _, h, _, _ => by omega
  | c + 1, i, j, hij, hj, hc, ha, hb => by
    have hp := List.pairwise_iff_getElem.1 hs
    by_cases h : i < j
    · rw [h1 c i j h hj]
      cases e : O.lt (s[(i + j) / 2]'(by omega)) t with
      | true =>
        rw [if_pos rfl]
        refine bis_loop O h1 h2 hs c _ _ (by omega) hj (by omega) (fun q hq hqi => ?_) hb
        rcases Nat.lt_or_ge q ((i + j) / 2) with hq2 | hq2
        · exact O.trans (hp q _ hq (by omega) hq2) e
        · have : q = (i + j) / 2 := by omega
          subst this
          exact e
      | false =>
        rw [if_neg (by decide)]
        refine bis_loop O h1 h2 hs c _ _ (by omega) (by omega) (by omega) ha (fun q hq hqi => ?_)
        rcases Nat.lt_or_ge ((i + j) / 2) q with hq2 | hq2
        · cases e2 : O.lt s[q] t with
          | false => rfl
          | true =>
            rw [O.trans (hp _ q (by omega) hq hq2) e2] at e
            cases e
        · have : q = (i + j) / 2 := by omega
          subst this
          exact e
    · have : i = j := by omega
      subst this
      rw [h2]
      exact ⟨i, rfl, hj, ha, hb⟩
/-- Where bisection ended tells whether it is there. -/
theorem bis_mem [DecidableEq α] (O : Lin α) {s : List α} {t : α} {k : Nat} (hk : k ≤ s.length) (ha : ∀ (q : Nat) (h : q < s.length), q < k → O.lt s[q] t = true) (hb : ∀ (q : Nat) (h : q < s.length), k ≤ q → O.lt s[q] t = false) (hs : O.Rises s) :
    (k = s.length ∧ t ∉ s) ∨ ∃ h : k < s.length, decide (s[k] = t) = decide (t ∈ s) := by
  have hp := List.pairwise_iff_getElem.1 hs
  rcases Nat.lt_or_ge k s.length with h | h
  · refine .inr ⟨h, ?_⟩
    by_cases e : s[k] = t
    · have : t ∈ s := e ▸ List.getElem_mem h
      simp [e, this]
    · have hn : t ∉ s := by
        intro hm
        obtain ⟨q, hq, e2⟩ := List.getElem_of_mem hm
        rcases Nat.lt_trichotomy q k with h3 | h3 | h3
        · have := ha q hq h3
          rw [e2, O.irrefl] at this
          cases this
        · subst h3
          exact e e2
        · have h4 := hp k q h hq h3
          have h5 := hb k h (Nat.le_refl _)
          rw [e2, h5] at h4
          cases h4
      simp [e, hn]
  · refine .inl ⟨by omega, fun hm => ?_⟩
    obtain ⟨q, hq, e2⟩ := List.getElem_of_mem hm
    have := ha q hq (by omega)
    rw [e2, O.irrefl] at this
    cases this
/-- Does a list rise? -/
def riseB (O : Lin α) : List α → Bool
  | [] => true
  | [_] => true
  | x :: y :: r => O.lt x y && riseB O (y :: r)
theorem rise_loop (O : Lin α) {L : Nat → Int → Option (Unit ⊕ Bool)} {xs : List α} (h1 : ∀ (c i : Nat) (h : i + 1 < xs.length), L (c + 1) ((i + 1 : Nat) : Int) = if O.lt xs[i] xs[i + 1] then L c ((i + 2 : Nat) : Int) else some (.inr false))
    (h2 : ∀ (c i : Nat), xs.length ≤ i → L (c + 1) (i : Int) = some (.inl ())) : ∀ (c i : Nat), i ≤ xs.length → xs.length - i < c → L c ((i + 1 : Nat) : Int) = some (if riseB O (xs.drop i) then .inl () else .inr false)
  | 0, _, _, h => by omega
  | c + 1, i, hi, hc => by
    by_cases h : i + 1 < xs.length
    · rw [h1 c i h, List.drop_eq_getElem_cons (show i < xs.length by omega), List.drop_eq_getElem_cons h, riseB, rise_loop O h1 h2 c (i + 1) (by omega) (by omega), List.drop_eq_getElem_cons h]
      cases O.lt xs[i] xs[i + 1] <;> simp
    · rw [h2 _ _ (by omega)]
      have : riseB O (xs.drop i) = true := by
        match e : xs.drop i with
        | [] => rfl
        | [x] => rfl
        | x :: y :: r =>
          have := congrArg List.length e
          rw [List.length_drop, List.length_cons, List.length_cons] at this
          omega
      rw [if_pos this]
/-- One rising list without another, side by side. -/
def wo [DecidableEq α] (O : Lin α) : List α → List α → List α
  | [], _ => []
  | x :: a, b => if (b.dropWhile fun y => O.lt y x).head? = some x then wo O a (b.dropWhile fun y => O.lt y x) else x :: wo O a (b.dropWhile fun y => O.lt y x)
theorem mem_dw (O : Lin α) {x z : α} (h : O.lt z x = false) : ∀ {b : List α}, z ∈ b.dropWhile (fun y => O.lt y x) ↔ z ∈ b
  | [] => Iff.rfl
  | y :: b => by
    rw [List.dropWhile_cons]
    cases e : O.lt y x with
    | false => rw [if_neg (by decide)]
    | true =>
      rw [if_pos rfl, mem_dw O h, List.mem_cons]
      constructor
      · exact .inr
      · rintro (rfl | h2)
        · rw [h] at e
          cases e
        · exact h2
theorem rises_dw (O : Lin α) (x : α) {b : List α} (h : O.Rises b) : O.Rises (b.dropWhile fun y => O.lt y x) := h.sublist (List.dropWhile_sublist _)
theorem head_dw [DecidableEq α] (O : Lin α) {x : α} {b : List α} (h : O.Rises b) : (b.dropWhile fun y => O.lt y x).head? = some x ↔ x ∈ b := by
  rw [← mem_dw O (O.irrefl x)]
  have hr := rises_dw O x h
  have hh : ∀ y, (b.dropWhile fun y => O.lt y x).head? = some y → O.lt y x = false := fun y e => by
    have := List.head?_dropWhile_not (fun y => O.lt y x) b
    rw [e] at this
    simpa using this
  generalize b.dropWhile (fun y => O.lt y x) = d at *
  cases d with
  | nil => simp
  | cons y r =>
    have h1 := hh y rfl
    rw [List.head?_cons, Option.some.injEq, List.mem_cons]
    constructor
    · rintro rfl; exact .inl rfl
    · rintro (rfl | h2)
      · rfl
      · have := (List.pairwise_cons.1 hr).1 x h2
        rw [h1] at this
        cases this
theorem wo_eq [DecidableEq α] (O : Lin α) : ∀ {a b : List α}, O.Rises a → O.Rises b → wo O a b = a.filter fun x => decide (x ∉ b)
  | [], _, _, _ => rfl
  | x :: a, b, ha, hb => by
    obtain ⟨h1, h2⟩ := List.pairwise_cons.1 ha
    have ih := wo_eq O h2 (rises_dw O x hb)
    have e : (a.filter fun z => decide (z ∉ b.dropWhile fun y => O.lt y x)) = a.filter fun z => decide (z ∉ b) := by
      refine List.filter_congr fun z hz => ?_
      have := mem_dw (b := b) O (O.asymm (h1 z hz))
      simp only [this]
    rw [wo, ih, e, List.filter_cons]
    by_cases h : x ∈ b
    · rw [if_pos ((head_dw O hb).2 h), if_neg (by simp [h])]
    · rw [if_neg fun k => h ((head_dw O hb).1 k), if_pos (by simp [h])]
end Go.Proofs.Ytedgdpncienjiaa.Ab
