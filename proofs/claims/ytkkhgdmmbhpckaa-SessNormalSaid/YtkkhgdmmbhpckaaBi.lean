/-
 Loops over rising lists, in the words of the functions that are read off the code: bisection; does a list rise; one set without another.
-/
import Derived.Test.YtkkhgdmmbhpckaaPk
namespace Go.Proofs.Ytkkhgdmmbhpckaa.Ab
open Go.RowKit
variable {α : Type}
theorem u64w {a : Nat} (h : a < 9223372036854775808) : IntKind.u64.wrap (a : Int) = (a : Int) := by
 show ((a : Int) % 18446744073709551616) = _
 omega
theorem sh1 (a : Nat) : sh (a : Int) 1 = ((a / 2 : Nat) : Int) := by
 show (a : Int).fdiv 2 = _
 rw [Int.fdiv_eq_ediv_of_nonneg _ (by decide)]
 rfl
theorem mid1 {i j : Nat} (h : i + j < 9223372036854775808) : IntKind.i64.wrap (sh (IntKind.u64.wrap (IntKind.i64.wrap ((i : Int) + (j : Int)))) 1) = (((i + j) / 2 : Nat) : Int) := by
 rw [wr (x := (i : Int) + (j : Int)) (by omega) (by omega), show (i : Int) + (j : Int) = ((i + j : Nat) : Int) by omega, u64w h, sh1, wr (by omega) (by omega)]
theorem bis_loop (O : Lin α) {L : Nat → Int × Int → Option Int} {s : List α} {t : α} (h1 : ∀ (c i j : Nat) (h : i < j) (hj : j ≤ s.length), L (c + 1) ((i : Int), (j : Int)) = if O.lt (s[(i + j) / 2]'(by omega)) t then L c ((((i + j) / 2 + 1 : Nat) : Int), (j : Int)) else L c ((i : Int), (((i + j) / 2 : Nat) : Int)))
  (h2 : ∀ c (i : Nat), L (c + 1) ((i : Int), (i : Int)) = some (i : Int)) (hs : O.Rises s) : ∀ (c i j : Nat), i ≤ j → j ≤ s.length → j - i < c → (∀ (q : Nat) (h : q < s.length), q < i → O.lt s[q] t = true) → (∀ (q : Nat) (h : q < s.length), j ≤ q → O.lt s[q] t = false) →
   ∃ k : Nat, L c ((i : Int), (j : Int)) = some (k : Int) ∧ k ≤ s.length ∧ (∀ (q : Nat) (h : q < s.length), q < k → O.lt s[q] t = true) ∧ (∀ (q : Nat) (h : q < s.length), k ≤ q → O.lt s[q] t = false)
 | 0, _, _, _, _, h, _, _ => by omega
 | c + 1, i, j, hij, hj, hc, ha, hb => by
  have hp := List.pairwise_iff_getElem.1 hs
  by_cases h : i < j
  ·rw [h1 c i j h hj]
   cases e : O.lt (s[(i + j) / 2]'(by omega)) t with
   | true =>
    rw [if_pos rfl]
    refine bis_loop O h1 h2 hs c _ _ (by omega) hj (by omega) (fun q hq hqi => ?_) hb
    rcases Nat.lt_or_ge q ((i + j) / 2) with hq2 | hq2
    ·exact O.trans (hp q _ hq (by omega) hq2) e
    ·have : q = (i + j) / 2 := by omega
     subst this
     exact e
   | false =>
    rw [if_neg (by decide)]
    refine bis_loop O h1 h2 hs c _ _ (by omega) (by omega) (by omega) ha (fun q hq hqi => ?_)
    rcases Nat.lt_or_ge ((i + j) / 2) q with hq2 | hq2
    ·cases e2 : O.lt s[q] t with
     | false => rfl
     | true =>
      rw [O.trans (hp _ q (by omega) hq hq2) e2] at e
      cases e
    ·have : q = (i + j) / 2 := by omega
     subst this
     exact e
  ·have : i = j := by omega
   subst this
   rw [h2]
   exact ⟨i, rfl, hj, ha, hb⟩
theorem bis_mem [DecidableEq α] (O : Lin α) {s : List α} {t : α} {k : Nat} (hk : k ≤ s.length) (ha : ∀ (q : Nat) (h : q < s.length), q < k → O.lt s[q] t = true) (hb : ∀ (q : Nat) (h : q < s.length), k ≤ q → O.lt s[q] t = false) (hs : O.Rises s) :
  (k = s.length ∧ t ∉ s) ∨ ∃ h : k < s.length, decide (s[k] = t) = decide (t ∈ s) := by
 have hp := List.pairwise_iff_getElem.1 hs
 rcases Nat.lt_or_ge k s.length with h | h
 ·refine .inr ⟨h, ?_⟩
  by_cases e : s[k] = t
  ·have : t ∈ s := e ▸ List.getElem_mem h
   simp [e, this]
  ·have hn : t ∉ s := by
    intro hm
    obtain ⟨q, hq, e2⟩ := List.getElem_of_mem hm
    rcases Nat.lt_trichotomy q k with h3 | h3 | h3
    ·have := ha q hq h3
     rw [e2, O.irrefl] at this
     cases this
    ·subst h3
     exact e e2
    ·have h4 := hp k q h hq h3
     have h5 := hb k h (Nat.le_refl _)
     rw [e2, h5] at h4
     cases h4
   simp [e, hn]
 ·refine .inl ⟨by omega, fun hm => ?_⟩
  obtain ⟨q, hq, e2⟩ := List.getElem_of_mem hm
  have := ha q hq (by omega)
  rw [e2, O.irrefl] at this
  cases this
end Go.Proofs.Ytkkhgdmmbhpckaa.Ab
