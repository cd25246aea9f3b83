/-
 What is below what: pairs added one by one, ranks of pairs without a ring, the pairs that are needed. No program in sight.
-/
import Derived.Test.YtkkhgdmmbhpckaaGreatRd
namespace Go.Proofs.YtkkhgdmmbhpckaaGreat.Ab
open Go.RowKit
attribute [local instance] baLawful
theorem dn_sub {l m : List GPair} (h : ∀ x ∈ l, x ∈ m) {u v : ByteArray} (k : Dn l u v) : Dn m u v := k.mono fun _ _ hy => Rch.refl.step (mem_sB.2 (h _ (mem_sB.1 hy)))
theorem countP_lt {α : Type} {p q : α → Bool} : ∀ {l : List α}, (∀ x ∈ l, p x = true → q x = true) → (∃ x ∈ l, q x = true ∧ p x = false) → l.countP p < l.countP q
 | [], _, ⟨x, hx, _⟩ => by cases hx
 | y :: l, h, ⟨x, hx, h1, h2⟩ => by
  have hle : l.countP p ≤ l.countP q := List.countP_mono_left fun z hz => h z (List.mem_cons_of_mem _ hz)
  have hy := h y (List.mem_cons_self ..)
  rcases List.mem_cons.1 hx with rfl | hx
  ·rw [List.countP_cons_of_pos h1, List.countP_cons_of_neg (by rw [h2]; decide)]
   omega
  ·have ih := countP_lt (l := l) (fun z hz => h z (List.mem_cons_of_mem _ hz)) ⟨x, hx, h1, h2⟩
   rw [List.countP_cons, List.countP_cons]
   cases hp : p y with
   | false =>
    rw [if_neg (by decide)]
    split <;> omega
   | true =>
    rw [if_pos rfl, if_pos (hy hp)]
    omega
section
variable {P M : List GPair} {rk : ByteArray → Nat} (hr : ∀ p ∈ P, rk p.a < rk p.b)
include hr in
theorem dn_le {a b : ByteArray} (h : Dn P a b) : rk a ≤ rk b ∧ (a = b ∨ rk a < rk b) := by
 induction h with
 | refl => exact ⟨Nat.le_refl _, .inl rfl⟩
 | step _ hc ih =>
  have := hr _ (mem_sB.1 hc)
  simp only at this
  exact ⟨by omega, .inr (by omega)⟩
include hr in
theorem part_dn {s : ByteArray} {B : Nat} (hE : ∀ u v, (⟨u, v⟩ : GPair) ∈ P → rk s ≤ rk u → rk v ≤ B → Dn M u v) {t : ByteArray} (h : Dn P s t) : rk t ≤ B → Dn M s t := by
 induction h with
 | refl => exact fun _ => .refl
 | step h hc ih =>
  intro hB
  have he := mem_sB.1 hc
  have h1 := hr _ he
  have h2 := (dn_le hr h).1
  simp only at h1
  exact (ih (by omega)).trans (hE _ _ he h2 hB)
include hr in
theorem all_said (hM : ∀ x, x ∈ M ↔ x ∈ P ∧ ¬ Said P x) : ∀ (D : Nat) (p : GPair), p ∈ P → rk p.b - rk p.a ≤ D → Dn M p.a p.b
 | 0, p, hp, h => by
  have := hr p hp
  omega
 | D + 1, p, hp, h => by
  by_cases hs : Said P p
  ·obtain ⟨s, h1, h2, h3⟩ := hs
   have a1 := hr _ h1
   simp only at a1
   obtain ⟨b1, b2⟩ := dn_le hr h3
   have b3 : rk s < rk p.b := b2.resolve_left h2
   refine (all_said hM D ⟨p.a, s⟩ h1 (by simp only; omega)).trans ?_
   refine part_dn hr (B := rk p.b) (fun u v he hu hv => ?_) h3 (Nat.le_refl _)
   have he2 := hr _ he
   simp only at he2
   have hu2 : rk s ≤ rk u := hu
   exact all_said hM D ⟨u, v⟩ he (by simp only; omega)
  ·exact Rch.refl.step (mem_sB.2 ((hM p).2 ⟨hp, hs⟩))
end
open Classical in
/-- How far above the end a name stands. -/
noncomputable def rkU (P : List GPair) (x : ByteArray) : Nat := ((P.map fun p => p.a) ++ P.map fun p => p.b).countP fun y => decide (Dn P x y)
open Classical in
theorem rkU_lt {P : List GPair} (h : ¬ RingP P) {p : GPair} (hp : p ∈ P) : rkU P p.b < rkU P p.a := by
 refine countP_lt (fun x _ hx => ?_) ⟨p.a, List.mem_append_left _ (List.mem_map.2 ⟨p, hp, rfl⟩), ?_, ?_⟩
 ·exact decide_eq_true (Rch.head (mem_sB.2 hp) (of_decide_eq_true hx))
 ·exact decide_eq_true .refl
 ·exact decide_eq_false fun hd => h ⟨p, hp, hd⟩
theorem rk_of {P : List GPair} (h : ¬ RingP P) : ∃ rk : ByteArray → Nat, ∀ p ∈ P, rk p.a < rk p.b := by
 refine ⟨fun x => ((P.map fun p => p.a) ++ P.map fun p => p.b).length - rkU P x, fun p hp => ?_⟩
 have h1 := rkU_lt h hp
 have h2 : rkU P p.a ≤ ((P.map fun p => p.a) ++ P.map fun p => p.b).length := List.countP_le_length
 simp only
 omega
/-- Without a ring the pairs that are needed say all. -/
theorem dn_least {P M : List GPair} (h : ¬ RingP P) (hM : ∀ x, x ∈ M ↔ x ∈ P ∧ ¬ Said P x) (u v : ByteArray) : Dn M u v ↔ Dn P u v := by
 obtain ⟨rk, hr⟩ := rk_of h
 exact ⟨dn_sub fun x hx => ((hM x).1 hx).1, fun k => k.mono fun x y hy => all_said hr hM _ ⟨x, y⟩ (mem_sB.1 hy) (Nat.le_refl _)⟩
end Go.Proofs.YtkkhgdmmbhpckaaGreat.Ab
