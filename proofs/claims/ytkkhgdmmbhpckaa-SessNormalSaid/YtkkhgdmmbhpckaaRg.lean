/-
 What is below what: pairs added one by one, ranks of pairs without a ring, the pairs that are needed. No program in sight.
-/
import Derived.Test.YtkkhgdmmbhpckaaRe
namespace Go.Proofs.Ytkkhgdmmbhpckaa.Ab
open Go.RowKit
attribute [local instance] baLawful
theorem dn_sub {l m : List GPair} (h : ∀ x ∈ l, x ∈ m) {u v : ByteArray} (k : Dn l u v) : Dn m u v := k.mono fun _ _ hy => Rch.refl.step (mem_sB.2 (h _ (mem_sB.1 hy)))
theorem dn_app {l : List GPair} {p : GPair} {u v : ByteArray} (h : Dn (l ++ [p]) u v) : Dn l u v ∨ (Dn l u p.a ∧ Dn l p.b v) := by
 induction h with
 | refl => exact .inl .refl
 | step h hc ih =>
  rcases List.mem_append.1 (mem_sB.1 hc) with hc | hc
  ·exact ih.imp (fun ih => ih.step (mem_sB.2 hc)) fun ih => ⟨ih.1, ih.2.step (mem_sB.2 hc)⟩
  ·obtain rfl := List.mem_singleton.1 hc
   exact .inr ⟨ih.elim id fun ih => ih.1, .refl⟩
theorem ring_app {l : List GPair} {p : GPair} (h : RingP (l ++ [p])) : RingP l ∨ Dn l p.b p.a := by
 obtain ⟨x, hx, hd⟩ := h
 rcases List.mem_append.1 hx with hx | hx
 ·rcases dn_app hd with hd | ⟨h1, h2⟩
  ·exact .inl ⟨x, hx, hd⟩
  ·exact .inr (h2.trans (Rch.head (mem_sB.2 hx) h1))
 ·obtain rfl := List.mem_singleton.1 hx
  exact .inr ((dn_app hd).elim id fun h => h.1)
theorem ring_of {l m : List GPair} {p : GPair} (h : ∀ x ∈ l, x ∈ m) (hp : p ∈ m) (hd : Dn l p.b p.a) : RingP m := ⟨p, hp, dn_sub h hd⟩
theorem countP_lt {α : Type} {p q : α → Bool} : ∀ {l : List α}, (∀ x ∈ l, p x = true → q x = true) → (∃ x ∈ l, q x = true ∧ p x = false) → l.countP p < l.countP q
 | [], _, ⟨x, hx, _⟩ => by cases hx
 | y :: l, h, ⟨x, hx, h1, h2⟩ => by
  have hle : l.countP p ≤ l.countP q := List.countP_mono_left fun z hz => h z (List.mem_cons_of_mem _ hz)
  have hy := h y (List.mem_cons_self ..)
  rcases List.mem_cons.1 hx with rfl | hx
  ·rw [List.countP_cons_of_pos h1, List.countP_cons_of_neg (by rw [h2]; decide)]
   omega
  ·have ih := countP_lt (l := l) (fun z hz => h z (List.mem_cons_of_mem _ hz)) ⟨x, hx, h1, h2⟩
   rw [List.countP_cons, List.countP_cons]
   cases hp : p y with
   | false =>
    rw [if_neg (by decide)]
    split <;> omega
   | true =>
    rw [if_pos rfl, if_pos (hy hp)]
    omega
section
variable {P M : List GPair} {rk : ByteArray → Nat} (hr : ∀ p ∈ P, rk p.a < rk p.b)
include hr in
theorem dn_le {a b : ByteArray} (h : Dn P a b) : rk a ≤ rk b ∧ (a = b ∨ rk a < rk b) := by
 induction h with
 | refl => exact ⟨Nat.le_refl _, .inl rfl⟩
 | step _ hc ih =>
  have := hr _ (mem_sB.1 hc)
  simp only at this
  exact ⟨by omega, .inr (by omega)⟩
include hr in
theorem part_dn {s : ByteArray} {B : Nat} (hE : ∀ u v, (⟨u, v⟩ : GPair) ∈ P → rk s ≤ rk u → rk v ≤ B → Dn M u v) {t : ByteArray} (h : Dn P s t) : rk t ≤ B → Dn M s t := by
 induction h with
 | refl => exact fun _ => .refl
 | step h hc ih =>
  intro hB
  have he := mem_sB.1 hc
  have h1 := hr _ he
  have h2 := (dn_le hr h).1
  simp only at h1
  exact (ih (by omega)).trans (hE _ _ he h2 hB)
include hr in
theorem all_said (hM : ∀ x, x ∈ M ↔ x ∈ P ∧ ¬ SaidP P x) : ∀ (D : Nat) (p : GPair), p ∈ P → rk p.b - rk p.a ≤ D → Dn M p.a p.b
 | 0, p, hp, h => by
  have := hr p hp
  omega
 | D + 1, p, hp, h => by
  by_cases hs : SaidP P p
  ·obtain ⟨s, h1, h2, h3⟩ := hs
   have a1 := hr _ h1
   simp only at a1
   obtain ⟨b1, b2⟩ := dn_le hr h3
   have b3 : rk s < rk p.b := b2.resolve_left h2
   refine (all_said hM D ⟨p.a, s⟩ h1 (by simp only; omega)).trans ?_
   refine part_dn hr (B := rk p.b) (fun u v he hu hv => ?_) h3 (Nat.le_refl _)
   have he2 := hr _ he
   simp only at he2
   have hu2 : rk s ≤ rk u := hu
   exact all_said hM D ⟨u, v⟩ he (by simp only; omega)
  ·exact Rch.refl.step (mem_sB.2 ((hM p).2 ⟨hp, hs⟩))
end
open Classical in
noncomputable def rkU (P : List GPair) (x : ByteArray) : Nat := ((P.map fun p => p.a) ++ P.map fun p => p.b).countP fun y => decide (Dn P x y)
open Classical in
theorem rkU_lt {P : List GPair} (h : ¬ RingP P) {p : GPair} (hp : p ∈ P) : rkU P p.b < rkU P p.a := by
 refine countP_lt (fun x _ hx => ?_) ⟨p.a, List.mem_append_left _ (List.mem_map.2 ⟨p, hp, rfl⟩), ?_, ?_⟩
 ·exact decide_eq_true (Rch.head (mem_sB.2 hp) (of_decide_eq_true hx))
 ·exact decide_eq_true .refl
 ·exact decide_eq_false fun hd => h ⟨p, hp, hd⟩
theorem rk_of {P : List GPair} (h : ¬ RingP P) : ∃ rk : ByteArray → Nat, ∀ p ∈ P, rk p.a < rk p.b := by
 refine ⟨fun x => ((P.map fun p => p.a) ++ P.map fun p => p.b).length - rkU P x, fun p hp => ?_⟩
 have h1 := rkU_lt h hp
 have h2 : rkU P p.a ≤ ((P.map fun p => p.a) ++ P.map fun p => p.b).length := List.countP_le_length
 simp only
 omega
theorem dn_least {P M : List GPair} (h : ¬ RingP P) (hM : ∀ x, x ∈ M ↔ x ∈ P ∧ ¬ SaidP P x) (u v : ByteArray) : Dn M u v ↔ Dn P u v := by
 obtain ⟨rk, hr⟩ := rk_of h
 exact ⟨dn_sub fun x hx => ((hM x).1 hx).1, fun k => k.mono fun x y hy => all_said hr hM _ ⟨x, y⟩ (mem_sB.1 hy) (Nat.le_refl _)⟩
theorem said_but {P : List GPair} (h : ¬ RingP P) (hnd : P.Nodup) {i : Nat} (hi : i < P.length) : Dn (P.eraseIdx i) P[i].a P[i].b ↔ SaidP P P[i] := by
 have hx : P[i] ∈ P := List.getElem_mem hi
 have hne : ∀ y, y ∈ P.eraseIdx i ↔ y ∈ P ∧ y ≠ P[i] := by
  intro y
  rw [List.mem_eraseIdx_iff_getElem]
  constructor
  ·rintro ⟨j, hj, k, rfl⟩
   exact ⟨List.getElem_mem hj, fun e => k ((List.getElem_inj hnd).1 e)⟩
  ·rintro ⟨h1, h2⟩
   obtain ⟨j, hj, rfl⟩ := List.getElem_of_mem h1
   exact ⟨j, hj, fun e => h2 (by subst e; rfl), rfl⟩
 constructor
 ·intro hd
  rcases Rch.first hd with e | ⟨s, h1, h2⟩
  ·exact absurd ⟨P[i], hx, by rw [e]; exact .refl⟩ h
  ·have h1 := (hne _).1 (mem_sB.1 h1)
   exact ⟨s, h1.1, fun e => h1.2 (by rw [e]), dn_sub (fun y hy => ((hne y).1 hy).1) h2⟩
 ·rintro ⟨s, h1, h2, h3⟩
  have hs : ¬ Dn P s P[i].a := fun hd => h ⟨_, h1, hd⟩
  have h4 : ∀ {t}, Dn P s t → Dn (P.eraseIdx i) s t := by
   intro t ht
   induction ht with
   | refl => exact .refl
   | step hb hc ih =>
    refine ih.step (mem_sB.2 ((hne _).2 ⟨mem_sB.1 hc, fun e => hs ?_⟩))
    rw [← e]
    exact hb
  exact Rch.head (mem_sB.2 ((hne _).2 ⟨h1, fun e => h2 (by rw [← e])⟩)) (h4 h3)
end Go.Proofs.Ytkkhgdmmbhpckaa.Ab
