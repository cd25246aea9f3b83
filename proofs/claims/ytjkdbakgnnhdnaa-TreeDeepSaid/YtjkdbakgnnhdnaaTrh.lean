/-
 Small steps for what is drawn and what grows.
-/
import Derived.Test.YtjkdbakgnnhdnaaSgs
import Derived.Test.YtjkdbakgnnhdnaaAbL
namespace Go.Proofs.Ytjkdbakgnnhdnaa.Ab
open Go.RowKit
def mpRec (f : Nat → Nat) (a : Rec) : Rec := ⟨a.ids.map f, a.ks.map f, a.g⟩
theorem meet_mp {f : Nat → Nat} {xs ys : List Nat} (h : meet xs ys = true) : meet (xs.map f) (ys.map f) = true := by
 unfold meet at h ⊢
 simp only [List.any_eq_true, List.mem_map, List.contains_iff_mem] at h ⊢
 obtain ⟨i, hi, hk⟩ := h
 exact ⟨_, ⟨i, hi, rfl⟩, ⟨i, hk, rfl⟩⟩
theorem confl_mp {f : Nat → Nat} {a b : Rec} (ha : a.g = false) (hb : b.g = false) (h : confl a b = true) : confl (mpRec f a) (mpRec f b) = true := by
 simp only [confl, confl0, wild, ha, hb, Bool.or_eq_true, Bool.false_and, Bool.false_eq_true, or_false] at h
 apply confl_of0
 simp only [confl0, Bool.or_eq_true]
 rcases h with h | h
 ·have := meet_mp (f := f) h
  rw [List.map_append] at this
  exact .inl (.inl this)
 ·exact .inl (.inr (meet_mp h))
theorem okAll_mp {f : Nat → Nat} {ops : Array Oper} {rs : List Rec} (hg : rs.all (fun a => !a.g) = true) (h : okAll ops (rs.map (mpRec f)) = true) : okAll ops rs = true := by
 have hg : ∀ a ∈ rs, a.g = false := by simpa using hg
 simp only [okAll, okPairs, Bool.and_eq_true, List.all_eq_true] at h ⊢
 refine ⟨h.1, fun j hj i hi => ?_⟩
 have h1 := h.2 j hj i hi
 rw [List.getElem?_map, List.getElem?_map] at h1
 cases hx : rs[i]? with
 | none =>
  rw [hx] at h1
  exact h1
 | some a =>
  cases hy : rs[j]? with
  | none =>
   rw [hx, hy] at h1
   exact h1
  | some b =>
   rw [hx, hy] at h1
   simp only [Option.map_some] at h1 ⊢
   cases hc : confl a b with
   | false =>
    rw [Bool.or_eq_true] at h1 ⊢
    rcases h1 with h1 | h1
    ·exact .inl h1
    ·refine .inr ?_
     rw [Bool.and_eq_true] at h1 ⊢
     exact ⟨h1.1, rfl⟩
   | true =>
    rw [confl_mp (hg a (List.mem_of_getElem? hx)) (hg b (List.mem_of_getElem? hy)) hc] at h1
    simpa using h1
theorem Rd_endM {P : Program} {tab : Nat → TI} {ops : Array Oper} {nx0 nx i : Nat} {k : List It} {Q : Ex → St → Prop} {acc : List Rec} {fr : Fr} {hp : Hp} (f : Nat → Nat) (rs : List Rec) (hr : acc.reverse.map (mpRec f) = rs) (h1 : okFast ops rs = true) (hg : acc.reverse.all (fun a => !a.g) = true) (h2 : run P tab k Q ⟨fr, hp, nx⟩) : Rd P tab ops nx0 nx k Q i [] acc fr hp :=
 ⟨okAll_mp hg (okFast_ok (hr ▸ h1)), h2⟩
theorem lt_new {hp : Hp} {nx i : Nat} {o : AO} (hf : ∀ j, nx ≤ j → hp j = none) (h : hp i = some o) : i < nx := by
 rcases Nat.lt_or_ge i nx with h1 | h1
 ·exact h1
 ·have := hf i h1
  rw [h] at this
  cases this
theorem wkI {n nx : Nat} {fr fr' : Fr} {hp : Hp} (h : ∀ t, fr' t = .un ∨ fr' t = fr t) : WeakR n ⟨fr', hp, nx⟩ ⟨fr, hp, nx⟩ := .weak ⟨h, fun _ => .inr rfl, Nat.le_refl _⟩
def nw4 (a b c d i : Nat) : Nat := if i = a then 1 else if i = b then 2 else if i = c then 3 else if i = d then 4 else 0
theorem w64 {n : Nat} (h : n < 4611686018427387904) : IntKind.i64.wrap (n : Int) = (n : Int) := IntWalk.i64_in _ (by omega)
theorem w64a {n : Nat} (h : n + 1 < 4611686018427387904) : IntKind.i64.wrap ((n : Int) + 1) = ((n + 1 : Nat) : Int) := by
 rw [show (n : Int) + 1 = ((n + 1 : Nat) : Int) by omega]
 exact w64 h
end Go.Proofs.Ytjkdbakgnnhdnaa.Ab
