/-
 Facts in their order: how one is put among those that rise. No program in sight.
-/
import Derived.Test.YtkkhgdmmbhpckaaPrq
import Derived.Test.YtkkhgdmmbhpckaaSnp
namespace Go.Proofs.Ytkkhgdmmbhpckaa.Ab
open Go.RowKit
def restF (x : GFact) : List ByteArray := if x.kind = 6 ∨ x.kind = 7 then x.l else if x.kind = 8 then x.b :: x.l else [x.b, x.c]
def cmpF : GFact → GFact → Int := lex (fun x y => cmI x.kind y.kind) (lex (fun x y => cmS x.a y.a) (lex (fun x y => cmI x.n_ y.n_) (fun x y => cmL (restF x) (restF y))))
theorem pre_cmpF : Pre cmpF := Pre.lex (pre_cmI fun x : GFact => x.kind) (Pre.lex (pre_cmS fun x : GFact => x.a) (Pre.lex (pre_cmI fun x : GFact => x.n_) (pre_cmL restF)))
def CanF (x : GFact) : Prop := x.at_ = 0 ∧ (x.kind = 6 ∨ x.kind = 7 → x.b = ByteArray.empty ∧ x.c = ByteArray.empty) ∧ (x.kind = 8 → x.c = ByteArray.empty) ∧ (¬ (x.kind = 6 ∨ x.kind = 7 ∨ x.kind = 8) → x.l = []) ∧ (x.kind = 3 → x.n_ = 0 ∧ x.c = ByteArray.empty)
theorem cmpF_zero {x y : GFact} (hx : CanF x) (hy : CanF y) (h : cmpF x y = 0) : x = y := by
 obtain ⟨h1, h⟩ := lex_zero h
 obtain ⟨h2, h⟩ := lex_zero h
 obtain ⟨h3, h⟩ := lex_zero h
 have h1 : x.kind = y.kind := cmI_zero h1
 have h2 : x.a = y.a := (cm_zero _ _).1 h2
 have h3 : x.n_ = y.n_ := cmI_zero h3
 have h4 : restF x = restF y := cmL_zero h
 obtain ⟨x1, x2, x3, x4, _⟩ := hx
 obtain ⟨y1, y2, y3, y4, _⟩ := hy
 obtain ⟨xk, xa, xb, xc, xn, xl, xt⟩ := x
 obtain ⟨yk, ya, yb, yc, yn, yl, yt⟩ := y
 unfold restF at h4
 dsimp only at *
 subst h1 h2 h3 x1 y1
 by_cases k6 : xk = 6 ∨ xk = 7
 ·rw [if_pos k6, if_pos k6] at h4
  obtain ⟨rfl, rfl⟩ := x2 k6
  obtain ⟨rfl, rfl⟩ := y2 k6
  rw [h4]
 ·rw [if_neg k6, if_neg k6] at h4
  by_cases k8 : xk = 8
  ·rw [if_pos k8, if_pos k8] at h4
   obtain ⟨rfl, rfl⟩ := List.cons.inj h4
   rw [x3 k8, y3 k8]
  ·rw [if_neg k8, if_neg k8] at h4
   obtain ⟨rfl, h5⟩ := List.cons.inj h4
   obtain ⟨rfl, _⟩ := List.cons.inj h5
   have hk : ¬ (xk = 6 ∨ xk = 7 ∨ xk = 8) := fun h => by
    rcases h with h | h | h
    ·exact k6 (.inl h)
    ·exact k6 (.inr h)
    ·exact k8 h
   rw [x4 hk, y4 hk]
def RisF (l : List GFact) : Prop := l.Pairwise fun x y => cmpF x y < 0
theorem ins_ok {out : List GFact} {x : GFact} {k : Nat} (hs : RisF out) (h1 : ∀ y ∈ out.drop k, cmpF x y < 0) (h2 : k = 0 ∨ ∃ y, out[k - 1]? = some y ∧ cmpF y x < 0) : RisF (out.take k ++ [x] ++ out.drop k) := by
 have hsp : (out.take k ++ out.drop k).Pairwise fun x y => cmpF x y < 0 := by rw [List.take_append_drop]; exact hs
 obtain ⟨s1, s2, s3⟩ := List.pairwise_append.1 hsp
 have hlow : ∀ a ∈ out.take k, cmpF a x < 0 := fun a ha => by
  obtain ⟨i, hi⟩ := List.getElem?_of_mem ha
  have hil := (List.getElem?_eq_some_iff.1 hi).1
  rw [List.length_take] at hil
  rw [List.getElem?_take, if_pos (by omega)] at hi
  rcases h2 with h2 | ⟨y, hy, hyx⟩
  ·omega
  ·by_cases e : i = k - 1
   ·rw [e, hy, Option.some.injEq] at hi
    rw [← hi]
    exact hyx
   ·obtain ⟨i1, i2⟩ := List.getElem?_eq_some_iff.1 hi
    obtain ⟨k1, k2⟩ := List.getElem?_eq_some_iff.1 hy
    have := List.pairwise_iff_getElem.1 hs i (k - 1) i1 k1 (by omega)
    rw [i2, k2] at this
    exact pre_cmpF.lt_trans this hyx
 refine List.pairwise_append.2 ⟨List.pairwise_append.2 ⟨s1, List.pairwise_singleton .., fun a ha b hb => ?_⟩, s2, fun a ha b hb => ?_⟩
 ·rw [List.mem_singleton.1 hb]
  exact hlow a ha
 ·rcases List.mem_append.1 ha with ha | ha
  ·exact s3 a ha b hb
  ·rw [List.mem_singleton.1 ha]
   exact h1 b hb
theorem ins_mem {out : List GFact} {x z : GFact} {k : Nat} : z ∈ out.take k ++ [x] ++ out.drop k ↔ z = x ∨ z ∈ out := by
 conv => rhs; rw [← List.take_append_drop k out]
 simp only [List.mem_append, List.mem_singleton]
 constructor
 ·rintro ((h | h) | h)
  ·exact .inr (.inl h)
  ·exact .inl h
  ·exact .inr (.inr h)
 ·rintro (h | h | h)
  ·exact .inl (.inr h)
  ·exact .inl (.inl h)
  ·exact .inr h
theorem facts_can {q : GRoles} {x : GFact} (hx : x ∈ factsP q) : CanF x := by
 rcases mem_facts.1 hx with ⟨u, hu, rfl⟩ | ⟨u, hu, rfl⟩ | ⟨u, hu, rfl⟩ | ⟨u, hu, rfl⟩ | ⟨u, hu, rfl⟩ | ⟨u, hu, rfl⟩ | ⟨u, hu, rfl⟩ | ⟨u, hu, rfl⟩
 ·exact ⟨rfl, fun h => (by rcases h with h | h <;> cases h), fun h => (by cases h), fun _ => rfl, fun h => (by cases h)⟩
 ·exact ⟨rfl, fun h => (by rcases h with h | h <;> cases h), fun h => (by cases h), fun _ => rfl, fun h => (by cases h)⟩
 ·exact ⟨rfl, fun h => (by rcases h with h | h <;> cases h), fun h => (by cases h), fun _ => rfl, fun _ => ⟨rfl, rfl⟩⟩
 ·exact ⟨rfl, fun h => (by rcases h with h | h <;> cases h), fun h => (by cases h), fun _ => rfl, fun h => (by cases h)⟩
 ·exact ⟨rfl, fun h => (by rcases h with h | h <;> cases h), fun h => (by cases h), fun _ => rfl, fun h => (by cases h)⟩
 ·exact ⟨rfl, fun _ => ⟨rfl, rfl⟩, fun h => (by cases h), fun h => absurd (.inl rfl) h, fun h => (by cases h)⟩
 ·exact ⟨rfl, fun _ => ⟨rfl, rfl⟩, fun h => (by cases h), fun h => absurd (.inr (.inl rfl)) h, fun h => (by cases h)⟩
 ·exact ⟨rfl, fun h => (by rcases h with h | h <;> cases h), fun _ => rfl, fun h => absurd (.inr (.inr rfl)) h, fun h => (by cases h)⟩
end Go.Proofs.Ytkkhgdmmbhpckaa.Ab
