/-
 SessNormal: the law. No program in sight.
-/
import Derived.Test.YtkkhgdmmbhpckaaSnt
import Derived.Test.YtkkhgdmmbhpckaaPz
namespace Go.Proofs.Ytkkhgdmmbhpckaa.Ab
open Go.RowKit
attribute [local instance] baLawful
theorem askN_tot {n : Nat} (k : Int) : ∃ q, law15_Ask n k = some q := by
 have h : Tot (law15_Ask n k) fun _ => True := by
  unfold law15_Ask
  refine tot_bind (tot_tm (m := 10) (by decide) rfl (Q := fun _ => True) fun _ _ => trivial) fun _ _ => ?_
  refine tot_bind (tot_tm (m := 3) (by decide) rfl (Q := fun _ => True) fun _ _ => trivial) fun _ _ => ?_
  exact tot_bind (tot_an (m := 7) rfl (by decide) rfl (Q := fun _ => True) fun _ _ => trivial) fun _ _ => tot_some trivial
 obtain ⟨q, h, _⟩ := h
 exact ⟨q, h⟩
theorem few_of {q : GRoles} (hl : (factsP q).length ≤ 4000) (hx : ∀ x ∈ factsP q, x.l.length ≤ 100000) : Few q := by
 have := few_ofF hl hx
 rw [of_facts] at this
 exact this
theorem law_normal {n : Nat} (hn : 1000000 ≤ n) (t0 : List Int) (t1 : Int) : law15_SessNormal n t0 t1 = some true := by
 obtain ⟨s, f, a, e, e1, e2, hl, hx⟩ := made_tot (n := n) (by omega) t0
 have hx2 : ∀ x ∈ f, x.l.length ≤ 100000 := fun x h => by have := hx x h; omega
 have aw : law15_awake n = some true := rfl
 unfold law15_SessNormal
 rw [e1, Zo, e2, Zo]
 dsimp only
 by_cases h0 : e = 0
 ·obtain ⟨a2, g, v1, v2, _⟩ := valid_some (n := n) (by omega) (l := f) (by omega) hx2
  rw [show (e != 0) = false by simp [h0], if_neg (by decide), v1, Zo]
  dsimp only
  by_cases h1 : g = 0
  ·have hv := v2.1 h1
   have hf := few_ofF (l := f) (by omega) hx2
   obtain ⟨q, q1, q2, q3, q4⟩ := normal_some (n := n) (l := f) (by omega) hl hx2 hv.ring
   have hlk : Lik (ofF f) q := lik_normal hv.ring q2
   have hvq := valid_like hv hlk
   have hfq : Few q := few_of (by omega) q4
   have hsm : Sml 4000 q := by
    have hs := factsP_len q
    refine ⟨by omega, by omega, by omega, by omega, by omega, by omega, by omega, by omega, fun d h => q4 (fS d) (mem_facts.2 ?_), fun d h => q4 (fD d) (mem_facts.2 ?_), fun d h => q4 (fE d) (mem_facts.2 ?_)⟩
    ·exact .inr (.inr (.inr (.inr (.inr (.inl ⟨d, h, rfl⟩)))))
    ·exact .inr (.inr (.inr (.inr (.inr (.inr (.inl ⟨d, h, rfl⟩))))))
    ·exact .inr (.inr (.inr (.inr (.inr (.inr (.inr ⟨d, h, rfl⟩))))))
   have f1 := (facts_some (n := n) (by omega) (by omega) hsm).1
   obtain ⟨b2, w, w1, w2, w3⟩ := valid_some (n := n) (by omega) (l := factsP q) (by omega) q4
   have hw : w = 0 := w2.2 hvq
   have hb : b2 = 0 := w3 hw
   subst hw hb
   obtain ⟨k, k1⟩ := askN_tot (n := n) t1
   obtain ⟨m1, m2, m3⟩ := may_some (n := n) (by omega) hfq k.who k.act k.obj
   obtain ⟨p1, p2, p3⟩ := may_some (n := n) (by omega) hf k.who k.act k.obj
   obtain ⟨i1, i2, i3⟩ := mayIn_some (n := n) (by omega) hfq k.who k.act k.obj
   obtain ⟨j1, j2, j3⟩ := mayIn_some (n := n) (by omega) hf k.who k.act k.obj
   obtain ⟨r1, r2, r3, r4, r5⟩ := roles_some (n := n) (by omega) hfq k.who
   obtain ⟨s1, s2, s3, s4, s5⟩ := roles_some (n := n) (by omega) hf k.who
   have em : m1 = p1 := by
    rw [Bool.eq_iff_iff, m3, p3]
    exact may_like hlk ..
   have ei : i1 = j1 := by
    rw [Bool.eq_iff_iff, i3, j3]
    exact mayIn_like hv hlk ..
   have er : r1 = s1 := tx.ext r3 s3 fun y => by
    rw [r4, s4]
    exact rol_like hlk ..
   subst em ei er
   rw [show (g != 0) = false by simp [h1], if_neg (by decide), ofD_some (by omega) (by omega) fun x h => by have := hx x h; omega, Zo, q1, Zo, f1, Zo, w1, Zo, k1, Zo]
   dsimp only
   rw [show ((0 : Int) == 0) = true from rfl, if_pos rfl, if_pos rfl, m2, Zo, p2, Zo, beq_self_eq_true, if_pos rfl, i2, Zo, j2, Zo, beq_self_eq_true, if_pos rfl, r2, Zo, s2, Zo, sameTexts_some (by omega) (by omega), Zo, decide_eq_true rfl, if_pos rfl, aw]
   rfl
  ·rw [show (g != 0) = true by simp [h1], if_pos rfl, aw]
   rfl
 ·rw [show (e != 0) = true by simp [h0], if_pos rfl, aw]
  rfl
theorem law_normal_ex (a0 : List Int) (a1 : Int) (_ : a0.length ≤ maxLen ∧ ∀ y ∈ a0, (Lit.int .i64 y).wf = true) (_ : (Lit.int .i64 a1).wf = true) : ∃ n, law15_SessNormal n a0 a1 = some true := ⟨1000000, law_normal (Nat.le_refl _) a0 a1⟩
end Go.Proofs.Ytkkhgdmmbhpckaa.Ab
