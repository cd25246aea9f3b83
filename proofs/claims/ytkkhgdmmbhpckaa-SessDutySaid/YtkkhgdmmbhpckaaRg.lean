/-
  What is below what: pairs added one by one, ranks of pairs without a ring, the pairs that are needed. No program in sight.
-/
import Derived.Test.YtkkhgdmmbhpckaaRe
namespace Go.Proofs.Ytkkhgdmmbhpckaa.Ab
open Go.RowKit
attribute [local instance] baLawful
theorem dn_sub {l m : List GPair} (h : ∀ x ∈ l, x ∈ m) {u v : ByteArray} (k : Dn l u v) : Dn m u v := k.mono fun _ _ hy => Rch.refl.step (mem_sB.2 (h _ (mem_sB.1 hy)))
theorem dn_app {l : List GPair} {p : GPair} {u v : ByteArray} (h : Dn (l ++ [p]) u v) : Dn l u v ∨ (Dn l u p.a ∧ Dn l p.b v) := by
  induction h with
  | refl => exact .inl .refl
  | step h hc ih =>
    rcases List.mem_append.1 (mem_sB.1 hc) with hc | hc
    · exact ih.imp (fun ih => ih.step (mem_sB.2 hc)) fun ih => ⟨ih.1, ih.2.step (mem_sB.2 hc)⟩
    · obtain rfl := List.mem_singleton.1 hc
      exact .inr ⟨ih.elim id fun ih => ih.1, .refl⟩
theorem ring_app {l : List GPair} {p : GPair} (h : RingP (l ++ [p])) : RingP l ∨ Dn l p.b p.a := by
  obtain ⟨x, hx, hd⟩ := h
  rcases List.mem_append.1 hx with hx | hx
  · rcases dn_app hd with hd | ⟨h1, h2⟩
    · exact .inl ⟨x, hx, hd⟩
    · exact .inr (h2.trans (Rch.head (mem_sB.2 hx) h1))
  · obtain rfl := List.mem_singleton.1 hx
    exact .inr ((dn_app hd).elim id fun h => h.1)
theorem ring_of {l m : List GPair} {p : GPair} (h : ∀ x ∈ l, x ∈ m) (hp : p ∈ m) (hd : Dn l p.b p.a) : RingP m := ⟨p, hp, dn_sub h hd⟩
section
variable {P M : List GPair} {rk : ByteArray → Nat} (hr : ∀ p ∈ P, rk p.a < rk p.b)
end
end Go.Proofs.Ytkkhgdmmbhpckaa.Ab
