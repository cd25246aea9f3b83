/-
  Small words on memory: a row that a literal made, a pointer at a known cell, a new block. No program in sight.
-/
import Derived.Test.YtdckfddlcmkdlaaFree
import Derived.Test.YtdckfddlcmkdlaaPl
import Derived.Deep.QuietTactic
import Derived.BigQuiet
namespace Go.Proofs.Ytdckfddlcmkdlaa
open Go.RowKit

namespace Mm
/-- The block b holds just these cells, none of them frozen. -/
def Bk (w : World) (b : Nat) (T : TypeId) (cs : List Value) : Prop := w.heap[b]? = some (.cells cs.toArray T (0, 0))
section
variable {w w' : World} {b : Nat} {T : TypeId} {cs : List Value}
theorem Bk.lt (h : Bk w b T cs) : b < w.heap.size := by
  rcases Nat.lt_or_ge b w.heap.size with h1 | h1
  · exact h1
  · unfold Bk at h
    rw [Array.getElem?_eq_none h1] at h
    cases h
theorem Bk.cell (h : Bk w b T cs) (i : Nat) : w.cell? ⟨b, i, none⟩ = cs[i]? := by
  rw [cell_of_row w b i cs.toArray T (0, 0) h]
  simp
theorem Bk.frozen (h : Bk w b T cs) (i : Nat) : w.frozen? ⟨b, i, none⟩ = false := by
  unfold Bk at h
  simp [World.frozen?, h]
theorem Bk.below {B : Nat} (h : Bk w b T cs) (hb : Below B w w') (hB : b < B) : Bk w' b T cs := (hb.block b hB).trans h
theorem Bk.ext (h : Bk w b T cs) (hb : Below w.heap.size w w') : Bk w' b T cs := h.below hb h.lt
theorem Bk.new (w : World) (T : TypeId) (cs : List Value) : Bk (w.alloc (.cells cs.toArray T)) w.heap.size T cs := heap_alloc_new w _
theorem Bk.alloc (h : Bk w b T cs) (o : Obj) : Bk (w.alloc o) b T cs := (Below.heap_alloc w o b h.lt).trans h
theorem Bk.drew (h : Bk w b T cs) : Bk w.drew b T cs := h
theorem Bk.drewN (h : Bk w b T cs) (n : Nat) : Bk (w.drewN n) b T cs := h
theorem Bk.far (h : Bk w b T cs) {p : Addr} (hp : b ≠ p.block) (u : Value) : Bk (w.setCell p u) b T cs := (Below.heap_setCell w p u b hp).trans h
theorem Bk.put (h : Bk w b T cs) (i : Nat) (u : Value) : Bk (w.setCell ⟨b, i, none⟩ u) b T (cs.set i u) := by
  unfold Bk at h ⊢
  simp [World.setCell, Array.getElem?_modify, h]
end

theorem Bk.reads {w : World} {b : Nat} {T : TypeId} {cs : List Value} (h : Bk w b T cs) : ∀ j v, cs[j]? = some v → w.cell? ((⟨b, 0, none⟩ : Addr).add j) = some v := by
  intro j v hv
  have hadd : (⟨b, 0, none⟩ : Addr).add j = ⟨b, j, none⟩ := by unfold Addr.add; split <;> simp_all
  rw [hadd, h.cell]
  exact hv

theorem cell_lt {w : World} {p : Addr} {x : Value} (h : w.cell? p = some x) : p.block < w.heap.size := by
  rcases Nat.lt_or_ge p.block w.heap.size with h1 | h1
  · exact h1
  · have : w.heap[p.block]? = none := Array.getElem?_eq_none h1
    simp [World.cell?, this] at h

def IsRow (w : World) (v : Value) (T : TypeId) (cs : List Value) : Prop := ∃ b, v = .slice (some ⟨b, 0, none⟩) cs.length cs.length ∧ Bk w b T cs
theorem IsRow.ext {w w' : World} {v : Value} {T : TypeId} {cs : List Value} (hb : Below w.heap.size w w') (h : IsRow w v T cs) : IsRow w' v T cs := by
  obtain ⟨b, hv, hk⟩ := h
  exact ⟨b, hv, hk.ext hb⟩
def IsPtr (w : World) (v : Value) (x : Value) : Prop := ∃ b o, v = .pointer (some ⟨b, o, none⟩) ∧ w.cell? ⟨b, o, none⟩ = some x
theorem IsPtr.ext {w w' : World} {v x : Value} (hb : Below w.heap.size w w') (h : IsPtr w v x) : IsPtr w' v x := by
  obtain ⟨b, o, hv, hc⟩ := h
  exact ⟨b, o, hv, (hb.cell (cell_lt hc)).trans hc⟩
theorem IsRow.pick {w : World} {b : Nat} {T : TypeId} {l : List ByteArray} (h : Bk w b T (l.map Value.string)) {i : Nat} (hi : i < l.length) : w.cell? ⟨b, i, none⟩ = some (.string (l.getD i ByteArray.empty)) := by
  rw [h.cell]
  exact Pl.pick_at hi
/-- A pointer at a new block. -/
def IsNew (w : World) (v : Value) (B : Nat) (T : TypeId) (cs : List Value) : Prop := ∃ b, v = .pointer (some ⟨b, 0, none⟩) ∧ B ≤ b ∧ Bk w b T cs
theorem IsNew.ext {w w' : World} {v : Value} {B : Nat} {T : TypeId} {cs : List Value} (hb : Below w.heap.size w w') (h : IsNew w v B T cs) : IsNew w' v B T cs := by
  obtain ⟨b, hv, hB, hk⟩ := h
  exact ⟨b, hv, hB, hk.ext hb⟩
end Mm
end Go.Proofs.Ytdckfddlcmkdlaa
