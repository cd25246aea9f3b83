/-
  A tuple as six texts; how two of them stand to each other. No program in sight.
-/
import Derived.Test.YtdckfddlcmkdlaaMm
namespace Go.Proofs.Ytdckfddlcmkdlaa
open Go.RowKit

/-- A tuple: the object's type and id, the relation, the subject's type, id and relation. -/
structure Tp where
  ot : ByteArray
  oi : ByteArray
  rl : ByteArray
  st : ByteArray
  si : ByteArray
  sr : ByteArray
deriving DecidableEq

namespace Tp
instance : Inhabited Tp := ⟨⟨ByteArray.empty, ByteArray.empty, ByteArray.empty, ByteArray.empty, ByteArray.empty, ByteArray.empty⟩⟩
/-- Its six cells. -/
def enc (t : Tp) : List Value := [.string t.ot, .string t.oi, .string t.rl, .string t.st, .string t.si, .string t.sr]
def val (t : Tp) : Value := .agg #[.string t.ot, .string t.oi, .string t.rl, .string t.st, .string t.si, .string t.sr]
theorem enc_len (t : Tp) : t.enc.length = 6 := rfl
theorem val_eq (t : Tp) : t.val = .agg t.enc.toArray := rfl
theorem enc_one (t : Tp) : ∀ v ∈ t.enc, v.oneCell' = true := by
  intro v hv
  simp [enc] at hv
  rcases hv with rfl | rfl | rfl | rfl | rfl | rfl <;> rfl
/-- The six texts as lists of bytes. -/
def key (t : Tp) : List (List UInt8) := [t.ot.data.toList, t.oi.data.toList, t.rl.data.toList, t.st.data.toList, t.si.data.toList, t.sr.data.toList]
theorem bytes_inj {a b : ByteArray} (h : a.data.toList = b.data.toList) : a = b := by
  cases a; cases b
  congr
  exact Array.toList_inj.1 h
theorem key_inj {x y : Tp} (h : x.key = y.key) : x = y := by
  simp only [key, List.cons.injEq, and_true] at h
  obtain ⟨h1, h2, h3, h4, h5, h6⟩ := h
  cases x; cases y
  simp only at h1 h2 h3 h4 h5 h6
  rw [bytes_inj h1, bytes_inj h2, bytes_inj h3, bytes_inj h4, bytes_inj h5, bytes_inj h6]
/-- A block that holds just one tuple, cell by cell. -/
theorem cells {w : World} {b : Nat} {T : TypeId} {t : Tp} (h : Mm.Bk w b T t.enc) :
    w.cell? ⟨b, 0, none⟩ = some (.string t.ot) ∧ w.cell? ⟨b, 1, none⟩ = some (.string t.oi) ∧ w.cell? ⟨b, 2, none⟩ = some (.string t.rl) ∧ w.cell? ⟨b, 3, none⟩ = some (.string t.st) ∧ w.cell? ⟨b, 4, none⟩ = some (.string t.si) ∧ w.cell? ⟨b, 5, none⟩ = some (.string t.sr) :=
  ⟨h.cell 0, h.cell 1, h.cell 2, h.cell 3, h.cell 4, h.cell 5⟩
theorem frozens {w : World} {b : Nat} {T : TypeId} {t : Tp} (h : Mm.Bk w b T t.enc) :
    w.frozen? ⟨b, 0, none⟩ = false ∧ w.frozen? ⟨b, 1, none⟩ = false ∧ w.frozen? ⟨b, 2, none⟩ = false ∧ w.frozen? ⟨b, 3, none⟩ = false ∧ w.frozen? ⟨b, 4, none⟩ = false ∧ w.frozen? ⟨b, 5, none⟩ = false :=
  ⟨h.frozen 0, h.frozen 1, h.frozen 2, h.frozen 3, h.frozen 4, h.frozen 5⟩
end Tp
end Go.Proofs.Ytdckfddlcmkdlaa
