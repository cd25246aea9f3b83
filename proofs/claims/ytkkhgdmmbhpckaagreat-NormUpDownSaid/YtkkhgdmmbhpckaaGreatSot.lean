/-
 slices.Sort of texts, over a row of the caller's own, in the words of the functions that are read off the code.
-/
import Derived.Test.YtkkhgdmmbhpckaaGreatOn
namespace Go.Proofs.YtkkhgdmmbhpckaaGreat.Ab
open Go.RowKit Go.Sort Go.Shelf
def sort_T (_n : Nat) (xs : List ByteArray) : Option (List ByteArray) := if 0 < xs.length ∧ xs.length ≤ 4294967296 then some (srtT xs) else none
theorem sort_T_len {n : Nat} {xs l : List ByteArray} (h : sort_T n xs = some l) : xs.length = l.length := by
 unfold sort_T at h
 split at h
 ·cases h
  exact (srtT_len xs).symm
 ·cases h
theorem sort_T_in {n : Nat} {xs l : List ByteArray} (h : sort_T n xs = some l) {id ver : Nat} {br : Bool} {hp : Hp} {nx : Nat} (hi : hp id = some (.rw (xs.map eS) 1 ver br false)) :
  InlOK Tryz.prog 50 [.so id ver 0 xs.length] hp nx fun v hp2 nx2 => v = .tu [] ∧ hp2 = upd id (some (.rw (l.map eS) 1 ver br false)) hp ∧ nx2 = nx := by
 unfold sort_T at h
 split at h
 ·rename_i hc
  cases h
  exact (sortT_inl enSort sort_c xs (by omega) hi).mono fun v hp2 nx2 ⟨h1, h2, h3⟩ => ⟨h1, h3, h2⟩
 ·cases h
end Go.Proofs.YtkkhgdmmbhpckaaGreat.Ab
