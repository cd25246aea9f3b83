/-
 slices.Sort of texts, over a row of the caller's own, in the words of the functions that are read off the code.
-/
import Derived.Test.YtkkhgdmmbhpckaaGreatNms
import Derived.Test.YtkkhgdmmbhpckaaGreatOn
namespace Go.Proofs.YtkkhgdmmbhpckaaGreat.Ab
open Go.RowKit
def xG_ (_n : Nat) (xs : List ByteArray) : Option (List ByteArray) := if xs.length ≤ 4294967296 then some (onceT xs) else none
theorem vg_ {n : Nat} {xs r : List ByteArray} (h : xG_ n xs = some r) : PureOK Tryz.prog 29 [D.sl (List.map eS xs)] (D.sl (List.map eS r)) true := by
 unfold xG_ at h;split at h
 ·rename_i hn
  obtain rfl := Option.some.inj h;exact sZ_ xs hn
 ·cases h
open Go.RowKit Go.Sort Go.Shelf
def gh_ (_n : Nat) (xs : List ByteArray) : Option (List ByteArray) := if 0 < xs.length ∧ xs.length ≤ 4294967296 then some (srtT xs) else none
theorem hO_ {n : Nat} {xs l : List ByteArray} (h : gh_ n xs = some l) : xs.length = l.length := by
 unfold gh_ at h;split at h
 ·cases h
  exact (gH_ xs).symm
 ·cases h
theorem nK_ {n : Nat} {xs l : List ByteArray} (h : gh_ n xs = some l) {id ver : Nat} {br : Bool} {hp : Hp} {nx : Nat} (hi : hp id = some (.rw (xs.map eS) 1 ver br false)) :
  InlOK Tryz.prog 50 [.so id ver 0 xs.length] hp nx fun v hp2 nx2 => v = .tu [] ∧ hp2 = upd id (some (.rw (l.map eS) 1 ver br false)) hp ∧ nx2 = nx := by
 unfold gh_ at h;split at h
 ·rename_i hc
  cases h;exact (bT_ nn_ rH_ xs (by omega) hi).mono fun v hp2 nx2 ⟨h1, h2, h3⟩ => ⟨h1, h3, h2⟩
 ·cases h
end Go.Proofs.YtkkhgdmmbhpckaaGreat.Ab
