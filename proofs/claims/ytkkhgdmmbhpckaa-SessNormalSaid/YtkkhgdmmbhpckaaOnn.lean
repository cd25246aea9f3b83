/-
 norm.Once in the words of the functions that are read off the code.
-/
import Derived.Test.YtkkhgdmmbhpckaaNms
import Derived.Test.YtkkhgdmmbhpckaaOn
namespace Go.Proofs.Ytkkhgdmmbhpckaa.Ab
open Go.RowKit
def norm_Once (_n : Nat) (xs : List ByteArray) : Option (List ByteArray) := if xs.length ≤ 4294967296 then some (onceT xs) else none
theorem norm_Once_ok {n : Nat} {xs r : List ByteArray} (h : norm_Once n xs = some r) : PureOK Try.prog 49 [D.sl (List.map eS xs)] (D.sl (List.map eS r)) true := by
 unfold norm_Once at h
 split at h
 ·rename_i hn
  obtain rfl := Option.some.inj h
  exact once_ok xs hn
 ·cases h
end Go.Proofs.Ytkkhgdmmbhpckaa.Ab
