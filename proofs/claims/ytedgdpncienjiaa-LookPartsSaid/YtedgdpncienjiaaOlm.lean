/-
  look.once in the words of the functions that are read off the code.
-/
import Derived.Test.YtedgdpncienjiaaLks
import Derived.Test.YtedgdpncienjiaaOl
namespace Go.Proofs.Ytedgdpncienjiaa.Ab
open Go.RowKit

def look_once (_n : Nat) (xs : List ByteArray) : Option (List ByteArray) := if xs.length ≤ 4294967296 then some (onceT xs) else none
theorem look_once_ok {n : Nat} {xs r : List ByteArray} (h : look_once n xs = some r) : PureOK Try.prog 19 [D.sl (List.map eS xs)] (D.sl (List.map eS r)) true := by
  unfold look_once at h
  split at h
  · rename_i hn
    obtain rfl := Option.some.inj h
    exact once_ok xs hn
  · cases h
end Go.Proofs.Ytedgdpncienjiaa.Ab
