/-
 look.once in the words of the functions that are read off the code.
-/
import Derived.Test.YtjkdbakgnnhdnaaGreatSgs
import Derived.Test.YtjkdbakgnnhdnaaGreatOl
namespace Go.Proofs.YtjkdbakgnnhdnaaGreat.Ab
open Go.RowKit
def look_once (_n : Nat) (xs : List ByteArray) : Option (List ByteArray) := if xs.length ≤ 4294967296 then some (onceT xs) else none
end Go.Proofs.YtjkdbakgnnhdnaaGreat.Ab
