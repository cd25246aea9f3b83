/-
 norm.Once in the words of the functions that are read off the code.
-/
import Derived.Test.YtkkhgdmmbhpckaaGreatNms
import Derived.Test.YtkkhgdmmbhpckaaGreatOn
namespace Go.Proofs.YtkkhgdmmbhpckaaGreat.Ab
open Go.RowKit
end Go.Proofs.YtkkhgdmmbhpckaaGreat.Ab
