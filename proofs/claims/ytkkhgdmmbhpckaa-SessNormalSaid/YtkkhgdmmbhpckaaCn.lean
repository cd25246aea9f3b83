/-
 How many of one list are in another one. No program in sight.
-/
import Derived.Test.YtkkhgdmmbhpckaaPk
namespace Go.Proofs.Ytkkhgdmmbhpckaa.Ab
open Go.RowKit
end Go.Proofs.Ytkkhgdmmbhpckaa.Ab
