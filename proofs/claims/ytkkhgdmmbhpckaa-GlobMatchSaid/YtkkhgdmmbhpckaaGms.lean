/-
  The program's structures.
-/
import Derived.Test.YtkkhgdmmbhpckaaAbJ
import Derived.Test.YtkkhgdmmbhpckaaTab
namespace Go.Proofs.Ytkkhgdmmbhpckaa.Ab
open Go.RowKit
end Go.Proofs.Ytkkhgdmmbhpckaa.Ab
