/-
 What has been drawn is never taken back.
-/
import Derived.Test.YtkkhgdmmbhpckaaAbU
namespace Go.Proofs.Ytkkhgdmmbhpckaa.Ab
end Go.Proofs.Ytkkhgdmmbhpckaa.Ab
