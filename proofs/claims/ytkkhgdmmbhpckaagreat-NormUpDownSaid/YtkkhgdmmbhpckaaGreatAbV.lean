/-
 What has been drawn is never taken back.
-/
import Derived.Test.YtkkhgdmmbhpckaaGreatAbU
namespace Go.Proofs.YtkkhgdmmbhpckaaGreat.Ab
end Go.Proofs.YtkkhgdmmbhpckaaGreat.Ab
