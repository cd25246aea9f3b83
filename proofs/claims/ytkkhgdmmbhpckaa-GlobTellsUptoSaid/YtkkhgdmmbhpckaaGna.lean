/-
  entaillaw24.awake, as one of the functions that are read off the code.
-/
import Derived.Test.YtkkhgdmmbhpckaaGn
namespace Go.Proofs.Ytkkhgdmmbhpckaa.Ab
def law24_awake (_n : Nat) : Option Bool := some true
theorem law24_awake_ok {n : Nat} {r : Bool} (h : law24_awake n = some r) : PureOK Try.prog 15 [] (.v (.bool r)) true := by
  obtain rfl := Option.some.inj h
  exact awake24
end Go.Proofs.Ytkkhgdmmbhpckaa.Ab
