/-
  Numbers that are written out, as places.
-/
import Derived.Test.YtdckfddlcmkdlaaSxs
namespace Go.Proofs.Ytdckfddlcmkdlaa.Ab
theorem natOfA_lit (k : IntKind) (n : Nat) : natOfA (.v (.int k (no_index (OfNat.ofNat n)))) = some (OfNat.ofNat n) := by
  show natOfA (.v (.int k ((n : Nat) : Int))) = some n
  exact natOfA_int k n
attribute [go_sem] natOfA_lit
end Go.Proofs.Ytdckfddlcmkdlaa.Ab
