/-
  The walk of entaillaw1.Nm: a name of eight, by a number's low bits.
-/
import Derived.Test.YtdckfddlcmkdlaaMm
import Derived.WalkSpells
import Derived.WalkLawsBesides
import Derived.Handy
namespace Go.Proofs.Ytdckfddlcmkdlaa
open Go.RowKit
namespace Nm
def names : List ByteArray := [⟨#[97]⟩, ⟨#[98]⟩, ⟨#[99]⟩, ⟨#[100]⟩, ⟨#[97, 98]⟩, ⟨#[98, 45, 49]⟩, ⟨#[120, 46, 121]⟩, ⟨#[48]⟩]
def nm (n : Int) : ByteArray := names.getD (n % 8).toNat ByteArray.empty
set_option maxHeartbeats 400000 in
theorem nm_any (n : Int) (w : World) : Calls Try.prog 63 #[.int .i64 n] w fun e w' => e = .returned (.string (nm n)) ∧ Below w.heap.size w w' := by
  have h0 : 0 ≤ n % 8 := by omega
  have h1 : n % 8 < 8 := by omega
  have ha := Pl.and7 n
  go_enter Try.func63, Try.ntmps63
  go_wp2
  go_ret
  refine ⟨?_, (Below.refl _ _).alloc (Nat.le_refl _) _⟩
  have hi : (n % 8).toNat < names.length := by simp [names]; omega
  have := Pl.pick_at hi
  rw [List.getElem?_eq_getElem (by simpa using hi)] at this
  exact congrArg Ending.returned (Option.some.inj this)
end Nm
end Go.Proofs.Ytdckfddlcmkdlaa
