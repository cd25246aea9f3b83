/-
  DERIVED. GIVEN WITH THE SEED: THE CARDS: each row of YthnejfmbglbpgaaDoorRows.lean that lists a variable, with what it lists TIED to the program's text (the seventh form; the later family's looks); each row that meets fmt, with fmt's text TOLD by the authors' own Lean function (tested against real Go, not proved from fmt's source: count such statements apart). THE CARD IS WHAT COUNTS. Prove the row's statement (the work); the ties are given (YthnejfmbglbpgaaDoorTie.lean); close each card by the builder's one call (the guide's Derived/Test/ToyasCard.lean, 'card_holds'). Laid BY PROGRAM, IN A SANDBOX (cutbox-door.mjs). By AI agents, Wed Nov 11 2026. No macro, syntax, notation, axiom, sorry.
-/
import Derived.Test.YthnejfmbglbpgaaDoorRows
import GoSem.ClaimSeven
namespace Go.Proofs.YthnejfmbglbpgaaDoor
namespace Rows

/-- THE TIED CARD OF 'entaillaw20.PermFirst'. -/
def permFirstCard : Claim7 := { stood := { row := permFirstRow, standIns := [], harness := (true, "d215c6a63c449ba993d94e6cda2f6f32ba6b6e65bfb943cbca2b94ada0b3b4fd"), looks := false }, kinds := [], alts := [], laidByText := true, laidKinds := [.data, .pinned], laidTests := true, laidLooks := .later }
def PermFirstCardSaid : Prop := Claim7.holds Tryd.pinned (.plain (OpenSpec.ofChange permFirstSpec)) permFirstCard

/-- THE SECOND FORM's CARD OF 'entaillaw20.PermFirst'. -/
def permFirstUptoCard : Claim7 := { stood := { row := permFirstUptoRow, standIns := [], harness := (true, "d215c6a63c449ba993d94e6cda2f6f32ba6b6e65bfb943cbca2b94ada0b3b4fd"), looks := false }, kinds := [], alts := [], laidByText := true, laidKinds := [.data, .pinned], laidTests := true, laidLooks := .later }
def PermFirstUptoCardSaid : Prop := Claim7.holds Tryd.pinned (.plain (OpenSpec.upto permFirstSpec)) permFirstUptoCard
end Rows
end Go.Proofs.YthnejfmbglbpgaaDoor
