/-
  DERIVED. GIVEN WITH THE SEED: THE CARDS: each row of YtkdpiembjjefaaaGreatDoorRows.lean that lists a variable, with what it lists TIED to the program's text (the seventh form; the later family's looks); each row that meets fmt, with fmt's text TOLD by the authors' own Lean function (tested against real Go, not proved from fmt's source: count such statements apart). THE CARD IS WHAT COUNTS. Prove the row's statement (the work); the ties are given (YtkdpiembjjefaaaGreatDoorTie.lean); close each card by the builder's one call (the guide's Derived/Test/ToyasCard.lean, 'card_holds'). Laid BY PROGRAM, IN A SANDBOX (cutbox-door.mjs). By AI agents, Wed Nov 11 2026. No macro, syntax, notation, axiom, sorry.
-/
import Derived.Test.YtkdpiembjjefaaaGreatDoorRows
import GoSem.ClaimSeven
namespace Go.Proofs.YtkdpiembjjefaaaGreatDoor
namespace Rows

/-- THE TIED CARD OF 'entaillaw19.GainErrors'. -/
def gainErrorsCard : Claim7 := { stood := { row := gainErrorsRow, standIns := [], harness := (true, "0c042477f934a3410ff58349e38f7c7f69d2af4fe66600d8be0173d9f5c7afa5"), looks := false }, kinds := [], alts := [], laidByText := true, laidKinds := [.data, .pinned], laidTests := true, laidLooks := .later }
def GainErrorsCardSaid : Prop := Claim7.holds Tryz.pinned (.plain (OpenSpec.ofChange gainErrorsSpec)) gainErrorsCard

/-- THE SECOND FORM's CARD OF 'entaillaw19.GainErrors'. -/
def gainErrorsUptoCard : Claim7 := { stood := { row := gainErrorsUptoRow, standIns := [], harness := (true, "0c042477f934a3410ff58349e38f7c7f69d2af4fe66600d8be0173d9f5c7afa5"), looks := false }, kinds := [], alts := [], laidByText := true, laidKinds := [.data, .pinned], laidTests := true, laidLooks := .later }
def GainErrorsUptoCardSaid : Prop := Claim7.holds Tryz.pinned (.plain (OpenSpec.upto gainErrorsSpec)) gainErrorsUptoCard
end Rows
end Go.Proofs.YtkdpiembjjefaaaGreatDoor
