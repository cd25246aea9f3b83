/-
  DERIVED. GIVEN WITH THE SEED: THE CARDS: each row of YtjkclhcbjjnlaaaGreatDoorRows.lean that lists a variable, with what it lists TIED to the program's text (the seventh form; the later family's looks); each row that meets fmt, with fmt's text TOLD by the authors' own Lean function (tested against real Go, not proved from fmt's source: count such statements apart). THE CARD IS WHAT COUNTS. Prove the row's statement (the work); the ties are given (YtjkclhcbjjnlaaaGreatDoorTie.lean); close each card by the builder's one call (the guide's Derived/Test/ToyasCard.lean, 'card_holds'). Laid BY PROGRAM, IN A SANDBOX (cutbox-door.mjs). By AI agents, Wed Nov 11 2026. No macro, syntax, notation, axiom, sorry.
-/
import Derived.Test.YtjkclhcbjjnlaaaGreatDoorRows
import GoSem.ClaimSeven
namespace Go.Proofs.YtjkclhcbjjnlaaaGreatDoor
namespace Rows

/-- THE TIED CARD OF 'entaillaw16.RmapWords'. -/
def rmapWordsCard : Claim7 := { stood := { row := rmapWordsRow, standIns := [], harness := (true, "d4133818747931b6c79b887c2573b7c528d6410ce6622a198456e48427770053"), looks := true }, kinds := [], alts := [], laidByText := true, laidKinds := [.data, .data, .data, .sentinel, .sentinel], laidTests := true, laidLooks := .later }
def RmapWordsCardSaid : Prop := Claim7.holds Tryz.pinned (.plain (OpenSpec.ofChange rmapWordsSpec)) rmapWordsCard

/-- THE TIED CARD OF 'entaillaw16.RmapSchema'. -/
def rmapSchemaCard : Claim7 := { stood := { row := rmapSchemaRow, standIns := [], harness := (true, "d4133818747931b6c79b887c2573b7c528d6410ce6622a198456e48427770053"), looks := true }, kinds := [], alts := [], laidByText := true, laidKinds := [.data, .data, .data, .sentinel, .sentinel], laidTests := true, laidLooks := .later }
def RmapSchemaCardSaid : Prop := Claim7.holds Tryz.pinned (.plain (OpenSpec.ofChange rmapSchemaSpec)) rmapSchemaCard

/-- THE SECOND FORM's CARD OF 'entaillaw16.RmapWords'. -/
def rmapWordsUptoCard : Claim7 := { stood := { row := rmapWordsUptoRow, standIns := [], harness := (true, "d4133818747931b6c79b887c2573b7c528d6410ce6622a198456e48427770053"), looks := true }, kinds := [], alts := [], laidByText := true, laidKinds := [.data, .data, .data, .sentinel, .sentinel], laidTests := true, laidLooks := .later }
def RmapWordsUptoCardSaid : Prop := Claim7.holds Tryz.pinned (.plain (OpenSpec.upto rmapWordsSpec)) rmapWordsUptoCard

/-- THE SECOND FORM's CARD OF 'entaillaw16.RmapSchema'. -/
def rmapSchemaUptoCard : Claim7 := { stood := { row := rmapSchemaUptoRow, standIns := [], harness := (true, "d4133818747931b6c79b887c2573b7c528d6410ce6622a198456e48427770053"), looks := true }, kinds := [], alts := [], laidByText := true, laidKinds := [.data, .data, .data, .sentinel, .sentinel], laidTests := true, laidLooks := .later }
def RmapSchemaUptoCardSaid : Prop := Claim7.holds Tryz.pinned (.plain (OpenSpec.upto rmapSchemaSpec)) rmapSchemaUptoCard
end Rows
end Go.Proofs.YtjkclhcbjjnlaaaGreatDoor
