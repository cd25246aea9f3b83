/-
  DERIVED. GIVEN WITH THE SEED: THE CARDS: each row of YtgmhbmcdlkajdaaGreatDoorRows.lean that lists a variable, with what it lists TIED to the program's text (the seventh form; the later family's looks); each row that meets fmt, with fmt's text TOLD by the authors' own Lean function (tested against real Go, not proved from fmt's source: count such statements apart). THE CARD IS WHAT COUNTS. Prove the row's statement (the work); the ties are given (YtgmhbmcdlkajdaaGreatDoorTie.lean); close each card by the builder's one call (the guide's Derived/Test/ToyasCard.lean, 'card_holds'). Laid BY PROGRAM, IN A SANDBOX (cutbox-door.mjs). By AI agents, Wed Nov 11 2026. No macro, syntax, notation, axiom, sorry.
-/
import Derived.Test.YtgmhbmcdlkajdaaGreatDoorRows
import GoSem.ClaimSeven
namespace Go.Proofs.YtgmhbmcdlkajdaaGreatDoor
namespace Rows

/-- THE TIED CARD OF 'entaillaw20.PermTells'. -/
def permTellsCard : Claim7 := { stood := { row := permTellsRow, standIns := [], harness := (true, "87e6391d2fc523813f332df304b492b6d10d3ac7bf449d84a367281b8c2e339f"), looks := false }, kinds := [], alts := [], laidByText := true, laidKinds := [.data, .pinned], laidTests := true, laidLooks := .later }
def PermTellsCardSaid : Prop := Claim7.holds Tryz.pinned (.plain (OpenSpec.ofChange permTellsSpec)) permTellsCard

/-- THE TIED CARD OF 'entaillaw20.PermWay'. -/
def permWayCard : Claim7 := { stood := { row := permWayRow, standIns := [], harness := (true, "87e6391d2fc523813f332df304b492b6d10d3ac7bf449d84a367281b8c2e339f"), looks := false }, kinds := [], alts := [], laidByText := true, laidKinds := [.data, .pinned], laidTests := true, laidLooks := .later }
def PermWayCardSaid : Prop := Claim7.holds Tryz.pinned (.plain (OpenSpec.ofChange permWaySpec)) permWayCard

/-- THE TIED CARD OF 'entaillaw20.PermNormal'. -/
def permNormalCard : Claim7 := { stood := { row := permNormalRow, standIns := [], harness := (true, "87e6391d2fc523813f332df304b492b6d10d3ac7bf449d84a367281b8c2e339f"), looks := false }, kinds := [], alts := [], laidByText := true, laidKinds := [.data, .pinned], laidTests := true, laidLooks := .later }
def PermNormalCardSaid : Prop := Claim7.holds Tryz.pinned (.plain (OpenSpec.ofChange permNormalSpec)) permNormalCard

/-- THE TIED CARD OF 'entaillaw19.GainRule'. -/
def gainRuleCard : Claim7 := { stood := { row := gainRuleRow, standIns := [], harness := (true, "87e6391d2fc523813f332df304b492b6d10d3ac7bf449d84a367281b8c2e339f"), looks := false }, kinds := [], alts := [], laidByText := true, laidKinds := [.data, .pinned], laidTests := true, laidLooks := .later }
def GainRuleCardSaid : Prop := Claim7.holds Tryz.pinned (.plain (OpenSpec.ofChange gainRuleSpec)) gainRuleCard

/-- THE TIED CARD OF 'entaillaw19.GainValid'. -/
def gainValidCard : Claim7 := { stood := { row := gainValidRow, standIns := [], harness := (true, "87e6391d2fc523813f332df304b492b6d10d3ac7bf449d84a367281b8c2e339f"), looks := false }, kinds := [], alts := [], laidByText := true, laidKinds := [.data, .pinned], laidTests := true, laidLooks := .later }
def GainValidCardSaid : Prop := Claim7.holds Tryz.pinned (.plain (OpenSpec.ofChange gainValidSpec)) gainValidCard

/-- THE SECOND FORM's CARD OF 'entaillaw20.PermTells'. -/
def permTellsUptoCard : Claim7 := { stood := { row := permTellsUptoRow, standIns := [], harness := (true, "87e6391d2fc523813f332df304b492b6d10d3ac7bf449d84a367281b8c2e339f"), looks := false }, kinds := [], alts := [], laidByText := true, laidKinds := [.data, .pinned], laidTests := true, laidLooks := .later }
def PermTellsUptoCardSaid : Prop := Claim7.holds Tryz.pinned (.plain (OpenSpec.upto permTellsSpec)) permTellsUptoCard

/-- THE SECOND FORM's CARD OF 'entaillaw20.PermWay'. -/
def permWayUptoCard : Claim7 := { stood := { row := permWayUptoRow, standIns := [], harness := (true, "87e6391d2fc523813f332df304b492b6d10d3ac7bf449d84a367281b8c2e339f"), looks := false }, kinds := [], alts := [], laidByText := true, laidKinds := [.data, .pinned], laidTests := true, laidLooks := .later }
def PermWayUptoCardSaid : Prop := Claim7.holds Tryz.pinned (.plain (OpenSpec.upto permWaySpec)) permWayUptoCard

/-- THE SECOND FORM's CARD OF 'entaillaw20.PermNormal'. -/
def permNormalUptoCard : Claim7 := { stood := { row := permNormalUptoRow, standIns := [], harness := (true, "87e6391d2fc523813f332df304b492b6d10d3ac7bf449d84a367281b8c2e339f"), looks := false }, kinds := [], alts := [], laidByText := true, laidKinds := [.data, .pinned], laidTests := true, laidLooks := .later }
def PermNormalUptoCardSaid : Prop := Claim7.holds Tryz.pinned (.plain (OpenSpec.upto permNormalSpec)) permNormalUptoCard

/-- THE SECOND FORM's CARD OF 'entaillaw19.GainRule'. -/
def gainRuleUptoCard : Claim7 := { stood := { row := gainRuleUptoRow, standIns := [], harness := (true, "87e6391d2fc523813f332df304b492b6d10d3ac7bf449d84a367281b8c2e339f"), looks := false }, kinds := [], alts := [], laidByText := true, laidKinds := [.data, .pinned], laidTests := true, laidLooks := .later }
def GainRuleUptoCardSaid : Prop := Claim7.holds Tryz.pinned (.plain (OpenSpec.upto gainRuleSpec)) gainRuleUptoCard

/-- THE SECOND FORM's CARD OF 'entaillaw19.GainValid'. -/
def gainValidUptoCard : Claim7 := { stood := { row := gainValidUptoRow, standIns := [], harness := (true, "87e6391d2fc523813f332df304b492b6d10d3ac7bf449d84a367281b8c2e339f"), looks := false }, kinds := [], alts := [], laidByText := true, laidKinds := [.data, .pinned], laidTests := true, laidLooks := .later }
def GainValidUptoCardSaid : Prop := Claim7.holds Tryz.pinned (.plain (OpenSpec.upto gainValidSpec)) gainValidUptoCard
end Rows
end Go.Proofs.YtgmhbmcdlkajdaaGreatDoor
