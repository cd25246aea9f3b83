/-
  DERIVED. GIVEN WITH THE SEED: THE CARDS: each row of YtkdpiembjjefaaaDoorRows.lean that lists a variable, with what it lists TIED to the program's text (the seventh form; the later family's looks); each row that meets fmt, with fmt's text TOLD by the authors' own Lean function (tested against real Go, not proved from fmt's source: count such statements apart). THE CARD IS WHAT COUNTS. Prove the row's statement (the work); the ties are given (YtkdpiembjjefaaaDoorTie.lean); close each card by the builder's one call (the guide's Derived/Test/ToyasCard.lean, 'card_holds'). Laid BY PROGRAM, IN A SANDBOX (cutbox-door.mjs). By AI agents, Wed Nov 11 2026. No macro, syntax, notation, axiom, sorry.
-/
import Derived.Test.YtkdpiembjjefaaaDoorRows
import GoSem.ClaimSeven
namespace Go.Proofs.YtkdpiembjjefaaaDoor
namespace Rows

/-- THE TIED CARD OF 'entaillaw17.AclsForms'. -/
def aclsFormsCard : Claim7 := { stood := { row := aclsFormsRow, standIns := [], harness := (true, "785d8dca57288ce304052d0833a1f6175610a3358da36083fe548bf33c30d834"), looks := false }, kinds := [], alts := [], laidByText := true, laidKinds := [.data, .pinned], laidTests := true, laidLooks := .later }
def AclsFormsCardSaid : Prop := Claim7.holds Tryd.pinned (.plain (OpenSpec.ofChange aclsFormsSpec)) aclsFormsCard

/-- THE TIED CARD OF 'entaillaw20.PermGroups'. -/
def permGroupsCard : Claim7 := { stood := { row := permGroupsRow, standIns := [], harness := (true, "785d8dca57288ce304052d0833a1f6175610a3358da36083fe548bf33c30d834"), looks := false }, kinds := [], alts := [], laidByText := true, laidKinds := [.data, .pinned], laidTests := true, laidLooks := .later }
def PermGroupsCardSaid : Prop := Claim7.holds Tryd.pinned (.plain (OpenSpec.ofChange permGroupsSpec)) permGroupsCard

/-- THE TIED CARD OF 'entaillaw20.PermFirst'. -/
def permFirstCard : Claim7 := { stood := { row := permFirstRow, standIns := [], harness := (true, "785d8dca57288ce304052d0833a1f6175610a3358da36083fe548bf33c30d834"), looks := false }, kinds := [], alts := [], laidByText := true, laidKinds := [.data, .pinned], laidTests := true, laidLooks := .later }
def PermFirstCardSaid : Prop := Claim7.holds Tryd.pinned (.plain (OpenSpec.ofChange permFirstSpec)) permFirstCard

/-- THE SECOND FORM's CARD OF 'entaillaw17.AclsForms'. -/
def aclsFormsUptoCard : Claim7 := { stood := { row := aclsFormsUptoRow, standIns := [], harness := (true, "785d8dca57288ce304052d0833a1f6175610a3358da36083fe548bf33c30d834"), looks := false }, kinds := [], alts := [], laidByText := true, laidKinds := [.data, .pinned], laidTests := true, laidLooks := .later }
def AclsFormsUptoCardSaid : Prop := Claim7.holds Tryd.pinned (.plain (OpenSpec.upto aclsFormsSpec)) aclsFormsUptoCard

/-- THE SECOND FORM's CARD OF 'entaillaw20.PermGroups'. -/
def permGroupsUptoCard : Claim7 := { stood := { row := permGroupsUptoRow, standIns := [], harness := (true, "785d8dca57288ce304052d0833a1f6175610a3358da36083fe548bf33c30d834"), looks := false }, kinds := [], alts := [], laidByText := true, laidKinds := [.data, .pinned], laidTests := true, laidLooks := .later }
def PermGroupsUptoCardSaid : Prop := Claim7.holds Tryd.pinned (.plain (OpenSpec.upto permGroupsSpec)) permGroupsUptoCard

/-- THE SECOND FORM's CARD OF 'entaillaw20.PermFirst'. -/
def permFirstUptoCard : Claim7 := { stood := { row := permFirstUptoRow, standIns := [], harness := (true, "785d8dca57288ce304052d0833a1f6175610a3358da36083fe548bf33c30d834"), looks := false }, kinds := [], alts := [], laidByText := true, laidKinds := [.data, .pinned], laidTests := true, laidLooks := .later }
def PermFirstUptoCardSaid : Prop := Claim7.holds Tryd.pinned (.plain (OpenSpec.upto permFirstSpec)) permFirstUptoCard
end Rows
end Go.Proofs.YtkdpiembjjefaaaDoor
