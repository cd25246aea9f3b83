/-
  DERIVED. GIVEN WITH THE SEED: THE CARDS: each row of YtkikhbfdadambaaDoorRows.lean that lists a variable, with what it lists TIED to the program's text (the seventh form; the later family's looks); each row that meets fmt, with fmt's text TOLD by the authors' own Lean function (tested against real Go, not proved from fmt's source: count such statements apart). THE CARD IS WHAT COUNTS. Prove the row's statement (the work); the ties are given (YtkikhbfdadambaaDoorTie.lean); close each card by the builder's one call (the guide's Derived/Test/ToyasCard.lean, 'card_holds'). Laid BY PROGRAM, IN A SANDBOX (cutbox-door.mjs). By AI agents, Wed Nov 11 2026. No macro, syntax, notation, axiom, sorry.
-/
import Derived.Test.YtkikhbfdadambaaDoorRows
import GoSem.ClaimSeven
namespace Go.Proofs.YtkikhbfdadambaaDoor
namespace Rows

/-- THE TIED CARD OF 'entaillaw17.AclsForms'. -/
def aclsFormsCard : Claim7 := { stood := { row := aclsFormsRow, standIns := [], harness := (true, "fabd8b157737ee3a98861b1c7b81412b4cc7b08399fb39efcc2be9233bc3c7ec"), looks := false }, kinds := [], alts := [], laidByText := true, laidKinds := [.data, .pinned], laidTests := true, laidLooks := .later }
def AclsFormsCardSaid : Prop := Claim7.holds Tryd.pinned (.plain (OpenSpec.ofChange aclsFormsSpec)) aclsFormsCard

/-- THE TIED CARD OF 'entaillaw17.AclsBack'. -/
def aclsBackCard : Claim7 := { stood := { row := aclsBackRow, standIns := [], harness := (true, "fabd8b157737ee3a98861b1c7b81412b4cc7b08399fb39efcc2be9233bc3c7ec"), looks := false }, kinds := [], alts := [], laidByText := true, laidKinds := [.data, .pinned], laidTests := true, laidLooks := .later }
def AclsBackCardSaid : Prop := Claim7.holds Tryd.pinned (.plain (OpenSpec.ofChange aclsBackSpec)) aclsBackCard

/-- THE TIED CARD OF 'entaillaw17.AclsPaths'. -/
def aclsPathsCard : Claim7 := { stood := { row := aclsPathsRow, standIns := [], harness := (true, "fabd8b157737ee3a98861b1c7b81412b4cc7b08399fb39efcc2be9233bc3c7ec"), looks := false }, kinds := [], alts := [], laidByText := true, laidKinds := [.data, .pinned], laidTests := true, laidLooks := .later }
def AclsPathsCardSaid : Prop := Claim7.holds Tryd.pinned (.plain (OpenSpec.ofChange aclsPathsSpec)) aclsPathsCard

/-- THE SECOND FORM's CARD OF 'entaillaw17.AclsForms'. -/
def aclsFormsUptoCard : Claim7 := { stood := { row := aclsFormsUptoRow, standIns := [], harness := (true, "fabd8b157737ee3a98861b1c7b81412b4cc7b08399fb39efcc2be9233bc3c7ec"), looks := false }, kinds := [], alts := [], laidByText := true, laidKinds := [.data, .pinned], laidTests := true, laidLooks := .later }
def AclsFormsUptoCardSaid : Prop := Claim7.holds Tryd.pinned (.plain (OpenSpec.upto aclsFormsSpec)) aclsFormsUptoCard

/-- THE SECOND FORM's CARD OF 'entaillaw17.AclsBack'. -/
def aclsBackUptoCard : Claim7 := { stood := { row := aclsBackUptoRow, standIns := [], harness := (true, "fabd8b157737ee3a98861b1c7b81412b4cc7b08399fb39efcc2be9233bc3c7ec"), looks := false }, kinds := [], alts := [], laidByText := true, laidKinds := [.data, .pinned], laidTests := true, laidLooks := .later }
def AclsBackUptoCardSaid : Prop := Claim7.holds Tryd.pinned (.plain (OpenSpec.upto aclsBackSpec)) aclsBackUptoCard

/-- THE SECOND FORM's CARD OF 'entaillaw17.AclsPaths'. -/
def aclsPathsUptoCard : Claim7 := { stood := { row := aclsPathsUptoRow, standIns := [], harness := (true, "fabd8b157737ee3a98861b1c7b81412b4cc7b08399fb39efcc2be9233bc3c7ec"), looks := false }, kinds := [], alts := [], laidByText := true, laidKinds := [.data, .pinned], laidTests := true, laidLooks := .later }
def AclsPathsUptoCardSaid : Prop := Claim7.holds Tryd.pinned (.plain (OpenSpec.upto aclsPathsSpec)) aclsPathsUptoCard
end Rows
end Go.Proofs.YtkikhbfdadambaaDoor
