/-
 What is known ahead: the groups' schema.
-/
import Derived.Test.YtjkdbakgnnhdnaaShb
import Derived.Test.YtjkdbakgnnhdnaaRo
namespace Go.Proofs.Ytjkdbakgnnhdnaa.Ab
open Go.RowKit
def law8_Types (_n : Nat) (s : ByteArray) : Option (List GType) := if s = textG then some typesG else none
theorem law8_Types_ok {n : Nat} {s : ByteArray} {r : List GType} (h : law8_Types n s = some r) : PureOK Try.prog 4 [D.v (.string s)] (D.sl (r.map eGType)) true := by
 unfold law8_Types at h
 split at h
 ·rename_i e
  subst e
  cases h
  exact typesG_ok
 ·cases h
def well_Of (_n : Nat) (l : List GType) : Option (WellSchema × Int) := if l = typesG then some (schemaG, 0) else none
theorem well_Of_ok {n : Nat} {l : List GType} {r : WellSchema × Int} (h : well_Of n l = some r) : PureOK Try.prog 25 [D.sl (l.map eGType)] (D.tu [D.pt (eWellSchema r.1) 0, D.v (.int .i64 r.2)]) false := by
 unfold well_Of at h
 split at h
 ·rename_i e
  subst e
  cases h
  exact schemaG_ok
 ·cases h
end Go.Proofs.Ytjkdbakgnnhdnaa.Ab
