/-
  The program's structures.
-/
import Derived.Test.YtkkhgdmmbhpckaaAbJ
import Derived.Test.YtkkhgdmmbhpckaaTab
namespace Go.Proofs.Ytkkhgdmmbhpckaa.Ab
open Go.RowKit
structure GGroup where
  name : ByteArray
  users : List ByteArray
abbrev eGGroup (x : GGroup) : List D := [D.v (.string x.name), D.sl (List.map eS x.users)]
structure GStmt where
  sid : ByteArray
  deny : Bool
  users : List ByteArray
  groups : List ByteArray
  actions : List ByteArray
  resources : List ByteArray
abbrev eGStmt (x : GStmt) : List D := [D.v (.string x.sid), D.v (.bool x.deny), D.sl (List.map eS x.users), D.sl (List.map eS x.groups), D.sl (List.map eS x.actions), D.sl (List.map eS x.resources)]
structure GBound where
  user : ByteArray
  actions : List ByteArray
  resources : List ByteArray
abbrev eGBound (x : GBound) : List D := [D.v (.string x.user), D.sl (List.map eS x.actions), D.sl (List.map eS x.resources)]
structure GPolicy where
  users : List ByteArray
  actions : List ByteArray
  resources : List ByteArray
  groups : List GGroup
  stmts : List GStmt
  bounds : List GBound
abbrev eGPolicy (x : GPolicy) : List D := [D.sl (List.map eS x.users), D.sl (List.map eS x.actions), D.sl (List.map eS x.resources), D.sl (List.map eGGroup x.groups), D.sl (List.map eGStmt x.stmts), D.sl (List.map eGBound x.bounds)]
structure GAsk where
  session : Bool
  who : ByteArray
  act : ByteArray
  obj : ByteArray
abbrev eGAsk (x : GAsk) : List D := [D.v (.bool x.session), D.v (.string x.who), D.v (.string x.act), D.v (.string x.obj)]
end Go.Proofs.Ytkkhgdmmbhpckaa.Ab
