/-
  The program's structures.
-/
import Derived.Test.YthnejfmbglbpgaaDoorAbW
import Derived.Test.YthnejfmbglbpgaaDoorTab
namespace Go.Proofs.YthnejfmbglbpgaaDoor.Ab
open Go.RowKit
structure GEntry where
  kind : Int
  default : Bool
  name : ByteArray
  bits : Int
  deriving DecidableEq, Inhabited
abbrev eGEntry (x : GEntry) : List D := [D.v (.int .i64 x.kind), D.v (.bool x.default), D.v (.string x.name), D.v (.int .i64 x.bits)]
structure GFile where
  kind : Int
  name : ByteArray
  users : List ByteArray
  owner : ByteArray
  group : ByteArray
  acl : List GEntry
  at_ : Int
  deriving DecidableEq, Inhabited
abbrev eGFile (x : GFile) : List D := [D.v (.int .i64 x.kind), D.v (.string x.name), D.sl (List.map eS x.users), D.v (.string x.owner), D.v (.string x.group), D.sl (List.map eGEntry x.acl), D.v (.int .i64 x.at_)]
end Go.Proofs.YthnejfmbglbpgaaDoor.Ab
