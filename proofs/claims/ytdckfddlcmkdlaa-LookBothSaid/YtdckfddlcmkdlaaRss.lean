/-
  The program's structures.
-/
import Derived.Test.YtdckfddlcmkdlaaAbJ
import Derived.Test.YtdckfddlcmkdlaaTab
namespace Go.Proofs.Ytdckfddlcmkdlaa.Ab
open Go.RowKit
structure GObj where
  type_ : ByteArray
  id_ : ByteArray
  deriving DecidableEq, Inhabited
abbrev eGObj (x : GObj) : List D := [D.v (.string x.type_), D.v (.string x.id_)]
structure GSub where
  type_ : ByteArray
  id_ : ByteArray
  rel : ByteArray
  deriving DecidableEq, Inhabited
abbrev eGSub (x : GSub) : List D := [D.v (.string x.type_), D.v (.string x.id_), D.v (.string x.rel)]
structure GTuple where
  obj : GObj
  rel : ByteArray
  sub_ : GSub
  deriving DecidableEq, Inhabited
abbrev eGTuple (x : GTuple) : List D := [D.v (.string x.obj.type_), D.v (.string x.obj.id_), D.v (.string x.rel), D.v (.string x.sub_.type_), D.v (.string x.sub_.id_), D.v (.string x.sub_.rel)]
structure StorStore where
  most : Int
  was : List (List GTuple)
  deriving DecidableEq, Inhabited
abbrev eStorStore (x : StorStore) : List D := [D.v (.int .i64 x.most), D.sl (List.map (eL eGTuple) x.was)]
structure GBatch where
  add : List GTuple
  drop : List GTuple
  must : List GTuple
  not_ : List GTuple
  deriving DecidableEq, Inhabited
abbrev eGBatch (x : GBatch) : List D := [D.sl (List.map eGTuple x.add), D.sl (List.map eGTuple x.drop), D.sl (List.map eGTuple x.must), D.sl (List.map eGTuple x.not_)]
end Go.Proofs.Ytdckfddlcmkdlaa.Ab
