/-
  The program's structures.
-/
import Derived.Test.YtdckfddlcmkdlaaRss
namespace Go.Proofs.Ytdckfddlcmkdlaa.Ab
open Go.RowKit
structure Ref1Store where
  most : Int
  past : List (List GTuple)
  deriving DecidableEq, Inhabited
abbrev eRef1Store (x : Ref1Store) : List D := [D.v (.int .i64 x.most), D.sl (List.map (eL eGTuple) x.past)]
end Go.Proofs.Ytdckfddlcmkdlaa.Ab
