/-
 The program's structures.
-/
import Derived.Test.YtkkhgdmmbhpckaaGreatAbW
import Derived.Test.YtkkhgdmmbhpckaaGreatTab
namespace Go.Proofs.YtkkhgdmmbhpckaaGreat.Ab
open Go.RowKit
structure GPair where
 a : ByteArray
 b : ByteArray
 deriving DecidableEq, Inhabited
abbrev eGPair (x : GPair) : List D := [D.v (.string x.a), D.v (.string x.b)]
structure GGrant where
 role : ByteArray
 op : ByteArray
 obj : ByteArray
 deriving DecidableEq, Inhabited
abbrev eGGrant (x : GGrant) : List D := [D.v (.string x.role), D.v (.string x.op), D.v (.string x.obj)]
structure GSod where
 name : ByteArray
 n_ : Int
 roles : List ByteArray
 deriving DecidableEq, Inhabited
abbrev eGSod (x : GSod) : List D := [D.v (.string x.name), D.v (.int .i64 x.n_), D.sl (List.map eS x.roles)]
structure GSession where
 name : ByteArray
 user : ByteArray
 roles : List ByteArray
 deriving DecidableEq, Inhabited
abbrev eGSession (x : GSession) : List D := [D.v (.string x.name), D.v (.string x.user), D.sl (List.map eS x.roles)]
structure GRoles where
 users : List ByteArray
 roles : List ByteArray
 inherit : List GPair
 assign : List GPair
 grants : List GGrant
 ssd : List GSod
 dsd : List GSod
 sessions : List GSession
 deriving DecidableEq, Inhabited
abbrev eGRoles (x : GRoles) : List D := [D.sl (List.map eS x.users), D.sl (List.map eS x.roles), D.sl (List.map eGPair x.inherit), D.sl (List.map eGPair x.assign), D.sl (List.map eGGrant x.grants), D.sl (List.map eGSod x.ssd), D.sl (List.map eGSod x.dsd), D.sl (List.map eGSession x.sessions)]
structure GFact where
 kind : Int
 a : ByteArray
 b : ByteArray
 c : ByteArray
 n_ : Int
 l : List ByteArray
 at_ : Int
 deriving DecidableEq, Inhabited
abbrev eGFact (x : GFact) : List D := [D.v (.int .i64 x.kind), D.v (.string x.a), D.v (.string x.b), D.v (.string x.c), D.v (.int .i64 x.n_), D.sl (List.map eS x.l), D.v (.int .i64 x.at_)]
structure GWord where
 text : ByteArray
 at_ : Int
 deriving DecidableEq, Inhabited
abbrev eGWord (x : GWord) : List D := [D.v (.string x.text), D.v (.int .i64 x.at_)]
structure GLine where
 at_ : Int
 words : List GWord
 deriving DecidableEq, Inhabited
abbrev eGLine (x : GLine) : List D := [D.v (.int .i64 x.at_), D.sl (List.map eGWord x.words)]
end Go.Proofs.YtkkhgdmmbhpckaaGreat.Ab
