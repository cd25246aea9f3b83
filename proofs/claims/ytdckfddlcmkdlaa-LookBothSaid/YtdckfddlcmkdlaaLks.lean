/-
  The program's structures.
-/
import Derived.Test.YtdckfddlcmkdlaaAbU
import Derived.Test.YtdckfddlcmkdlaaTab
import Derived.Test.YtdckfddlcmkdlaaRss
namespace Go.Proofs.Ytdckfddlcmkdlaa.Ab
open Go.RowKit
def kGSub (x : GSub) : Value := .agg #[.string x.type_, .string x.id_, .string x.rel]
theorem key_GSub : KeyE (true, [.string, .string, .string]) kGSub := fun a b => by
  have e : (a == b) = ((a.type_ == b.type_) && (a.id_ == b.id_) && (a.rel == b.rel)) := by
    obtain ⟨a1, a2, a3⟩ := a
    obtain ⟨b1, b2, b3⟩ := b
    rw [Bool.eq_iff_iff]
    simp [and_assoc]
  rw [e]
  simp [kGSub, keyEq, eqK, eq1, Bool.and_assoc]
structure GRef where
  obj : GObj
  rel : ByteArray
  deriving DecidableEq, Inhabited
abbrev eGRef (x : GRef) : List D := [D.v (.string x.obj.type_), D.v (.string x.obj.id_), D.v (.string x.rel)]
def kGRef (x : GRef) : Value := .agg #[.string x.obj.type_, .string x.obj.id_, .string x.rel]
theorem key_GRef : KeyE (true, [.string, .string, .string]) kGRef := fun a b => by
  have e : (a == b) = ((a.obj.type_ == b.obj.type_) && (a.obj.id_ == b.obj.id_) && (a.rel == b.rel)) := by
    obtain ⟨⟨a1, a2⟩, a3⟩ := a
    obtain ⟨⟨b1, b2⟩, b3⟩ := b
    rw [Bool.eq_iff_iff]
    simp [and_assoc]
  rw [e]
  simp [kGRef, keyEq, eqK, eq1, Bool.and_assoc]
structure LookLeft where
  subs : List (GRef × (List GSub))
  objs : List (ByteArray × (List ByteArray))
  deriving DecidableEq, Inhabited
abbrev eLookLeft (x : LookLeft) : List D := [D.mp (encMp kGRef false (eL eGSub) x.subs), D.mp (encMp Value.string false (eL eS) x.objs)]
structure LookRight where
  refs : List (GSub × (List GRef))
  users : List (ByteArray × (List ByteArray))
  deriving DecidableEq, Inhabited
abbrev eLookRight (x : LookRight) : List D := [D.mp (encMp kGSub false (eL eGRef) x.refs), D.mp (encMp Value.string false (eL eS) x.users)]
structure LookIndex where
  left : LookLeft
  right : LookRight
  deriving DecidableEq, Inhabited
abbrev eLookIndex (x : LookIndex) : List D := [D.mp (encMp kGRef false (eL eGSub) x.left.subs), D.mp (encMp Value.string false (eL eS) x.left.objs), D.mp (encMp kGSub false (eL eGRef) x.right.refs), D.mp (encMp Value.string false (eL eS) x.right.users)]
end Go.Proofs.Ytdckfddlcmkdlaa.Ab
