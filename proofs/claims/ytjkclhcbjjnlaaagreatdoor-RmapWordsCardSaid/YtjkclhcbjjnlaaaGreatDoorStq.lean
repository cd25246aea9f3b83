/-
  IndexByte, CompareString: the library's own contracts, for the evaluator.
-/
import Derived.Test.YtjkclhcbjjnlaaaGreatDoorCs
import Derived.Test.YtjkclhcbjjnlaaaGreatDoorAbI
import Derived.WalkKit
import Derived.Ground.NamesProg
import Derived.Ground.Names2Prog
import Derived.Shelf.Strings.Search1
namespace Go.Proofs
open Go.Shelf Go.RowKit
def Tryz.laysIndexByte_ren : Go.Shelf.Ren := ⟨fun | 217 => 274 | 266 => 291 | n => n, fun | 9 => 9 | 5 => 5 | 3 => 3 | n => n, fun | n => n⟩
theorem Tryz.laysIndexByte : Go.Proofs.Lays.n217 Tryz.prog Tryz.laysIndexByte_ren := {
  mixed := by kernel_rfl
  f217 := Tryz.func274.trans (congrArg some (by kernel_rfl))
  f266 := Tryz.func291.trans (congrArg some (by kernel_rfl))
  t3 := Tryz.underlying3
  a3 := Tryz.isAgg3
  z3 := Tryz.sizeOf3
  v3 := Tryz.zeroValue3
  t5 := Tryz.underlying5
  a5 := Tryz.isAgg5
  z5 := Tryz.sizeOf5
  v5 := Tryz.zeroValue5
  t9 := Tryz.underlying9
  a9 := Tryz.isAgg9
  z9 := Tryz.sizeOf9
  v9 := Tryz.zeroValue9 }
end Go.Proofs
namespace Go.Proofs.YtjkclhcbjjnlaaaGreatDoor.Ab
open Go.Shelf Go.RowKit
def prB (f : FuncId) : Pr1 := (f, fun vs => match vs with
  | [.v (.string s), .v (.int .u8 c)] => some (.v (.int .i64 (Lib.indexByte s.data.toList c.toNat.toUInt8)))
  | _ => none)
theorem prB_ok {P : Program} {f : FuncId} (hE : Enters P f) (h : ∀ (s : ByteArray) (c : Int) (w : World), Calls P f #[.string s, .int .u8 c] w fun e w' => e = .returned (.int .i64 (Lib.indexByte s.data.toList c.toNat.toUInt8)) ∧ w' = w) : Pr1OK P (prB f) := by
  intro vs w hw hp nx
  simp only [prB] at hw
  split at hw
  · rename_i a b
    cases hw
    have := pure_of_same (fr := true) (xs := [.string a, .int .u8 b]) hE rfl (h a b)
    exact (inl_of_pure (vs := [.v (.string a), .v (.int .u8 b)]) (b := false) (is := []) rfl this (.inl rfl)).mono fun v hp nx h => h
  · cases hw
theorem ibOk : Pr1OK Tryz.prog (prB 274) := prB_ok ⟨_, Tryz.func274, by kernel_rfl, by kernel_rfl⟩ fun s c w => Any.stringslite_IndexByte Tryz.laysIndexByte s c w
def primsT : List Pr1 := [prS 150, prB 274]
theorem primsT_each : ∀ p ∈ primsT, Pr1OK Tryz.prog p := fun p hp => by
  simp only [primsT, List.mem_cons, List.not_mem_nil, or_false] at hp
  rcases hp with rfl | rfl
  · exact csOk
  · exact ibOk
end Go.Proofs.YtjkclhcbjjnlaaaGreatDoor.Ab
