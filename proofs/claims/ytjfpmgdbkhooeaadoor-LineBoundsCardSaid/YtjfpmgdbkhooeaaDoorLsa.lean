/-
  Looking for one byte in a text: the library's own contracts, in the machine's words.
-/
import Derived.Test.YtjfpmgdbkhooeaaDoorTab
import Derived.Test.YtjfpmgdbkhooeaaDoorAbJ
import Derived.WalkKit
import Derived.Ground.NamesProg
import Derived.Ground.Names2Prog
import Derived.Shelf.Strings.Search1
import Derived.Shelf.Strings.Search3
import Derived.Shelf.Strings.Count
namespace Go.Proofs
open Go.Shelf Go.RowKit
def Tryd.laysIndexByte_ren : Go.Shelf.Ren := ⟨fun | 217 => 41 | 266 => 53 | n => n, fun | 9 => 9 | 5 => 5 | 3 => 3 | n => n, fun | n => n⟩
theorem Tryd.laysIndexByte : Go.Proofs.Lays.n217 Tryd.prog Tryd.laysIndexByte_ren := {
  mixed := by kernel_rfl
  f217 := Tryd.func41.trans (congrArg some (by kernel_rfl))
  f266 := Tryd.func53.trans (congrArg some (by kernel_rfl))
  t3 := Tryd.underlying3
  a3 := Tryd.isAgg3
  z3 := Tryd.sizeOf3
  v3 := Tryd.zeroValue3
  t5 := Tryd.underlying5
  a5 := Tryd.isAgg5
  z5 := Tryd.sizeOf5
  v5 := Tryd.zeroValue5
  t9 := Tryd.underlying9
  a9 := Tryd.isAgg9
  z9 := Tryd.sizeOf9
  v9 := Tryd.zeroValue9 }
def Tryd.laysIndex_ren : Go.Shelf.Ren := ⟨fun | 143 => 28 | 219 => 37 | 217 => 41 | 225 => 48 | 224 => 49 | 267 => 50 | 266 => 53 | 314 => 61 | n => n, fun | 9 => 9 | 3 => 3 | 4 => 4 | 5 => 5 | 46 => 31 | 146 => 92 | 51 => 88 | n => n, fun | 1 => 0 | n => n⟩
theorem Tryd.laysIndex : Go.Proofs.Lays.n143 Tryd.prog Tryd.laysIndex_ren := {
  mixed := by kernel_rfl
  f143 := Tryd.func28.trans (congrArg some (by kernel_rfl))
  f217 := Tryd.func41.trans (congrArg some (by kernel_rfl))
  f219 := Tryd.func37.trans (congrArg some (by kernel_rfl))
  f224 := Tryd.func49.trans (congrArg some (by kernel_rfl))
  f225 := Tryd.func48.trans (congrArg some (by kernel_rfl))
  f266 := Tryd.func53.trans (congrArg some (by kernel_rfl))
  f267 := Tryd.func50.trans (congrArg some (by kernel_rfl))
  f314 := Tryd.func61.trans (congrArg some (by kernel_rfl))
  t3 := Tryd.underlying3
  a3 := Tryd.isAgg3
  z3 := Tryd.sizeOf3
  v3 := Tryd.zeroValue3
  t4 := Tryd.underlying4
  a4 := Tryd.isAgg4
  z4 := Tryd.sizeOf4
  v4 := Tryd.zeroValue4
  t5 := Tryd.underlying5
  a5 := Tryd.isAgg5
  z5 := Tryd.sizeOf5
  v5 := Tryd.zeroValue5
  t9 := Tryd.underlying9
  a9 := Tryd.isAgg9
  z9 := Tryd.sizeOf9
  v9 := Tryd.zeroValue9
  t46 := Tryd.underlying31
  a46 := Tryd.isAgg31
  z46 := Tryd.sizeOf31
  v46 := Tryd.zeroValue31
  t51 := Tryd.underlying88
  a51 := Tryd.isAgg88
  z51 := Tryd.sizeOf88
  v51 := Tryd.zeroValue88
  t146 := Tryd.underlying92
  a146 := Tryd.isAgg92
  z146 := Tryd.sizeOf92
  v146 := Tryd.zeroValue92
  g1 := by kernel_rfl }
def Tryd.laysContains_ren : Go.Shelf.Ren := ⟨fun | 144 => 31 | 143 => 28 | 219 => 37 | 217 => 41 | 225 => 48 | 224 => 49 | 267 => 50 | 266 => 53 | 314 => 61 | n => n, fun | 9 => 9 | 4 => 4 | 3 => 3 | 5 => 5 | 46 => 31 | 146 => 92 | 51 => 88 | n => n, fun | 1 => 0 | n => n⟩
theorem Tryd.laysContains : Go.Proofs.Lays.n144 Tryd.prog Tryd.laysContains_ren := {
  mixed := by kernel_rfl
  f143 := Tryd.func28.trans (congrArg some (by kernel_rfl))
  f144 := Tryd.func31.trans (congrArg some (by kernel_rfl))
  f217 := Tryd.func41.trans (congrArg some (by kernel_rfl))
  f219 := Tryd.func37.trans (congrArg some (by kernel_rfl))
  f224 := Tryd.func49.trans (congrArg some (by kernel_rfl))
  f225 := Tryd.func48.trans (congrArg some (by kernel_rfl))
  f266 := Tryd.func53.trans (congrArg some (by kernel_rfl))
  f267 := Tryd.func50.trans (congrArg some (by kernel_rfl))
  f314 := Tryd.func61.trans (congrArg some (by kernel_rfl))
  t3 := Tryd.underlying3
  a3 := Tryd.isAgg3
  z3 := Tryd.sizeOf3
  v3 := Tryd.zeroValue3
  t4 := Tryd.underlying4
  a4 := Tryd.isAgg4
  z4 := Tryd.sizeOf4
  v4 := Tryd.zeroValue4
  t5 := Tryd.underlying5
  a5 := Tryd.isAgg5
  z5 := Tryd.sizeOf5
  v5 := Tryd.zeroValue5
  t9 := Tryd.underlying9
  a9 := Tryd.isAgg9
  z9 := Tryd.sizeOf9
  v9 := Tryd.zeroValue9
  t46 := Tryd.underlying31
  a46 := Tryd.isAgg31
  z46 := Tryd.sizeOf31
  v46 := Tryd.zeroValue31
  t51 := Tryd.underlying88
  a51 := Tryd.isAgg88
  z51 := Tryd.sizeOf88
  v51 := Tryd.zeroValue88
  t146 := Tryd.underlying92
  a146 := Tryd.isAgg92
  z146 := Tryd.sizeOf92
  v146 := Tryd.zeroValue92
  g1 := by kernel_rfl }
def Tryd.laysCount_ren : Go.Shelf.Ren := ⟨fun | 138 => 18 | 195 => 26 | 218 => 27 | 143 => 28 | 219 => 37 | 217 => 41 | 225 => 48 | 224 => 49 | 267 => 50 | 266 => 53 | 314 => 61 | n => n, fun | 9 => 9 | 3 => 3 | 4 => 4 | 5 => 5 | 0 => 0 | 46 => 31 | 146 => 92 | 51 => 88 | n => n, fun | 1 => 0 | n => n⟩
theorem Tryd.laysCount : Go.Proofs.Lays.n138 Tryd.prog Tryd.laysCount_ren := {
  mixed := by kernel_rfl
  f138 := Tryd.func18.trans (congrArg some (by kernel_rfl))
  f143 := Tryd.func28.trans (congrArg some (by kernel_rfl))
  f195 := Tryd.func26.trans (congrArg some (by kernel_rfl))
  f217 := Tryd.func41.trans (congrArg some (by kernel_rfl))
  f218 := Tryd.func27.trans (congrArg some (by kernel_rfl))
  f219 := Tryd.func37.trans (congrArg some (by kernel_rfl))
  f224 := Tryd.func49.trans (congrArg some (by kernel_rfl))
  f225 := Tryd.func48.trans (congrArg some (by kernel_rfl))
  f266 := Tryd.func53.trans (congrArg some (by kernel_rfl))
  f267 := Tryd.func50.trans (congrArg some (by kernel_rfl))
  f314 := Tryd.func61.trans (congrArg some (by kernel_rfl))
  t0 := Tryd.underlying0
  a0 := Tryd.isAgg0
  z0 := Tryd.sizeOf0
  v0 := Tryd.zeroValue0
  t3 := Tryd.underlying3
  a3 := Tryd.isAgg3
  z3 := Tryd.sizeOf3
  v3 := Tryd.zeroValue3
  t4 := Tryd.underlying4
  a4 := Tryd.isAgg4
  z4 := Tryd.sizeOf4
  v4 := Tryd.zeroValue4
  t5 := Tryd.underlying5
  a5 := Tryd.isAgg5
  z5 := Tryd.sizeOf5
  v5 := Tryd.zeroValue5
  t9 := Tryd.underlying9
  a9 := Tryd.isAgg9
  z9 := Tryd.sizeOf9
  v9 := Tryd.zeroValue9
  t46 := Tryd.underlying31
  a46 := Tryd.isAgg31
  z46 := Tryd.sizeOf31
  v46 := Tryd.zeroValue31
  t51 := Tryd.underlying88
  a51 := Tryd.isAgg88
  z51 := Tryd.sizeOf88
  v51 := Tryd.zeroValue88
  t146 := Tryd.underlying92
  a146 := Tryd.isAgg92
  z146 := Tryd.sizeOf92
  v146 := Tryd.zeroValue92
  g1 := by kernel_rfl }
end Go.Proofs
namespace Go.Proofs.YtjfpmgdbkhooeaaDoor.Ab
open Go.Shelf Go.RowKit
/-- A text of one byte. -/
def one (t : ByteArray) : Option UInt8 := match t.data.toList with
  | [c] => some c
  | _ => none
theorem one_is {t : ByteArray} {c : UInt8} (h : one t = some c) : t = ⟨#[c]⟩ := by
  unfold one at h
  split at h
  · rename_i hx
    cases h
    cases t with
    | mk a =>
      cases a with
      | mk l =>
        have hx : l = [c] := hx
        rw [hx]
  · cases h
def stringslite_IndexByte (_n : Nat) (s : ByteArray) (c : Int) : Option Int := some (Lib.indexByte s.data.toList c.toNat.toUInt8)
theorem stringslite_IndexByte_ok {n : Nat} {s : ByteArray} {c r : Int} (h : stringslite_IndexByte n s c = some r) : PureOK Tryd.prog 41 [D.v (.string s), D.v (.int .u8 c)] (D.v (.int .i64 r)) true := by
  obtain rfl := Option.some.inj h
  exact pure_of_same (fr := true) (xs := [.string s, .int .u8 c]) ⟨_, Tryd.func41, by kernel_rfl, by kernel_rfl⟩ rfl fun w => Any.stringslite_IndexByte Tryd.laysIndexByte s c w
def strings_Index (_n : Nat) (s t : ByteArray) : Option Int := (one t).map fun c => Lib.indexByte s.data.toList c
theorem strings_Index_ok {n : Nat} {s t : ByteArray} {r : Int} (h : strings_Index n s t = some r) : PureOK Tryd.prog 28 [D.v (.string s), D.v (.string t)] (D.v (.int .i64 r)) true := by
  obtain ⟨c, hc, rfl⟩ := Option.map_eq_some_iff.1 h
  obtain rfl := one_is hc
  exact pure_of_same (fr := true) (xs := [.string s, .string ⟨#[c]⟩]) ⟨_, Tryd.func28, by kernel_rfl, by kernel_rfl⟩ rfl fun w => Any.strings_Index_one Tryd.laysIndex s c w
def strings_Contains (_n : Nat) (s t : ByteArray) : Option Bool := (one t).map fun c => decide (0 ≤ Lib.indexByte s.data.toList c)
theorem strings_Contains_ok {n : Nat} {s t : ByteArray} {r : Bool} (h : strings_Contains n s t = some r) : PureOK Tryd.prog 31 [D.v (.string s), D.v (.string t)] (D.v (.bool r)) true := by
  obtain ⟨c, hc, rfl⟩ := Option.map_eq_some_iff.1 h
  obtain rfl := one_is hc
  exact pure_of_same (fr := true) (xs := [.string s, .string ⟨#[c]⟩]) ⟨_, Tryd.func31, by kernel_rfl, by kernel_rfl⟩ rfl fun w => Any.strings_Contains_one Tryd.laysContains s c w
def strings_Count (_n : Nat) (s t : ByteArray) : Option Int := (one t).map fun c => (Lib.countByte s.data.toList c : Int)
theorem strings_Count_ok {n : Nat} {s t : ByteArray} {r : Int} (h : strings_Count n s t = some r) : PureOK Tryd.prog 18 [D.v (.string s), D.v (.string t)] (D.v (.int .i64 r)) true := by
  obtain ⟨c, hc, rfl⟩ := Option.map_eq_some_iff.1 h
  obtain rfl := one_is hc
  exact pure_of_same (fr := true) (xs := [.string s, .string ⟨#[c]⟩]) ⟨_, Tryd.func18, by kernel_rfl, by kernel_rfl⟩ rfl fun w => Any.strings_Count_one Tryd.laysCount s c w
end Go.Proofs.YtjfpmgdbkhooeaaDoor.Ab
