/-
  strings.Count of one byte, IndexByte, CompareString: the library's own contracts, for the evaluator.
-/
import Derived.Test.YthnejfmbglbpgaaDoorCs
import Derived.Test.YthnejfmbglbpgaaDoorAbI
import Derived.WalkKit
import Derived.Ground.NamesProg
import Derived.Ground.Names2Prog
import Derived.Shelf.Strings.Search1
import Derived.Shelf.Strings.Count
namespace Go.Proofs
open Go.Shelf Go.RowKit
def Tryd.laysIndexByte_ren : Go.Shelf.Ren := ⟨fun | 217 => 88 | 266 => 92 | n => n, fun | 9 => 9 | 5 => 5 | 3 => 3 | n => n, fun | n => n⟩
theorem Tryd.laysIndexByte : Go.Proofs.Lays.n217 Tryd.prog Tryd.laysIndexByte_ren := {
  mixed := by kernel_rfl
  f217 := Tryd.func88.trans (congrArg some (by kernel_rfl))
  f266 := Tryd.func92.trans (congrArg some (by kernel_rfl))
  t3 := Tryd.underlying3
  a3 := Tryd.isAgg3
  z3 := Tryd.sizeOf3
  v3 := Tryd.zeroValue3
  t5 := Tryd.underlying5
  a5 := Tryd.isAgg5
  z5 := Tryd.sizeOf5
  v5 := Tryd.zeroValue5
  t9 := Tryd.underlying9
  a9 := Tryd.isAgg9
  z9 := Tryd.sizeOf9
  v9 := Tryd.zeroValue9 }
def Tryd.laysCount_ren : Go.Shelf.Ren := ⟨fun | 138 => 80 | 195 => 83 | 218 => 85 | 143 => 81 | 219 => 86 | 217 => 88 | 225 => 89 | 224 => 90 | 267 => 91 | 266 => 92 | 314 => 93 | n => n, fun | 9 => 9 | 3 => 3 | 4 => 4 | 5 => 5 | 0 => 0 | 46 => 22 | 146 => 99 | 51 => 91 | n => n, fun | 1 => 0 | n => n⟩
theorem Tryd.laysCount : Go.Proofs.Lays.n138 Tryd.prog Tryd.laysCount_ren := {
  mixed := by kernel_rfl
  f138 := Tryd.func80.trans (congrArg some (by kernel_rfl))
  f143 := Tryd.func81.trans (congrArg some (by kernel_rfl))
  f195 := Tryd.func83.trans (congrArg some (by kernel_rfl))
  f217 := Tryd.func88.trans (congrArg some (by kernel_rfl))
  f218 := Tryd.func85.trans (congrArg some (by kernel_rfl))
  f219 := Tryd.func86.trans (congrArg some (by kernel_rfl))
  f224 := Tryd.func90.trans (congrArg some (by kernel_rfl))
  f225 := Tryd.func89.trans (congrArg some (by kernel_rfl))
  f266 := Tryd.func92.trans (congrArg some (by kernel_rfl))
  f267 := Tryd.func91.trans (congrArg some (by kernel_rfl))
  f314 := Tryd.func93.trans (congrArg some (by kernel_rfl))
  t0 := Tryd.underlying0
  a0 := Tryd.isAgg0
  z0 := Tryd.sizeOf0
  v0 := Tryd.zeroValue0
  t3 := Tryd.underlying3
  a3 := Tryd.isAgg3
  z3 := Tryd.sizeOf3
  v3 := Tryd.zeroValue3
  t4 := Tryd.underlying4
  a4 := Tryd.isAgg4
  z4 := Tryd.sizeOf4
  v4 := Tryd.zeroValue4
  t5 := Tryd.underlying5
  a5 := Tryd.isAgg5
  z5 := Tryd.sizeOf5
  v5 := Tryd.zeroValue5
  t9 := Tryd.underlying9
  a9 := Tryd.isAgg9
  z9 := Tryd.sizeOf9
  v9 := Tryd.zeroValue9
  t46 := Tryd.underlying22
  a46 := Tryd.isAgg22
  z46 := Tryd.sizeOf22
  v46 := Tryd.zeroValue22
  t51 := Tryd.underlying91
  a51 := Tryd.isAgg91
  z51 := Tryd.sizeOf91
  v51 := Tryd.zeroValue91
  t146 := Tryd.underlying99
  a146 := Tryd.isAgg99
  z146 := Tryd.sizeOf99
  v146 := Tryd.zeroValue99
  g1 := by kernel_rfl }
end Go.Proofs
namespace Go.Proofs.YthnejfmbglbpgaaDoor.Ab
open Go.Shelf Go.RowKit
def prB (f : FuncId) : Pr1 := (f, fun vs => match vs with
  | [.v (.string s), .v (.int .u8 c)] => some (.v (.int .i64 (Lib.indexByte s.data.toList c.toNat.toUInt8)))
  | _ => none)
theorem prB_ok {P : Program} {f : FuncId} (hE : Enters P f) (h : ∀ (s : ByteArray) (c : Int) (w : World), Calls P f #[.string s, .int .u8 c] w fun e w' => e = .returned (.int .i64 (Lib.indexByte s.data.toList c.toNat.toUInt8)) ∧ w' = w) : Pr1OK P (prB f) := by
  intro vs w hw hp nx
  simp only [prB] at hw
  split at hw
  · rename_i a b
    cases hw
    have := pure_of_same (fr := true) (xs := [.string a, .int .u8 b]) hE rfl (h a b)
    exact (inl_of_pure (vs := [.v (.string a), .v (.int .u8 b)]) (b := false) (is := []) rfl this (.inl rfl)).mono fun v hp nx h => h
  · cases hw
def one (t : ByteArray) : Option UInt8 := match t.data.toList with
  | [c] => some c
  | _ => none
def prO (f : FuncId) : Pr1 := (f, fun vs => match vs with
  | [.v (.string s), .v (.string t)] => (one t).map fun c => .v (.int .i64 (Lib.countByte s.data.toList c))
  | _ => none)
theorem prO_ok {P : Program} {f : FuncId} (hE : Enters P f) (h : ∀ (s : ByteArray) (c : UInt8) (w : World), Calls P f #[.string s, .string ⟨#[c]⟩] w fun e w' => e = .returned (.int .i64 (Lib.countByte s.data.toList c)) ∧ w' = w) : Pr1OK P (prO f) := by
  intro vs w hw hp nx
  simp only [prO] at hw
  split at hw
  · rename_i s t
    obtain ⟨c, hc, rfl⟩ := Option.map_eq_some_iff.1 hw
    have e : t = ⟨#[c]⟩ := by
      unfold one at hc
      split at hc
      · rename_i hx
        cases hc
        cases t with
        | mk a =>
          cases a with
          | mk l =>
            have hx : l = [c] := hx
            rw [hx]
      · cases hc
    subst e
    have := pure_of_same (fr := true) (xs := [.string s, .string ⟨#[c]⟩]) hE rfl (h s c)
    exact (inl_of_pure (vs := [.v (.string s), .v (.string ⟨#[c]⟩)]) (b := false) (is := []) rfl this (.inl rfl)).mono fun v hp nx h => h
  · cases hw
theorem ibOk : Pr1OK Tryd.prog (prB 88) := prB_ok ⟨_, Tryd.func88, by kernel_rfl, by kernel_rfl⟩ fun s c w => Any.stringslite_IndexByte Tryd.laysIndexByte s c w
theorem coOk : Pr1OK Tryd.prog (prO 80) := prO_ok ⟨_, Tryd.func80, by kernel_rfl, by kernel_rfl⟩ fun s c w => Any.strings_Count_one Tryd.laysCount s c w
def primsT : List Pr1 := [prS 63, prB 88, prO 80]
theorem primsT_each : ∀ p ∈ primsT, Pr1OK Tryd.prog p := fun p hp => by
  simp only [primsT, List.mem_cons, List.not_mem_nil, or_false] at hp
  rcases hp with rfl | rfl | rfl
  · exact csOk
  · exact ibOk
  · exact coOk
end Go.Proofs.YthnejfmbglbpgaaDoor.Ab
