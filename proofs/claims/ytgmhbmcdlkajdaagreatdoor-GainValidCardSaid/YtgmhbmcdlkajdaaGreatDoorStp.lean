/-
 strings.Count of one byte, IndexByte, CompareString: the library's own contracts, for the evaluator.
-/
import Derived.Test.YtgmhbmcdlkajdaaGreatDoorKs
import Derived.Test.YtgmhbmcdlkajdaaGreatDoorAbI
import Derived.Ground.NamesProg
import Derived.Ground.Names2Prog
import Derived.Shelf.Strings.Search1
import Derived.Shelf.Strings.Count
namespace Go.Proofs
open Go.Shelf Go.RowKit
def Tryz.laysIndexByte_ren : Go.Shelf.Ren := ⟨fun | 217 => 141 | 266 => 147 | n => n, fun | 9 => 9 | 5 => 5 | 3 => 3 | n => n, fun | n => n⟩
theorem Tryz.laysIndexByte : Go.Proofs.Lays.n217 Tryz.prog Tryz.laysIndexByte_ren := {
 mixed := by kernel_rfl
 f217 := Tryz.func141.trans (congrArg some (by kernel_rfl))
 f266 := Tryz.func147.trans (congrArg some (by kernel_rfl))
 t3 := Tryz.underlying3
 a3 := Tryz.isAgg3
 z3 := Tryz.sizeOf3
 v3 := Tryz.zeroValue3
 t5 := Tryz.underlying5
 a5 := Tryz.isAgg5
 z5 := Tryz.sizeOf5
 v5 := Tryz.zeroValue5
 t9 := Tryz.underlying9
 a9 := Tryz.isAgg9
 z9 := Tryz.sizeOf9
 v9 := Tryz.zeroValue9 }
def Tryz.laysCount_ren : Go.Shelf.Ren := ⟨fun | 138 => 117 | 195 => 132 | 218 => 134 | 143 => 118 | 219 => 135 | 217 => 141 | 225 => 142 | 224 => 143 | 267 => 144 | 266 => 147 | 314 => 148 | n => n, fun | 9 => 9 | 3 => 3 | 4 => 4 | 5 => 5 | 0 => 0 | 46 => 29 | 146 => 134 | 51 => 129 | n => n, fun | 1 => 0 | n => n⟩
theorem Tryz.laysCount : Go.Proofs.Lays.n138 Tryz.prog Tryz.laysCount_ren := {
 mixed := by kernel_rfl
 f138 := Tryz.func117.trans (congrArg some (by kernel_rfl))
 f143 := Tryz.func118.trans (congrArg some (by kernel_rfl))
 f195 := Tryz.func132.trans (congrArg some (by kernel_rfl))
 f217 := Tryz.func141.trans (congrArg some (by kernel_rfl))
 f218 := Tryz.func134.trans (congrArg some (by kernel_rfl))
 f219 := Tryz.func135.trans (congrArg some (by kernel_rfl))
 f224 := Tryz.func143.trans (congrArg some (by kernel_rfl))
 f225 := Tryz.func142.trans (congrArg some (by kernel_rfl))
 f266 := Tryz.func147.trans (congrArg some (by kernel_rfl))
 f267 := Tryz.func144.trans (congrArg some (by kernel_rfl))
 f314 := Tryz.func148.trans (congrArg some (by kernel_rfl))
 t0 := Tryz.underlying0
 a0 := Tryz.isAgg0
 z0 := Tryz.sizeOf0
 v0 := Tryz.zeroValue0
 t3 := Tryz.underlying3
 a3 := Tryz.isAgg3
 z3 := Tryz.sizeOf3
 v3 := Tryz.zeroValue3
 t4 := Tryz.underlying4
 a4 := Tryz.isAgg4
 z4 := Tryz.sizeOf4
 v4 := Tryz.zeroValue4
 t5 := Tryz.underlying5
 a5 := Tryz.isAgg5
 z5 := Tryz.sizeOf5
 v5 := Tryz.zeroValue5
 t9 := Tryz.underlying9
 a9 := Tryz.isAgg9
 z9 := Tryz.sizeOf9
 v9 := Tryz.zeroValue9
 t46 := Tryz.underlying29
 a46 := Tryz.isAgg29
 z46 := Tryz.sizeOf29
 v46 := Tryz.zeroValue29
 t51 := Tryz.underlying129
 a51 := Tryz.isAgg129
 z51 := Tryz.sizeOf129
 v51 := Tryz.zeroValue129
 t146 := Tryz.underlying134
 a146 := Tryz.isAgg134
 z146 := Tryz.sizeOf134
 v146 := Tryz.zeroValue134
 g1 := by kernel_rfl }
end Go.Proofs
namespace Go.Proofs.YtgmhbmcdlkajdaaGreatDoor.Ab
open Go.Shelf Go.RowKit
def prB (f : FuncId) : Pr1 := (f, fun vs => match vs with
 | [.v (.string s), .v (.int .u8 c)] => some (.v (.int .i64 (Lib.indexByte s.data.toList c.toNat.toUInt8)))
 | _ => none)
theorem prB_ok {P : Program} {f : FuncId} (hE : Enters P f) (h : ∀ (s : ByteArray) (c : Int) (w : World), Calls P f #[.string s, .int .u8 c] w fun e w' => e = .returned (.int .i64 (Lib.indexByte s.data.toList c.toNat.toUInt8)) ∧ w' = w) : Pr1OK P (prB f) := by
 intro vs w hw hp nx
 simp only [prB] at hw
 split at hw
 ·rename_i a b
  cases hw
  have := pure_of_same (fr := true) (xs := [.string a, .int .u8 b]) hE rfl (h a b)
  exact (inl_of_pure (vs := [.v (.string a), .v (.int .u8 b)]) (b := false) (is := []) rfl this (.inl rfl)).mono fun v hp nx h => h
 ·cases hw
def one (t : ByteArray) : Option UInt8 := match t.data.toList with
 | [c] => some c
 | _ => none
def prO (f : FuncId) : Pr1 := (f, fun vs => match vs with
 | [.v (.string s), .v (.string t)] => (one t).map fun c => .v (.int .i64 (Lib.countByte s.data.toList c))
 | _ => none)
theorem prO_ok {P : Program} {f : FuncId} (hE : Enters P f) (h : ∀ (s : ByteArray) (c : UInt8) (w : World), Calls P f #[.string s, .string ⟨#[c]⟩] w fun e w' => e = .returned (.int .i64 (Lib.countByte s.data.toList c)) ∧ w' = w) : Pr1OK P (prO f) := by
 intro vs w hw hp nx
 simp only [prO] at hw
 split at hw
 ·rename_i s t
  obtain ⟨c, hc, rfl⟩ := Option.map_eq_some_iff.1 hw
  have e : t = ⟨#[c]⟩ := by
   unfold one at hc
   split at hc
   ·rename_i hx
    cases hc
    cases t with
    | mk a =>
     cases a with
     | mk l =>
      have hx : l = [c] := hx
      rw [hx]
   ·cases hc
  subst e
  have := pure_of_same (fr := true) (xs := [.string s, .string ⟨#[c]⟩]) hE rfl (h s c)
  exact (inl_of_pure (vs := [.v (.string s), .v (.string ⟨#[c]⟩)]) (b := false) (is := []) rfl this (.inl rfl)).mono fun v hp nx h => h
 ·cases hw
theorem ibOk : Pr1OK Tryz.prog (prB 141) := prB_ok ⟨_, Tryz.func141, by kernel_rfl, by kernel_rfl⟩ fun s c w => Any.stringslite_IndexByte Tryz.laysIndexByte s c w
theorem coOk : Pr1OK Tryz.prog (prO 117) := prO_ok ⟨_, Tryz.func117, by kernel_rfl, by kernel_rfl⟩ fun s c w => Any.strings_Count_one Tryz.laysCount s c w
def primsT : List Pr1 := [prS 113, prB 141, prO 117]
theorem primsT_each : ∀ p ∈ primsT, Pr1OK Tryz.prog p := fun p hp => by
 simp only [primsT, List.mem_cons, List.not_mem_nil, or_false] at hp
 rcases hp with rfl | rfl | rfl
 ·exact csOk
 ·exact ibOk
 ·exact coOk
end Go.Proofs.YtgmhbmcdlkajdaaGreatDoor.Ab
