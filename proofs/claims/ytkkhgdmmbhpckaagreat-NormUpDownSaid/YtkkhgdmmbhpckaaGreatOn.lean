/-
 norm.Once: what is told, each once and in order: by the library's own contracts of Clone, Sort and Compact.
-/
import Derived.Test.YtkkhgdmmbhpckaaGreatTab
import Derived.Test.YtkkhgdmmbhpckaaGreatAbU
import Derived.Deep.LoopGhost
import Derived.Ground.NamesProg
import Derived.Ground.Names2Prog
import Derived.Shelf.Slices.In.CompactS
import Derived.Shelf.Slices.In.SortNone
import Derived.Sort.EveryDepth
namespace Go.Proofs
open Go.Shelf Go.RowKit Go.Sort
def Tryz.laysSort_ren : Go.Shelf.Ren := ⟨fun | 190 => 50 | 125 => 80 | 258 => 79 | 128 => 102 | 129 => 103 | 302 => 93 | 303 => 94 | 304 => 95 | 305 => 96 | 306 => 97 | 307 => 98 | 308 => 99 | 309 => 100 | 310 => 101 | 333 => 139 | 329 => 140 | 330 => 141 | 334 => 142 | 335 => 143 | 336 => 138 | 344 => 156 | n => n, fun | 31 => 23 | 9 => 9 | 3 => 3 | 46 => 33 | 0 => 0 | 51 => 130 | 53 => 132 | 4 => 4 | 183 => 122 | 182 => 121 | 131 => 127 | 5 => 5 | 218 => 154 | 222 => 158 | 228 => 168 | 229 => 169 | n => n, fun | n => n⟩
theorem Tryz.laysSort : Go.Proofs.Lays.n190 Tryz.prog Tryz.laysSort_ren := {
 mixed := by kernel_rfl
 f125 := Tryz.func80.trans (congrArg some (by kernel_rfl))
 f128 := Tryz.func102.trans (congrArg some (by kernel_rfl))
 f129 := Tryz.func103.trans (congrArg some (by kernel_rfl))
 f190 := Tryz.func50.trans (congrArg some (by kernel_rfl))
 f258 := Tryz.func79.trans (congrArg some (by kernel_rfl))
 f302 := Tryz.func93.trans (congrArg some (by kernel_rfl))
 f303 := Tryz.func94.trans (congrArg some (by kernel_rfl))
 f304 := Tryz.func95.trans (congrArg some (by kernel_rfl))
 f305 := Tryz.func96.trans (congrArg some (by kernel_rfl))
 f306 := Tryz.func97.trans (congrArg some (by kernel_rfl))
 f307 := Tryz.func98.trans (congrArg some (by kernel_rfl))
 f308 := Tryz.func99.trans (congrArg some (by kernel_rfl))
 f309 := Tryz.func100.trans (congrArg some (by kernel_rfl))
 f310 := Tryz.func101.trans (congrArg some (by kernel_rfl))
 f329 := Tryz.func140.trans (congrArg some (by kernel_rfl))
 f330 := Tryz.func141.trans (congrArg some (by kernel_rfl))
 f333 := Tryz.func139.trans (congrArg some (by kernel_rfl))
 f334 := Tryz.func142.trans (congrArg some (by kernel_rfl))
 f335 := Tryz.func143.trans (congrArg some (by kernel_rfl))
 f336 := Tryz.func138.trans (congrArg some (by kernel_rfl))
 f344 := Tryz.func156.trans (congrArg some (by kernel_rfl))
 t0 := Tryz.underlying0
 a0 := Tryz.isAgg0
 z0 := Tryz.sizeOf0
 v0 := Tryz.zeroValue0
 t3 := Tryz.underlying3
 a3 := Tryz.isAgg3
 z3 := Tryz.sizeOf3
 v3 := Tryz.zeroValue3
 t4 := Tryz.underlying4
 a4 := Tryz.isAgg4
 z4 := Tryz.sizeOf4
 v4 := Tryz.zeroValue4
 t5 := Tryz.underlying5
 a5 := Tryz.isAgg5
 z5 := Tryz.sizeOf5
 v5 := Tryz.zeroValue5
 t9 := Tryz.underlying9
 a9 := Tryz.isAgg9
 z9 := Tryz.sizeOf9
 v9 := Tryz.zeroValue9
 t31 := Tryz.underlying23
 a31 := Tryz.isAgg23
 z31 := Tryz.sizeOf23
 v31 := Tryz.zeroValue23
 t46 := Tryz.underlying33
 a46 := Tryz.isAgg33
 z46 := Tryz.sizeOf33
 v46 := Tryz.zeroValue33
 t51 := Tryz.underlying130
 a51 := Tryz.isAgg130
 z51 := Tryz.sizeOf130
 v51 := Tryz.zeroValue130
 t53 := Tryz.underlying132
 a53 := Tryz.isAgg132
 z53 := Tryz.sizeOf132
 v53 := Tryz.zeroValue132
 t131 := Tryz.underlying127
 a131 := Tryz.isAgg127
 z131 := Tryz.sizeOf127
 v131 := Tryz.zeroValue127
 t182 := Tryz.underlying121
 a182 := Tryz.isAgg121
 z182 := Tryz.sizeOf121
 v182 := Tryz.zeroValue121
 t183 := Tryz.underlying122
 a183 := Tryz.isAgg122
 z183 := Tryz.sizeOf122
 v183 := Tryz.zeroValue122
 t218 := Tryz.underlying154
 a218 := Tryz.isAgg154
 z218 := Tryz.sizeOf154
 v218 := Tryz.zeroValue154
 t222 := Tryz.underlying158
 a222 := Tryz.isAgg158
 z222 := Tryz.sizeOf158
 v222 := Tryz.zeroValue158
 t228 := Tryz.underlying168
 a228 := Tryz.isAgg168
 z228 := Tryz.sizeOf168
 v228 := Tryz.zeroValue168
 t229 := Tryz.underlying169
 a229 := Tryz.isAgg169
 z229 := Tryz.sizeOf169
 v229 := Tryz.zeroValue169 }
end Go.Proofs
namespace Go.Proofs.YtkkhgdmmbhpckaaGreat.Ab
open Go.Shelf Go.RowKit Go.Sort
theorem sort_c (blk cap : Nat) (zs : List (List UInt8)) (w : World) (hH : Holds encStr w blk 0 zs.toArray) (hblk : blk < w.heap.size) (hsz : zs.length < 4611686018427387904) :
  Calls Tryz.prog 50 #[.slice (some ⟨blk, 0, none⟩) zs.length cap] w fun e w' =>
   e = .returned (.tuple #[]) ∧ ∃ n os, w' = grow (putRow encStr (Sort.ahead w n) blk 0 (zs.mergeSort fun x y => decide (x ≤ y)).toArray) os :=
 calls_of_every_depth fun D => AnyS.slices_Sort_string_alone Tryz.laysSort D blk 0 cap zs w hH hblk hsz
theorem enSort : Enters Tryz.prog 50 := ⟨_, Tryz.func50, by kernel_rfl, by kernel_rfl⟩
end Go.Proofs.YtkkhgdmmbhpckaaGreat.Ab
