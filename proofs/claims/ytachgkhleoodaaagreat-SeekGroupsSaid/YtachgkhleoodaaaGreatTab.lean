/-
 What the machine is told of this program's types.
-/
import Derived.Test.YtachgkhleoodaaaGreatAbH
import Derived.Test.YtachgkhleoodaaaGreatProg
import Derived.IntWalk
import Derived.KernelRfl
namespace Go.Proofs.YtachgkhleoodaaaGreat.Ab
theorem tab_ex : ∃ t, t = tabP Tryz.prog := ⟨_, rfl⟩
noncomputable def tab : Nat → TI := Classical.choose tab_ex
theorem tab_eq : tab = tabP Tryz.prog := Classical.choose_spec tab_ex
theorem tab_ok : TabOk Tryz.prog tab := tab_eq ▸ tabP_ok _
theorem tab_is {k : Nat} {x : TI} (h : tabP Tryz.prog k = x) : tab k = x := by rw [tab_eq]; exact h
theorem fol : Tryz.prog.follows .mixedOrders = true := by kernel_rfl
@[go_sem] theorem tab2 : tab 2 = { ok := true, kind := .int .i64, size := 1, bytes := 8, zero := [.int .i64 0] } := tab_is (by kernel_rfl)
@[go_sem] theorem tab3 : tab 3 = { ok := true, kind := .int .i64, size := 1, bytes := 8, zero := [.int .i64 0] } := tab_is (by kernel_rfl)
@[go_sem] theorem tab4 : tab 4 = { ok := true, kind := .bool, size := 1, bytes := 1, zero := [.bool false] } := tab_is (by kernel_rfl)
@[go_sem] theorem tab9 : tab 9 = { ok := true, kind := .string, size := 1, bytes := 16, zero := [.string ByteArray.empty] } := tab_is (by kernel_rfl)
@[go_sem] theorem tab22 : tab 22 = { ok := true, kind := .slice, size := 1, bytes := 24, elem := 2, zero := [.slice none 0 0] } := tab_is (by kernel_rfl)
@[go_sem] theorem tab25 : tab 25 = { ok := true, kind := .slice, size := 1, bytes := 24, elem := 35, zero := [.slice none 0 0] } := tab_is (by kernel_rfl)
@[go_sem] theorem tab26 : tab 26 = { ok := true, kind := .array 8, size := 8, bytes := 8, offs := [(0, 1), (1, 1), (2, 1), (3, 1), (4, 1), (5, 1), (6, 1), (7, 1)], elem := 4, zero := [.bool false, .bool false, .bool false, .bool false, .bool false, .bool false, .bool false, .bool false] } := tab_is (by kernel_rfl)
@[go_sem] theorem tab27 : tab 27 = { ok := true, kind := .array 8, size := 64, bytes := 64, offs := [(0, 8), (8, 8), (16, 8), (24, 8), (32, 8), (40, 8), (48, 8), (56, 8)], elem := 26, zero := [.bool false, .bool false, .bool false, .bool false, .bool false, .bool false, .bool false, .bool false, .bool false, .bool false, .bool false, .bool false, .bool false, .bool false, .bool false, .bool false, .bool false, .bool false, .bool false, .bool false, .bool false, .bool false, .bool false, .bool false, .bool false, .bool false, .bool false, .bool false, .bool false, .bool false, .bool false, .bool false, .bool false, .bool false, .bool false, .bool false, .bool false, .bool false, .bool false, .bool false, .bool false, .bool false, .bool false, .bool false, .bool false, .bool false, .bool false, .bool false, .bool false, .bool false, .bool false, .bool false, .bool false, .bool false, .bool false, .bool false, .bool false, .bool false, .bool false, .bool false, .bool false, .bool false, .bool false, .bool false] } := tab_is (by kernel_rfl)
@[go_sem] theorem tab31 : tab 31 = { ok := true, kind := .struct, size := 2, bytes := 32, offs := [(0, 1), (1, 1)], zero := [.string ByteArray.empty, .string ByteArray.empty], flat := some [.string, .string] } := tab_is (by kernel_rfl)
@[go_sem] theorem tab33 : tab 33 = { ok := true, kind := .struct, size := 3, bytes := 48, offs := [(0, 1), (1, 1), (2, 1)], zero := [.string ByteArray.empty, .string ByteArray.empty, .string ByteArray.empty], flat := some [.string, .string, .string] } := tab_is (by kernel_rfl)
@[go_sem] theorem tab35 : tab 35 = { ok := true, kind := .struct, size := 6, bytes := 96, offs := [(0, 2), (2, 1), (3, 3)], zero := [.string ByteArray.empty, .string ByteArray.empty, .string ByteArray.empty, .string ByteArray.empty, .string ByteArray.empty, .string ByteArray.empty], flat := some [.string, .string, .string, .string, .string, .string] } := tab_is (by kernel_rfl)
@[go_sem] theorem tab43 : tab 43 = { ok := true, kind := .ptr, size := 1, bytes := 8, elem := 79, zero := [.pointer none] } := tab_is (by kernel_rfl)
@[go_sem] theorem tab49 : tab 49 = { ok := true, kind := .slice, size := 1, bytes := 24, elem := 87, zero := [.slice none 0 0] } := tab_is (by kernel_rfl)
@[go_sem] theorem tab56 : tab 56 = { ok := true, kind := .slice, size := 1, bytes := 24, elem := 138, zero := [.slice none 0 0] } := tab_is (by kernel_rfl)
@[go_sem] theorem tab67 : tab 67 = { ok := true, kind := .slice, size := 1, bytes := 24, elem := 33, zero := [.slice none 0 0] } := tab_is (by kernel_rfl)
@[go_sem] theorem tab69 : tab 69 = { ok := true, kind := .struct, size := 3, bytes := 64, offs := [(0, 1), (1, 1), (2, 1)], zero := [.string ByteArray.empty, .slice none 0 0, .slice none 0 0] } := tab_is (by kernel_rfl)
@[go_sem] theorem tab72 : tab 72 = { ok := true, kind := .ptr, size := 1, bytes := 8, elem := 108, zero := [.pointer none] } := tab_is (by kernel_rfl)
@[go_sem] theorem tab76 : tab 76 = { ok := true, kind := .ptr, size := 1, bytes := 8, elem := 125, zero := [.pointer none] } := tab_is (by kernel_rfl)
@[go_sem] theorem tab79 : tab 79 = { ok := true, kind := .struct, size := 3, bytes := 40, offs := [(0, 1), (1, 1), (2, 1)], zero := [.pointer none, .pointer none, .slice none 0 0] } := tab_is (by kernel_rfl)
@[go_sem] theorem tab82 : tab 82 = { ok := true, kind := .ptr, size := 1, bytes := 8, elem := 85, zero := [.pointer none] } := tab_is (by kernel_rfl)
@[go_sem] theorem tab83 : tab 83 = { ok := true, kind := .map, size := 1, bytes := 8, elem := 91, zero := [.map none], mkey := some (true, [.string, .string, .string]) } := tab_is (by kernel_rfl)
@[go_sem] theorem tab85 : tab 85 = { ok := true, kind := .struct, size := 6, bytes := 88, offs := [(0, 1), (1, 3), (4, 1), (5, 1)], zero := [.pointer none, .string ByteArray.empty, .string ByteArray.empty, .string ByteArray.empty, .map none, .slice none 0 0] } := tab_is (by kernel_rfl)
@[go_sem] theorem tab87 : tab 87 = { ok := true, kind := .struct, size := 3, bytes := 48, offs := [(0, 2), (2, 1)], zero := [.string ByteArray.empty, .string ByteArray.empty, .string ByteArray.empty], flat := some [.string, .string, .string] } := tab_is (by kernel_rfl)
@[go_sem] theorem tab90 : tab 90 = { ok := true, kind := .struct, size := 4, bytes := 64, offs := [(0, 1), (1, 1), (2, 1), (3, 1)], zero := [.int .i64 0, .slice none 0 0, .slice none 0 0, .bool false] } := tab_is (by kernel_rfl)
@[go_sem] theorem tab91 : tab 91 = { ok := true, kind := .ptr, size := 1, bytes := 8, elem := 90, zero := [.pointer none] } := tab_is (by kernel_rfl)
@[go_sem] theorem tab92 : tab 92 = { ok := true, kind := .slice, size := 1, bytes := 24, elem := 9, zero := [.slice none 0 0] } := tab_is (by kernel_rfl)
@[go_sem] theorem tab105 : tab 105 = { ok := true, kind := .map, size := 1, bytes := 8, elem := 69, zero := [.map none], mkey := some (true, [.string, .string]) } := tab_is (by kernel_rfl)
@[go_sem] theorem tab106 : tab 106 = { ok := true, kind := .map, size := 1, bytes := 8, elem := 3, zero := [.map none], mkey := some (true, [.string, .string]) } := tab_is (by kernel_rfl)
@[go_sem] theorem tab108 : tab 108 = { ok := true, kind := .struct, size := 3, bytes := 24, offs := [(0, 1), (1, 1), (2, 1)], zero := [.map none, .map none, .map none] } := tab_is (by kernel_rfl)
@[go_sem] theorem tab113 : tab 113 = { ok := true, kind := .struct, size := 2, bytes := 32, offs := [(0, 1), (1, 1)], zero := [.string ByteArray.empty, .string ByteArray.empty], flat := some [.string, .string] } := tab_is (by kernel_rfl)
@[go_sem] theorem tab117 : tab 117 = { ok := true, kind := .map, size := 1, bytes := 8, elem := 67, zero := [.map none], mkey := some (true, [.string, .string, .string]) } := tab_is (by kernel_rfl)
@[go_sem] theorem tab118 : tab 118 = { ok := true, kind := .map, size := 1, bytes := 8, elem := 92, zero := [.map none], mkey := some (false, [.string]) } := tab_is (by kernel_rfl)
@[go_sem] theorem tab120 : tab 120 = { ok := true, kind := .struct, size := 2, bytes := 16, offs := [(0, 1), (1, 1)], zero := [.map none, .map none] } := tab_is (by kernel_rfl)
@[go_sem] theorem tab121 : tab 121 = { ok := true, kind := .map, size := 1, bytes := 8, elem := 49, zero := [.map none], mkey := some (true, [.string, .string, .string]) } := tab_is (by kernel_rfl)
@[go_sem] theorem tab123 : tab 123 = { ok := true, kind := .struct, size := 2, bytes := 16, offs := [(0, 1), (1, 1)], zero := [.map none, .map none] } := tab_is (by kernel_rfl)
@[go_sem] theorem tab125 : tab 125 = { ok := true, kind := .struct, size := 4, bytes := 32, offs := [(0, 2), (2, 2)], zero := [.map none, .map none, .map none, .map none] } := tab_is (by kernel_rfl)
@[go_sem] theorem tab138 : tab 138 = { ok := true, kind := .struct, size := 3, bytes := 40, offs := [(0, 1), (1, 1), (2, 1)], zero := [.int .i64 0, .string ByteArray.empty, .string ByteArray.empty], flat := some [.int .i64, .string, .string] } := tab_is (by kernel_rfl)
@[go_sem] theorem tab141 : tab 141 = { ok := true, kind := .slice, size := 1, bytes := 24, elem := 144, zero := [.slice none 0 0] } := tab_is (by kernel_rfl)
@[go_sem] theorem tab144 : tab 144 = { ok := true, kind := .struct, size := 3, bytes := 40, offs := [(0, 2), (2, 1)], zero := [.string ByteArray.empty, .string ByteArray.empty, .int .i64 0], flat := some [.string, .string, .int .i64] } := tab_is (by kernel_rfl)
@[go_sem] theorem tab167 : tab 167 = { ok := true, kind := .slice, size := 1, bytes := 24, elem := 3, zero := [.slice none 0 0] } := tab_is (by kernel_rfl)
end Go.Proofs.YtachgkhleoodaaaGreat.Ab
