/-
 What the machine is told of this program's types.
-/
import Derived.Test.YtjkdbakgnnhdnaaGreatAbH
import Derived.Test.YtjkdbakgnnhdnaaGreatProg
import Derived.IntWalk
import Derived.KernelRfl
namespace Go.Proofs.YtjkdbakgnnhdnaaGreat.Ab
theorem tab_ex : ∃ t, t = tabP Tryz.prog := ⟨_, rfl⟩
noncomputable def tab : Nat → TI := Classical.choose tab_ex
theorem tab_eq : tab = tabP Tryz.prog := Classical.choose_spec tab_ex
theorem tab_ok : TabOk Tryz.prog tab := tab_eq ▸ tabP_ok _
theorem tab_is {k : Nat} {x : TI} (h : tabP Tryz.prog k = x) : tab k = x := by rw [tab_eq]; exact h
theorem fol : Tryz.prog.follows .mixedOrders = true := by kernel_rfl
@[go_sem] theorem tab2 : tab 2 = { ok := true, kind := .int .i64, size := 1, bytes := 8, zero := [.int .i64 0] } := tab_is (by kernel_rfl)
@[go_sem] theorem tab3 : tab 3 = { ok := true, kind := .int .i64, size := 1, bytes := 8, zero := [.int .i64 0] } := tab_is (by kernel_rfl)
@[go_sem] theorem tab4 : tab 4 = { ok := true, kind := .bool, size := 1, bytes := 1, zero := [.bool false] } := tab_is (by kernel_rfl)
@[go_sem] theorem tab9 : tab 9 = { ok := true, kind := .string, size := 1, bytes := 16, zero := [.string ByteArray.empty] } := tab_is (by kernel_rfl)
@[go_sem] theorem tab22 : tab 22 = { ok := true, kind := .slice, size := 1, bytes := 24, elem := 2, zero := [.slice none 0 0] } := tab_is (by kernel_rfl)
@[go_sem] theorem tab25 : tab 25 = { ok := true, kind := .slice, size := 1, bytes := 24, elem := 32, zero := [.slice none 0 0] } := tab_is (by kernel_rfl)
@[go_sem] theorem tab26 : tab 26 = { ok := true, kind := .array 16, size := 16, bytes := 16, offs := [(0, 1), (1, 1), (2, 1), (3, 1), (4, 1), (5, 1), (6, 1), (7, 1), (8, 1), (9, 1), (10, 1), (11, 1), (12, 1), (13, 1), (14, 1), (15, 1)], elem := 4, zero := [.bool false, .bool false, .bool false, .bool false, .bool false, .bool false, .bool false, .bool false, .bool false, .bool false, .bool false, .bool false, .bool false, .bool false, .bool false, .bool false] } := tab_is (by kernel_rfl)
@[go_sem] theorem tab28 : tab 28 = { ok := true, kind := .struct, size := 2, bytes := 32, offs := [(0, 1), (1, 1)], zero := [.string ByteArray.empty, .string ByteArray.empty], flat := some [.string, .string] } := tab_is (by kernel_rfl)
@[go_sem] theorem tab30 : tab 30 = { ok := true, kind := .struct, size := 3, bytes := 48, offs := [(0, 1), (1, 1), (2, 1)], zero := [.string ByteArray.empty, .string ByteArray.empty, .string ByteArray.empty], flat := some [.string, .string, .string] } := tab_is (by kernel_rfl)
@[go_sem] theorem tab32 : tab 32 = { ok := true, kind := .struct, size := 6, bytes := 96, offs := [(0, 2), (2, 1), (3, 3)], zero := [.string ByteArray.empty, .string ByteArray.empty, .string ByteArray.empty, .string ByteArray.empty, .string ByteArray.empty, .string ByteArray.empty], flat := some [.string, .string, .string, .string, .string, .string] } := tab_is (by kernel_rfl)
@[go_sem] theorem tab33 : tab 33 = { ok := true, kind := .slice, size := 1, bytes := 24, elem := 9, zero := [.slice none 0 0] } := tab_is (by kernel_rfl)
@[go_sem] theorem tab38 : tab 38 = { ok := true, kind := .struct, size := 2, bytes := 24, offs := [(0, 1), (1, 1)], zero := [.string ByteArray.empty, .int .i64 0], flat := some [.string, .int .i64] } := tab_is (by kernel_rfl)
@[go_sem] theorem tab43 : tab 43 = { ok := true, kind := .ptr, size := 1, bytes := 8, elem := 51, zero := [.pointer none] } := tab_is (by kernel_rfl)
@[go_sem] theorem tab48 : tab 48 = { ok := true, kind := .ptr, size := 1, bytes := 8, elem := 125, zero := [.pointer none] } := tab_is (by kernel_rfl)
@[go_sem] theorem tab49 : tab 49 = { ok := true, kind := .ptr, size := 1, bytes := 8, elem := 61, zero := [.pointer none] } := tab_is (by kernel_rfl)
@[go_sem] theorem tab51 : tab 51 = { ok := true, kind := .struct, size := 3, bytes := 40, offs := [(0, 1), (1, 1), (2, 1)], zero := [.pointer none, .pointer none, .slice none 0 0] } := tab_is (by kernel_rfl)
@[go_sem] theorem tab53 : tab 53 = { ok := true, kind := .map, size := 1, bytes := 8, elem := 80, zero := [.map none], mkey := some (true, [.string, .string, .string]) } := tab_is (by kernel_rfl)
@[go_sem] theorem tab54 : tab 54 = { ok := true, kind := .map, size := 1, bytes := 8, elem := 33, zero := [.map none], mkey := some (false, [.string]) } := tab_is (by kernel_rfl)
@[go_sem] theorem tab56 : tab 56 = { ok := true, kind := .struct, size := 2, bytes := 16, offs := [(0, 1), (1, 1)], zero := [.map none, .map none] } := tab_is (by kernel_rfl)
@[go_sem] theorem tab57 : tab 57 = { ok := true, kind := .map, size := 1, bytes := 8, elem := 92, zero := [.map none], mkey := some (true, [.string, .string, .string]) } := tab_is (by kernel_rfl)
@[go_sem] theorem tab59 : tab 59 = { ok := true, kind := .struct, size := 2, bytes := 16, offs := [(0, 1), (1, 1)], zero := [.map none, .map none] } := tab_is (by kernel_rfl)
@[go_sem] theorem tab61 : tab 61 = { ok := true, kind := .struct, size := 4, bytes := 32, offs := [(0, 2), (2, 2)], zero := [.map none, .map none, .map none, .map none] } := tab_is (by kernel_rfl)
@[go_sem] theorem tab70 : tab 70 = { ok := true, kind := .slice, size := 1, bytes := 24, elem := 120, zero := [.slice none 0 0] } := tab_is (by kernel_rfl)
@[go_sem] theorem tab80 : tab 80 = { ok := true, kind := .slice, size := 1, bytes := 24, elem := 30, zero := [.slice none 0 0] } := tab_is (by kernel_rfl)
@[go_sem] theorem tab82 : tab 82 = { ok := true, kind := .struct, size := 3, bytes := 64, offs := [(0, 1), (1, 1), (2, 1)], zero := [.string ByteArray.empty, .slice none 0 0, .slice none 0 0] } := tab_is (by kernel_rfl)
@[go_sem] theorem tab90 : tab 90 = { ok := true, kind := .ptr, size := 1, bytes := 8, elem := 94, zero := [.pointer none] } := tab_is (by kernel_rfl)
@[go_sem] theorem tab91 : tab 91 = { ok := true, kind := .map, size := 1, bytes := 8, elem := 100, zero := [.map none], mkey := some (true, [.string, .string, .string]) } := tab_is (by kernel_rfl)
@[go_sem] theorem tab92 : tab 92 = { ok := true, kind := .slice, size := 1, bytes := 24, elem := 96, zero := [.slice none 0 0] } := tab_is (by kernel_rfl)
@[go_sem] theorem tab94 : tab 94 = { ok := true, kind := .struct, size := 6, bytes := 88, offs := [(0, 1), (1, 3), (4, 1), (5, 1)], zero := [.pointer none, .string ByteArray.empty, .string ByteArray.empty, .string ByteArray.empty, .map none, .slice none 0 0] } := tab_is (by kernel_rfl)
@[go_sem] theorem tab96 : tab 96 = { ok := true, kind := .struct, size := 3, bytes := 48, offs := [(0, 2), (2, 1)], zero := [.string ByteArray.empty, .string ByteArray.empty, .string ByteArray.empty], flat := some [.string, .string, .string] } := tab_is (by kernel_rfl)
@[go_sem] theorem tab99 : tab 99 = { ok := true, kind := .struct, size := 4, bytes := 64, offs := [(0, 1), (1, 1), (2, 1), (3, 1)], zero := [.int .i64 0, .slice none 0 0, .slice none 0 0, .bool false] } := tab_is (by kernel_rfl)
@[go_sem] theorem tab100 : tab 100 = { ok := true, kind := .ptr, size := 1, bytes := 8, elem := 99, zero := [.pointer none] } := tab_is (by kernel_rfl)
@[go_sem] theorem tab120 : tab 120 = { ok := true, kind := .struct, size := 3, bytes := 40, offs := [(0, 1), (1, 1), (2, 1)], zero := [.int .i64 0, .string ByteArray.empty, .string ByteArray.empty], flat := some [.int .i64, .string, .string] } := tab_is (by kernel_rfl)
@[go_sem] theorem tab122 : tab 122 = { ok := true, kind := .map, size := 1, bytes := 8, elem := 82, zero := [.map none], mkey := some (true, [.string, .string]) } := tab_is (by kernel_rfl)
@[go_sem] theorem tab123 : tab 123 = { ok := true, kind := .map, size := 1, bytes := 8, elem := 3, zero := [.map none], mkey := some (true, [.string, .string]) } := tab_is (by kernel_rfl)
@[go_sem] theorem tab125 : tab 125 = { ok := true, kind := .struct, size := 3, bytes := 24, offs := [(0, 1), (1, 1), (2, 1)], zero := [.map none, .map none, .map none] } := tab_is (by kernel_rfl)
@[go_sem] theorem tab130 : tab 130 = { ok := true, kind := .struct, size := 2, bytes := 32, offs := [(0, 1), (1, 1)], zero := [.string ByteArray.empty, .string ByteArray.empty], flat := some [.string, .string] } := tab_is (by kernel_rfl)
@[go_sem] theorem tab146 : tab 146 = { ok := true, kind := .slice, size := 1, bytes := 24, elem := 149, zero := [.slice none 0 0] } := tab_is (by kernel_rfl)
@[go_sem] theorem tab149 : tab 149 = { ok := true, kind := .struct, size := 3, bytes := 40, offs := [(0, 2), (2, 1)], zero := [.string ByteArray.empty, .string ByteArray.empty, .int .i64 0], flat := some [.string, .string, .int .i64] } := tab_is (by kernel_rfl)
@[go_sem] theorem tab191 : tab 191 = { ok := true, kind := .slice, size := 1, bytes := 24, elem := 3, zero := [.slice none 0 0] } := tab_is (by kernel_rfl)
end Go.Proofs.YtjkdbakgnnhdnaaGreat.Ab
