/-
 What the machine is told of this program's types.
-/
import Derived.Test.YtkkhgdmmbhpckaaGreatAbH
import Derived.Test.YtkkhgdmmbhpckaaGreatProg
import Derived.IntWalk
import Derived.KernelRfl
namespace Go.Proofs.YtkkhgdmmbhpckaaGreat.Ab
theorem tab_ex : ∃ t, t = tabP Tryz.prog := ⟨_, rfl⟩
/-- Held back, so that nothing reckons it anew. -/
noncomputable def tab : Nat → TI := Classical.choose tab_ex
theorem tab_eq : tab = tabP Tryz.prog := Classical.choose_spec tab_ex
theorem tab_ok : TabOk Tryz.prog tab := tab_eq ▸ tabP_ok _
theorem tab_is {k : Nat} {x : TI} (h : tabP Tryz.prog k = x) : tab k = x := by rw [tab_eq]; exact h
theorem fol : Tryz.prog.follows .mixedOrders = true := by kernel_rfl
@[go_sem] theorem tab2 : tab 2 = { ok := true, kind := .int .i64, size := 1, bytes := 8, zero := [.int .i64 0] } := tab_is (by kernel_rfl)
@[go_sem] theorem tab3 : tab 3 = { ok := true, kind := .int .i64, size := 1, bytes := 8, zero := [.int .i64 0] } := tab_is (by kernel_rfl)
@[go_sem] theorem tab4 : tab 4 = { ok := true, kind := .bool, size := 1, bytes := 1, zero := [.bool false] } := tab_is (by kernel_rfl)
@[go_sem] theorem tab5 : tab 5 = { ok := true, kind := .int .u8, size := 1, bytes := 1, zero := [.int .u8 0] } := tab_is (by kernel_rfl)
@[go_sem] theorem tab6 : tab 6 = { ok := true, kind := .int .u8, size := 1, bytes := 1, zero := [.int .u8 0] } := tab_is (by kernel_rfl)
@[go_sem] theorem tab9 : tab 9 = { ok := true, kind := .string, size := 1, bytes := 16, zero := [.string ByteArray.empty] } := tab_is (by kernel_rfl)
@[go_sem] theorem tab10 : tab 10 = { ok := true, kind := .string, size := 1, bytes := 16, zero := [.string ByteArray.empty] } := tab_is (by kernel_rfl)
@[go_sem] theorem tab11 : tab 11 = { ok := true, kind := .string, size := 1, bytes := 16, zero := [.string ByteArray.empty] } := tab_is (by kernel_rfl)
@[go_sem] theorem tab12 : tab 12 = { ok := true, kind := .int .u64, size := 1, bytes := 8, zero := [.int .u64 0] } := tab_is (by kernel_rfl)
@[go_sem] theorem tab15 : tab 15 = { ok := true, kind := .ptr, size := 1, bytes := 8, elem := 177, zero := [.pointer none] } := tab_is (by kernel_rfl)
@[go_sem] theorem tab16 : tab 16 = { ok := true, kind := .ptr, size := 1, bytes := 8, elem := 180, zero := [.pointer none] } := tab_is (by kernel_rfl)
@[go_sem] theorem tab17 : tab 17 = { ok := true, kind := .ptr, size := 1, bytes := 8, elem := 189, zero := [.pointer none] } := tab_is (by kernel_rfl)
@[go_sem] theorem tab21 : tab 21 = { ok := true, kind := .int .i32, size := 1, bytes := 4, zero := [.int .i32 0] } := tab_is (by kernel_rfl)
@[go_sem] theorem tab22 : tab 22 = { ok := true, kind := .slice, size := 1, bytes := 24, elem := 2, zero := [.slice none 0 0] } := tab_is (by kernel_rfl)
@[go_sem] theorem tab23 : tab 23 = { ok := true, kind := .slice, size := 1, bytes := 24, elem := 9, zero := [.slice none 0 0] } := tab_is (by kernel_rfl)
@[go_sem] theorem tab24 : tab 24 = { ok := true, kind := .slice, size := 1, bytes := 24, elem := 35, zero := [.slice none 0 0] } := tab_is (by kernel_rfl)
@[go_sem] theorem tab25 : tab 25 = { ok := true, kind := .slice, size := 1, bytes := 24, elem := 57, zero := [.slice none 0 0] } := tab_is (by kernel_rfl)
@[go_sem] theorem tab26 : tab 26 = { ok := true, kind := .slice, size := 1, bytes := 24, elem := 60, zero := [.slice none 0 0] } := tab_is (by kernel_rfl)
@[go_sem] theorem tab27 : tab 27 = { ok := true, kind := .slice, size := 1, bytes := 24, elem := 62, zero := [.slice none 0 0] } := tab_is (by kernel_rfl)
@[go_sem] theorem tab28 : tab 28 = { ok := true, kind := .struct, size := 8, bytes := 192, offs := [(0, 1), (1, 1), (2, 1), (3, 1), (4, 1), (5, 1), (6, 1), (7, 1)], zero := [.slice none 0 0, .slice none 0 0, .slice none 0 0, .slice none 0 0, .slice none 0 0, .slice none 0 0, .slice none 0 0, .slice none 0 0] } := tab_is (by kernel_rfl)
@[go_sem] theorem tab29 : tab 29 = { ok := true, kind := .struct, size := 8, bytes := 192, offs := [(0, 1), (1, 1), (2, 1), (3, 1), (4, 1), (5, 1), (6, 1), (7, 1)], zero := [.slice none 0 0, .slice none 0 0, .slice none 0 0, .slice none 0 0, .slice none 0 0, .slice none 0 0, .slice none 0 0, .slice none 0 0] } := tab_is (by kernel_rfl)
@[go_sem] theorem tab31 : tab 31 = { ok := true, kind := .array 8, size := 8, bytes := 8, offs := [(0, 1), (1, 1), (2, 1), (3, 1), (4, 1), (5, 1), (6, 1), (7, 1)], elem := 4, zero := [.bool false, .bool false, .bool false, .bool false, .bool false, .bool false, .bool false, .bool false] } := tab_is (by kernel_rfl)
@[go_sem] theorem tab33 : tab 33 = { ok := true, kind := .int .u64, size := 1, bytes := 8, zero := [.int .u64 0] } := tab_is (by kernel_rfl)
@[go_sem] theorem tab34 : tab 34 = { ok := true, kind := .struct, size := 2, bytes := 32, offs := [(0, 1), (1, 1)], zero := [.string ByteArray.empty, .string ByteArray.empty], flat := some [.string, .string] } := tab_is (by kernel_rfl)
@[go_sem] theorem tab35 : tab 35 = { ok := true, kind := .struct, size := 2, bytes := 32, offs := [(0, 1), (1, 1)], zero := [.string ByteArray.empty, .string ByteArray.empty], flat := some [.string, .string] } := tab_is (by kernel_rfl)
@[go_sem] theorem tab39 : tab 39 = { ok := true, kind := .slice, size := 1, bytes := 24, elem := 52, zero := [.slice none 0 0] } := tab_is (by kernel_rfl)
@[go_sem] theorem tab51 : tab 51 = { ok := true, kind := .struct, size := 7, bytes := 96, offs := [(0, 1), (1, 1), (2, 1), (3, 1), (4, 1), (5, 1), (6, 1)], zero := [.int .i64 0, .string ByteArray.empty, .string ByteArray.empty, .string ByteArray.empty, .int .i64 0, .slice none 0 0, .int .i64 0] } := tab_is (by kernel_rfl)
@[go_sem] theorem tab52 : tab 52 = { ok := true, kind := .struct, size := 7, bytes := 96, offs := [(0, 1), (1, 1), (2, 1), (3, 1), (4, 1), (5, 1), (6, 1)], zero := [.int .i64 0, .string ByteArray.empty, .string ByteArray.empty, .string ByteArray.empty, .int .i64 0, .slice none 0 0, .int .i64 0] } := tab_is (by kernel_rfl)
@[go_sem] theorem tab54 : tab 54 = { ok := true, kind := .map, size := 1, bytes := 8, elem := 23, zero := [.map none], mkey := some (false, [.string]) } := tab_is (by kernel_rfl)
@[go_sem] theorem tab56 : tab 56 = { ok := true, kind := .struct, size := 3, bytes := 48, offs := [(0, 1), (1, 1), (2, 1)], zero := [.string ByteArray.empty, .string ByteArray.empty, .string ByteArray.empty], flat := some [.string, .string, .string] } := tab_is (by kernel_rfl)
@[go_sem] theorem tab57 : tab 57 = { ok := true, kind := .struct, size := 3, bytes := 48, offs := [(0, 1), (1, 1), (2, 1)], zero := [.string ByteArray.empty, .string ByteArray.empty, .string ByteArray.empty], flat := some [.string, .string, .string] } := tab_is (by kernel_rfl)
@[go_sem] theorem tab59 : tab 59 = { ok := true, kind := .struct, size := 3, bytes := 48, offs := [(0, 1), (1, 1), (2, 1)], zero := [.string ByteArray.empty, .int .i64 0, .slice none 0 0] } := tab_is (by kernel_rfl)
@[go_sem] theorem tab60 : tab 60 = { ok := true, kind := .struct, size := 3, bytes := 48, offs := [(0, 1), (1, 1), (2, 1)], zero := [.string ByteArray.empty, .int .i64 0, .slice none 0 0] } := tab_is (by kernel_rfl)
@[go_sem] theorem tab61 : tab 61 = { ok := true, kind := .struct, size := 3, bytes := 56, offs := [(0, 1), (1, 1), (2, 1)], zero := [.string ByteArray.empty, .string ByteArray.empty, .slice none 0 0] } := tab_is (by kernel_rfl)
@[go_sem] theorem tab62 : tab 62 = { ok := true, kind := .struct, size := 3, bytes := 56, offs := [(0, 1), (1, 1), (2, 1)], zero := [.string ByteArray.empty, .string ByteArray.empty, .slice none 0 0] } := tab_is (by kernel_rfl)
@[go_sem] theorem tab77 : tab 77 = { ok := true, kind := .slice, size := 1, bytes := 24, elem := 82, zero := [.slice none 0 0] } := tab_is (by kernel_rfl)
@[go_sem] theorem tab80 : tab 80 = { ok := true, kind := .slice, size := 1, bytes := 24, elem := 105, zero := [.slice none 0 0] } := tab_is (by kernel_rfl)
@[go_sem] theorem tab81 : tab 81 = { ok := true, kind := .struct, size := 2, bytes := 32, offs := [(0, 1), (1, 1)], zero := [.int .i64 0, .slice none 0 0] } := tab_is (by kernel_rfl)
@[go_sem] theorem tab82 : tab 82 = { ok := true, kind := .struct, size := 2, bytes := 32, offs := [(0, 1), (1, 1)], zero := [.int .i64 0, .slice none 0 0] } := tab_is (by kernel_rfl)
@[go_sem] theorem tab85 : tab 85 = { ok := true, kind := .map, size := 1, bytes := 8, elem := 3, zero := [.map none], mkey := some (false, [.string]) } := tab_is (by kernel_rfl)
@[go_sem] theorem tab104 : tab 104 = { ok := true, kind := .struct, size := 2, bytes := 24, offs := [(0, 1), (1, 1)], zero := [.string ByteArray.empty, .int .i64 0], flat := some [.string, .int .i64] } := tab_is (by kernel_rfl)
@[go_sem] theorem tab105 : tab 105 = { ok := true, kind := .struct, size := 2, bytes := 24, offs := [(0, 1), (1, 1)], zero := [.string ByteArray.empty, .int .i64 0], flat := some [.string, .int .i64] } := tab_is (by kernel_rfl)
@[go_sem] theorem tab113 : tab 113 = { ok := true, kind := .slice, size := 1, bytes := 24, elem := 3, zero := [.slice none 0 0] } := tab_is (by kernel_rfl)
@[go_sem] theorem tab121 : tab 121 = { ok := true, kind := .int .i64, size := 1, bytes := 8, zero := [.int .i64 0] } := tab_is (by kernel_rfl)
@[go_sem] theorem tab130 : tab 130 = { ok := true, kind := .int .u32, size := 1, bytes := 4, zero := [.int .u32 0] } := tab_is (by kernel_rfl)
@[go_sem] theorem tab132 : tab 132 = { ok := true, kind := .int .u64, size := 1, bytes := 8, zero := [.int .u64 0] } := tab_is (by kernel_rfl)
@[go_sem] theorem tab154 : tab 154 = { ok := true, kind := .int .u64, size := 1, bytes := 8, zero := [.int .u64 0] } := tab_is (by kernel_rfl)
@[go_sem] theorem tab158 : tab 158 = { ok := true, kind := .ptr, size := 1, bytes := 8, elem := 3, zero := [.pointer none] } := tab_is (by kernel_rfl)
@[go_sem] theorem tab168 : tab 168 = { ok := true, kind := .ptr, size := 1, bytes := 8, elem := 154, zero := [.pointer none] } := tab_is (by kernel_rfl)
@[go_sem] theorem tab178 : tab 178 = { ok := true, kind := .array 0, size := 0, bytes := 0, offs := [], elem := 16, zero := [] } := tab_is (by kernel_rfl)
@[go_sem] theorem tab182 : tab 182 = { ok := true, kind := .int .u8, size := 1, bytes := 1, zero := [.int .u8 0] } := tab_is (by kernel_rfl)
@[go_sem] theorem tab183 : tab 183 = { ok := true, kind := .int .u8, size := 1, bytes := 1, zero := [.int .u8 0] } := tab_is (by kernel_rfl)
@[go_sem] theorem tab185 : tab 185 = { ok := true, kind := .ptr, size := 1, bytes := 8, elem := 5, zero := [.pointer none] } := tab_is (by kernel_rfl)
@[go_sem] theorem tab186 : tab 186 = { ok := true, kind := .int .i32, size := 1, bytes := 4, zero := [.int .i32 0] } := tab_is (by kernel_rfl)
@[go_sem] theorem tab187 : tab 187 = { ok := true, kind := .int .i32, size := 1, bytes := 4, zero := [.int .i32 0] } := tab_is (by kernel_rfl)
@[go_sem] theorem tab188 : tab 188 = { ok := true, kind := .struct, size := 11, bytes := 48, offs := [(0, 1), (1, 1), (2, 1), (3, 1), (4, 1), (5, 1), (6, 1), (7, 1), (8, 1), (9, 1), (10, 1)], zero := [.int .u64 0, .int .u64 0, .int .u32 0, .int .u8 0, .int .u8 0, .int .u8 0, .int .u8 0, .nilFunc, .pointer none, .int .i32 0, .int .i32 0] } := tab_is (by kernel_rfl)
@[go_sem] theorem tab189 : tab 189 = { ok := true, kind := .struct, size := 11, bytes := 48, offs := [(0, 1), (1, 1), (2, 1), (3, 1), (4, 1), (5, 1), (6, 1), (7, 1), (8, 1), (9, 1), (10, 1)], zero := [.int .u64 0, .int .u64 0, .int .u32 0, .int .u8 0, .int .u8 0, .int .u8 0, .int .u8 0, .nilFunc, .pointer none, .int .i32 0, .int .i32 0] } := tab_is (by kernel_rfl)
@[go_sem] theorem tab190 : tab 190 = { ok := true, kind := .other, size := 1, bytes := 8, zero := [.pointer none] } := tab_is (by kernel_rfl)
end Go.Proofs.YtkkhgdmmbhpckaaGreat.Ab
