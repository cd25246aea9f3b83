/-
  What the machine is told of this program's types.
-/
import Derived.Test.YtkikhbfdadambaaDoorAbH
import Derived.Test.YtkikhbfdadambaaDoorProg
import Derived.IntWalk
import Derived.KernelRfl
namespace Go.Proofs.YtkikhbfdadambaaDoor.Ab
theorem tab_ex : ∃ t, t = tabP Tryd.prog := ⟨_, rfl⟩
/-- Held back, so that nothing reckons it anew. -/
noncomputable def tab : Nat → TI := Classical.choose tab_ex
theorem tab_eq : tab = tabP Tryd.prog := Classical.choose_spec tab_ex
theorem tab_ok : TabOk Tryd.prog tab := tab_eq ▸ tabP_ok _
theorem tab_is {k : Nat} {x : TI} (h : tabP Tryd.prog k = x) : tab k = x := by rw [tab_eq]; exact h
theorem fol : Tryd.prog.follows .mixedOrders = true := by kernel_rfl
@[go_sem] theorem tab2 : tab 2 = { ok := true, kind := .int .i64, size := 1, bytes := 8, zero := [.int .i64 0] } := tab_is (by kernel_rfl)
@[go_sem] theorem tab3 : tab 3 = { ok := true, kind := .int .i64, size := 1, bytes := 8, zero := [.int .i64 0] } := tab_is (by kernel_rfl)
@[go_sem] theorem tab4 : tab 4 = { ok := true, kind := .bool, size := 1, bytes := 1, zero := [.bool false] } := tab_is (by kernel_rfl)
@[go_sem] theorem tab5 : tab 5 = { ok := true, kind := .int .u8, size := 1, bytes := 1, zero := [.int .u8 0] } := tab_is (by kernel_rfl)
@[go_sem] theorem tab6 : tab 6 = { ok := true, kind := .int .u8, size := 1, bytes := 1, zero := [.int .u8 0] } := tab_is (by kernel_rfl)
@[go_sem] theorem tab9 : tab 9 = { ok := true, kind := .string, size := 1, bytes := 16, zero := [.string ByteArray.empty] } := tab_is (by kernel_rfl)
@[go_sem] theorem tab10 : tab 10 = { ok := true, kind := .string, size := 1, bytes := 16, zero := [.string ByteArray.empty] } := tab_is (by kernel_rfl)
@[go_sem] theorem tab11 : tab 11 = { ok := true, kind := .string, size := 1, bytes := 16, zero := [.string ByteArray.empty] } := tab_is (by kernel_rfl)
@[go_sem] theorem tab12 : tab 12 = { ok := true, kind := .int .u64, size := 1, bytes := 8, zero := [.int .u64 0] } := tab_is (by kernel_rfl)
@[go_sem] theorem tab15 : tab 15 = { ok := true, kind := .ptr, size := 1, bytes := 8, elem := 123, zero := [.pointer none] } := tab_is (by kernel_rfl)
@[go_sem] theorem tab16 : tab 16 = { ok := true, kind := .ptr, size := 1, bytes := 8, elem := 126, zero := [.pointer none] } := tab_is (by kernel_rfl)
@[go_sem] theorem tab17 : tab 17 = { ok := true, kind := .ptr, size := 1, bytes := 8, elem := 133, zero := [.pointer none] } := tab_is (by kernel_rfl)
@[go_sem] theorem tab21 : tab 21 = { ok := true, kind := .int .i32, size := 1, bytes := 4, zero := [.int .i32 0] } := tab_is (by kernel_rfl)
@[go_sem] theorem tab22 : tab 22 = { ok := true, kind := .int .u64, size := 1, bytes := 8, zero := [.int .u64 0] } := tab_is (by kernel_rfl)
@[go_sem] theorem tab23 : tab 23 = { ok := true, kind := .struct, size := 4, bytes := 40, offs := [(0, 1), (1, 1), (2, 1), (3, 1)], zero := [.int .i64 0, .bool false, .string ByteArray.empty, .int .i64 0], flat := some [.int .i64, .bool, .string, .int .i64] } := tab_is (by kernel_rfl)
@[go_sem] theorem tab24 : tab 24 = { ok := true, kind := .struct, size := 4, bytes := 40, offs := [(0, 1), (1, 1), (2, 1), (3, 1)], zero := [.int .i64 0, .bool false, .string ByteArray.empty, .int .i64 0], flat := some [.int .i64, .bool, .string, .int .i64] } := tab_is (by kernel_rfl)
@[go_sem] theorem tab25 : tab 25 = { ok := true, kind := .struct, size := 6, bytes := 64, offs := [(0, 1), (1, 1), (2, 4)], zero := [.string ByteArray.empty, .bool false, .int .i64 0, .bool false, .string ByteArray.empty, .int .i64 0], flat := some [.string, .bool, .int .i64, .bool, .string, .int .i64] } := tab_is (by kernel_rfl)
@[go_sem] theorem tab26 : tab 26 = { ok := true, kind := .slice, size := 1, bytes := 24, elem := 25, zero := [.slice none 0 0] } := tab_is (by kernel_rfl)
@[go_sem] theorem tab27 : tab 27 = { ok := true, kind := .slice, size := 1, bytes := 24, elem := 24, zero := [.slice none 0 0] } := tab_is (by kernel_rfl)
@[go_sem] theorem tab32 : tab 32 = { ok := true, kind := .slice, size := 1, bytes := 24, elem := 2, zero := [.slice none 0 0] } := tab_is (by kernel_rfl)
@[go_sem] theorem tab33 : tab 33 = { ok := true, kind := .slice, size := 1, bytes := 24, elem := 45, zero := [.slice none 0 0] } := tab_is (by kernel_rfl)
@[go_sem] theorem tab34 : tab 34 = { ok := true, kind := .int .i64, size := 1, bytes := 8, zero := [.int .i64 0] } := tab_is (by kernel_rfl)
@[go_sem] theorem tab43 : tab 43 = { ok := true, kind := .slice, size := 1, bytes := 24, elem := 9, zero := [.slice none 0 0] } := tab_is (by kernel_rfl)
@[go_sem] theorem tab44 : tab 44 = { ok := true, kind := .struct, size := 7, bytes := 112, offs := [(0, 1), (1, 1), (2, 1), (3, 1), (4, 1), (5, 1), (6, 1)], zero := [.int .i64 0, .string ByteArray.empty, .slice none 0 0, .string ByteArray.empty, .string ByteArray.empty, .slice none 0 0, .int .i64 0] } := tab_is (by kernel_rfl)
@[go_sem] theorem tab45 : tab 45 = { ok := true, kind := .struct, size := 7, bytes := 112, offs := [(0, 1), (1, 1), (2, 1), (3, 1), (4, 1), (5, 1), (6, 1)], zero := [.int .i64 0, .string ByteArray.empty, .slice none 0 0, .string ByteArray.empty, .string ByteArray.empty, .slice none 0 0, .int .i64 0] } := tab_is (by kernel_rfl)
@[go_sem] theorem tab53 : tab 53 = { ok := true, kind := .slice, size := 1, bytes := 24, elem := 58, zero := [.slice none 0 0] } := tab_is (by kernel_rfl)
@[go_sem] theorem tab56 : tab 56 = { ok := true, kind := .slice, size := 1, bytes := 24, elem := 91, zero := [.slice none 0 0] } := tab_is (by kernel_rfl)
@[go_sem] theorem tab57 : tab 57 = { ok := true, kind := .struct, size := 2, bytes := 32, offs := [(0, 1), (1, 1)], zero := [.int .i64 0, .slice none 0 0] } := tab_is (by kernel_rfl)
@[go_sem] theorem tab58 : tab 58 = { ok := true, kind := .struct, size := 2, bytes := 32, offs := [(0, 1), (1, 1)], zero := [.int .i64 0, .slice none 0 0] } := tab_is (by kernel_rfl)
@[go_sem] theorem tab62 : tab 62 = { ok := true, kind := .ptr, size := 1, bytes := 8, elem := 65, zero := [.pointer none] } := tab_is (by kernel_rfl)
@[go_sem] theorem tab63 : tab 63 = { ok := true, kind := .slice, size := 1, bytes := 24, elem := 5, zero := [.slice none 0 0] } := tab_is (by kernel_rfl)
@[go_sem] theorem tab64 : tab 64 = { ok := true, kind := .struct, size := 2, bytes := 32, offs := [(0, 1), (1, 1)], zero := [.pointer none, .slice none 0 0] } := tab_is (by kernel_rfl)
@[go_sem] theorem tab65 : tab 65 = { ok := true, kind := .struct, size := 2, bytes := 32, offs := [(0, 1), (1, 1)], zero := [.pointer none, .slice none 0 0] } := tab_is (by kernel_rfl)
@[go_sem] theorem tab90 : tab 90 = { ok := true, kind := .struct, size := 2, bytes := 24, offs := [(0, 1), (1, 1)], zero := [.string ByteArray.empty, .int .i64 0], flat := some [.string, .int .i64] } := tab_is (by kernel_rfl)
@[go_sem] theorem tab91 : tab 91 = { ok := true, kind := .struct, size := 2, bytes := 24, offs := [(0, 1), (1, 1)], zero := [.string ByteArray.empty, .int .i64 0], flat := some [.string, .int .i64] } := tab_is (by kernel_rfl)
@[go_sem] theorem tab96 : tab 96 = { ok := true, kind := .ptr, size := 1, bytes := 8, elem := 45, zero := [.pointer none] } := tab_is (by kernel_rfl)
@[go_sem] theorem tab98 : tab 98 = { ok := true, kind := .ptr, size := 1, bytes := 8, elem := 5, zero := [.pointer none] } := tab_is (by kernel_rfl)
@[go_sem] theorem tab101 : tab 101 = { ok := true, kind := .array 7, size := 7, bytes := 112, offs := [(0, 1), (1, 1), (2, 1), (3, 1), (4, 1), (5, 1), (6, 1)], elem := 9, zero := [.string ByteArray.empty, .string ByteArray.empty, .string ByteArray.empty, .string ByteArray.empty, .string ByteArray.empty, .string ByteArray.empty, .string ByteArray.empty] } := tab_is (by kernel_rfl)
@[go_sem] theorem tab109 : tab 109 = { ok := true, kind := .other, size := 1, bytes := 8, zero := [.pointer none] } := tab_is (by kernel_rfl)
@[go_sem] theorem tab111 : tab 111 = { ok := true, kind := .int .u32, size := 1, bytes := 4, zero := [.int .u32 0] } := tab_is (by kernel_rfl)
@[go_sem] theorem tab119 : tab 119 = { ok := true, kind := .struct, size := 2, bytes := 2, offs := [(0, 1), (1, 1)], zero := [.int .u8 0, .int .u8 0], flat := some [.int .u8, .int .u8] } := tab_is (by kernel_rfl)
@[go_sem] theorem tab120 : tab 120 = { ok := true, kind := .struct, size := 2, bytes := 2, offs := [(0, 1), (1, 1)], zero := [.int .u8 0, .int .u8 0], flat := some [.int .u8, .int .u8] } := tab_is (by kernel_rfl)
@[go_sem] theorem tab121 : tab 121 = { ok := true, kind := .array 16, size := 32, bytes := 32, offs := [(0, 2), (2, 2), (4, 2), (6, 2), (8, 2), (10, 2), (12, 2), (14, 2), (16, 2), (18, 2), (20, 2), (22, 2), (24, 2), (26, 2), (28, 2), (30, 2)], elem := 120, zero := [.int .u8 0, .int .u8 0, .int .u8 0, .int .u8 0, .int .u8 0, .int .u8 0, .int .u8 0, .int .u8 0, .int .u8 0, .int .u8 0, .int .u8 0, .int .u8 0, .int .u8 0, .int .u8 0, .int .u8 0, .int .u8 0, .int .u8 0, .int .u8 0, .int .u8 0, .int .u8 0, .int .u8 0, .int .u8 0, .int .u8 0, .int .u8 0, .int .u8 0, .int .u8 0, .int .u8 0, .int .u8 0, .int .u8 0, .int .u8 0, .int .u8 0, .int .u8 0] } := tab_is (by kernel_rfl)
@[go_sem] theorem tab124 : tab 124 = { ok := true, kind := .array 0, size := 0, bytes := 0, offs := [], elem := 16, zero := [] } := tab_is (by kernel_rfl)
@[go_sem] theorem tab127 : tab 127 = { ok := true, kind := .int .u8, size := 1, bytes := 1, zero := [.int .u8 0] } := tab_is (by kernel_rfl)
@[go_sem] theorem tab128 : tab 128 = { ok := true, kind := .int .u8, size := 1, bytes := 1, zero := [.int .u8 0] } := tab_is (by kernel_rfl)
@[go_sem] theorem tab130 : tab 130 = { ok := true, kind := .int .i32, size := 1, bytes := 4, zero := [.int .i32 0] } := tab_is (by kernel_rfl)
@[go_sem] theorem tab131 : tab 131 = { ok := true, kind := .int .i32, size := 1, bytes := 4, zero := [.int .i32 0] } := tab_is (by kernel_rfl)
@[go_sem] theorem tab132 : tab 132 = { ok := true, kind := .struct, size := 11, bytes := 48, offs := [(0, 1), (1, 1), (2, 1), (3, 1), (4, 1), (5, 1), (6, 1), (7, 1), (8, 1), (9, 1), (10, 1)], zero := [.int .u64 0, .int .u64 0, .int .u32 0, .int .u8 0, .int .u8 0, .int .u8 0, .int .u8 0, .nilFunc, .pointer none, .int .i32 0, .int .i32 0] } := tab_is (by kernel_rfl)
@[go_sem] theorem tab133 : tab 133 = { ok := true, kind := .struct, size := 11, bytes := 48, offs := [(0, 1), (1, 1), (2, 1), (3, 1), (4, 1), (5, 1), (6, 1), (7, 1), (8, 1), (9, 1), (10, 1)], zero := [.int .u64 0, .int .u64 0, .int .u32 0, .int .u8 0, .int .u8 0, .int .u8 0, .int .u8 0, .nilFunc, .pointer none, .int .i32 0, .int .i32 0] } := tab_is (by kernel_rfl)
end Go.Proofs.YtkikhbfdadambaaDoor.Ab
