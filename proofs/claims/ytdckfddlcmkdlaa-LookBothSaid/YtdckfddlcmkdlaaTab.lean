/-
  What the machine is told of this program's types.
-/
import Derived.Test.YtdckfddlcmkdlaaAbH
import Derived.Test.YtdckfddlcmkdlaaProg
import Derived.IntWalk
import Derived.KernelRfl
namespace Go.Proofs.Ytdckfddlcmkdlaa.Ab
theorem tab_ex : ∃ t, t = tabP Try.prog := ⟨_, rfl⟩
/-- Held back, so that nothing reckons it anew. -/
noncomputable def tab : Nat → TI := Classical.choose tab_ex
theorem tab_eq : tab = tabP Try.prog := Classical.choose_spec tab_ex
theorem tab_ok : TabOk Try.prog tab := tab_eq ▸ tabP_ok _
theorem tab_is {k : Nat} {x : TI} (h : tabP Try.prog k = x) : tab k = x := by rw [tab_eq]; exact h
theorem fol : Try.prog.follows .mixedOrders = true := by kernel_rfl
@[go_sem] theorem tab2 : tab 2 = { ok := true, kind := .int .i64, size := 1, bytes := 8, zero := [.int .i64 0] } := tab_is (by kernel_rfl)
@[go_sem] theorem tab3 : tab 3 = { ok := true, kind := .int .i64, size := 1, bytes := 8, zero := [.int .i64 0] } := tab_is (by kernel_rfl)
@[go_sem] theorem tab4 : tab 4 = { ok := true, kind := .bool, size := 1, bytes := 1, zero := [.bool false] } := tab_is (by kernel_rfl)
@[go_sem] theorem tab5 : tab 5 = { ok := true, kind := .int .u8, size := 1, bytes := 1, zero := [.int .u8 0] } := tab_is (by kernel_rfl)
@[go_sem] theorem tab6 : tab 6 = { ok := true, kind := .int .u8, size := 1, bytes := 1, zero := [.int .u8 0] } := tab_is (by kernel_rfl)
@[go_sem] theorem tab9 : tab 9 = { ok := true, kind := .string, size := 1, bytes := 16, zero := [.string ByteArray.empty] } := tab_is (by kernel_rfl)
@[go_sem] theorem tab10 : tab 10 = { ok := true, kind := .string, size := 1, bytes := 16, zero := [.string ByteArray.empty] } := tab_is (by kernel_rfl)
@[go_sem] theorem tab11 : tab 11 = { ok := true, kind := .string, size := 1, bytes := 16, zero := [.string ByteArray.empty] } := tab_is (by kernel_rfl)
@[go_sem] theorem tab12 : tab 12 = { ok := true, kind := .int .u64, size := 1, bytes := 8, zero := [.int .u64 0] } := tab_is (by kernel_rfl)
@[go_sem] theorem tab15 : tab 15 = { ok := true, kind := .ptr, size := 1, bytes := 8, elem := 155, zero := [.pointer none] } := tab_is (by kernel_rfl)
@[go_sem] theorem tab16 : tab 16 = { ok := true, kind := .ptr, size := 1, bytes := 8, elem := 158, zero := [.pointer none] } := tab_is (by kernel_rfl)
@[go_sem] theorem tab17 : tab 17 = { ok := true, kind := .ptr, size := 1, bytes := 8, elem := 166, zero := [.pointer none] } := tab_is (by kernel_rfl)
@[go_sem] theorem tab21 : tab 21 = { ok := true, kind := .int .i32, size := 1, bytes := 4, zero := [.int .i32 0] } := tab_is (by kernel_rfl)
@[go_sem] theorem tab22 : tab 22 = { ok := true, kind := .slice, size := 1, bytes := 24, elem := 2, zero := [.slice none 0 0] } := tab_is (by kernel_rfl)
@[go_sem] theorem tab23 : tab 23 = { ok := true, kind := .slice, size := 1, bytes := 24, elem := 41, zero := [.slice none 0 0] } := tab_is (by kernel_rfl)
@[go_sem] theorem tab36 : tab 36 = { ok := true, kind := .struct, size := 2, bytes := 32, offs := [(0, 1), (1, 1)], zero := [.string ByteArray.empty, .string ByteArray.empty], flat := some [.string, .string] } := tab_is (by kernel_rfl)
@[go_sem] theorem tab37 : tab 37 = { ok := true, kind := .struct, size := 2, bytes := 32, offs := [(0, 1), (1, 1)], zero := [.string ByteArray.empty, .string ByteArray.empty], flat := some [.string, .string] } := tab_is (by kernel_rfl)
@[go_sem] theorem tab38 : tab 38 = { ok := true, kind := .struct, size := 3, bytes := 48, offs := [(0, 1), (1, 1), (2, 1)], zero := [.string ByteArray.empty, .string ByteArray.empty, .string ByteArray.empty], flat := some [.string, .string, .string] } := tab_is (by kernel_rfl)
@[go_sem] theorem tab39 : tab 39 = { ok := true, kind := .struct, size := 3, bytes := 48, offs := [(0, 1), (1, 1), (2, 1)], zero := [.string ByteArray.empty, .string ByteArray.empty, .string ByteArray.empty], flat := some [.string, .string, .string] } := tab_is (by kernel_rfl)
@[go_sem] theorem tab40 : tab 40 = { ok := true, kind := .struct, size := 6, bytes := 96, offs := [(0, 2), (2, 1), (3, 3)], zero := [.string ByteArray.empty, .string ByteArray.empty, .string ByteArray.empty, .string ByteArray.empty, .string ByteArray.empty, .string ByteArray.empty], flat := some [.string, .string, .string, .string, .string, .string] } := tab_is (by kernel_rfl)
@[go_sem] theorem tab41 : tab 41 = { ok := true, kind := .struct, size := 6, bytes := 96, offs := [(0, 2), (2, 1), (3, 3)], zero := [.string ByteArray.empty, .string ByteArray.empty, .string ByteArray.empty, .string ByteArray.empty, .string ByteArray.empty, .string ByteArray.empty], flat := some [.string, .string, .string, .string, .string, .string] } := tab_is (by kernel_rfl)
@[go_sem] theorem tab45 : tab 45 = { ok := true, kind := .slice, size := 1, bytes := 24, elem := 22, zero := [.slice none 0 0] } := tab_is (by kernel_rfl)
@[go_sem] theorem tab46 : tab 46 = { ok := true, kind := .ptr, size := 1, bytes := 8, elem := 105, zero := [.pointer none] } := tab_is (by kernel_rfl)
@[go_sem] theorem tab48 : tab 48 = { ok := true, kind := .slice, size := 1, bytes := 24, elem := 23, zero := [.slice none 0 0] } := tab_is (by kernel_rfl)
@[go_sem] theorem tab51 : tab 51 = { ok := true, kind := .int .i64, size := 1, bytes := 8, zero := [.int .i64 0] } := tab_is (by kernel_rfl)
@[go_sem] theorem tab53 : tab 53 = { ok := true, kind := .struct, size := 4, bytes := 96, offs := [(0, 1), (1, 1), (2, 1), (3, 1)], zero := [.slice none 0 0, .slice none 0 0, .slice none 0 0, .slice none 0 0] } := tab_is (by kernel_rfl)
@[go_sem] theorem tab54 : tab 54 = { ok := true, kind := .struct, size := 4, bytes := 96, offs := [(0, 1), (1, 1), (2, 1), (3, 1)], zero := [.slice none 0 0, .slice none 0 0, .slice none 0 0, .slice none 0 0] } := tab_is (by kernel_rfl)
@[go_sem] theorem tab59 : tab 59 = { ok := true, kind := .ptr, size := 1, bytes := 8, elem := 63, zero := [.pointer none] } := tab_is (by kernel_rfl)
@[go_sem] theorem tab62 : tab 62 = { ok := true, kind := .struct, size := 2, bytes := 32, offs := [(0, 1), (1, 1)], zero := [.int .i64 0, .slice none 0 0] } := tab_is (by kernel_rfl)
@[go_sem] theorem tab63 : tab 63 = { ok := true, kind := .struct, size := 2, bytes := 32, offs := [(0, 1), (1, 1)], zero := [.int .i64 0, .slice none 0 0] } := tab_is (by kernel_rfl)
@[go_sem] theorem tab67 : tab 67 = { ok := true, kind := .ptr, size := 1, bytes := 8, elem := 80, zero := [.pointer none] } := tab_is (by kernel_rfl)
@[go_sem] theorem tab69 : tab 69 = { ok := true, kind := .slice, size := 1, bytes := 24, elem := 9, zero := [.slice none 0 0] } := tab_is (by kernel_rfl)
@[go_sem] theorem tab72 : tab 72 = { ok := true, kind := .map, size := 1, bytes := 8, elem := 81, zero := [.map none], mkey := some (true, [.string, .string, .string]) } := tab_is (by kernel_rfl)
@[go_sem] theorem tab73 : tab 73 = { ok := true, kind := .map, size := 1, bytes := 8, elem := 69, zero := [.map none], mkey := some (false, [.string]) } := tab_is (by kernel_rfl)
@[go_sem] theorem tab74 : tab 74 = { ok := true, kind := .struct, size := 2, bytes := 16, offs := [(0, 1), (1, 1)], zero := [.map none, .map none] } := tab_is (by kernel_rfl)
@[go_sem] theorem tab75 : tab 75 = { ok := true, kind := .struct, size := 2, bytes := 16, offs := [(0, 1), (1, 1)], zero := [.map none, .map none] } := tab_is (by kernel_rfl)
@[go_sem] theorem tab76 : tab 76 = { ok := true, kind := .map, size := 1, bytes := 8, elem := 84, zero := [.map none], mkey := some (true, [.string, .string, .string]) } := tab_is (by kernel_rfl)
@[go_sem] theorem tab77 : tab 77 = { ok := true, kind := .struct, size := 2, bytes := 16, offs := [(0, 1), (1, 1)], zero := [.map none, .map none] } := tab_is (by kernel_rfl)
@[go_sem] theorem tab78 : tab 78 = { ok := true, kind := .struct, size := 2, bytes := 16, offs := [(0, 1), (1, 1)], zero := [.map none, .map none] } := tab_is (by kernel_rfl)
@[go_sem] theorem tab79 : tab 79 = { ok := true, kind := .struct, size := 4, bytes := 32, offs := [(0, 2), (2, 2)], zero := [.map none, .map none, .map none, .map none] } := tab_is (by kernel_rfl)
@[go_sem] theorem tab80 : tab 80 = { ok := true, kind := .struct, size := 4, bytes := 32, offs := [(0, 2), (2, 2)], zero := [.map none, .map none, .map none, .map none] } := tab_is (by kernel_rfl)
@[go_sem] theorem tab81 : tab 81 = { ok := true, kind := .slice, size := 1, bytes := 24, elem := 39, zero := [.slice none 0 0] } := tab_is (by kernel_rfl)
@[go_sem] theorem tab84 : tab 84 = { ok := true, kind := .slice, size := 1, bytes := 24, elem := 95, zero := [.slice none 0 0] } := tab_is (by kernel_rfl)
@[go_sem] theorem tab94 : tab 94 = { ok := true, kind := .struct, size := 3, bytes := 48, offs := [(0, 2), (2, 1)], zero := [.string ByteArray.empty, .string ByteArray.empty, .string ByteArray.empty], flat := some [.string, .string, .string] } := tab_is (by kernel_rfl)
@[go_sem] theorem tab95 : tab 95 = { ok := true, kind := .struct, size := 3, bytes := 48, offs := [(0, 2), (2, 1)], zero := [.string ByteArray.empty, .string ByteArray.empty, .string ByteArray.empty], flat := some [.string, .string, .string] } := tab_is (by kernel_rfl)
@[go_sem] theorem tab103 : tab 103 = { ok := true, kind := .int .u64, size := 1, bytes := 8, zero := [.int .u64 0] } := tab_is (by kernel_rfl)
@[go_sem] theorem tab104 : tab 104 = { ok := true, kind := .struct, size := 2, bytes := 32, offs := [(0, 1), (1, 1)], zero := [.int .i64 0, .slice none 0 0] } := tab_is (by kernel_rfl)
@[go_sem] theorem tab105 : tab 105 = { ok := true, kind := .struct, size := 2, bytes := 32, offs := [(0, 1), (1, 1)], zero := [.int .i64 0, .slice none 0 0] } := tab_is (by kernel_rfl)
@[go_sem] theorem tab108 : tab 108 = { ok := true, kind := .ptr, size := 1, bytes := 8, elem := 75, zero := [.pointer none] } := tab_is (by kernel_rfl)
@[go_sem] theorem tab109 : tab 109 = { ok := true, kind := .ptr, size := 1, bytes := 8, elem := 78, zero := [.pointer none] } := tab_is (by kernel_rfl)
@[go_sem] theorem tab112 : tab 112 = { ok := true, kind := .array 6, size := 6, bytes := 96, offs := [(0, 1), (1, 1), (2, 1), (3, 1), (4, 1), (5, 1)], elem := 9, zero := [.string ByteArray.empty, .string ByteArray.empty, .string ByteArray.empty, .string ByteArray.empty, .string ByteArray.empty, .string ByteArray.empty] } := tab_is (by kernel_rfl)
@[go_sem] theorem tab122 : tab 122 = { ok := true, kind := .int .i64, size := 1, bytes := 8, zero := [.int .i64 0] } := tab_is (by kernel_rfl)
@[go_sem] theorem tab129 : tab 129 = { ok := true, kind := .int .u32, size := 1, bytes := 4, zero := [.int .u32 0] } := tab_is (by kernel_rfl)
@[go_sem] theorem tab131 : tab 131 = { ok := true, kind := .int .u64, size := 1, bytes := 8, zero := [.int .u64 0] } := tab_is (by kernel_rfl)
@[go_sem] theorem tab132 : tab 132 = { ok := true, kind := .slice, size := 1, bytes := 24, elem := 3, zero := [.slice none 0 0] } := tab_is (by kernel_rfl)
@[go_sem] theorem tab135 : tab 135 = { ok := true, kind := .int .u64, size := 1, bytes := 8, zero := [.int .u64 0] } := tab_is (by kernel_rfl)
@[go_sem] theorem tab139 : tab 139 = { ok := true, kind := .ptr, size := 1, bytes := 8, elem := 3, zero := [.pointer none] } := tab_is (by kernel_rfl)
@[go_sem] theorem tab147 : tab 147 = { ok := true, kind := .ptr, size := 1, bytes := 8, elem := 135, zero := [.pointer none] } := tab_is (by kernel_rfl)
@[go_sem] theorem tab156 : tab 156 = { ok := true, kind := .array 0, size := 0, bytes := 0, offs := [], elem := 16, zero := [] } := tab_is (by kernel_rfl)
@[go_sem] theorem tab159 : tab 159 = { ok := true, kind := .int .u8, size := 1, bytes := 1, zero := [.int .u8 0] } := tab_is (by kernel_rfl)
@[go_sem] theorem tab160 : tab 160 = { ok := true, kind := .int .u8, size := 1, bytes := 1, zero := [.int .u8 0] } := tab_is (by kernel_rfl)
@[go_sem] theorem tab162 : tab 162 = { ok := true, kind := .ptr, size := 1, bytes := 8, elem := 5, zero := [.pointer none] } := tab_is (by kernel_rfl)
@[go_sem] theorem tab163 : tab 163 = { ok := true, kind := .int .i32, size := 1, bytes := 4, zero := [.int .i32 0] } := tab_is (by kernel_rfl)
@[go_sem] theorem tab164 : tab 164 = { ok := true, kind := .int .i32, size := 1, bytes := 4, zero := [.int .i32 0] } := tab_is (by kernel_rfl)
@[go_sem] theorem tab165 : tab 165 = { ok := true, kind := .struct, size := 11, bytes := 48, offs := [(0, 1), (1, 1), (2, 1), (3, 1), (4, 1), (5, 1), (6, 1), (7, 1), (8, 1), (9, 1), (10, 1)], zero := [.int .u64 0, .int .u64 0, .int .u32 0, .int .u8 0, .int .u8 0, .int .u8 0, .int .u8 0, .nilFunc, .pointer none, .int .i32 0, .int .i32 0] } := tab_is (by kernel_rfl)
@[go_sem] theorem tab166 : tab 166 = { ok := true, kind := .struct, size := 11, bytes := 48, offs := [(0, 1), (1, 1), (2, 1), (3, 1), (4, 1), (5, 1), (6, 1), (7, 1), (8, 1), (9, 1), (10, 1)], zero := [.int .u64 0, .int .u64 0, .int .u32 0, .int .u8 0, .int .u8 0, .int .u8 0, .int .u8 0, .nilFunc, .pointer none, .int .i32 0, .int .i32 0] } := tab_is (by kernel_rfl)
@[go_sem] theorem tab167 : tab 167 = { ok := true, kind := .other, size := 1, bytes := 8, zero := [.pointer none] } := tab_is (by kernel_rfl)
end Go.Proofs.Ytdckfddlcmkdlaa.Ab
