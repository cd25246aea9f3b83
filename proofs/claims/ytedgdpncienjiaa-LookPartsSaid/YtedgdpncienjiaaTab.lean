/-
  What the machine is told of this program's types.
-/
import Derived.Test.YtedgdpncienjiaaAbH
import Derived.Test.YtedgdpncienjiaaProg
import Derived.IntWalk
import Derived.KernelRfl
namespace Go.Proofs.Ytedgdpncienjiaa.Ab
theorem tab_ex : ∃ t, t = tabP Try.prog := ⟨_, rfl⟩
/-- Held back, so that nothing reckons it anew. -/
noncomputable def tab : Nat → TI := Classical.choose tab_ex
theorem tab_eq : tab = tabP Try.prog := Classical.choose_spec tab_ex
theorem tab_ok : TabOk Try.prog tab := tab_eq ▸ tabP_ok _
theorem tab_is {k : Nat} {x : TI} (h : tabP Try.prog k = x) : tab k = x := by rw [tab_eq]; exact h
theorem fol : Try.prog.follows .mixedOrders = true := by kernel_rfl
@[go_sem] theorem tab2 : tab 2 = { ok := true, kind := .int .i64, size := 1, bytes := 8, zero := [.int .i64 0] } := tab_is (by kernel_rfl)
@[go_sem] theorem tab3 : tab 3 = { ok := true, kind := .int .i64, size := 1, bytes := 8, zero := [.int .i64 0] } := tab_is (by kernel_rfl)
@[go_sem] theorem tab4 : tab 4 = { ok := true, kind := .bool, size := 1, bytes := 1, zero := [.bool false] } := tab_is (by kernel_rfl)
@[go_sem] theorem tab5 : tab 5 = { ok := true, kind := .int .u8, size := 1, bytes := 1, zero := [.int .u8 0] } := tab_is (by kernel_rfl)
@[go_sem] theorem tab6 : tab 6 = { ok := true, kind := .int .u8, size := 1, bytes := 1, zero := [.int .u8 0] } := tab_is (by kernel_rfl)
@[go_sem] theorem tab9 : tab 9 = { ok := true, kind := .string, size := 1, bytes := 16, zero := [.string ByteArray.empty] } := tab_is (by kernel_rfl)
@[go_sem] theorem tab10 : tab 10 = { ok := true, kind := .string, size := 1, bytes := 16, zero := [.string ByteArray.empty] } := tab_is (by kernel_rfl)
@[go_sem] theorem tab11 : tab 11 = { ok := true, kind := .string, size := 1, bytes := 16, zero := [.string ByteArray.empty] } := tab_is (by kernel_rfl)
@[go_sem] theorem tab12 : tab 12 = { ok := true, kind := .int .u64, size := 1, bytes := 8, zero := [.int .u64 0] } := tab_is (by kernel_rfl)
@[go_sem] theorem tab15 : tab 15 = { ok := true, kind := .ptr, size := 1, bytes := 8, elem := 111, zero := [.pointer none] } := tab_is (by kernel_rfl)
@[go_sem] theorem tab16 : tab 16 = { ok := true, kind := .ptr, size := 1, bytes := 8, elem := 114, zero := [.pointer none] } := tab_is (by kernel_rfl)
@[go_sem] theorem tab17 : tab 17 = { ok := true, kind := .ptr, size := 1, bytes := 8, elem := 123, zero := [.pointer none] } := tab_is (by kernel_rfl)
@[go_sem] theorem tab21 : tab 21 = { ok := true, kind := .int .i32, size := 1, bytes := 4, zero := [.int .i32 0] } := tab_is (by kernel_rfl)
@[go_sem] theorem tab22 : tab 22 = { ok := true, kind := .slice, size := 1, bytes := 24, elem := 2, zero := [.slice none 0 0] } := tab_is (by kernel_rfl)
@[go_sem] theorem tab23 : tab 23 = { ok := true, kind := .slice, size := 1, bytes := 24, elem := 30, zero := [.slice none 0 0] } := tab_is (by kernel_rfl)
@[go_sem] theorem tab25 : tab 25 = { ok := true, kind := .struct, size := 2, bytes := 32, offs := [(0, 1), (1, 1)], zero := [.string ByteArray.empty, .string ByteArray.empty], flat := some [.string, .string] } := tab_is (by kernel_rfl)
@[go_sem] theorem tab26 : tab 26 = { ok := true, kind := .struct, size := 2, bytes := 32, offs := [(0, 1), (1, 1)], zero := [.string ByteArray.empty, .string ByteArray.empty], flat := some [.string, .string] } := tab_is (by kernel_rfl)
@[go_sem] theorem tab27 : tab 27 = { ok := true, kind := .struct, size := 3, bytes := 48, offs := [(0, 1), (1, 1), (2, 1)], zero := [.string ByteArray.empty, .string ByteArray.empty, .string ByteArray.empty], flat := some [.string, .string, .string] } := tab_is (by kernel_rfl)
@[go_sem] theorem tab28 : tab 28 = { ok := true, kind := .struct, size := 3, bytes := 48, offs := [(0, 1), (1, 1), (2, 1)], zero := [.string ByteArray.empty, .string ByteArray.empty, .string ByteArray.empty], flat := some [.string, .string, .string] } := tab_is (by kernel_rfl)
@[go_sem] theorem tab29 : tab 29 = { ok := true, kind := .struct, size := 6, bytes := 96, offs := [(0, 2), (2, 1), (3, 3)], zero := [.string ByteArray.empty, .string ByteArray.empty, .string ByteArray.empty, .string ByteArray.empty, .string ByteArray.empty, .string ByteArray.empty], flat := some [.string, .string, .string, .string, .string, .string] } := tab_is (by kernel_rfl)
@[go_sem] theorem tab30 : tab 30 = { ok := true, kind := .struct, size := 6, bytes := 96, offs := [(0, 2), (2, 1), (3, 3)], zero := [.string ByteArray.empty, .string ByteArray.empty, .string ByteArray.empty, .string ByteArray.empty, .string ByteArray.empty, .string ByteArray.empty], flat := some [.string, .string, .string, .string, .string, .string] } := tab_is (by kernel_rfl)
@[go_sem] theorem tab32 : tab 32 = { ok := true, kind := .ptr, size := 1, bytes := 8, elem := 46, zero := [.pointer none] } := tab_is (by kernel_rfl)
@[go_sem] theorem tab35 : tab 35 = { ok := true, kind := .slice, size := 1, bytes := 24, elem := 9, zero := [.slice none 0 0] } := tab_is (by kernel_rfl)
@[go_sem] theorem tab38 : tab 38 = { ok := true, kind := .map, size := 1, bytes := 8, elem := 47, zero := [.map none], mkey := some (true, [.string, .string, .string]) } := tab_is (by kernel_rfl)
@[go_sem] theorem tab39 : tab 39 = { ok := true, kind := .map, size := 1, bytes := 8, elem := 35, zero := [.map none], mkey := some (false, [.string]) } := tab_is (by kernel_rfl)
@[go_sem] theorem tab40 : tab 40 = { ok := true, kind := .struct, size := 2, bytes := 16, offs := [(0, 1), (1, 1)], zero := [.map none, .map none] } := tab_is (by kernel_rfl)
@[go_sem] theorem tab41 : tab 41 = { ok := true, kind := .struct, size := 2, bytes := 16, offs := [(0, 1), (1, 1)], zero := [.map none, .map none] } := tab_is (by kernel_rfl)
@[go_sem] theorem tab42 : tab 42 = { ok := true, kind := .map, size := 1, bytes := 8, elem := 50, zero := [.map none], mkey := some (true, [.string, .string, .string]) } := tab_is (by kernel_rfl)
@[go_sem] theorem tab43 : tab 43 = { ok := true, kind := .struct, size := 2, bytes := 16, offs := [(0, 1), (1, 1)], zero := [.map none, .map none] } := tab_is (by kernel_rfl)
@[go_sem] theorem tab44 : tab 44 = { ok := true, kind := .struct, size := 2, bytes := 16, offs := [(0, 1), (1, 1)], zero := [.map none, .map none] } := tab_is (by kernel_rfl)
@[go_sem] theorem tab45 : tab 45 = { ok := true, kind := .struct, size := 4, bytes := 32, offs := [(0, 2), (2, 2)], zero := [.map none, .map none, .map none, .map none] } := tab_is (by kernel_rfl)
@[go_sem] theorem tab46 : tab 46 = { ok := true, kind := .struct, size := 4, bytes := 32, offs := [(0, 2), (2, 2)], zero := [.map none, .map none, .map none, .map none] } := tab_is (by kernel_rfl)
@[go_sem] theorem tab47 : tab 47 = { ok := true, kind := .slice, size := 1, bytes := 24, elem := 28, zero := [.slice none 0 0] } := tab_is (by kernel_rfl)
@[go_sem] theorem tab50 : tab 50 = { ok := true, kind := .slice, size := 1, bytes := 24, elem := 58, zero := [.slice none 0 0] } := tab_is (by kernel_rfl)
@[go_sem] theorem tab55 : tab 55 = { ok := true, kind := .int .u64, size := 1, bytes := 8, zero := [.int .u64 0] } := tab_is (by kernel_rfl)
@[go_sem] theorem tab57 : tab 57 = { ok := true, kind := .struct, size := 3, bytes := 48, offs := [(0, 2), (2, 1)], zero := [.string ByteArray.empty, .string ByteArray.empty, .string ByteArray.empty], flat := some [.string, .string, .string] } := tab_is (by kernel_rfl)
@[go_sem] theorem tab58 : tab 58 = { ok := true, kind := .struct, size := 3, bytes := 48, offs := [(0, 2), (2, 1)], zero := [.string ByteArray.empty, .string ByteArray.empty, .string ByteArray.empty], flat := some [.string, .string, .string] } := tab_is (by kernel_rfl)
@[go_sem] theorem tab61 : tab 61 = { ok := true, kind := .ptr, size := 1, bytes := 8, elem := 41, zero := [.pointer none] } := tab_is (by kernel_rfl)
@[go_sem] theorem tab62 : tab 62 = { ok := true, kind := .ptr, size := 1, bytes := 8, elem := 44, zero := [.pointer none] } := tab_is (by kernel_rfl)
@[go_sem] theorem tab74 : tab 74 = { ok := true, kind := .array 6, size := 6, bytes := 96, offs := [(0, 1), (1, 1), (2, 1), (3, 1), (4, 1), (5, 1)], elem := 9, zero := [.string ByteArray.empty, .string ByteArray.empty, .string ByteArray.empty, .string ByteArray.empty, .string ByteArray.empty, .string ByteArray.empty] } := tab_is (by kernel_rfl)
@[go_sem] theorem tab78 : tab 78 = { ok := true, kind := .int .i64, size := 1, bytes := 8, zero := [.int .i64 0] } := tab_is (by kernel_rfl)
@[go_sem] theorem tab86 : tab 86 = { ok := true, kind := .int .u32, size := 1, bytes := 4, zero := [.int .u32 0] } := tab_is (by kernel_rfl)
@[go_sem] theorem tab88 : tab 88 = { ok := true, kind := .int .u64, size := 1, bytes := 8, zero := [.int .u64 0] } := tab_is (by kernel_rfl)
@[go_sem] theorem tab89 : tab 89 = { ok := true, kind := .slice, size := 1, bytes := 24, elem := 3, zero := [.slice none 0 0] } := tab_is (by kernel_rfl)
@[go_sem] theorem tab96 : tab 96 = { ok := true, kind := .int .u64, size := 1, bytes := 8, zero := [.int .u64 0] } := tab_is (by kernel_rfl)
@[go_sem] theorem tab100 : tab 100 = { ok := true, kind := .ptr, size := 1, bytes := 8, elem := 3, zero := [.pointer none] } := tab_is (by kernel_rfl)
@[go_sem] theorem tab105 : tab 105 = { ok := true, kind := .ptr, size := 1, bytes := 8, elem := 96, zero := [.pointer none] } := tab_is (by kernel_rfl)
@[go_sem] theorem tab112 : tab 112 = { ok := true, kind := .array 0, size := 0, bytes := 0, offs := [], elem := 16, zero := [] } := tab_is (by kernel_rfl)
@[go_sem] theorem tab116 : tab 116 = { ok := true, kind := .int .u8, size := 1, bytes := 1, zero := [.int .u8 0] } := tab_is (by kernel_rfl)
@[go_sem] theorem tab117 : tab 117 = { ok := true, kind := .int .u8, size := 1, bytes := 1, zero := [.int .u8 0] } := tab_is (by kernel_rfl)
@[go_sem] theorem tab119 : tab 119 = { ok := true, kind := .ptr, size := 1, bytes := 8, elem := 5, zero := [.pointer none] } := tab_is (by kernel_rfl)
@[go_sem] theorem tab120 : tab 120 = { ok := true, kind := .int .i32, size := 1, bytes := 4, zero := [.int .i32 0] } := tab_is (by kernel_rfl)
@[go_sem] theorem tab121 : tab 121 = { ok := true, kind := .int .i32, size := 1, bytes := 4, zero := [.int .i32 0] } := tab_is (by kernel_rfl)
@[go_sem] theorem tab122 : tab 122 = { ok := true, kind := .struct, size := 11, bytes := 48, offs := [(0, 1), (1, 1), (2, 1), (3, 1), (4, 1), (5, 1), (6, 1), (7, 1), (8, 1), (9, 1), (10, 1)], zero := [.int .u64 0, .int .u64 0, .int .u32 0, .int .u8 0, .int .u8 0, .int .u8 0, .int .u8 0, .nilFunc, .pointer none, .int .i32 0, .int .i32 0] } := tab_is (by kernel_rfl)
@[go_sem] theorem tab123 : tab 123 = { ok := true, kind := .struct, size := 11, bytes := 48, offs := [(0, 1), (1, 1), (2, 1), (3, 1), (4, 1), (5, 1), (6, 1), (7, 1), (8, 1), (9, 1), (10, 1)], zero := [.int .u64 0, .int .u64 0, .int .u32 0, .int .u8 0, .int .u8 0, .int .u8 0, .int .u8 0, .nilFunc, .pointer none, .int .i32 0, .int .i32 0] } := tab_is (by kernel_rfl)
@[go_sem] theorem tab124 : tab 124 = { ok := true, kind := .other, size := 1, bytes := 8, zero := [.pointer none] } := tab_is (by kernel_rfl)
end Go.Proofs.Ytedgdpncienjiaa.Ab
