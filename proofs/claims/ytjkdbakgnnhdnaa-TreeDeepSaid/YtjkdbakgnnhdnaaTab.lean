/-
 What the machine is told of this program's types.
-/
import Derived.Test.YtjkdbakgnnhdnaaAbH
import Derived.Test.YtjkdbakgnnhdnaaProg
import Derived.IntWalk
import Derived.KernelRfl
namespace Go.Proofs.Ytjkdbakgnnhdnaa.Ab
theorem tab_ex : ∃ t, t = tabP Try.prog := ⟨_, rfl⟩
noncomputable def tab : Nat → TI := Classical.choose tab_ex
theorem tab_eq : tab = tabP Try.prog := Classical.choose_spec tab_ex
theorem tab_ok : TabOk Try.prog tab := tab_eq ▸ tabP_ok _
theorem tab_is {k : Nat} {x : TI} (h : tabP Try.prog k = x) : tab k = x := by rw [tab_eq]; exact h
theorem fol : Try.prog.follows .mixedOrders = true := by kernel_rfl
@[go_sem] theorem tab3 : tab 3 = { ok := true, kind := .int .i64, size := 1, bytes := 8, zero := [.int .i64 0] } := tab_is (by kernel_rfl)
@[go_sem] theorem tab4 : tab 4 = { ok := true, kind := .bool, size := 1, bytes := 1, zero := [.bool false] } := tab_is (by kernel_rfl)
@[go_sem] theorem tab5 : tab 5 = { ok := true, kind := .int .u8, size := 1, bytes := 1, zero := [.int .u8 0] } := tab_is (by kernel_rfl)
@[go_sem] theorem tab9 : tab 9 = { ok := true, kind := .string, size := 1, bytes := 16, zero := [.string ByteArray.empty] } := tab_is (by kernel_rfl)
@[go_sem] theorem tab24 : tab 24 = { ok := true, kind := .slice, size := 1, bytes := 24, elem := 5, zero := [.slice none 0 0] } := tab_is (by kernel_rfl)
@[go_sem] theorem tab26 : tab 26 = { ok := true, kind := .slice, size := 1, bytes := 24, elem := 32, zero := [.slice none 0 0] } := tab_is (by kernel_rfl)
@[go_sem] theorem tab28 : tab 28 = { ok := true, kind := .struct, size := 2, bytes := 32, offs := [(0, 1), (1, 1)], zero := [.string ByteArray.empty, .string ByteArray.empty], flat := some [.string, .string] } := tab_is (by kernel_rfl)
@[go_sem] theorem tab30 : tab 30 = { ok := true, kind := .struct, size := 3, bytes := 48, offs := [(0, 1), (1, 1), (2, 1)], zero := [.string ByteArray.empty, .string ByteArray.empty, .string ByteArray.empty], flat := some [.string, .string, .string] } := tab_is (by kernel_rfl)
@[go_sem] theorem tab32 : tab 32 = { ok := true, kind := .struct, size := 6, bytes := 96, offs := [(0, 2), (2, 1), (3, 3)], zero := [.string ByteArray.empty, .string ByteArray.empty, .string ByteArray.empty, .string ByteArray.empty, .string ByteArray.empty, .string ByteArray.empty], flat := some [.string, .string, .string, .string, .string, .string] } := tab_is (by kernel_rfl)
@[go_sem] theorem tab34 : tab 34 = { ok := true, kind := .struct, size := 3, bytes := 48, offs := [(0, 2), (2, 1)], zero := [.string ByteArray.empty, .string ByteArray.empty, .string ByteArray.empty], flat := some [.string, .string, .string] } := tab_is (by kernel_rfl)
@[go_sem] theorem tab35 : tab 35 = { ok := true, kind := .slice, size := 1, bytes := 24, elem := 30, zero := [.slice none 0 0] } := tab_is (by kernel_rfl)
@[go_sem] theorem tab36 : tab 36 = { ok := true, kind := .slice, size := 1, bytes := 24, elem := 38, zero := [.slice none 0 0] } := tab_is (by kernel_rfl)
@[go_sem] theorem tab38 : tab 38 = { ok := true, kind := .struct, size := 6, bytes := 104, offs := [(0, 1), (1, 3), (4, 1), (5, 1)], zero := [.int .i64 0, .string ByteArray.empty, .string ByteArray.empty, .string ByteArray.empty, .slice none 0 0, .slice none 0 0] } := tab_is (by kernel_rfl)
@[go_sem] theorem tab39 : tab 39 = { ok := true, kind := .int .i64, size := 1, bytes := 8, zero := [.int .i64 0] } := tab_is (by kernel_rfl)
@[go_sem] theorem tab48 : tab 48 = { ok := true, kind := .ptr, size := 1, bytes := 8, elem := 86, zero := [.pointer none] } := tab_is (by kernel_rfl)
@[go_sem] theorem tab53 : tab 53 = { ok := true, kind := .map, size := 1, bytes := 8, elem := 3, zero := [.map none], mkey := some (true, [.string, .string, .string]) } := tab_is (by kernel_rfl)
@[go_sem] theorem tab55 : tab 55 = { ok := true, kind := .struct, size := 4, bytes := 32, offs := [(0, 1), (1, 1), (2, 1), (3, 1)], zero := [.pointer none, .map none, .int .i64 0, .int .i64 0] } := tab_is (by kernel_rfl)
@[go_sem] theorem tab64 : tab 64 = { ok := true, kind := .slice, size := 1, bytes := 24, elem := 121, zero := [.slice none 0 0] } := tab_is (by kernel_rfl)
@[go_sem] theorem tab76 : tab 76 = { ok := true, kind := .struct, size := 3, bytes := 64, offs := [(0, 1), (1, 1), (2, 1)], zero := [.string ByteArray.empty, .slice none 0 0, .slice none 0 0] } := tab_is (by kernel_rfl)
@[go_sem] theorem tab79 : tab 79 = { ok := true, kind := .ptr, size := 1, bytes := 8, elem := 100, zero := [.pointer none] } := tab_is (by kernel_rfl)
@[go_sem] theorem tab83 : tab 83 = { ok := true, kind := .ptr, size := 1, bytes := 8, elem := 116, zero := [.pointer none] } := tab_is (by kernel_rfl)
@[go_sem] theorem tab86 : tab 86 = { ok := true, kind := .struct, size := 3, bytes := 40, offs := [(0, 1), (1, 1), (2, 1)], zero := [.pointer none, .pointer none, .slice none 0 0] } := tab_is (by kernel_rfl)
@[go_sem] theorem tab97 : tab 97 = { ok := true, kind := .map, size := 1, bytes := 8, elem := 76, zero := [.map none], mkey := some (true, [.string, .string]) } := tab_is (by kernel_rfl)
@[go_sem] theorem tab100 : tab 100 = { ok := true, kind := .struct, size := 3, bytes := 24, offs := [(0, 1), (1, 1), (2, 1)], zero := [.map none, .map none, .map none] } := tab_is (by kernel_rfl)
@[go_sem] theorem tab105 : tab 105 = { ok := true, kind := .struct, size := 2, bytes := 32, offs := [(0, 1), (1, 1)], zero := [.string ByteArray.empty, .string ByteArray.empty], flat := some [.string, .string] } := tab_is (by kernel_rfl)
@[go_sem] theorem tab108 : tab 108 = { ok := true, kind := .map, size := 1, bytes := 8, elem := 35, zero := [.map none], mkey := some (true, [.string, .string, .string]) } := tab_is (by kernel_rfl)
@[go_sem] theorem tab109 : tab 109 = { ok := true, kind := .map, size := 1, bytes := 8, elem := 119, zero := [.map none], mkey := some (false, [.string]) } := tab_is (by kernel_rfl)
@[go_sem] theorem tab111 : tab 111 = { ok := true, kind := .struct, size := 2, bytes := 16, offs := [(0, 1), (1, 1)], zero := [.map none, .map none] } := tab_is (by kernel_rfl)
@[go_sem] theorem tab112 : tab 112 = { ok := true, kind := .map, size := 1, bytes := 8, elem := 118, zero := [.map none], mkey := some (true, [.string, .string, .string]) } := tab_is (by kernel_rfl)
@[go_sem] theorem tab114 : tab 114 = { ok := true, kind := .struct, size := 2, bytes := 16, offs := [(0, 1), (1, 1)], zero := [.map none, .map none] } := tab_is (by kernel_rfl)
@[go_sem] theorem tab116 : tab 116 = { ok := true, kind := .struct, size := 4, bytes := 32, offs := [(0, 2), (2, 2)], zero := [.map none, .map none, .map none, .map none] } := tab_is (by kernel_rfl)
@[go_sem] theorem tab118 : tab 118 = { ok := true, kind := .slice, size := 1, bytes := 24, elem := 34, zero := [.slice none 0 0] } := tab_is (by kernel_rfl)
@[go_sem] theorem tab119 : tab 119 = { ok := true, kind := .slice, size := 1, bytes := 24, elem := 9, zero := [.slice none 0 0] } := tab_is (by kernel_rfl)
@[go_sem] theorem tab129 : tab 129 = { ok := true, kind := .slice, size := 1, bytes := 24, elem := 132, zero := [.slice none 0 0] } := tab_is (by kernel_rfl)
@[go_sem] theorem tab132 : tab 132 = { ok := true, kind := .struct, size := 3, bytes := 40, offs := [(0, 2), (2, 1)], zero := [.string ByteArray.empty, .string ByteArray.empty, .int .i64 0], flat := some [.string, .string, .int .i64] } := tab_is (by kernel_rfl)
@[go_sem] theorem tab160 : tab 160 = { ok := true, kind := .slice, size := 1, bytes := 24, elem := 3, zero := [.slice none 0 0] } := tab_is (by kernel_rfl)
end Go.Proofs.Ytjkdbakgnnhdnaa.Ab
