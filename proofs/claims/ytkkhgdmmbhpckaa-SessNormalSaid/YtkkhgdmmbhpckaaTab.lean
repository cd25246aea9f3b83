/-
 What the machine is told of this program's types.
-/
import Derived.Test.YtkkhgdmmbhpckaaAbH
import Derived.Test.YtkkhgdmmbhpckaaProg
import Derived.IntWalk
import Derived.KernelRfl
namespace Go.Proofs.Ytkkhgdmmbhpckaa.Ab
theorem tab_ex : ∃ t, t = tabP Try.prog := ⟨_, rfl⟩
noncomputable def tab : Nat → TI := Classical.choose tab_ex
theorem tab_eq : tab = tabP Try.prog := Classical.choose_spec tab_ex
theorem tab_ok : TabOk Try.prog tab := tab_eq ▸ tabP_ok _
theorem tab_is {k : Nat} {x : TI} (h : tabP Try.prog k = x) : tab k = x := by rw [tab_eq]; exact h
theorem fol : Try.prog.follows .mixedOrders = true := by kernel_rfl
@[go_sem] theorem tab2 : tab 2 = { ok := true, kind := .int .i64, size := 1, bytes := 8, zero := [.int .i64 0] } := tab_is (by kernel_rfl)
@[go_sem] theorem tab3 : tab 3 = { ok := true, kind := .int .i64, size := 1, bytes := 8, zero := [.int .i64 0] } := tab_is (by kernel_rfl)
@[go_sem] theorem tab4 : tab 4 = { ok := true, kind := .bool, size := 1, bytes := 1, zero := [.bool false] } := tab_is (by kernel_rfl)
@[go_sem] theorem tab5 : tab 5 = { ok := true, kind := .int .u8, size := 1, bytes := 1, zero := [.int .u8 0] } := tab_is (by kernel_rfl)
@[go_sem] theorem tab9 : tab 9 = { ok := true, kind := .string, size := 1, bytes := 16, zero := [.string ByteArray.empty] } := tab_is (by kernel_rfl)
@[go_sem] theorem tab22 : tab 22 = { ok := true, kind := .slice, size := 1, bytes := 24, elem := 2, zero := [.slice none 0 0] } := tab_is (by kernel_rfl)
@[go_sem] theorem tab23 : tab 23 = { ok := true, kind := .slice, size := 1, bytes := 24, elem := 9, zero := [.slice none 0 0] } := tab_is (by kernel_rfl)
@[go_sem] theorem tab31 : tab 31 = { ok := true, kind := .struct, size := 4, bytes := 56, offs := [(0, 1), (1, 1), (2, 1), (3, 1)], zero := [.bool false, .string ByteArray.empty, .string ByteArray.empty, .string ByteArray.empty], flat := some [.bool, .string, .string, .string] } := tab_is (by kernel_rfl)
@[go_sem] theorem tab53 : tab 53 = { ok := true, kind := .slice, size := 1, bytes := 24, elem := 66, zero := [.slice none 0 0] } := tab_is (by kernel_rfl)
@[go_sem] theorem tab54 : tab 54 = { ok := true, kind := .slice, size := 1, bytes := 24, elem := 68, zero := [.slice none 0 0] } := tab_is (by kernel_rfl)
@[go_sem] theorem tab55 : tab 55 = { ok := true, kind := .slice, size := 1, bytes := 24, elem := 81, zero := [.slice none 0 0] } := tab_is (by kernel_rfl)
@[go_sem] theorem tab56 : tab 56 = { ok := true, kind := .slice, size := 1, bytes := 24, elem := 83, zero := [.slice none 0 0] } := tab_is (by kernel_rfl)
@[go_sem] theorem tab58 : tab 58 = { ok := true, kind := .struct, size := 8, bytes := 192, offs := [(0, 1), (1, 1), (2, 1), (3, 1), (4, 1), (5, 1), (6, 1), (7, 1)], zero := [.slice none 0 0, .slice none 0 0, .slice none 0 0, .slice none 0 0, .slice none 0 0, .slice none 0 0, .slice none 0 0, .slice none 0 0] } := tab_is (by kernel_rfl)
@[go_sem] theorem tab59 : tab 59 = { ok := true, kind := .slice, size := 1, bytes := 24, elem := 64, zero := [.slice none 0 0] } := tab_is (by kernel_rfl)
@[go_sem] theorem tab64 : tab 64 = { ok := true, kind := .struct, size := 7, bytes := 96, offs := [(0, 1), (1, 1), (2, 1), (3, 1), (4, 1), (5, 1), (6, 1)], zero := [.int .i64 0, .string ByteArray.empty, .string ByteArray.empty, .string ByteArray.empty, .int .i64 0, .slice none 0 0, .int .i64 0] } := tab_is (by kernel_rfl)
@[go_sem] theorem tab66 : tab 66 = { ok := true, kind := .struct, size := 2, bytes := 32, offs := [(0, 1), (1, 1)], zero := [.string ByteArray.empty, .string ByteArray.empty], flat := some [.string, .string] } := tab_is (by kernel_rfl)
@[go_sem] theorem tab68 : tab 68 = { ok := true, kind := .struct, size := 3, bytes := 48, offs := [(0, 1), (1, 1), (2, 1)], zero := [.string ByteArray.empty, .string ByteArray.empty, .string ByteArray.empty], flat := some [.string, .string, .string] } := tab_is (by kernel_rfl)
@[go_sem] theorem tab69 : tab 69 = { ok := true, kind := .int .u64, size := 1, bytes := 8, zero := [.int .u64 0] } := tab_is (by kernel_rfl)
@[go_sem] theorem tab81 : tab 81 = { ok := true, kind := .struct, size := 3, bytes := 48, offs := [(0, 1), (1, 1), (2, 1)], zero := [.string ByteArray.empty, .int .i64 0, .slice none 0 0] } := tab_is (by kernel_rfl)
@[go_sem] theorem tab83 : tab 83 = { ok := true, kind := .struct, size := 3, bytes := 56, offs := [(0, 1), (1, 1), (2, 1)], zero := [.string ByteArray.empty, .string ByteArray.empty, .slice none 0 0] } := tab_is (by kernel_rfl)
@[go_sem] theorem tab97 : tab 97 = { ok := true, kind := .slice, size := 1, bytes := 24, elem := 102, zero := [.slice none 0 0] } := tab_is (by kernel_rfl)
@[go_sem] theorem tab100 : tab 100 = { ok := true, kind := .slice, size := 1, bytes := 24, elem := 125, zero := [.slice none 0 0] } := tab_is (by kernel_rfl)
@[go_sem] theorem tab102 : tab 102 = { ok := true, kind := .struct, size := 2, bytes := 32, offs := [(0, 1), (1, 1)], zero := [.int .i64 0, .slice none 0 0] } := tab_is (by kernel_rfl)
@[go_sem] theorem tab108 : tab 108 = { ok := true, kind := .map, size := 1, bytes := 8, elem := 3, zero := [.map none], mkey := some (false, [.string]) } := tab_is (by kernel_rfl)
@[go_sem] theorem tab110 : tab 110 = { ok := true, kind := .struct, size := 2, bytes := 16, offs := [(0, 1), (1, 1)], zero := [.map none, .map none] } := tab_is (by kernel_rfl)
@[go_sem] theorem tab125 : tab 125 = { ok := true, kind := .struct, size := 2, bytes := 24, offs := [(0, 1), (1, 1)], zero := [.string ByteArray.empty, .int .i64 0], flat := some [.string, .int .i64] } := tab_is (by kernel_rfl)
@[go_sem] theorem tab133 : tab 133 = { ok := true, kind := .slice, size := 1, bytes := 24, elem := 23, zero := [.slice none 0 0] } := tab_is (by kernel_rfl)
@[go_sem] theorem tab141 : tab 141 = { ok := true, kind := .map, size := 1, bytes := 8, elem := 23, zero := [.map none], mkey := some (false, [.string]) } := tab_is (by kernel_rfl)
end Go.Proofs.Ytkkhgdmmbhpckaa.Ab
