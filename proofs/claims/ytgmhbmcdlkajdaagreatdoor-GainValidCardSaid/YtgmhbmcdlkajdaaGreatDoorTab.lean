/-
 What the machine is told of this program's types.
-/
import Derived.Test.YtgmhbmcdlkajdaaGreatDoorAbH
import Derived.Test.YtgmhbmcdlkajdaaGreatDoorProg
import Derived.IntWalk
import Derived.KernelRfl
namespace Go.Proofs.YtgmhbmcdlkajdaaGreatDoor.Ab
theorem tab_ex : ∃ t, t = tabP Tryz.prog := ⟨_, rfl⟩
noncomputable def tab : Nat → TI := Classical.choose tab_ex
theorem tab_eq : tab = tabP Tryz.prog := Classical.choose_spec tab_ex
theorem tab_ok : TabOk Tryz.prog tab := tab_eq ▸ tabP_ok _
theorem tab_is {k : Nat} {x : TI} (h : tabP Tryz.prog k = x) : tab k = x := by rw [tab_eq]; exact h
theorem fol : Tryz.prog.follows .mixedOrders = true := by kernel_rfl
@[go_sem] theorem tab2 : tab 2 = { ok := true, kind := .int .i64, size := 1, bytes := 8, zero := [.int .i64 0] } := tab_is (by kernel_rfl)
@[go_sem] theorem tab3 : tab 3 = { ok := true, kind := .int .i64, size := 1, bytes := 8, zero := [.int .i64 0] } := tab_is (by kernel_rfl)
@[go_sem] theorem tab4 : tab 4 = { ok := true, kind := .bool, size := 1, bytes := 1, zero := [.bool false] } := tab_is (by kernel_rfl)
@[go_sem] theorem tab5 : tab 5 = { ok := true, kind := .int .u8, size := 1, bytes := 1, zero := [.int .u8 0] } := tab_is (by kernel_rfl)
@[go_sem] theorem tab9 : tab 9 = { ok := true, kind := .string, size := 1, bytes := 16, zero := [.string ByteArray.empty] } := tab_is (by kernel_rfl)
@[go_sem] theorem tab22 : tab 22 = { ok := true, kind := .slice, size := 1, bytes := 24, elem := 2, zero := [.slice none 0 0] } := tab_is (by kernel_rfl)
@[go_sem] theorem tab24 : tab 24 = { ok := true, kind := .slice, size := 1, bytes := 24, elem := 36, zero := [.slice none 0 0] } := tab_is (by kernel_rfl)
@[go_sem] theorem tab29 : tab 29 = { ok := true, kind := .int .u64, size := 1, bytes := 8, zero := [.int .u64 0] } := tab_is (by kernel_rfl)
@[go_sem] theorem tab30 : tab 30 = { ok := true, kind := .slice, size := 1, bytes := 24, elem := 3, zero := [.slice none 0 0] } := tab_is (by kernel_rfl)
@[go_sem] theorem tab33 : tab 33 = { ok := true, kind := .slice, size := 1, bytes := 24, elem := 9, zero := [.slice none 0 0] } := tab_is (by kernel_rfl)
@[go_sem] theorem tab34 : tab 34 = { ok := true, kind := .slice, size := 1, bytes := 24, elem := 44, zero := [.slice none 0 0] } := tab_is (by kernel_rfl)
@[go_sem] theorem tab36 : tab 36 = { ok := true, kind := .struct, size := 7, bytes := 112, offs := [(0, 1), (1, 1), (2, 1), (3, 1), (4, 1), (5, 1), (6, 1)], zero := [.int .i64 0, .string ByteArray.empty, .slice none 0 0, .string ByteArray.empty, .string ByteArray.empty, .slice none 0 0, .int .i64 0] } := tab_is (by kernel_rfl)
@[go_sem] theorem tab44 : tab 44 = { ok := true, kind := .struct, size := 4, bytes := 40, offs := [(0, 1), (1, 1), (2, 1), (3, 1)], zero := [.int .i64 0, .bool false, .string ByteArray.empty, .int .i64 0], flat := some [.int .i64, .bool, .string, .int .i64] } := tab_is (by kernel_rfl)
@[go_sem] theorem tab47 : tab 47 = { ok := true, kind := .slice, size := 1, bytes := 24, elem := 5, zero := [.slice none 0 0] } := tab_is (by kernel_rfl)
@[go_sem] theorem tab75 : tab 75 = { ok := true, kind := .struct, size := 2, bytes := 24, offs := [(0, 1), (1, 1)], zero := [.string ByteArray.empty, .int .i64 0], flat := some [.string, .int .i64] } := tab_is (by kernel_rfl)
@[go_sem] theorem tab76 : tab 76 = { ok := true, kind := .slice, size := 1, bytes := 24, elem := 75, zero := [.slice none 0 0] } := tab_is (by kernel_rfl)
@[go_sem] theorem tab78 : tab 78 = { ok := true, kind := .struct, size := 2, bytes := 32, offs := [(0, 1), (1, 1)], zero := [.int .i64 0, .slice none 0 0] } := tab_is (by kernel_rfl)
@[go_sem] theorem tab83 : tab 83 = { ok := true, kind := .slice, size := 1, bytes := 24, elem := 78, zero := [.slice none 0 0] } := tab_is (by kernel_rfl)
@[go_sem] theorem tab129 : tab 129 = { ok := true, kind := .int .u32, size := 1, bytes := 4, zero := [.int .u32 0] } := tab_is (by kernel_rfl)
end Go.Proofs.YtgmhbmcdlkajdaaGreatDoor.Ab
