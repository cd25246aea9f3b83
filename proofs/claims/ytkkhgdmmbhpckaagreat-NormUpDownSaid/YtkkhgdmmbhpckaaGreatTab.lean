/-
 What the machine is told of this program's types.
-/
import Derived.Test.YtkkhgdmmbhpckaaGreatAbH
import Derived.Test.YtkkhgdmmbhpckaaGreatProg
import Derived.IntWalk
import Derived.KernelRfl
namespace Go.Proofs.YtkkhgdmmbhpckaaGreat.Ab
theorem tab_ex : ∃ t, t = tabP Tryz.prog := ⟨_, rfl⟩
noncomputable def tab : Nat → TI := Classical.choose tab_ex
theorem tab_eq : tab = tabP Tryz.prog := Classical.choose_spec tab_ex
theorem tab_ok : TabOk Tryz.prog tab := tab_eq ▸ tabP_ok _
theorem tab_is {k : Nat} {x : TI} (h : tabP Tryz.prog k = x) : tab k = x := by rw [tab_eq]; exact h
theorem fol : Tryz.prog.follows .mixedOrders = true := by kernel_rfl
@[go_sem] theorem tab2 : tab 2 = { ok := true, kind := .int .i64, size := 1, bytes := 8, zero := [.int .i64 0] } := tab_is (by kernel_rfl)
@[go_sem] theorem tab3 : tab 3 = { ok := true, kind := .int .i64, size := 1, bytes := 8, zero := [.int .i64 0] } := tab_is (by kernel_rfl)
@[go_sem] theorem tab4 : tab 4 = { ok := true, kind := .bool, size := 1, bytes := 1, zero := [.bool false] } := tab_is (by kernel_rfl)
@[go_sem] theorem tab9 : tab 9 = { ok := true, kind := .string, size := 1, bytes := 16, zero := [.string ByteArray.empty] } := tab_is (by kernel_rfl)
@[go_sem] theorem tab22 : tab 22 = { ok := true, kind := .slice, size := 1, bytes := 24, elem := 2, zero := [.slice none 0 0] } := tab_is (by kernel_rfl)
@[go_sem] theorem tab23 : tab 23 = { ok := true, kind := .slice, size := 1, bytes := 24, elem := 9, zero := [.slice none 0 0] } := tab_is (by kernel_rfl)
@[go_sem] theorem tab24 : tab 24 = { ok := true, kind := .slice, size := 1, bytes := 24, elem := 35, zero := [.slice none 0 0] } := tab_is (by kernel_rfl)
@[go_sem] theorem tab25 : tab 25 = { ok := true, kind := .slice, size := 1, bytes := 24, elem := 57, zero := [.slice none 0 0] } := tab_is (by kernel_rfl)
@[go_sem] theorem tab29 : tab 29 = { ok := true, kind := .struct, size := 8, bytes := 192, offs := [(0, 1), (1, 1), (2, 1), (3, 1), (4, 1), (5, 1), (6, 1), (7, 1)], zero := [.slice none 0 0, .slice none 0 0, .slice none 0 0, .slice none 0 0, .slice none 0 0, .slice none 0 0, .slice none 0 0, .slice none 0 0] } := tab_is (by kernel_rfl)
@[go_sem] theorem tab31 : tab 31 = { ok := true, kind := .array 8, size := 8, bytes := 8, offs := [(0, 1), (1, 1), (2, 1), (3, 1), (4, 1), (5, 1), (6, 1), (7, 1)], elem := 4, zero := [.bool false, .bool false, .bool false, .bool false, .bool false, .bool false, .bool false, .bool false] } := tab_is (by kernel_rfl)
@[go_sem] theorem tab32 : tab 32 = { ok := true, kind := .array 8, size := 64, bytes := 64, offs := [(0, 8), (8, 8), (16, 8), (24, 8), (32, 8), (40, 8), (48, 8), (56, 8)], elem := 31, zero := [.bool false, .bool false, .bool false, .bool false, .bool false, .bool false, .bool false, .bool false, .bool false, .bool false, .bool false, .bool false, .bool false, .bool false, .bool false, .bool false, .bool false, .bool false, .bool false, .bool false, .bool false, .bool false, .bool false, .bool false, .bool false, .bool false, .bool false, .bool false, .bool false, .bool false, .bool false, .bool false, .bool false, .bool false, .bool false, .bool false, .bool false, .bool false, .bool false, .bool false, .bool false, .bool false, .bool false, .bool false, .bool false, .bool false, .bool false, .bool false, .bool false, .bool false, .bool false, .bool false, .bool false, .bool false, .bool false, .bool false, .bool false, .bool false, .bool false, .bool false, .bool false, .bool false, .bool false, .bool false] } := tab_is (by kernel_rfl)
@[go_sem] theorem tab35 : tab 35 = { ok := true, kind := .struct, size := 2, bytes := 32, offs := [(0, 1), (1, 1)], zero := [.string ByteArray.empty, .string ByteArray.empty], flat := some [.string, .string] } := tab_is (by kernel_rfl)
@[go_sem] theorem tab54 : tab 54 = { ok := true, kind := .map, size := 1, bytes := 8, elem := 23, zero := [.map none], mkey := some (false, [.string]) } := tab_is (by kernel_rfl)
@[go_sem] theorem tab57 : tab 57 = { ok := true, kind := .struct, size := 3, bytes := 48, offs := [(0, 1), (1, 1), (2, 1)], zero := [.string ByteArray.empty, .string ByteArray.empty, .string ByteArray.empty], flat := some [.string, .string, .string] } := tab_is (by kernel_rfl)
@[go_sem] theorem tab85 : tab 85 = { ok := true, kind := .map, size := 1, bytes := 8, elem := 3, zero := [.map none], mkey := some (false, [.string]) } := tab_is (by kernel_rfl)
end Go.Proofs.YtkkhgdmmbhpckaaGreat.Ab
