/-
 What the machine is told of this program's types.
-/
import Derived.Test.YtkkhgdmmbhpckaaGreatAbI
import Derived.Test.YtkkhgdmmbhpckaaGreatProg
import Derived.IntWalk
import Derived.KernelRfl
namespace Go.Proofs.YtkkhgdmmbhpckaaGreat.Ab
theorem rN_ : ∃ t, t = tabP Tryz.prog := ⟨_, rfl⟩
noncomputable def tab : Nat → TI := Classical.choose rN_
theorem rO_ : tab = tabP Tryz.prog := Classical.choose_spec rN_
theorem qo_ : TabOk Tryz.prog tab := rO_ ▸ sw_ _
theorem xg_ {k : Nat} {x : TI} (h : tabP Tryz.prog k = x) : tab k = x := by rw [rO_]; exact h
theorem fol : Tryz.prog.follows .mixedOrders = true := by kernel_rfl
@[go_sem] theorem tab2 : tab 2 = { ok := true, kind := .int .i64, size := 1, bytes := 8, zero := [.int .i64 0] } := xg_ (by kernel_rfl)
@[go_sem] theorem tab3 : tab 3 = { ok := true, kind := .int .i64, size := 1, bytes := 8, zero := [.int .i64 0] } := xg_ (by kernel_rfl)
@[go_sem] theorem tab4 : tab 4 = { ok := true, kind := .bool, size := 1, bytes := 1, zero := [.bool false] } := xg_ (by kernel_rfl)
@[go_sem] theorem tab5 : tab 5 = { ok := true, kind := .int .u8, size := 1, bytes := 1, zero := [.int .u8 0] } := xg_ (by kernel_rfl)
@[go_sem] theorem tab9 : tab 9 = { ok := true, kind := .string, size := 1, bytes := 16, zero := [.string ByteArray.empty] } := xg_ (by kernel_rfl)
@[go_sem] theorem tab22 : tab 22 = { ok := true, kind := .slice, size := 1, bytes := 24, elem := 2, zero := [.slice none 0 0] } := xg_ (by kernel_rfl)
@[go_sem] theorem tab23 : tab 23 = { ok := true, kind := .slice, size := 1, bytes := 24, elem := 9, zero := [.slice none 0 0] } := xg_ (by kernel_rfl)
@[go_sem] theorem tab24 : tab 24 = { ok := true, kind := .slice, size := 1, bytes := 24, elem := 35, zero := [.slice none 0 0] } := xg_ (by kernel_rfl)
@[go_sem] theorem tab25 : tab 25 = { ok := true, kind := .slice, size := 1, bytes := 24, elem := 57, zero := [.slice none 0 0] } := xg_ (by kernel_rfl)
@[go_sem] theorem tab26 : tab 26 = { ok := true, kind := .slice, size := 1, bytes := 24, elem := 60, zero := [.slice none 0 0] } := xg_ (by kernel_rfl)
@[go_sem] theorem tab27 : tab 27 = { ok := true, kind := .slice, size := 1, bytes := 24, elem := 62, zero := [.slice none 0 0] } := xg_ (by kernel_rfl)
@[go_sem] theorem tab29 : tab 29 = { ok := true, kind := .struct, size := 8, bytes := 192, offs := [(0, 1), (1, 1), (2, 1), (3, 1), (4, 1), (5, 1), (6, 1), (7, 1)], zero := [.slice none 0 0, .slice none 0 0, .slice none 0 0, .slice none 0 0, .slice none 0 0, .slice none 0 0, .slice none 0 0, .slice none 0 0] } := xg_ (by kernel_rfl)
@[go_sem] theorem tab35 : tab 35 = { ok := true, kind := .struct, size := 2, bytes := 32, offs := [(0, 1), (1, 1)], zero := [.string ByteArray.empty, .string ByteArray.empty], flat := some [.string, .string] } := xg_ (by kernel_rfl)
@[go_sem] theorem tab39 : tab 39 = { ok := true, kind := .slice, size := 1, bytes := 24, elem := 52, zero := [.slice none 0 0] } := xg_ (by kernel_rfl)
@[go_sem] theorem tab52 : tab 52 = { ok := true, kind := .struct, size := 7, bytes := 96, offs := [(0, 1), (1, 1), (2, 1), (3, 1), (4, 1), (5, 1), (6, 1)], zero := [.int .i64 0, .string ByteArray.empty, .string ByteArray.empty, .string ByteArray.empty, .int .i64 0, .slice none 0 0, .int .i64 0] } := xg_ (by kernel_rfl)
@[go_sem] theorem tab54 : tab 54 = { ok := true, kind := .map, size := 1, bytes := 8, elem := 23, zero := [.map none], mkey := some (false, [.string]) } := xg_ (by kernel_rfl)
@[go_sem] theorem tab57 : tab 57 = { ok := true, kind := .struct, size := 3, bytes := 48, offs := [(0, 1), (1, 1), (2, 1)], zero := [.string ByteArray.empty, .string ByteArray.empty, .string ByteArray.empty], flat := some [.string, .string, .string] } := xg_ (by kernel_rfl)
@[go_sem] theorem tab60 : tab 60 = { ok := true, kind := .struct, size := 3, bytes := 48, offs := [(0, 1), (1, 1), (2, 1)], zero := [.string ByteArray.empty, .int .i64 0, .slice none 0 0] } := xg_ (by kernel_rfl)
@[go_sem] theorem tab62 : tab 62 = { ok := true, kind := .struct, size := 3, bytes := 56, offs := [(0, 1), (1, 1), (2, 1)], zero := [.string ByteArray.empty, .string ByteArray.empty, .slice none 0 0] } := xg_ (by kernel_rfl)
@[go_sem] theorem tab77 : tab 77 = { ok := true, kind := .slice, size := 1, bytes := 24, elem := 82, zero := [.slice none 0 0] } := xg_ (by kernel_rfl)
@[go_sem] theorem tab80 : tab 80 = { ok := true, kind := .slice, size := 1, bytes := 24, elem := 105, zero := [.slice none 0 0] } := xg_ (by kernel_rfl)
@[go_sem] theorem tab82 : tab 82 = { ok := true, kind := .struct, size := 2, bytes := 32, offs := [(0, 1), (1, 1)], zero := [.int .i64 0, .slice none 0 0] } := xg_ (by kernel_rfl)
@[go_sem] theorem tab85 : tab 85 = { ok := true, kind := .map, size := 1, bytes := 8, elem := 3, zero := [.map none], mkey := some (false, [.string]) } := xg_ (by kernel_rfl)
@[go_sem] theorem tab105 : tab 105 = { ok := true, kind := .struct, size := 2, bytes := 24, offs := [(0, 1), (1, 1)], zero := [.string ByteArray.empty, .int .i64 0], flat := some [.string, .int .i64] } := xg_ (by kernel_rfl)
@[go_sem] theorem tab113 : tab 113 = { ok := true, kind := .slice, size := 1, bytes := 24, elem := 3, zero := [.slice none 0 0] } := xg_ (by kernel_rfl)
end Go.Proofs.YtkkhgdmmbhpckaaGreat.Ab
