/-
  What the machine is told of this program's types.
-/
import Derived.Test.YtjfpmgdbkhooeaaDoorAbH
import Derived.Test.YtjfpmgdbkhooeaaDoorProg
import Derived.IntWalk
import Derived.KernelRfl
namespace Go.Proofs.YtjfpmgdbkhooeaaDoor.Ab
theorem tab_ex : ∃ t, t = tabP Tryd.prog := ⟨_, rfl⟩
/-- Held back, so that nothing reckons it anew. -/
noncomputable def tab : Nat → TI := Classical.choose tab_ex
theorem tab_eq : tab = tabP Tryd.prog := Classical.choose_spec tab_ex
theorem tab_ok : TabOk Tryd.prog tab := tab_eq ▸ tabP_ok _
theorem tab_is {k : Nat} {x : TI} (h : tabP Tryd.prog k = x) : tab k = x := by rw [tab_eq]; exact h
theorem fol : Tryd.prog.follows .mixedOrders = true := by kernel_rfl
@[go_sem] theorem tab2 : tab 2 = { ok := true, kind := .int .i64, size := 1, bytes := 8, zero := [.int .i64 0] } := tab_is (by kernel_rfl)
@[go_sem] theorem tab3 : tab 3 = { ok := true, kind := .int .i64, size := 1, bytes := 8, zero := [.int .i64 0] } := tab_is (by kernel_rfl)
@[go_sem] theorem tab4 : tab 4 = { ok := true, kind := .bool, size := 1, bytes := 1, zero := [.bool false] } := tab_is (by kernel_rfl)
@[go_sem] theorem tab5 : tab 5 = { ok := true, kind := .int .u8, size := 1, bytes := 1, zero := [.int .u8 0] } := tab_is (by kernel_rfl)
@[go_sem] theorem tab6 : tab 6 = { ok := true, kind := .int .u8, size := 1, bytes := 1, zero := [.int .u8 0] } := tab_is (by kernel_rfl)
@[go_sem] theorem tab9 : tab 9 = { ok := true, kind := .string, size := 1, bytes := 16, zero := [.string ByteArray.empty] } := tab_is (by kernel_rfl)
@[go_sem] theorem tab10 : tab 10 = { ok := true, kind := .string, size := 1, bytes := 16, zero := [.string ByteArray.empty] } := tab_is (by kernel_rfl)
@[go_sem] theorem tab11 : tab 11 = { ok := true, kind := .string, size := 1, bytes := 16, zero := [.string ByteArray.empty] } := tab_is (by kernel_rfl)
@[go_sem] theorem tab12 : tab 12 = { ok := true, kind := .int .u64, size := 1, bytes := 8, zero := [.int .u64 0] } := tab_is (by kernel_rfl)
@[go_sem] theorem tab15 : tab 15 = { ok := true, kind := .ptr, size := 1, bytes := 8, elem := 102, zero := [.pointer none] } := tab_is (by kernel_rfl)
@[go_sem] theorem tab16 : tab 16 = { ok := true, kind := .ptr, size := 1, bytes := 8, elem := 105, zero := [.pointer none] } := tab_is (by kernel_rfl)
@[go_sem] theorem tab17 : tab 17 = { ok := true, kind := .ptr, size := 1, bytes := 8, elem := 113, zero := [.pointer none] } := tab_is (by kernel_rfl)
@[go_sem] theorem tab21 : tab 21 = { ok := true, kind := .int .i32, size := 1, bytes := 4, zero := [.int .i32 0] } := tab_is (by kernel_rfl)
@[go_sem] theorem tab22 : tab 22 = { ok := true, kind := .slice, size := 1, bytes := 24, elem := 25, zero := [.slice none 0 0] } := tab_is (by kernel_rfl)
@[go_sem] theorem tab24 : tab 24 = { ok := true, kind := .struct, size := 2, bytes := 16, offs := [(0, 1), (1, 1)], zero := [.int .i64 0, .int .i64 0], flat := some [.int .i64, .int .i64] } := tab_is (by kernel_rfl)
@[go_sem] theorem tab25 : tab 25 = { ok := true, kind := .struct, size := 2, bytes := 16, offs := [(0, 1), (1, 1)], zero := [.int .i64 0, .int .i64 0], flat := some [.int .i64, .int .i64] } := tab_is (by kernel_rfl)
@[go_sem] theorem tab26 : tab 26 = { ok := true, kind := .int .i64, size := 1, bytes := 8, zero := [.int .i64 0] } := tab_is (by kernel_rfl)
@[go_sem] theorem tab29 : tab 29 = { ok := true, kind := .slice, size := 1, bytes := 24, elem := 2, zero := [.slice none 0 0] } := tab_is (by kernel_rfl)
@[go_sem] theorem tab30 : tab 30 = { ok := true, kind := .slice, size := 1, bytes := 24, elem := 9, zero := [.slice none 0 0] } := tab_is (by kernel_rfl)
@[go_sem] theorem tab31 : tab 31 = { ok := true, kind := .int .u64, size := 1, bytes := 8, zero := [.int .u64 0] } := tab_is (by kernel_rfl)
@[go_sem] theorem tab32 : tab 32 = { ok := true, kind := .slice, size := 1, bytes := 24, elem := 37, zero := [.slice none 0 0] } := tab_is (by kernel_rfl)
@[go_sem] theorem tab35 : tab 35 = { ok := true, kind := .slice, size := 1, bytes := 24, elem := 39, zero := [.slice none 0 0] } := tab_is (by kernel_rfl)
@[go_sem] theorem tab36 : tab 36 = { ok := true, kind := .struct, size := 2, bytes := 32, offs := [(0, 1), (1, 1)], zero := [.int .i64 0, .slice none 0 0] } := tab_is (by kernel_rfl)
@[go_sem] theorem tab37 : tab 37 = { ok := true, kind := .struct, size := 2, bytes := 32, offs := [(0, 1), (1, 1)], zero := [.int .i64 0, .slice none 0 0] } := tab_is (by kernel_rfl)
@[go_sem] theorem tab38 : tab 38 = { ok := true, kind := .struct, size := 2, bytes := 24, offs := [(0, 1), (1, 1)], zero := [.string ByteArray.empty, .int .i64 0], flat := some [.string, .int .i64] } := tab_is (by kernel_rfl)
@[go_sem] theorem tab39 : tab 39 = { ok := true, kind := .struct, size := 2, bytes := 24, offs := [(0, 1), (1, 1)], zero := [.string ByteArray.empty, .int .i64 0], flat := some [.string, .int .i64] } := tab_is (by kernel_rfl)
@[go_sem] theorem tab48 : tab 48 = { ok := true, kind := .slice, size := 1, bytes := 24, elem := 29, zero := [.slice none 0 0] } := tab_is (by kernel_rfl)
@[go_sem] theorem tab50 : tab 50 = { ok := true, kind := .slice, size := 1, bytes := 24, elem := 5, zero := [.slice none 0 0] } := tab_is (by kernel_rfl)
@[go_sem] theorem tab63 : tab 63 = { ok := true, kind := .ptr, size := 1, bytes := 8, elem := 65, zero := [.pointer none] } := tab_is (by kernel_rfl)
@[go_sem] theorem tab64 : tab 64 = { ok := true, kind := .struct, size := 2, bytes := 32, offs := [(0, 1), (1, 1)], zero := [.pointer none, .slice none 0 0] } := tab_is (by kernel_rfl)
@[go_sem] theorem tab65 : tab 65 = { ok := true, kind := .struct, size := 2, bytes := 32, offs := [(0, 1), (1, 1)], zero := [.pointer none, .slice none 0 0] } := tab_is (by kernel_rfl)
@[go_sem] theorem tab75 : tab 75 = { ok := true, kind := .ptr, size := 1, bytes := 8, elem := 5, zero := [.pointer none] } := tab_is (by kernel_rfl)
@[go_sem] theorem tab76 : tab 76 = { ok := true, kind := .array 24, size := 24, bytes := 24, offs := [(0, 1), (1, 1), (2, 1), (3, 1), (4, 1), (5, 1), (6, 1), (7, 1), (8, 1), (9, 1), (10, 1), (11, 1), (12, 1), (13, 1), (14, 1), (15, 1), (16, 1), (17, 1), (18, 1), (19, 1), (20, 1), (21, 1), (22, 1), (23, 1)], elem := 5, zero := [.int .u8 0, .int .u8 0, .int .u8 0, .int .u8 0, .int .u8 0, .int .u8 0, .int .u8 0, .int .u8 0, .int .u8 0, .int .u8 0, .int .u8 0, .int .u8 0, .int .u8 0, .int .u8 0, .int .u8 0, .int .u8 0, .int .u8 0, .int .u8 0, .int .u8 0, .int .u8 0, .int .u8 0, .int .u8 0, .int .u8 0, .int .u8 0] } := tab_is (by kernel_rfl)
@[go_sem] theorem tab77 : tab 77 = { ok := true, kind := .int .u64, size := 1, bytes := 8, zero := [.int .u64 0] } := tab_is (by kernel_rfl)
@[go_sem] theorem tab83 : tab 83 = { ok := true, kind := .other, size := 1, bytes := 8, zero := [.pointer none] } := tab_is (by kernel_rfl)
@[go_sem] theorem tab87 : tab 87 = { ok := true, kind := .array 20, size := 20, bytes := 160, offs := [(0, 1), (1, 1), (2, 1), (3, 1), (4, 1), (5, 1), (6, 1), (7, 1), (8, 1), (9, 1), (10, 1), (11, 1), (12, 1), (13, 1), (14, 1), (15, 1), (16, 1), (17, 1), (18, 1), (19, 1)], elem := 77, zero := [.int .u64 0, .int .u64 0, .int .u64 0, .int .u64 0, .int .u64 0, .int .u64 0, .int .u64 0, .int .u64 0, .int .u64 0, .int .u64 0, .int .u64 0, .int .u64 0, .int .u64 0, .int .u64 0, .int .u64 0, .int .u64 0, .int .u64 0, .int .u64 0, .int .u64 0, .int .u64 0] } := tab_is (by kernel_rfl)
@[go_sem] theorem tab88 : tab 88 = { ok := true, kind := .int .u32, size := 1, bytes := 4, zero := [.int .u32 0] } := tab_is (by kernel_rfl)
@[go_sem] theorem tab95 : tab 95 = { ok := true, kind := .struct, size := 2, bytes := 2, offs := [(0, 1), (1, 1)], zero := [.int .u8 0, .int .u8 0], flat := some [.int .u8, .int .u8] } := tab_is (by kernel_rfl)
@[go_sem] theorem tab96 : tab 96 = { ok := true, kind := .struct, size := 2, bytes := 2, offs := [(0, 1), (1, 1)], zero := [.int .u8 0, .int .u8 0], flat := some [.int .u8, .int .u8] } := tab_is (by kernel_rfl)
@[go_sem] theorem tab97 : tab 97 = { ok := true, kind := .array 16, size := 32, bytes := 32, offs := [(0, 2), (2, 2), (4, 2), (6, 2), (8, 2), (10, 2), (12, 2), (14, 2), (16, 2), (18, 2), (20, 2), (22, 2), (24, 2), (26, 2), (28, 2), (30, 2)], elem := 96, zero := [.int .u8 0, .int .u8 0, .int .u8 0, .int .u8 0, .int .u8 0, .int .u8 0, .int .u8 0, .int .u8 0, .int .u8 0, .int .u8 0, .int .u8 0, .int .u8 0, .int .u8 0, .int .u8 0, .int .u8 0, .int .u8 0, .int .u8 0, .int .u8 0, .int .u8 0, .int .u8 0, .int .u8 0, .int .u8 0, .int .u8 0, .int .u8 0, .int .u8 0, .int .u8 0, .int .u8 0, .int .u8 0, .int .u8 0, .int .u8 0, .int .u8 0, .int .u8 0] } := tab_is (by kernel_rfl)
@[go_sem] theorem tab99 : tab 99 = { ok := true, kind := .array 32, size := 32, bytes := 32, offs := [(0, 1), (1, 1), (2, 1), (3, 1), (4, 1), (5, 1), (6, 1), (7, 1), (8, 1), (9, 1), (10, 1), (11, 1), (12, 1), (13, 1), (14, 1), (15, 1), (16, 1), (17, 1), (18, 1), (19, 1), (20, 1), (21, 1), (22, 1), (23, 1), (24, 1), (25, 1), (26, 1), (27, 1), (28, 1), (29, 1), (30, 1), (31, 1)], elem := 5, zero := [.int .u8 0, .int .u8 0, .int .u8 0, .int .u8 0, .int .u8 0, .int .u8 0, .int .u8 0, .int .u8 0, .int .u8 0, .int .u8 0, .int .u8 0, .int .u8 0, .int .u8 0, .int .u8 0, .int .u8 0, .int .u8 0, .int .u8 0, .int .u8 0, .int .u8 0, .int .u8 0, .int .u8 0, .int .u8 0, .int .u8 0, .int .u8 0, .int .u8 0, .int .u8 0, .int .u8 0, .int .u8 0, .int .u8 0, .int .u8 0, .int .u8 0, .int .u8 0] } := tab_is (by kernel_rfl)
@[go_sem] theorem tab100 : tab 100 = { ok := true, kind := .array 64, size := 64, bytes := 64, offs := [(0, 1), (1, 1), (2, 1), (3, 1), (4, 1), (5, 1), (6, 1), (7, 1), (8, 1), (9, 1), (10, 1), (11, 1), (12, 1), (13, 1), (14, 1), (15, 1), (16, 1), (17, 1), (18, 1), (19, 1), (20, 1), (21, 1), (22, 1), (23, 1), (24, 1), (25, 1), (26, 1), (27, 1), (28, 1), (29, 1), (30, 1), (31, 1), (32, 1), (33, 1), (34, 1), (35, 1), (36, 1), (37, 1), (38, 1), (39, 1), (40, 1), (41, 1), (42, 1), (43, 1), (44, 1), (45, 1), (46, 1), (47, 1), (48, 1), (49, 1), (50, 1), (51, 1), (52, 1), (53, 1), (54, 1), (55, 1), (56, 1), (57, 1), (58, 1), (59, 1), (60, 1), (61, 1), (62, 1), (63, 1)], elem := 5, zero := [.int .u8 0, .int .u8 0, .int .u8 0, .int .u8 0, .int .u8 0, .int .u8 0, .int .u8 0, .int .u8 0, .int .u8 0, .int .u8 0, .int .u8 0, .int .u8 0, .int .u8 0, .int .u8 0, .int .u8 0, .int .u8 0, .int .u8 0, .int .u8 0, .int .u8 0, .int .u8 0, .int .u8 0, .int .u8 0, .int .u8 0, .int .u8 0, .int .u8 0, .int .u8 0, .int .u8 0, .int .u8 0, .int .u8 0, .int .u8 0, .int .u8 0, .int .u8 0, .int .u8 0, .int .u8 0, .int .u8 0, .int .u8 0, .int .u8 0, .int .u8 0, .int .u8 0, .int .u8 0, .int .u8 0, .int .u8 0, .int .u8 0, .int .u8 0, .int .u8 0, .int .u8 0, .int .u8 0, .int .u8 0, .int .u8 0, .int .u8 0, .int .u8 0, .int .u8 0, .int .u8 0, .int .u8 0, .int .u8 0, .int .u8 0, .int .u8 0, .int .u8 0, .int .u8 0, .int .u8 0, .int .u8 0, .int .u8 0, .int .u8 0, .int .u8 0] } := tab_is (by kernel_rfl)
@[go_sem] theorem tab103 : tab 103 = { ok := true, kind := .array 0, size := 0, bytes := 0, offs := [], elem := 16, zero := [] } := tab_is (by kernel_rfl)
@[go_sem] theorem tab107 : tab 107 = { ok := true, kind := .int .u8, size := 1, bytes := 1, zero := [.int .u8 0] } := tab_is (by kernel_rfl)
@[go_sem] theorem tab108 : tab 108 = { ok := true, kind := .int .u8, size := 1, bytes := 1, zero := [.int .u8 0] } := tab_is (by kernel_rfl)
@[go_sem] theorem tab110 : tab 110 = { ok := true, kind := .int .i32, size := 1, bytes := 4, zero := [.int .i32 0] } := tab_is (by kernel_rfl)
@[go_sem] theorem tab111 : tab 111 = { ok := true, kind := .int .i32, size := 1, bytes := 4, zero := [.int .i32 0] } := tab_is (by kernel_rfl)
@[go_sem] theorem tab112 : tab 112 = { ok := true, kind := .struct, size := 11, bytes := 48, offs := [(0, 1), (1, 1), (2, 1), (3, 1), (4, 1), (5, 1), (6, 1), (7, 1), (8, 1), (9, 1), (10, 1)], zero := [.int .u64 0, .int .u64 0, .int .u32 0, .int .u8 0, .int .u8 0, .int .u8 0, .int .u8 0, .nilFunc, .pointer none, .int .i32 0, .int .i32 0] } := tab_is (by kernel_rfl)
@[go_sem] theorem tab113 : tab 113 = { ok := true, kind := .struct, size := 11, bytes := 48, offs := [(0, 1), (1, 1), (2, 1), (3, 1), (4, 1), (5, 1), (6, 1), (7, 1), (8, 1), (9, 1), (10, 1)], zero := [.int .u64 0, .int .u64 0, .int .u32 0, .int .u8 0, .int .u8 0, .int .u8 0, .int .u8 0, .nilFunc, .pointer none, .int .i32 0, .int .i32 0] } := tab_is (by kernel_rfl)
end Go.Proofs.YtjfpmgdbkhooeaaDoor.Ab
