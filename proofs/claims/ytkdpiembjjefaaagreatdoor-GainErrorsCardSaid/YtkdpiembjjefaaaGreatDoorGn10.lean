/-
  GainErrors: some rows, reckoned by the kernel.
-/
import Derived.Test.YtkdpiembjjefaaaGreatDoorGnw
namespace Go.Proofs.YtkdpiembjjefaaaGreatDoor.Ab
open Go.RowKit
set_option maxRecDepth 100000 in
theorem ge0_9 (w : Int) : evalZ Tryz.prog (primOf primsG) 100000 200 3 [.v (.int .i64 w)] [(46, .int .i64 0), (80, .int .i64 9)] = some (.v (.bool true), true, [clA w 0, clH w 9]) := by kernel_rfl
set_option maxRecDepth 100000 in
theorem ge1_9 (w : Int) : evalZ Tryz.prog (primOf primsG) 100000 200 3 [.v (.int .i64 w)] [(46, .int .i64 1), (80, .int .i64 9)] = some (.v (.bool true), true, [clA w 1, clH w 9]) := by kernel_rfl
set_option maxRecDepth 100000 in
theorem ge2_9 (w : Int) : evalZ Tryz.prog (primOf primsG) 100000 200 3 [.v (.int .i64 w)] [(46, .int .i64 2), (80, .int .i64 9)] = some (.v (.bool true), true, [clA w 2, clH w 9]) := by kernel_rfl
set_option maxRecDepth 100000 in
theorem ge3_9 (w : Int) : evalZ Tryz.prog (primOf primsG) 100000 200 3 [.v (.int .i64 w)] [(46, .int .i64 3), (80, .int .i64 9)] = some (.v (.bool true), true, [clA w 3, clH w 9]) := by kernel_rfl
set_option maxRecDepth 100000 in
theorem ge4_9 (w : Int) : evalZ Tryz.prog (primOf primsG) 100000 200 3 [.v (.int .i64 w)] [(46, .int .i64 4), (80, .int .i64 9)] = some (.v (.bool true), true, [clA w 4, clH w 9]) := by kernel_rfl
set_option maxRecDepth 100000 in
theorem ge5_9 (w : Int) : evalZ Tryz.prog (primOf primsG) 100000 200 3 [.v (.int .i64 w)] [(46, .int .i64 5), (80, .int .i64 9)] = some (.v (.bool true), true, [clA w 5, clH w 9]) := by kernel_rfl
set_option maxRecDepth 100000 in
theorem ge6_9 (w : Int) : evalZ Tryz.prog (primOf primsG) 100000 200 3 [.v (.int .i64 w)] [(46, .int .i64 6), (80, .int .i64 9)] = some (.v (.bool true), true, [clA w 6, clH w 9]) := by kernel_rfl
set_option maxRecDepth 100000 in
theorem ge7_9 (w : Int) : evalZ Tryz.prog (primOf primsG) 100000 200 3 [.v (.int .i64 w)] [(46, .int .i64 7), (80, .int .i64 9)] = some (.v (.bool true), true, [clA w 7, clH w 9]) := by kernel_rfl
set_option maxRecDepth 100000 in
theorem ge8_9 (w : Int) : evalZ Tryz.prog (primOf primsG) 100000 200 3 [.v (.int .i64 w)] [(46, .int .i64 8), (80, .int .i64 9)] = some (.v (.bool true), true, [clA w 8, clH w 9]) := by kernel_rfl
set_option maxRecDepth 100000 in
theorem ge9_9 (w : Int) : evalZ Tryz.prog (primOf primsG) 100000 200 3 [.v (.int .i64 w)] [(46, .int .i64 9), (80, .int .i64 9)] = some (.v (.bool true), true, [clA w 9, clH w 9]) := by kernel_rfl
set_option maxRecDepth 100000 in
theorem ge10_9 (w : Int) : evalZ Tryz.prog (primOf primsG) 100000 200 3 [.v (.int .i64 w)] [(46, .int .i64 10), (80, .int .i64 9)] = some (.v (.bool true), true, [clA w 10, clH w 9]) := by kernel_rfl
set_option maxRecDepth 100000 in
theorem ge11_9 (w : Int) : evalZ Tryz.prog (primOf primsG) 100000 200 3 [.v (.int .i64 w)] [(46, .int .i64 11), (80, .int .i64 9)] = some (.v (.bool true), true, [clA w 11, clH w 9]) := by kernel_rfl
set_option maxRecDepth 100000 in
theorem ge12_9 (w : Int) : evalZ Tryz.prog (primOf primsG) 100000 200 3 [.v (.int .i64 w)] [(46, .int .i64 12), (80, .int .i64 9)] = some (.v (.bool true), true, [clA w 12, clH w 9]) := by kernel_rfl
end Go.Proofs.YtkdpiembjjefaaaGreatDoor.Ab
