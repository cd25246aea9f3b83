/-
  FindErrors: some rows, reckoned by the kernel.
-/
import Derived.Test.YtonkehpafhhpmaaGreatFw
namespace Go.Proofs.YtonkehpafhhpmaaGreat.Ab
open Go.RowKit
set_option maxRecDepth 100000 in
theorem fe4 (w : Int) : evalZ Tryz.prog (primOf primsF) 100000 200 4 [.v (.int .i64 w)] [(20, .bool false), (23, .bool true), (27, .bool false), (32, .bool false)] = some (.v (.bool true), true, [clB w 8 false, clB w 4 true, clB w 2 false, clB w 1 false]) := by kernel_rfl
set_option maxRecDepth 100000 in
theorem fe5_0 (w : Int) : evalZ Tryz.prog (primOf primsF) 100000 200 4 [.v (.int .i64 w)] [(20, .bool false), (23, .bool true), (27, .bool false), (32, .bool true), (37, .int .i64 0)] = some (.v (.bool true), true, [clB w 8 false, clB w 4 true, clB w 2 false, clB w 1 true, (.rem, 3, high w, .int .i64 3, .int .i64 0)]) := by kernel_rfl
set_option maxRecDepth 100000 in
theorem fe5_1 (w : Int) : evalZ Tryz.prog (primOf primsF) 100000 200 4 [.v (.int .i64 w)] [(20, .bool false), (23, .bool true), (27, .bool false), (32, .bool true), (37, .int .i64 1)] = some (.v (.bool true), true, [clB w 8 false, clB w 4 true, clB w 2 false, clB w 1 true, (.rem, 3, high w, .int .i64 3, .int .i64 1)]) := by kernel_rfl
set_option maxRecDepth 100000 in
theorem fe5_2 (w : Int) : evalZ Tryz.prog (primOf primsF) 100000 200 4 [.v (.int .i64 w)] [(20, .bool false), (23, .bool true), (27, .bool false), (32, .bool true), (37, .int .i64 2)] = some (.v (.bool true), true, [clB w 8 false, clB w 4 true, clB w 2 false, clB w 1 true, (.rem, 3, high w, .int .i64 3, .int .i64 2)]) := by kernel_rfl
set_option maxRecDepth 100000 in
theorem fe6 (w : Int) : evalZ Tryz.prog (primOf primsF) 100000 200 4 [.v (.int .i64 w)] [(20, .bool false), (23, .bool true), (27, .bool true), (32, .bool false)] = some (.v (.bool true), true, [clB w 8 false, clB w 4 true, clB w 2 true, clB w 1 false]) := by kernel_rfl
set_option maxRecDepth 100000 in
theorem fe7_0 (w : Int) : evalZ Tryz.prog (primOf primsF) 100000 200 4 [.v (.int .i64 w)] [(20, .bool false), (23, .bool true), (27, .bool true), (32, .bool true), (37, .int .i64 0)] = some (.v (.bool true), true, [clB w 8 false, clB w 4 true, clB w 2 true, clB w 1 true, (.rem, 3, high w, .int .i64 3, .int .i64 0)]) := by kernel_rfl
set_option maxRecDepth 100000 in
theorem fe7_1 (w : Int) : evalZ Tryz.prog (primOf primsF) 100000 200 4 [.v (.int .i64 w)] [(20, .bool false), (23, .bool true), (27, .bool true), (32, .bool true), (37, .int .i64 1)] = some (.v (.bool true), true, [clB w 8 false, clB w 4 true, clB w 2 true, clB w 1 true, (.rem, 3, high w, .int .i64 3, .int .i64 1)]) := by kernel_rfl
set_option maxRecDepth 100000 in
theorem fe7_2 (w : Int) : evalZ Tryz.prog (primOf primsF) 100000 200 4 [.v (.int .i64 w)] [(20, .bool false), (23, .bool true), (27, .bool true), (32, .bool true), (37, .int .i64 2)] = some (.v (.bool true), true, [clB w 8 false, clB w 4 true, clB w 2 true, clB w 1 true, (.rem, 3, high w, .int .i64 3, .int .i64 2)]) := by kernel_rfl
end Go.Proofs.YtonkehpafhhpmaaGreat.Ab
