/-
  FindErrors: some rows, reckoned by the kernel.
-/
import Derived.Test.YtonkehpafhhpmaaGreatFw
namespace Go.Proofs.YtonkehpafhhpmaaGreat.Ab
open Go.RowKit
set_option maxRecDepth 100000 in
theorem fe8 (w : Int) : evalZ Tryz.prog (primOf primsF) 100000 200 4 [.v (.int .i64 w)] [(20, .bool true), (23, .bool false), (27, .bool false), (32, .bool false)] = some (.v (.bool true), true, [clB w 8 true, clB w 4 false, clB w 2 false, clB w 1 false]) := by kernel_rfl
set_option maxRecDepth 100000 in
theorem fe9_0 (w : Int) : evalZ Tryz.prog (primOf primsF) 100000 200 4 [.v (.int .i64 w)] [(20, .bool true), (23, .bool false), (27, .bool false), (32, .bool true), (37, .int .i64 0)] = some (.v (.bool true), true, [clB w 8 true, clB w 4 false, clB w 2 false, clB w 1 true, (.rem, 3, high w, .int .i64 3, .int .i64 0)]) := by kernel_rfl
set_option maxRecDepth 100000 in
theorem fe9_1 (w : Int) : evalZ Tryz.prog (primOf primsF) 100000 200 4 [.v (.int .i64 w)] [(20, .bool true), (23, .bool false), (27, .bool false), (32, .bool true), (37, .int .i64 1)] = some (.v (.bool true), true, [clB w 8 true, clB w 4 false, clB w 2 false, clB w 1 true, (.rem, 3, high w, .int .i64 3, .int .i64 1)]) := by kernel_rfl
set_option maxRecDepth 100000 in
theorem fe9_2 (w : Int) : evalZ Tryz.prog (primOf primsF) 100000 200 4 [.v (.int .i64 w)] [(20, .bool true), (23, .bool false), (27, .bool false), (32, .bool true), (37, .int .i64 2)] = some (.v (.bool true), true, [clB w 8 true, clB w 4 false, clB w 2 false, clB w 1 true, (.rem, 3, high w, .int .i64 3, .int .i64 2)]) := by kernel_rfl
set_option maxRecDepth 100000 in
theorem fe10 (w : Int) : evalZ Tryz.prog (primOf primsF) 100000 200 4 [.v (.int .i64 w)] [(20, .bool true), (23, .bool false), (27, .bool true), (32, .bool false)] = some (.v (.bool true), true, [clB w 8 true, clB w 4 false, clB w 2 true, clB w 1 false]) := by kernel_rfl
set_option maxRecDepth 100000 in
theorem fe11_0 (w : Int) : evalZ Tryz.prog (primOf primsF) 100000 200 4 [.v (.int .i64 w)] [(20, .bool true), (23, .bool false), (27, .bool true), (32, .bool true), (37, .int .i64 0)] = some (.v (.bool true), true, [clB w 8 true, clB w 4 false, clB w 2 true, clB w 1 true, (.rem, 3, high w, .int .i64 3, .int .i64 0)]) := by kernel_rfl
set_option maxRecDepth 100000 in
theorem fe11_1 (w : Int) : evalZ Tryz.prog (primOf primsF) 100000 200 4 [.v (.int .i64 w)] [(20, .bool true), (23, .bool false), (27, .bool true), (32, .bool true), (37, .int .i64 1)] = some (.v (.bool true), true, [clB w 8 true, clB w 4 false, clB w 2 true, clB w 1 true, (.rem, 3, high w, .int .i64 3, .int .i64 1)]) := by kernel_rfl
set_option maxRecDepth 100000 in
theorem fe11_2 (w : Int) : evalZ Tryz.prog (primOf primsF) 100000 200 4 [.v (.int .i64 w)] [(20, .bool true), (23, .bool false), (27, .bool true), (32, .bool true), (37, .int .i64 2)] = some (.v (.bool true), true, [clB w 8 true, clB w 4 false, clB w 2 true, clB w 1 true, (.rem, 3, high w, .int .i64 3, .int .i64 2)]) := by kernel_rfl
end Go.Proofs.YtonkehpafhhpmaaGreat.Ab
