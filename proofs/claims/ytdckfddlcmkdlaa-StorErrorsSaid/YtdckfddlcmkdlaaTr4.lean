/-
  StorErrors: cases 24 to 31, reckoned by the kernel.
-/
import Derived.Test.YtdckfddlcmkdlaaTw
namespace Go.Proofs.Ytdckfddlcmkdlaa.Ab
open Go.RowKit
set_option maxRecDepth 100000 in
theorem st24 (w : Int) : evalZ Try.prog (primOf prims4) 100000 200 10 [.v (.int .i64 w)] [(22, .bool true), (34, .bool true), (43, .bool false), (52, .bool false), (59, .bool false)] = some (.v (.bool true), true, [clB w 16 true, clB w 8 true, clB w 4 false, clB w 2 false, clB w 1 false]) := by kernel_rfl
set_option maxRecDepth 100000 in
theorem st25 (w : Int) : evalZ Try.prog (primOf prims4) 100000 200 10 [.v (.int .i64 w)] [(22, .bool true), (34, .bool true), (43, .bool false), (52, .bool false), (59, .bool true)] = some (.v (.bool true), true, [clB w 16 true, clB w 8 true, clB w 4 false, clB w 2 false, clB w 1 true]) := by kernel_rfl
set_option maxRecDepth 100000 in
theorem st26 (w : Int) : evalZ Try.prog (primOf prims4) 100000 200 10 [.v (.int .i64 w)] [(22, .bool true), (34, .bool true), (43, .bool false), (52, .bool true), (59, .bool false)] = some (.v (.bool true), true, [clB w 16 true, clB w 8 true, clB w 4 false, clB w 2 true, clB w 1 false]) := by kernel_rfl
set_option maxRecDepth 100000 in
theorem st27 (w : Int) : evalZ Try.prog (primOf prims4) 100000 200 10 [.v (.int .i64 w)] [(22, .bool true), (34, .bool true), (43, .bool false), (52, .bool true), (59, .bool true)] = some (.v (.bool true), true, [clB w 16 true, clB w 8 true, clB w 4 false, clB w 2 true, clB w 1 true]) := by kernel_rfl
set_option maxRecDepth 100000 in
theorem st28 (w : Int) : evalZ Try.prog (primOf prims4) 100000 200 10 [.v (.int .i64 w)] [(22, .bool true), (34, .bool true), (43, .bool true), (52, .bool false), (59, .bool false)] = some (.v (.bool true), true, [clB w 16 true, clB w 8 true, clB w 4 true, clB w 2 false, clB w 1 false]) := by kernel_rfl
set_option maxRecDepth 100000 in
theorem st29 (w : Int) : evalZ Try.prog (primOf prims4) 100000 200 10 [.v (.int .i64 w)] [(22, .bool true), (34, .bool true), (43, .bool true), (52, .bool false), (59, .bool true)] = some (.v (.bool true), true, [clB w 16 true, clB w 8 true, clB w 4 true, clB w 2 false, clB w 1 true]) := by kernel_rfl
set_option maxRecDepth 100000 in
theorem st30 (w : Int) : evalZ Try.prog (primOf prims4) 100000 200 10 [.v (.int .i64 w)] [(22, .bool true), (34, .bool true), (43, .bool true), (52, .bool true), (59, .bool false)] = some (.v (.bool true), true, [clB w 16 true, clB w 8 true, clB w 4 true, clB w 2 true, clB w 1 false]) := by kernel_rfl
set_option maxRecDepth 100000 in
theorem st31 (w : Int) : evalZ Try.prog (primOf prims4) 100000 200 10 [.v (.int .i64 w)] [(22, .bool true), (34, .bool true), (43, .bool true), (52, .bool true), (59, .bool true)] = some (.v (.bool true), true, [clB w 16 true, clB w 8 true, clB w 4 true, clB w 2 true, clB w 1 true]) := by kernel_rfl
end Go.Proofs.Ytdckfddlcmkdlaa.Ab
