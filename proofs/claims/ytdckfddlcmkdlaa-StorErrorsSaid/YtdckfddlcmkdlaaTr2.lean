/-
  StorErrors: cases 8 to 15, reckoned by the kernel.
-/
import Derived.Test.YtdckfddlcmkdlaaTw
namespace Go.Proofs.Ytdckfddlcmkdlaa.Ab
open Go.RowKit
set_option maxRecDepth 100000 in
theorem st8 (w : Int) : evalZ Try.prog (primOf prims4) 100000 200 10 [.v (.int .i64 w)] [(22, .bool false), (34, .bool true), (43, .bool false), (52, .bool false), (59, .bool false)] = some (.v (.bool true), true, [clB w 16 false, clB w 8 true, clB w 4 false, clB w 2 false, clB w 1 false]) := by kernel_rfl
set_option maxRecDepth 100000 in
theorem st9 (w : Int) : evalZ Try.prog (primOf prims4) 100000 200 10 [.v (.int .i64 w)] [(22, .bool false), (34, .bool true), (43, .bool false), (52, .bool false), (59, .bool true)] = some (.v (.bool true), true, [clB w 16 false, clB w 8 true, clB w 4 false, clB w 2 false, clB w 1 true]) := by kernel_rfl
set_option maxRecDepth 100000 in
theorem st10 (w : Int) : evalZ Try.prog (primOf prims4) 100000 200 10 [.v (.int .i64 w)] [(22, .bool false), (34, .bool true), (43, .bool false), (52, .bool true), (59, .bool false)] = some (.v (.bool true), true, [clB w 16 false, clB w 8 true, clB w 4 false, clB w 2 true, clB w 1 false]) := by kernel_rfl
set_option maxRecDepth 100000 in
theorem st11 (w : Int) : evalZ Try.prog (primOf prims4) 100000 200 10 [.v (.int .i64 w)] [(22, .bool false), (34, .bool true), (43, .bool false), (52, .bool true), (59, .bool true)] = some (.v (.bool true), true, [clB w 16 false, clB w 8 true, clB w 4 false, clB w 2 true, clB w 1 true]) := by kernel_rfl
set_option maxRecDepth 100000 in
theorem st12 (w : Int) : evalZ Try.prog (primOf prims4) 100000 200 10 [.v (.int .i64 w)] [(22, .bool false), (34, .bool true), (43, .bool true), (52, .bool false), (59, .bool false)] = some (.v (.bool true), true, [clB w 16 false, clB w 8 true, clB w 4 true, clB w 2 false, clB w 1 false]) := by kernel_rfl
set_option maxRecDepth 100000 in
theorem st13 (w : Int) : evalZ Try.prog (primOf prims4) 100000 200 10 [.v (.int .i64 w)] [(22, .bool false), (34, .bool true), (43, .bool true), (52, .bool false), (59, .bool true)] = some (.v (.bool true), true, [clB w 16 false, clB w 8 true, clB w 4 true, clB w 2 false, clB w 1 true]) := by kernel_rfl
set_option maxRecDepth 100000 in
theorem st14 (w : Int) : evalZ Try.prog (primOf prims4) 100000 200 10 [.v (.int .i64 w)] [(22, .bool false), (34, .bool true), (43, .bool true), (52, .bool true), (59, .bool false)] = some (.v (.bool true), true, [clB w 16 false, clB w 8 true, clB w 4 true, clB w 2 true, clB w 1 false]) := by kernel_rfl
set_option maxRecDepth 100000 in
theorem st15 (w : Int) : evalZ Try.prog (primOf prims4) 100000 200 10 [.v (.int .i64 w)] [(22, .bool false), (34, .bool true), (43, .bool true), (52, .bool true), (59, .bool true)] = some (.v (.bool true), true, [clB w 16 false, clB w 8 true, clB w 4 true, clB w 2 true, clB w 1 true]) := by kernel_rfl
end Go.Proofs.Ytdckfddlcmkdlaa.Ab
