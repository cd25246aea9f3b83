/-
  StorErrors: cases 0 to 7, reckoned by the kernel.
-/
import Derived.Test.YtdckfddlcmkdlaaTw
namespace Go.Proofs.Ytdckfddlcmkdlaa.Ab
open Go.RowKit
set_option maxRecDepth 100000 in
theorem st0 (w : Int) : evalZ Try.prog (primOf prims4) 100000 200 10 [.v (.int .i64 w)] [(22, .bool false), (34, .bool false), (43, .bool false), (52, .bool false), (59, .bool false)] = some (.v (.bool true), true, [clB w 16 false, clB w 8 false, clB w 4 false, clB w 2 false, clB w 1 false]) := by kernel_rfl
set_option maxRecDepth 100000 in
theorem st1 (w : Int) : evalZ Try.prog (primOf prims4) 100000 200 10 [.v (.int .i64 w)] [(22, .bool false), (34, .bool false), (43, .bool false), (52, .bool false), (59, .bool true)] = some (.v (.bool true), true, [clB w 16 false, clB w 8 false, clB w 4 false, clB w 2 false, clB w 1 true]) := by kernel_rfl
set_option maxRecDepth 100000 in
theorem st2 (w : Int) : evalZ Try.prog (primOf prims4) 100000 200 10 [.v (.int .i64 w)] [(22, .bool false), (34, .bool false), (43, .bool false), (52, .bool true), (59, .bool false)] = some (.v (.bool true), true, [clB w 16 false, clB w 8 false, clB w 4 false, clB w 2 true, clB w 1 false]) := by kernel_rfl
set_option maxRecDepth 100000 in
theorem st3 (w : Int) : evalZ Try.prog (primOf prims4) 100000 200 10 [.v (.int .i64 w)] [(22, .bool false), (34, .bool false), (43, .bool false), (52, .bool true), (59, .bool true)] = some (.v (.bool true), true, [clB w 16 false, clB w 8 false, clB w 4 false, clB w 2 true, clB w 1 true]) := by kernel_rfl
set_option maxRecDepth 100000 in
theorem st4 (w : Int) : evalZ Try.prog (primOf prims4) 100000 200 10 [.v (.int .i64 w)] [(22, .bool false), (34, .bool false), (43, .bool true), (52, .bool false), (59, .bool false)] = some (.v (.bool true), true, [clB w 16 false, clB w 8 false, clB w 4 true, clB w 2 false, clB w 1 false]) := by kernel_rfl
set_option maxRecDepth 100000 in
theorem st5 (w : Int) : evalZ Try.prog (primOf prims4) 100000 200 10 [.v (.int .i64 w)] [(22, .bool false), (34, .bool false), (43, .bool true), (52, .bool false), (59, .bool true)] = some (.v (.bool true), true, [clB w 16 false, clB w 8 false, clB w 4 true, clB w 2 false, clB w 1 true]) := by kernel_rfl
set_option maxRecDepth 100000 in
theorem st6 (w : Int) : evalZ Try.prog (primOf prims4) 100000 200 10 [.v (.int .i64 w)] [(22, .bool false), (34, .bool false), (43, .bool true), (52, .bool true), (59, .bool false)] = some (.v (.bool true), true, [clB w 16 false, clB w 8 false, clB w 4 true, clB w 2 true, clB w 1 false]) := by kernel_rfl
set_option maxRecDepth 100000 in
theorem st7 (w : Int) : evalZ Try.prog (primOf prims4) 100000 200 10 [.v (.int .i64 w)] [(22, .bool false), (34, .bool false), (43, .bool true), (52, .bool true), (59, .bool true)] = some (.v (.bool true), true, [clB w 16 false, clB w 8 false, clB w 4 true, clB w 2 true, clB w 1 true]) := by kernel_rfl
end Go.Proofs.Ytdckfddlcmkdlaa.Ab
