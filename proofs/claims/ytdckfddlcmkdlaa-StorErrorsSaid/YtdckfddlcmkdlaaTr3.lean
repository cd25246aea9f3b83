/-
  StorErrors: cases 16 to 23, reckoned by the kernel.
-/
import Derived.Test.YtdckfddlcmkdlaaTw
namespace Go.Proofs.Ytdckfddlcmkdlaa.Ab
open Go.RowKit
set_option maxRecDepth 100000 in
theorem st16 (w : Int) : evalZ Try.prog (primOf prims4) 100000 200 10 [.v (.int .i64 w)] [(22, .bool true), (34, .bool false), (43, .bool false), (52, .bool false), (59, .bool false)] = some (.v (.bool true), true, [clB w 16 true, clB w 8 false, clB w 4 false, clB w 2 false, clB w 1 false]) := by kernel_rfl
set_option maxRecDepth 100000 in
theorem st17 (w : Int) : evalZ Try.prog (primOf prims4) 100000 200 10 [.v (.int .i64 w)] [(22, .bool true), (34, .bool false), (43, .bool false), (52, .bool false), (59, .bool true)] = some (.v (.bool true), true, [clB w 16 true, clB w 8 false, clB w 4 false, clB w 2 false, clB w 1 true]) := by kernel_rfl
set_option maxRecDepth 100000 in
theorem st18 (w : Int) : evalZ Try.prog (primOf prims4) 100000 200 10 [.v (.int .i64 w)] [(22, .bool true), (34, .bool false), (43, .bool false), (52, .bool true), (59, .bool false)] = some (.v (.bool true), true, [clB w 16 true, clB w 8 false, clB w 4 false, clB w 2 true, clB w 1 false]) := by kernel_rfl
set_option maxRecDepth 100000 in
theorem st19 (w : Int) : evalZ Try.prog (primOf prims4) 100000 200 10 [.v (.int .i64 w)] [(22, .bool true), (34, .bool false), (43, .bool false), (52, .bool true), (59, .bool true)] = some (.v (.bool true), true, [clB w 16 true, clB w 8 false, clB w 4 false, clB w 2 true, clB w 1 true]) := by kernel_rfl
set_option maxRecDepth 100000 in
theorem st20 (w : Int) : evalZ Try.prog (primOf prims4) 100000 200 10 [.v (.int .i64 w)] [(22, .bool true), (34, .bool false), (43, .bool true), (52, .bool false), (59, .bool false)] = some (.v (.bool true), true, [clB w 16 true, clB w 8 false, clB w 4 true, clB w 2 false, clB w 1 false]) := by kernel_rfl
set_option maxRecDepth 100000 in
theorem st21 (w : Int) : evalZ Try.prog (primOf prims4) 100000 200 10 [.v (.int .i64 w)] [(22, .bool true), (34, .bool false), (43, .bool true), (52, .bool false), (59, .bool true)] = some (.v (.bool true), true, [clB w 16 true, clB w 8 false, clB w 4 true, clB w 2 false, clB w 1 true]) := by kernel_rfl
set_option maxRecDepth 100000 in
theorem st22 (w : Int) : evalZ Try.prog (primOf prims4) 100000 200 10 [.v (.int .i64 w)] [(22, .bool true), (34, .bool false), (43, .bool true), (52, .bool true), (59, .bool false)] = some (.v (.bool true), true, [clB w 16 true, clB w 8 false, clB w 4 true, clB w 2 true, clB w 1 false]) := by kernel_rfl
set_option maxRecDepth 100000 in
theorem st23 (w : Int) : evalZ Try.prog (primOf prims4) 100000 200 10 [.v (.int .i64 w)] [(22, .bool true), (34, .bool false), (43, .bool true), (52, .bool true), (59, .bool true)] = some (.v (.bool true), true, [clB w 16 true, clB w 8 false, clB w 4 true, clB w 2 true, clB w 1 true]) := by kernel_rfl
end Go.Proofs.Ytdckfddlcmkdlaa.Ab
