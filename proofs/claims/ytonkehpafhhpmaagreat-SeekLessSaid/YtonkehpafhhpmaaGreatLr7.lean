/-
  SeekLess: some rows, reckoned by the kernel.
-/
import Derived.Test.YtonkehpafhhpmaaGreatLw
namespace Go.Proofs.YtonkehpafhhpmaaGreat.Ab
open Go.RowKit
set_option maxRecDepth 100000 in
theorem sl24 (w : Int) : evalZ Tryz.prog (primOf primsL) 100000 200 3 [.v (.int .i64 w)] [(18, .int .i64 0), (28, .int .i64 0), (36, .int .i64 0), (52, .int .i64 1), (52, .int .i64 1), (52, .int .i64 0), (70, .int .i64 0), (102, .int .i64 0), (70, .int .i64 0), (102, .int .i64 0), (70, .int .i64 0), (102, .int .i64 0), (70, .int .i64 0), (102, .int .i64 0)] = some (.v (.bool true), true, [cAnd w 1 0, cAnd w 2 0, cAnd w 4 0, cShr w 3 1, cShr w 4 1, cShr w 5 0, cAnd w 1 0, cAnd w 4 0, cAnd w 1 0, cAnd w 4 0, cAnd w 1 0, cAnd w 4 0, cAnd w 1 0, cAnd w 4 0]) := by kernel_rfl
set_option maxRecDepth 100000 in
theorem sl25 (w : Int) : evalZ Tryz.prog (primOf primsL) 100000 200 3 [.v (.int .i64 w)] [(18, .int .i64 1), (28, .int .i64 0), (36, .int .i64 0), (52, .int .i64 1), (52, .int .i64 1), (52, .int .i64 0), (70, .int .i64 1), (102, .int .i64 0), (70, .int .i64 1), (102, .int .i64 0), (70, .int .i64 1), (102, .int .i64 0), (70, .int .i64 1), (102, .int .i64 0)] = some (.v (.bool true), true, [cAnd w 1 1, cAnd w 2 0, cAnd w 4 0, cShr w 3 1, cShr w 4 1, cShr w 5 0, cAnd w 1 1, cAnd w 4 0, cAnd w 1 1, cAnd w 4 0, cAnd w 1 1, cAnd w 4 0, cAnd w 1 1, cAnd w 4 0]) := by kernel_rfl
set_option maxRecDepth 100000 in
theorem sl26 (w : Int) : evalZ Tryz.prog (primOf primsL) 100000 200 3 [.v (.int .i64 w)] [(18, .int .i64 0), (28, .int .i64 2), (36, .int .i64 0), (52, .int .i64 1), (52, .int .i64 1), (52, .int .i64 0), (70, .int .i64 0), (102, .int .i64 0), (70, .int .i64 0), (102, .int .i64 0), (70, .int .i64 0), (102, .int .i64 0), (70, .int .i64 0), (102, .int .i64 0)] = some (.v (.bool true), true, [cAnd w 1 0, cAnd w 2 2, cAnd w 4 0, cShr w 3 1, cShr w 4 1, cShr w 5 0, cAnd w 1 0, cAnd w 4 0, cAnd w 1 0, cAnd w 4 0, cAnd w 1 0, cAnd w 4 0, cAnd w 1 0, cAnd w 4 0]) := by kernel_rfl
set_option maxRecDepth 100000 in
theorem sl27 (w : Int) : evalZ Tryz.prog (primOf primsL) 100000 200 3 [.v (.int .i64 w)] [(18, .int .i64 1), (28, .int .i64 2), (36, .int .i64 0), (52, .int .i64 1), (52, .int .i64 1), (52, .int .i64 0), (70, .int .i64 1), (102, .int .i64 0), (70, .int .i64 1), (102, .int .i64 0), (70, .int .i64 1), (102, .int .i64 0), (70, .int .i64 1), (102, .int .i64 0)] = some (.v (.bool true), true, [cAnd w 1 1, cAnd w 2 2, cAnd w 4 0, cShr w 3 1, cShr w 4 1, cShr w 5 0, cAnd w 1 1, cAnd w 4 0, cAnd w 1 1, cAnd w 4 0, cAnd w 1 1, cAnd w 4 0, cAnd w 1 1, cAnd w 4 0]) := by kernel_rfl
end Go.Proofs.YtonkehpafhhpmaaGreat.Ab
