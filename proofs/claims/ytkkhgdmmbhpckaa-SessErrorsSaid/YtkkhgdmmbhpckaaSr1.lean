/-
  entail/entaillaw15.SessErrors: rows 0 to 4, reckoned by the kernel.
-/
import Derived.Test.YtkkhgdmmbhpckaaSw
namespace Go.Proofs.Ytkkhgdmmbhpckaa.Ab
open Go.RowKit
set_option maxRecDepth 100000 in
theorem row0 (w : Int) : evalZ Try.prog (primOf prims1) 100000 200 10 [.v (.int .i64 w)] [(70, .int .i64 0)] = some (.v (.bool true), true, [(.rem, 3, low w, .int .i64 25, .int .i64 0)]) := by kernel_rfl
set_option maxRecDepth 100000 in
theorem row1 (w : Int) : evalZ Try.prog (primOf prims1) 100000 200 10 [.v (.int .i64 w)] [(70, .int .i64 1)] = some (.v (.bool true), true, [(.rem, 3, low w, .int .i64 25, .int .i64 1)]) := by kernel_rfl
set_option maxRecDepth 100000 in
theorem row2 (w : Int) : evalZ Try.prog (primOf prims1) 100000 200 10 [.v (.int .i64 w)] [(70, .int .i64 2)] = some (.v (.bool true), true, [(.rem, 3, low w, .int .i64 25, .int .i64 2)]) := by kernel_rfl
set_option maxRecDepth 100000 in
theorem row3 (w : Int) : evalZ Try.prog (primOf prims1) 100000 200 10 [.v (.int .i64 w)] [(70, .int .i64 3)] = some (.v (.bool true), true, [(.rem, 3, low w, .int .i64 25, .int .i64 3)]) := by kernel_rfl
set_option maxRecDepth 100000 in
theorem row4 (w : Int) : evalZ Try.prog (primOf prims1) 100000 200 10 [.v (.int .i64 w)] [(70, .int .i64 4)] = some (.v (.bool true), true, [(.rem, 3, low w, .int .i64 25, .int .i64 4)]) := by kernel_rfl
end Go.Proofs.Ytkkhgdmmbhpckaa.Ab
