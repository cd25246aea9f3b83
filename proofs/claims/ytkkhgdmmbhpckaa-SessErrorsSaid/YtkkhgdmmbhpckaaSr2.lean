/-
  entail/entaillaw15.SessErrors: rows 5 to 9, reckoned by the kernel.
-/
import Derived.Test.YtkkhgdmmbhpckaaSw
namespace Go.Proofs.Ytkkhgdmmbhpckaa.Ab
open Go.RowKit
set_option maxRecDepth 100000 in
theorem row5 (w : Int) : evalZ Try.prog (primOf prims1) 100000 200 10 [.v (.int .i64 w)] [(70, .int .i64 5)] = some (.v (.bool true), true, [(.rem, 3, low w, .int .i64 25, .int .i64 5)]) := by kernel_rfl
set_option maxRecDepth 100000 in
theorem row6 (w : Int) : evalZ Try.prog (primOf prims1) 100000 200 10 [.v (.int .i64 w)] [(70, .int .i64 6)] = some (.v (.bool true), true, [(.rem, 3, low w, .int .i64 25, .int .i64 6)]) := by kernel_rfl
set_option maxRecDepth 100000 in
theorem row7 (w : Int) : evalZ Try.prog (primOf prims1) 100000 200 10 [.v (.int .i64 w)] [(70, .int .i64 7)] = some (.v (.bool true), true, [(.rem, 3, low w, .int .i64 25, .int .i64 7)]) := by kernel_rfl
set_option maxRecDepth 100000 in
theorem row8 (w : Int) : evalZ Try.prog (primOf prims1) 100000 200 10 [.v (.int .i64 w)] [(70, .int .i64 8)] = some (.v (.bool true), true, [(.rem, 3, low w, .int .i64 25, .int .i64 8)]) := by kernel_rfl
set_option maxRecDepth 100000 in
theorem row9 (w : Int) : evalZ Try.prog (primOf prims1) 100000 200 10 [.v (.int .i64 w)] [(70, .int .i64 9)] = some (.v (.bool true), true, [(.rem, 3, low w, .int .i64 25, .int .i64 9)]) := by kernel_rfl
end Go.Proofs.Ytkkhgdmmbhpckaa.Ab
