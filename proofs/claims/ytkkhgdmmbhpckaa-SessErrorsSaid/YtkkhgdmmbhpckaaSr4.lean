/-
  entail/entaillaw15.SessErrors: rows 15 to 19, reckoned by the kernel.
-/
import Derived.Test.YtkkhgdmmbhpckaaSw
namespace Go.Proofs.Ytkkhgdmmbhpckaa.Ab
open Go.RowKit
set_option maxRecDepth 100000 in
theorem row15 (w : Int) : evalZ Try.prog (primOf prims1) 100000 200 10 [.v (.int .i64 w)] [(70, .int .i64 15)] = some (.v (.bool true), true, [(.rem, 3, low w, .int .i64 25, .int .i64 15)]) := by kernel_rfl
set_option maxRecDepth 100000 in
theorem row16 (w : Int) : evalZ Try.prog (primOf prims1) 100000 200 10 [.v (.int .i64 w)] [(70, .int .i64 16)] = some (.v (.bool true), true, [(.rem, 3, low w, .int .i64 25, .int .i64 16)]) := by kernel_rfl
set_option maxRecDepth 100000 in
theorem row17 (w : Int) : evalZ Try.prog (primOf prims1) 100000 200 10 [.v (.int .i64 w)] [(70, .int .i64 17)] = some (.v (.bool true), true, [(.rem, 3, low w, .int .i64 25, .int .i64 17)]) := by kernel_rfl
set_option maxRecDepth 100000 in
theorem row18 (w : Int) : evalZ Try.prog (primOf prims1) 100000 200 10 [.v (.int .i64 w)] [(70, .int .i64 18)] = some (.v (.bool true), true, [(.rem, 3, low w, .int .i64 25, .int .i64 18)]) := by kernel_rfl
set_option maxRecDepth 100000 in
theorem row19 (w : Int) : evalZ Try.prog (primOf prims1) 100000 200 10 [.v (.int .i64 w)] [(70, .int .i64 19)] = some (.v (.bool true), true, [(.rem, 3, low w, .int .i64 25, .int .i64 19)]) := by kernel_rfl
end Go.Proofs.Ytkkhgdmmbhpckaa.Ab
