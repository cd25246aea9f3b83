/-
  entail/entaillaw15.SessErrors: rows 10 to 14, reckoned by the kernel.
-/
import Derived.Test.YtkkhgdmmbhpckaaSw
namespace Go.Proofs.Ytkkhgdmmbhpckaa.Ab
open Go.RowKit
set_option maxRecDepth 100000 in
theorem row10 (w : Int) : evalZ Try.prog (primOf prims1) 100000 200 10 [.v (.int .i64 w)] [(70, .int .i64 10)] = some (.v (.bool true), true, [(.rem, 3, low w, .int .i64 25, .int .i64 10)]) := by kernel_rfl
set_option maxRecDepth 100000 in
theorem row11 (w : Int) : evalZ Try.prog (primOf prims1) 100000 200 10 [.v (.int .i64 w)] [(70, .int .i64 11)] = some (.v (.bool true), true, [(.rem, 3, low w, .int .i64 25, .int .i64 11)]) := by kernel_rfl
set_option maxRecDepth 100000 in
theorem row12 (w : Int) : evalZ Try.prog (primOf prims1) 100000 200 10 [.v (.int .i64 w)] [(70, .int .i64 12)] = some (.v (.bool true), true, [(.rem, 3, low w, .int .i64 25, .int .i64 12)]) := by kernel_rfl
set_option maxRecDepth 100000 in
theorem row13 (w : Int) : evalZ Try.prog (primOf prims1) 100000 200 10 [.v (.int .i64 w)] [(70, .int .i64 13)] = some (.v (.bool true), true, [(.rem, 3, low w, .int .i64 25, .int .i64 13)]) := by kernel_rfl
set_option maxRecDepth 100000 in
theorem row14 (w : Int) : evalZ Try.prog (primOf prims1) 100000 200 10 [.v (.int .i64 w)] [(70, .int .i64 14)] = some (.v (.bool true), true, [(.rem, 3, low w, .int .i64 25, .int .i64 14)]) := by kernel_rfl
end Go.Proofs.Ytkkhgdmmbhpckaa.Ab
