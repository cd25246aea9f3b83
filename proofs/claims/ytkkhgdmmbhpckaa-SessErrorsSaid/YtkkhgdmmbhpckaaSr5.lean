/-
  entail/entaillaw15.SessErrors: rows 20 to 24, reckoned by the kernel.
-/
import Derived.Test.YtkkhgdmmbhpckaaSw
namespace Go.Proofs.Ytkkhgdmmbhpckaa.Ab
open Go.RowKit
set_option maxRecDepth 100000 in
theorem row20 (w : Int) : evalZ Try.prog (primOf prims1) 100000 200 10 [.v (.int .i64 w)] [(70, .int .i64 20)] = some (.v (.bool true), true, [(.rem, 3, low w, .int .i64 25, .int .i64 20)]) := by kernel_rfl
set_option maxRecDepth 100000 in
theorem row21 (w : Int) : evalZ Try.prog (primOf prims1) 100000 200 10 [.v (.int .i64 w)] [(70, .int .i64 21)] = some (.v (.bool true), true, [(.rem, 3, low w, .int .i64 25, .int .i64 21)]) := by kernel_rfl
set_option maxRecDepth 100000 in
theorem row22 (w : Int) : evalZ Try.prog (primOf prims1) 100000 200 10 [.v (.int .i64 w)] [(70, .int .i64 22)] = some (.v (.bool true), true, [(.rem, 3, low w, .int .i64 25, .int .i64 22)]) := by kernel_rfl
set_option maxRecDepth 100000 in
theorem row23 (w : Int) : evalZ Try.prog (primOf prims1) 100000 200 10 [.v (.int .i64 w)] [(70, .int .i64 23)] = some (.v (.bool true), true, [(.rem, 3, low w, .int .i64 25, .int .i64 23)]) := by kernel_rfl
set_option maxRecDepth 100000 in
theorem row24 (w : Int) : evalZ Try.prog (primOf prims1) 100000 200 10 [.v (.int .i64 w)] [(70, .int .i64 24)] = some (.v (.bool true), true, [(.rem, 3, low w, .int .i64 25, .int .i64 24)]) := by kernel_rfl
end Go.Proofs.Ytkkhgdmmbhpckaa.Ab
