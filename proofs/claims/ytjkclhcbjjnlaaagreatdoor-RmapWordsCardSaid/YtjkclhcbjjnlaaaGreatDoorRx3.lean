/-
  RmapWords: some rows, reckoned by the kernel.
-/
import Derived.Test.YtjkclhcbjjnlaaaGreatDoorRxw
namespace Go.Proofs.YtjkclhcbjjnlaaaGreatDoor.Ab
open Go.RowKit
set_option maxRecDepth 100000 in
theorem rw_4 (w : Int) : evalZ Tryz.prog (primOf primsW) 1000000 400 3 [.v (.int .i64 w)] [(33, .int .i64 4)] = some (.v (.bool true), true, [(.rem, 3, low8 w, .int .i64 9, .int .i64 4)]) := by kernel_rfl
set_option maxRecDepth 100000 in
theorem rw_6 (w : Int) : evalZ Tryz.prog (primOf primsW) 1000000 400 3 [.v (.int .i64 w)] [(33, .int .i64 6)] = some (.v (.bool true), true, [(.rem, 3, low8 w, .int .i64 9, .int .i64 6)]) := by kernel_rfl
end Go.Proofs.YtjkclhcbjjnlaaaGreatDoor.Ab
