/-
 entaillaw9.awake: one question, reckoned by the kernel.
-/
import Derived.Test.YtnmkbmefohakmaaGreatA9t
set_option linter.all false
namespace Go.Proofs.YtnmkbmefohakmaaGreat.Ab
open Go.RowKit
set_option maxRecDepth 100000 in
theorem YU:AI Tryz.prog 13 [.sl L9,.sl R9,.ag [(.v (.string { data:= #[100] })),(.v (.string { data:= #[120] }))],(.v (.string { data:= #[110,111] })),.ag [(.v (.string ByteArray.empty)),(.v (.string ByteArray.empty)),(.v (.string ByteArray.empty))]] (.tu [.v (.bool false),.v (.int .i64 12)]) true:=Sd (N:=100000) (n:=200) D7 (QQ _ TC) (by kernel_rfl)
end Go.Proofs.YtnmkbmefohakmaaGreat.Ab
