/-
 entaillaw9.awake: one question, reckoned by the kernel.
-/
import Derived.Test.YtnmkbmefohakmaaGreatA9t
set_option linter.all false
namespace Go.Proofs.YtnmkbmefohakmaaGreat.Ab
open Go.RowKit
set_option maxRecDepth 100000 in
theorem YT:AI Tryz.prog 13 [.sl L9,.sl R9,.ag [(.v (.string { data:= #[100] })),(.v (.string { data:= #[120] }))],(.v (.string { data:= #[99,97,110] })),.ag [(.v (.string { data:= #[117] })),(.v (.string { data:= #[98] })),(.v (.string { data:= #[] }))]] (.tu [.v (.bool false),.v (.int .i64 0)]) true:=Sd (N:=100000) (n:=200) D7 (QQ _ TC) (by kernel_rfl)
end Go.Proofs.YtnmkbmefohakmaaGreat.Ab
