/-
 entaillaw9.awake: all that is so of one, reckoned by the kernel.
-/
import Derived.Test.YtnmkbmefohakmaaGreatA9t
set_option linter.all false
namespace Go.Proofs.YtnmkbmefohakmaaGreat.Ab
open Go.RowKit

def A9:List (List D):=[[.v (.string { data:= #[100] }),.v (.string { data:= #[120] }),.v (.string { data:= #[99,97,110] })],[.v (.string { data:= #[100] }),.v (.string { data:= #[120] }),.v (.string { data:= #[118] })],[.v (.string { data:= #[103] }),.v (.string { data:= #[49] }),.v (.string { data:= #[109] })],[.v (.string { data:= #[103] }),.v (.string { data:= #[50] }),.v (.string { data:= #[109] })]]
set_option maxRecDepth 100000 in
theorem YW:AI Tryz.prog 36 [.sl L9,.sl R9,.ag [(.v (.string { data:= #[117] })),(.v (.string { data:= #[97] })),(.v (.string { data:= #[] }))]] (.tu [.sl A9,.v (.int .i64 0)]) true:=Sd (N:=100000) (n:=200) D7 (QQ _ TC) (by kernel_rfl)
set_option maxRecDepth 100000 in
theorem YX:A9.length=4:=rfl
end Go.Proofs.YtnmkbmefohakmaaGreat.Ab
