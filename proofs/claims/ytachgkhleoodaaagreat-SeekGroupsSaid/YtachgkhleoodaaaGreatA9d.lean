/-
 entaillaw9.awake: all that is so of one, reckoned by the kernel.
-/
import Derived.Test.YtachgkhleoodaaaGreatA9t
namespace Go.Proofs.YtachgkhleoodaaaGreat.Ab
open Go.RowKit
def A9 : List (List D) := [[.v (.string { data := #[100] }), .v (.string { data := #[120] }), .v (.string { data := #[99, 97, 110] })], [.v (.string { data := #[100] }), .v (.string { data := #[120] }), .v (.string { data := #[118] })], [.v (.string { data := #[103] }), .v (.string { data := #[49] }), .v (.string { data := #[109] })], [.v (.string { data := #[103] }), .v (.string { data := #[50] }), .v (.string { data := #[109] })]]
set_option maxRecDepth 100000 in
theorem all9 : PureOK Tryz.prog 13 [.sl L9, .sl R9, .ag [(.v (.string { data := #[117] })), (.v (.string { data := #[97] })), (.v (.string { data := #[] }))]] (.tu [.sl A9, .v (.int .i64 0)]) true := eval_ok (N := 100000) (n := 200) fol (primOf_ok _ prims0_each) (by kernel_rfl)
set_option maxRecDepth 100000 in
theorem len9 : A9.length = 4 := rfl
end Go.Proofs.YtachgkhleoodaaaGreat.Ab
