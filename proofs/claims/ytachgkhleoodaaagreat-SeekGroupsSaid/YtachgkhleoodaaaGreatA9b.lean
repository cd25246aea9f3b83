/-
 entaillaw9.awake: one question, reckoned by the kernel.
-/
import Derived.Test.YtachgkhleoodaaaGreatA9t
namespace Go.Proofs.YtachgkhleoodaaaGreat.Ab
open Go.RowKit
set_option maxRecDepth 100000 in
theorem chk2 : PureOK Tryz.prog 6 [.sl L9, .sl R9, .ag [(.v (.string { data := #[100] })), (.v (.string { data := #[120] }))], (.v (.string { data := #[99, 97, 110] })), .ag [(.v (.string { data := #[117] })), (.v (.string { data := #[98] })), (.v (.string { data := #[] }))]] (.tu [.v (.bool false), .v (.int .i64 0)]) true := eval_ok (N := 100000) (n := 200) fol (primOf_ok _ prims0_each) (by kernel_rfl)
end Go.Proofs.YtachgkhleoodaaaGreat.Ab
