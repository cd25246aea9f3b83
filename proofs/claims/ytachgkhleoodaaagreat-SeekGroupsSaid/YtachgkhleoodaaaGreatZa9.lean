/-
 entaillaw9.awake: joined.
-/
import Derived.Test.YtachgkhleoodaaaGreatA9a
import Derived.Test.YtachgkhleoodaaaGreatA9b
import Derived.Test.YtachgkhleoodaaaGreatA9c
import Derived.Test.YtachgkhleoodaaaGreatA9d
namespace Go.Proofs.YtachgkhleoodaaaGreat.Ab
open Go.RowKit
theorem awake9 : PureOK Tryz.prog 7 [] (.v (.bool true)) true := by
 refine pure_run (tab := tab) tab_ok fol Tryz.func7 rfl (by kernel_rfl) (by kernel_rfl) (by simp [Tryz.f7]) ?_
 simp -implicitDefEqProofs only [go_sem, Nat.reduceAdd]
 refine onCall_pure (by simp -implicitDefEqProofs only [go_sem] <;> rfl) types9 (.inr rfl) ?_
 simp -implicitDefEqProofs only [go_sem, Bool.and_self, beq_self_eq_true, Nat.reduceLT, Nat.reduceAdd, Nat.reduceLeDiff, ↓reduceIte]
 refine onCall_pure (by simp -implicitDefEqProofs only [go_sem, ↓reduceIte] <;> rfl) rows9 (.inr rfl) ?_
 simp -implicitDefEqProofs only [go_sem, Bool.and_self, Nat.reduceEqDiff, Nat.reduceAdd, Nat.reduceLeDiff, ↓reduceIte]
 refine onCall_pure (by simp -implicitDefEqProofs only [go_sem] <;> rfl) chk1 (.inr rfl) ?_
 simp -implicitDefEqProofs only [go_sem, Bool.and_self, Nat.reduceEqDiff, Nat.reduceAdd, Nat.reduceLeDiff, ↓reduceIte]
 refine onCall_pure (by simp -implicitDefEqProofs only [go_sem] <;> rfl) chk2 (.inr rfl) ?_
 simp -implicitDefEqProofs only [go_sem, Bool.and_self, Nat.reduceEqDiff, Nat.reduceAdd, Nat.reduceLeDiff, ↓reduceIte]
 refine onCall_pure (by simp -implicitDefEqProofs only [go_sem] <;> rfl) chk3 (.inr rfl) ?_
 simp -implicitDefEqProofs only [go_sem, Bool.and_self, Nat.reduceEqDiff, Nat.reduceAdd, Nat.reduceLeDiff, ↓reduceIte]
 refine onCall_pure (by simp -implicitDefEqProofs only [go_sem] <;> rfl) all9 (.inr rfl) ?_
 simp -implicitDefEqProofs only [go_sem, Bool.and_self, beq_self_eq_true, Nat.reduceEqDiff, Nat.reduceAdd, ↓reduceIte]
 exact end_pure (by simp -implicitDefEqProofs only [go_sem, ↓reduceIte, Tryz.f7] <;> rfl) rfl (by simp [len9]) (fun _ => rfl)
end Go.Proofs.YtachgkhleoodaaaGreat.Ab
