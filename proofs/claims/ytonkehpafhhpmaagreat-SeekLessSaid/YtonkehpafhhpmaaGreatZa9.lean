/-
  entaillaw9.awake: joined.
-/
import Derived.Test.YtonkehpafhhpmaaGreatA9a
import Derived.Test.YtonkehpafhhpmaaGreatA9b
import Derived.Test.YtonkehpafhhpmaaGreatA9c
import Derived.Test.YtonkehpafhhpmaaGreatA9d
namespace Go.Proofs.YtonkehpafhhpmaaGreat.Ab
open Go.RowKit

theorem awake9 : PureOK Tryz.prog 8 [] (.v (.bool true)) true := by
  refine pure_run (tab := tab) tab_ok fol Tryz.func8 rfl (by kernel_rfl) (by kernel_rfl) (by simp [Tryz.f8]) ?_
  simp -implicitDefEqProofs only [go_sem, Nat.reduceAdd]
  refine onCall_pure (by simp -implicitDefEqProofs only [go_sem] <;> rfl) types9 (.inr rfl) ?_
  simp -implicitDefEqProofs only [go_sem, beq_self_eq_true, Nat.reduceLT, Nat.reduceAdd, Nat.reduceLeDiff, ↓reduceIte]
  refine onCall_pure (by simp -implicitDefEqProofs only [go_sem, ↓reduceIte] <;> rfl) rows9 (.inr rfl) ?_
  simp -implicitDefEqProofs only [go_sem, Nat.reduceEqDiff, Nat.reduceAdd, Nat.reduceLeDiff, ↓reduceIte]
  refine onCall_pure (by simp -implicitDefEqProofs only [go_sem] <;> rfl) chk1 (.inr rfl) ?_
  simp -implicitDefEqProofs only [go_sem, Nat.reduceEqDiff, Nat.reduceAdd, Nat.reduceLeDiff, ↓reduceIte]
  refine onCall_pure (by simp -implicitDefEqProofs only [go_sem] <;> rfl) chk2 (.inr rfl) ?_
  simp -implicitDefEqProofs only [go_sem, Nat.reduceEqDiff, Nat.reduceAdd, Nat.reduceLeDiff, ↓reduceIte]
  refine onCall_pure (by simp -implicitDefEqProofs only [go_sem] <;> rfl) chk3 (.inr rfl) ?_
  simp -implicitDefEqProofs only [go_sem, Nat.reduceEqDiff, Nat.reduceAdd, Nat.reduceLeDiff, ↓reduceIte]
  refine onCall_pure (by simp -implicitDefEqProofs only [go_sem] <;> rfl) all9 (.inr rfl) ?_
  simp -implicitDefEqProofs only [go_sem, beq_self_eq_true, Nat.reduceEqDiff, Nat.reduceAdd, ↓reduceIte]
  exact end_pure (by simp -implicitDefEqProofs only [go_sem, ↓reduceIte, Tryz.f8]; rfl) rfl (by simp [len9]) (fun _ => rfl)
end Go.Proofs.YtonkehpafhhpmaaGreat.Ab
