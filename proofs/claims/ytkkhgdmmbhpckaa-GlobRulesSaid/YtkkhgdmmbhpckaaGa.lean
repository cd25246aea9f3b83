/-
  Texts that begin and end with others; lists of texts; what a policy of statements is, as data.
-/
import Derived.Test.YtkkhgdmmbhpckaaTab
import Derived.Test.YtkkhgdmmbhpckaaAbI
namespace Go.Proofs.Ytkkhgdmmbhpckaa.Ab
open Go.RowKit

theorem contains_ok (xs : List ByteArray) (v : ByteArray) (hx : xs.length < 4611686018427387904) : PureOK Try.prog 40 [.sl (xs.map fun x => [D.v (.string x)]), .v (.string v)] (.v (.bool (xs.any (eqS v)))) true := by
  rw [← idxB_any (eqS v) xs 0]
  exact ctn_ok tab_ok fol (T := 23) (E := 9) (I := 3) (B := 0) (V := 4) Try.func40 rfl (by kernel_rfl) (by kernel_rfl) (by decide) rfl
    (idx_ok tab_ok fol (T := 23) (E := 9) (I := 3) (B := 0) (V := 4) Try.func67 rfl (by kernel_rfl) (by kernel_rfl) (by decide) rfl ⟨by simp only [go_sem], by simp only [go_sem], by simp only [go_sem], by simp only [go_sem], .inr ⟨by simp only [go_sem], rfl⟩⟩ (by simp only [go_sem]) xs v hx)
/-- Does a text begin, end, with another one? -/
def preB (s p : ByteArray) : Bool := decide (p.size ≤ s.size) && ((s.extract 0 p.size).toList == p.toList)
def sufB (s p : ByteArray) : Bool := decide (p.size ≤ s.size) && ((s.extract (s.size - p.size) s.size).toList == p.toList)
theorem hasPrefix1 (s p : ByteArray) : PureOK Try.prog 72 [.v (.string s), .v (.string p)] (.v (.bool (preB s p))) true := by
  refine pure_run (tab := tab) tab_ok fol Try.func72 rfl (by kernel_rfl) (by kernel_rfl) (by simp [Try.f72]) ?_
  simp -implicitDefEqProofs only [go_sem, Nat.reduceEqDiff, Nat.reduceAdd, reduceCtorEq, ↓reduceIte]
  refine Rt_gS (by rfl) (by rfl) (fun h => ?_) (fun h => ?_)
  · have hp : p.size ≤ s.size := by simp at h; omega
    simp -implicitDefEqProofs only [go_sem, Nat.reduceEqDiff, Nat.reduceAdd, reduceCtorEq, ↓reduceIte, h, bounds, hp, Nat.zero_le]
    exact end_pure (by simp -implicitDefEqProofs only [go_sem, ↓reduceIte, Try.f72] <;> rfl) rfl (by simp [preB, hp]) (fun _ => rfl)
  · have hp : ¬ p.size ≤ s.size := by simp at h; omega
    simp -implicitDefEqProofs only [go_sem, Nat.reduceEqDiff, Nat.reduceAdd, ↓reduceIte, h]
    exact end_pure (by simp -implicitDefEqProofs only [go_sem, ↓reduceIte, Try.f72] <;> rfl) rfl (by simp [preB, hp]) (fun _ => rfl)
theorem wrap_sub {a b : Nat} (h : b ≤ a) (ha : a < 4611686018427387904) : IntKind.i64.wrap ((a : Int) - (b : Int)) = ((a - b : Nat) : Int) := by rw [IntWalk.i64_in _ (by omega)]; omega
theorem hasSuffix1 (s p : ByteArray) (hs : s.size < 4611686018427387904) : PureOK Try.prog 94 [.v (.string s), .v (.string p)] (.v (.bool (sufB s p))) true := by
  refine pure_run (tab := tab) tab_ok fol Try.func94 rfl (by kernel_rfl) (by kernel_rfl) (by simp [Try.f94]) ?_
  simp -implicitDefEqProofs only [go_sem, Nat.reduceEqDiff, Nat.reduceAdd, reduceCtorEq, ↓reduceIte]
  refine Rt_gS (by rfl) (by rfl) (fun h => ?_) (fun h => ?_)
  · have hp : p.size ≤ s.size := by simp at h; omega
    have w1 := wrap_sub hp hs
    have h2 : s.size - p.size ≤ s.size := Nat.sub_le _ _
    simp -implicitDefEqProofs only [go_sem, Nat.reduceEqDiff, Nat.reduceAdd, reduceCtorEq, ↓reduceIte, h, w1, bounds, h2, Nat.le_refl]
    exact end_pure (by simp -implicitDefEqProofs only [go_sem, ↓reduceIte, Try.f94] <;> rfl) rfl (by simp [sufB, hp]) (fun _ => rfl)
  · have hp : ¬ p.size ≤ s.size := by simp at h; omega
    simp -implicitDefEqProofs only [go_sem, Nat.reduceEqDiff, Nat.reduceAdd, ↓reduceIte, h]
    exact end_pure (by simp -implicitDefEqProofs only [go_sem, ↓reduceIte, Try.f94] <;> rfl) rfl (by simp [sufB, hp]) (fun _ => rfl)
theorem sufB_le {s p : ByteArray} (h : sufB s p = true) : p.size ≤ s.size := by simp [sufB] at h; exact h.1
/-- A text without its end. -/
def cutE (s p : ByteArray) : ByteArray := if sufB s p then s.extract 0 (s.size - p.size) else s
theorem cutSuffix1 (s p : ByteArray) (hs : s.size < 4611686018427387904) : PureOK Try.prog 71 [.v (.string s), .v (.string p)] (.tu [.v (.string (cutE s p)), .v (.bool (sufB s p))]) true := by
  refine pure_run (tab := tab) tab_ok fol Try.func71 rfl (by kernel_rfl) (by kernel_rfl) (by simp [Try.f71]) ?_
  simp -implicitDefEqProofs only [go_sem, Nat.reduceEqDiff, Nat.reduceAdd, reduceCtorEq, ↓reduceIte]
  refine onCall_pure (by simp -implicitDefEqProofs only [go_sem] <;> rfl) (hasSuffix1 s p hs) (.inr rfl) ?_
  simp -implicitDefEqProofs only [go_sem, Bool.and_self, Nat.reduceAdd, ↓reduceIte]
  cases h : sufB s p with
  | false =>
    simp -implicitDefEqProofs only [go_sem, Nat.reduceAdd, reduceCtorEq, ↓reduceIte]
    exact end_pure (by simp -implicitDefEqProofs only [go_sem, Nat.reduceEqDiff, ↓reduceIte, Try.f71] <;> rfl) rfl (by simp [cutE, h]) (fun _ => rfl)
  | true =>
    have hp := sufB_le h
    have w1 := wrap_sub hp hs
    have h2 : s.size - p.size ≤ s.size := Nat.sub_le _ _
    simp -implicitDefEqProofs only [go_sem, Nat.reduceEqDiff, Nat.reduceAdd, reduceCtorEq, ↓reduceIte, w1, bounds, h2, Nat.zero_le]
    exact end_pure (by simp -implicitDefEqProofs only [go_sem, Nat.reduceEqDiff, ↓reduceIte, Try.f71] <;> rfl) rfl (by simp [cutE, h]) (fun _ => rfl)
theorem cutSuffix (s p : ByteArray) (hs : s.size < 4611686018427387904) : PureOK Try.prog 46 [.v (.string s), .v (.string p)] (.tu [.v (.string (cutE s p)), .v (.bool (sufB s p))]) true := by
  refine pure_run (tab := tab) tab_ok fol Try.func46 rfl (by kernel_rfl) (by kernel_rfl) (by simp [Try.f46]) ?_
  repeat' (first
    | simp -implicitDefEqProofs only [go_sem, Bool.and_self, Nat.reduceEqDiff, Nat.reduceAdd, reduceCtorEq, ↓reduceIte]
    | refine Rd_endF (by rfl) ?_
    | (refine onC_split (fun h => ?_) (fun h => ?_) <;> (try simp only [Bool.not_eq_eq_eq_not, Bool.not_true, Bool.not_false, Bool.not_eq_true, Bool.not_eq_false, decide_eq_true_eq, decide_eq_false_iff_not] at h) <;> (try simp only [h, decide_true, decide_false, not_true, not_false, not_false_eq_true]))
    | (refine Rt_gS (by rfl) (by rfl) (fun h => ?_) (fun h => ?_) <;> (try simp only [Bool.not_eq_eq_eq_not, Bool.not_true, Bool.not_false, Bool.not_eq_true, Bool.not_eq_false, decide_eq_true_eq, decide_eq_false_iff_not] at h) <;> (try simp only [h, decide_true, decide_false, not_true, not_false, not_false_eq_true]))
    | (refine Rd_gS (by rfl) (by rfl) (fun h => ?_) (fun h => ?_) <;> (try simp only [Bool.not_eq_eq_eq_not, Bool.not_true, Bool.not_false, Bool.not_eq_true, Bool.not_eq_false, decide_eq_true_eq, decide_eq_false_iff_not] at h) <;> (try simp only [h, decide_true, decide_false, not_true, not_false, not_false_eq_true]))
    | refine onCall_pure (by simp -implicitDefEqProofs only [go_sem]; rfl) (by first | with_reducible exact cutSuffix1 s p hs) (by first | exact .inr rfl | exact .inl rfl) ?_
    | refine onCallD_pure (by simp -implicitDefEqProofs only [go_sem, Int.reduceToNat, Int.reduceLT, Int.reduceLE, List.all_cons, List.all_nil, isCell, Bool.and_self, Int.reduceBEq, Int.reduceBNe, beq_self_eq_true, bne_self_eq_false, decide_true, decide_false, Nat.reduceLT, Nat.reduceBEq, Int.reduceEq, Nat.reduceEqDiff, Nat.reduceAdd, Nat.reduceSub, Nat.reduceMul, Nat.reduceLeDiff, reduceCtorEq, ↓reduceIte]; rfl) (by first | with_reducible exact cutSuffix1 s p hs) (by first | exact .inr rfl | exact .inl rfl) ?_)
  exact end_pure (by simp -implicitDefEqProofs only [go_sem, Nat.reduceEqDiff, ↓reduceIte, Try.f46] <;> rfl) rfl rfl (fun _ => rfl)
theorem hasPrefix (s p : ByteArray) : PureOK Try.prog 47 [.v (.string s), .v (.string p)] (.v (.bool (preB s p))) true := by
  refine pure_run (tab := tab) tab_ok fol Try.func47 rfl (by kernel_rfl) (by kernel_rfl) (by simp [Try.f47]) ?_
  repeat' (first
    | simp -implicitDefEqProofs only [go_sem, Bool.and_self, Nat.reduceEqDiff, Nat.reduceAdd, reduceCtorEq, ↓reduceIte]
    | refine Rd_endF (by rfl) ?_
    | (refine onC_split (fun h => ?_) (fun h => ?_) <;> (try simp only [Bool.not_eq_eq_eq_not, Bool.not_true, Bool.not_false, Bool.not_eq_true, Bool.not_eq_false, decide_eq_true_eq, decide_eq_false_iff_not] at h) <;> (try simp only [h, decide_true, decide_false, not_true, not_false, not_false_eq_true]))
    | (refine Rt_gS (by rfl) (by rfl) (fun h => ?_) (fun h => ?_) <;> (try simp only [Bool.not_eq_eq_eq_not, Bool.not_true, Bool.not_false, Bool.not_eq_true, Bool.not_eq_false, decide_eq_true_eq, decide_eq_false_iff_not] at h) <;> (try simp only [h, decide_true, decide_false, not_true, not_false, not_false_eq_true]))
    | (refine Rd_gS (by rfl) (by rfl) (fun h => ?_) (fun h => ?_) <;> (try simp only [Bool.not_eq_eq_eq_not, Bool.not_true, Bool.not_false, Bool.not_eq_true, Bool.not_eq_false, decide_eq_true_eq, decide_eq_false_iff_not] at h) <;> (try simp only [h, decide_true, decide_false, not_true, not_false, not_false_eq_true]))
    | refine onCall_pure (by simp -implicitDefEqProofs only [go_sem]; rfl) (by first | with_reducible exact hasPrefix1 s p) (by first | exact .inr rfl | exact .inl rfl) ?_
    | refine onCallD_pure (by simp -implicitDefEqProofs only [go_sem, Int.reduceToNat, Int.reduceLT, Int.reduceLE, List.all_cons, List.all_nil, isCell, Bool.and_self, Int.reduceBEq, Int.reduceBNe, beq_self_eq_true, bne_self_eq_false, decide_true, decide_false, Nat.reduceLT, Nat.reduceBEq, Int.reduceEq, Nat.reduceEqDiff, Nat.reduceAdd, Nat.reduceSub, Nat.reduceMul, Nat.reduceLeDiff, reduceCtorEq, ↓reduceIte]; rfl) (by first | with_reducible exact hasPrefix1 s p) (by first | exact .inr rfl | exact .inl rfl) ?_)
  exact end_pure (by simp -implicitDefEqProofs only [go_sem, ↓reduceIte, Try.f47] <;> rfl) rfl rfl (fun _ => rfl)
/-- A star. -/
abbrev star : ByteArray := { data := #[42] }
/-- Does a pattern match a name? -/
def matB (p n : ByteArray) : Bool := if sufB p star then preB n (cutE p star) else eqS p n
theorem match_ok (p n : ByteArray) (hp : p.size < 4611686018427387904) : PureOK Try.prog 17 [.v (.string p), .v (.string n)] (.v (.bool (matB p n))) true := by
  refine pure_run (tab := tab) tab_ok fol Try.func17 rfl (by kernel_rfl) (by kernel_rfl) (by simp [Try.f17]) ?_
  repeat' (first
    | simp -implicitDefEqProofs only [go_sem, Bool.and_self, Nat.reduceEqDiff, Nat.reduceAdd, reduceCtorEq, ↓reduceIte]
    | refine Rd_endF (by rfl) ?_
    | (refine onC_split (fun h => ?_) (fun h => ?_) <;> (try simp only [Bool.not_eq_eq_eq_not, Bool.not_true, Bool.not_false] at h) <;> (try simp only [h]))
    | (refine Rt_gS (by rfl) (by rfl) (fun h => ?_) (fun h => ?_) <;> (try simp only [Bool.not_eq_eq_eq_not, Bool.not_true, Bool.not_false, Bool.not_eq_true, Bool.not_eq_false, decide_eq_true_eq, decide_eq_false_iff_not] at h) <;> (try simp only [h, decide_true, decide_false, not_true, not_false, not_false_eq_true]))
    | (refine Rd_gS (by rfl) (by rfl) (fun h => ?_) (fun h => ?_) <;> (try simp only [Bool.not_eq_eq_eq_not, Bool.not_true, Bool.not_false, Bool.not_eq_true, Bool.not_eq_false, decide_eq_true_eq, decide_eq_false_iff_not] at h) <;> (try simp only [h, decide_true, decide_false, not_true, not_false, not_false_eq_true]))
    | refine onCall_pure (by simp -implicitDefEqProofs only [go_sem]; rfl) (by first | with_reducible exact cutSuffix p star hp | with_reducible exact hasPrefix n (cutE p star)) (by first | exact .inr rfl | exact .inl rfl) ?_
    | refine onCallD_pure (by simp -implicitDefEqProofs only [go_sem, Int.reduceToNat, Int.reduceLT, Int.reduceLE, List.all_cons, List.all_nil, isCell, Bool.and_self, Int.reduceBEq, Int.reduceBNe, beq_self_eq_true, bne_self_eq_false, decide_true, decide_false, Nat.reduceLT, Nat.reduceBEq, Int.reduceEq, Nat.reduceEqDiff, Nat.reduceAdd, Nat.reduceSub, Nat.reduceMul, Nat.reduceLeDiff, reduceCtorEq, ↓reduceIte]; rfl) (by first | with_reducible exact cutSuffix p star hp | with_reducible exact hasPrefix n (cutE p star)) (by first | exact .inr rfl | exact .inl rfl) ?_)
  all_goals exact end_pure (by simp -implicitDefEqProofs only [go_sem, ↓reduceIte, Try.f17] <;> rfl) rfl (by simp_all [matB, eqS]) (fun _ => rfl)
end Go.Proofs.Ytkkhgdmmbhpckaa.Ab
