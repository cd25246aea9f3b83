/-
  Functions, read off the code.
-/
import Derived.Test.YtkkhgdmmbhpckaaGms
import Derived.Test.YtkkhgdmmbhpckaaGna
import Derived.Test.YtkkhgdmmbhpckaaOnm
namespace Go.Proofs.Ytkkhgdmmbhpckaa.Ab
open Go.RowKit
def stringslite_HasSuffix (_ : Nat) (s : ByteArray) (suffix : ByteArray) : Option Bool :=
  (if (decide ((suffix.size : Int) ≤ (s.size : Int))) then
    (bslc s (IntKind.i64.wrap ((s.size : Int) - (suffix.size : Int))) (s.size : Int)).bind fun s2 =>
    some (s2.toList == suffix.toList)
  else
    some false)
theorem stringslite_HasSuffix_ok {n : Nat} {s : ByteArray} {suffix : ByteArray} {r : Bool} (H : stringslite_HasSuffix n s suffix = some r) : PureOK Try.prog 94 [D.v (.string s), D.v (.string suffix)] (D.v (.bool r)) true := by
  unfold stringslite_HasSuffix at H
  refine pure_runR (tab := tab) tab_ok Try.func94 rfl (by kernel_rfl) (by kernel_rfl) (by simp [Try.f94]) ?_
  refine runR_take tab_ok fol 1 ?_
  try simp -implicitDefEqProofs only [go_sem, Nat.reduceEqDiff, Nat.reduceAdd, reduceCtorEq, ↓reduceIte]
  rcases ite_inv H with ⟨c1, H2⟩ | ⟨c1, H2⟩
  · obtain ⟨s2, b3, H4⟩ := bind_inv H2
    obtain ⟨h5, h6, h7, h8⟩ := bslc_inv b3
    have h9 : Int.toNat (IntKind.i64.wrap ((s.size : Int) - (suffix.size : Int))) ≤ s.size := by omega
    have h10 : s.size ≤ s.size := by omega
    have h11 : ByteArray.extract s (Int.toNat (IntKind.i64.wrap ((s.size : Int) - (suffix.size : Int)))) (s.size) = s2 := h8.symm
    try simp only [Int.toNat_natCast] at h9 h10 h11
    try simp -implicitDefEqProofs only [go_sem, Nat.reduceEqDiff, Nat.reduceAdd, reduceCtorEq, ↓reduceIte, c1, nat_of .i64 h5, h9, h10, h11]
    obtain rfl := Option.some.inj H4
    exact end_pure (by first | (simp -implicitDefEqProofs only [go_sem, ↓reduceIte, Try.f94] <;> rfl) | rfl) (by first | rfl | (simp -implicitDefEqProofs only [go_sem, Int.reduceToNat, Int.reduceLT, Int.reduceLE, Int.reduceBEq, Int.reduceBNe, Nat.reduceLT, Nat.reduceBEq, Int.reduceEq, Nat.reduceEqDiff, Nat.reduceAdd, Nat.reduceSub, Nat.reduceMul, Nat.reduceLeDiff, reduceCtorEq, ↓reduceIte, c1, nat_of .i64 h5, h9, h10, h11]; done) | (simp -implicitDefEqProofs only [go_sem, Int.reduceToNat, Int.reduceLT, Int.reduceLE, Int.reduceBEq, Int.reduceBNe, Nat.reduceLT, Nat.reduceBEq, Int.reduceEq, Nat.reduceEqDiff, Nat.reduceAdd, Nat.reduceSub, Nat.reduceMul, Nat.reduceLeDiff, reduceCtorEq, ↓reduceIte, c1, nat_of .i64 h5, h9, h10, h11]; rfl)) rfl (by intro h; first | rfl | cases h)
  · try simp -implicitDefEqProofs only [go_sem, Nat.reduceEqDiff, Nat.reduceAdd, ↓reduceIte, c1]
    obtain rfl := Option.some.inj H2
    exact end_pure (by first | (simp -implicitDefEqProofs only [go_sem, ↓reduceIte, Try.f94] <;> rfl) | rfl) (by first | rfl | (simp -implicitDefEqProofs only [go_sem, Int.reduceToNat, Int.reduceLT, Int.reduceLE, Int.reduceBEq, Int.reduceBNe, Nat.reduceLT, Nat.reduceBEq, Int.reduceEq, Nat.reduceEqDiff, Nat.reduceAdd, Nat.reduceSub, Nat.reduceMul, Nat.reduceLeDiff, reduceCtorEq, ↓reduceIte, c1]; done) | (simp -implicitDefEqProofs only [go_sem, Int.reduceToNat, Int.reduceLT, Int.reduceLE, Int.reduceBEq, Int.reduceBNe, Nat.reduceLT, Nat.reduceBEq, Int.reduceEq, Nat.reduceEqDiff, Nat.reduceAdd, Nat.reduceSub, Nat.reduceMul, Nat.reduceLeDiff, reduceCtorEq, ↓reduceIte, c1]; rfl)) rfl (by intro h; first | rfl | cases h)
def stringslite_CutSuffix (n : Nat) (s : ByteArray) (suffix : ByteArray) : Option (ByteArray × Bool) :=
  (stringslite_HasSuffix n s suffix).bind fun t8 =>
  (if t8 then
    (bslc s 0 (IntKind.i64.wrap ((s.size : Int) - (suffix.size : Int)))).bind fun s2 =>
    some (s2, true)
  else
    some (s, false))
theorem stringslite_CutSuffix_ok {n : Nat} {s : ByteArray} {suffix : ByteArray} {r : ByteArray × Bool} (H : stringslite_CutSuffix n s suffix = some r) : PureOK Try.prog 71 [D.v (.string s), D.v (.string suffix)] (D.tu [D.v (.string r.1), D.v (.bool r.2)]) true := by
  unfold stringslite_CutSuffix at H
  refine pure_runR (tab := tab) tab_ok Try.func71 rfl (by kernel_rfl) (by kernel_rfl) (by simp [Try.f71]) ?_
  refine runR_take tab_ok fol 1 ?_
  obtain ⟨t8, b1, H2⟩ := bind_inv H
  try simp -implicitDefEqProofs only [go_sem, Nat.reduceEqDiff, Nat.reduceAdd, reduceCtorEq, ↓reduceIte]
  refine onCall_pure (by first | rfl | (simp -implicitDefEqProofs only [go_sem, Int.reduceToNat, Int.reduceLT, Int.reduceLE, Int.reduceBEq, Int.reduceBNe, Nat.reduceLT, Nat.reduceBEq, Int.reduceEq, Nat.reduceEqDiff, Nat.reduceAdd, Nat.reduceSub, Nat.reduceMul, Nat.reduceLeDiff, reduceCtorEq, ↓reduceIte]; done) | (simp -implicitDefEqProofs only [go_sem, Int.reduceToNat, Int.reduceLT, Int.reduceLE, Int.reduceBEq, Int.reduceBNe, Nat.reduceLT, Nat.reduceBEq, Int.reduceEq, Nat.reduceEqDiff, Nat.reduceAdd, Nat.reduceSub, Nat.reduceMul, Nat.reduceLeDiff, reduceCtorEq, ↓reduceIte]; rfl)) (stringslite_HasSuffix_ok b1) (by first | exact .inr rfl | exact .inl rfl) ?_
  try simp -implicitDefEqProofs only [go_sem, Nat.reduceAdd, ↓reduceIte]
  rcases ite_inv H2 with ⟨c3, H4⟩ | ⟨c3, H4⟩
  · obtain ⟨s2, b5, H6⟩ := bind_inv H4
    obtain ⟨h7, h8, h9, h10⟩ := bslc_inv b5
    have h11 : 0 ≤ Int.toNat (IntKind.i64.wrap ((s.size : Int) - (suffix.size : Int))) := by omega
    have h12 : Int.toNat (IntKind.i64.wrap ((s.size : Int) - (suffix.size : Int))) ≤ s.size := by omega
    have h13 : ByteArray.extract s (0) (Int.toNat (IntKind.i64.wrap ((s.size : Int) - (suffix.size : Int)))) = s2 := h10.symm
    try simp only [Int.toNat_natCast] at h11 h12 h13
    try simp -implicitDefEqProofs only [go_sem, Nat.reduceEqDiff, Nat.reduceAdd, reduceCtorEq, ↓reduceIte, c3, nat_of .i64 (Int.le_trans h7 h8), h11, h12, h13]
    obtain rfl := Option.some.inj H6
    exact end_pure (by first | (simp -implicitDefEqProofs only [go_sem, Nat.reduceEqDiff, ↓reduceIte, Try.f71] <;> rfl) | rfl) (by first | rfl | (simp -implicitDefEqProofs only [go_sem, Int.reduceToNat, Int.reduceLT, Int.reduceLE, Int.reduceBEq, Int.reduceBNe, Nat.reduceLT, Nat.reduceBEq, Int.reduceEq, Nat.reduceEqDiff, Nat.reduceAdd, Nat.reduceSub, Nat.reduceMul, Nat.reduceLeDiff, reduceCtorEq, ↓reduceIte, c3, nat_of .i64 (Int.le_trans h7 h8), h11, h12, h13]; done) | (simp -implicitDefEqProofs only [go_sem, Int.reduceToNat, Int.reduceLT, Int.reduceLE, Int.reduceBEq, Int.reduceBNe, Nat.reduceLT, Nat.reduceBEq, Int.reduceEq, Nat.reduceEqDiff, Nat.reduceAdd, Nat.reduceSub, Nat.reduceMul, Nat.reduceLeDiff, reduceCtorEq, ↓reduceIte, c3, nat_of .i64 (Int.le_trans h7 h8), h11, h12, h13]; rfl)) rfl (by intro h; first | rfl | cases h)
  · try simp -implicitDefEqProofs only [go_sem, Nat.reduceAdd, reduceCtorEq, ↓reduceIte, c3]
    obtain rfl := Option.some.inj H4
    exact end_pure (by first | (simp -implicitDefEqProofs only [go_sem, Nat.reduceEqDiff, ↓reduceIte, Try.f71] <;> rfl) | rfl) (by first | rfl | (simp -implicitDefEqProofs only [go_sem, Int.reduceToNat, Int.reduceLT, Int.reduceLE, Int.reduceBEq, Int.reduceBNe, Nat.reduceLT, Nat.reduceBEq, Int.reduceEq, Nat.reduceEqDiff, Nat.reduceAdd, Nat.reduceSub, Nat.reduceMul, Nat.reduceLeDiff, reduceCtorEq, ↓reduceIte, c3]; done) | (simp -implicitDefEqProofs only [go_sem, Int.reduceToNat, Int.reduceLT, Int.reduceLE, Int.reduceBEq, Int.reduceBNe, Nat.reduceLT, Nat.reduceBEq, Int.reduceEq, Nat.reduceEqDiff, Nat.reduceAdd, Nat.reduceSub, Nat.reduceMul, Nat.reduceLeDiff, reduceCtorEq, ↓reduceIte, c3]; rfl)) rfl (by intro h; first | rfl | cases h)
def strings_CutSuffix (n : Nat) (s : ByteArray) (suffix : ByteArray) : Option (ByteArray × Bool) :=
  (stringslite_CutSuffix n s suffix).bind fun t8 =>
  some (t8.1, t8.2)
theorem strings_CutSuffix_ok {n : Nat} {s : ByteArray} {suffix : ByteArray} {r : ByteArray × Bool} (H : strings_CutSuffix n s suffix = some r) : PureOK Try.prog 46 [D.v (.string s), D.v (.string suffix)] (D.tu [D.v (.string r.1), D.v (.bool r.2)]) true := by
  unfold strings_CutSuffix at H
  refine pure_runR (tab := tab) tab_ok Try.func46 rfl (by kernel_rfl) (by kernel_rfl) (by simp [Try.f46]) ?_
  refine runR_take tab_ok fol 1 ?_
  obtain ⟨t8, b1, H2⟩ := bind_inv H
  try simp -implicitDefEqProofs only [go_sem, Nat.reduceEqDiff, Nat.reduceAdd, reduceCtorEq, ↓reduceIte]
  refine onCall_pure (by first | rfl | (simp -implicitDefEqProofs only [go_sem, Int.reduceToNat, Int.reduceLT, Int.reduceLE, Int.reduceBEq, Int.reduceBNe, Nat.reduceLT, Nat.reduceBEq, Int.reduceEq, Nat.reduceEqDiff, Nat.reduceAdd, Nat.reduceSub, Nat.reduceMul, Nat.reduceLeDiff, reduceCtorEq, ↓reduceIte]; done) | (simp -implicitDefEqProofs only [go_sem, Int.reduceToNat, Int.reduceLT, Int.reduceLE, Int.reduceBEq, Int.reduceBNe, Nat.reduceLT, Nat.reduceBEq, Int.reduceEq, Nat.reduceEqDiff, Nat.reduceAdd, Nat.reduceSub, Nat.reduceMul, Nat.reduceLeDiff, reduceCtorEq, ↓reduceIte]; rfl)) (stringslite_CutSuffix_ok b1) (by first | exact .inr rfl | exact .inl rfl) ?_
  try simp -implicitDefEqProofs only [go_sem, Nat.reduceEqDiff, Nat.reduceAdd, ↓reduceIte]
  obtain rfl := Option.some.inj H2
  exact end_pure (by first | (simp -implicitDefEqProofs only [go_sem, Nat.reduceEqDiff, ↓reduceIte, Try.f46] <;> rfl) | rfl) (by first | rfl | (simp -implicitDefEqProofs only [go_sem, Int.reduceToNat, Int.reduceLT, Int.reduceLE, Int.reduceBEq, Int.reduceBNe, Nat.reduceLT, Nat.reduceBEq, Int.reduceEq, Nat.reduceEqDiff, Nat.reduceAdd, Nat.reduceSub, Nat.reduceMul, Nat.reduceLeDiff, reduceCtorEq, ↓reduceIte]; done) | (simp -implicitDefEqProofs only [go_sem, Int.reduceToNat, Int.reduceLT, Int.reduceLE, Int.reduceBEq, Int.reduceBNe, Nat.reduceLT, Nat.reduceBEq, Int.reduceEq, Nat.reduceEqDiff, Nat.reduceAdd, Nat.reduceSub, Nat.reduceMul, Nat.reduceLeDiff, reduceCtorEq, ↓reduceIte]; rfl)) rfl (by intro h; first | rfl | cases h)
def stringslite_HasPrefix (_ : Nat) (s : ByteArray) (prefix_ : ByteArray) : Option Bool :=
  (if (decide ((prefix_.size : Int) ≤ (s.size : Int))) then
    (bslc s 0 (prefix_.size : Int)).bind fun s2 =>
    some (s2.toList == prefix_.toList)
  else
    some false)
theorem stringslite_HasPrefix_ok {n : Nat} {s : ByteArray} {prefix_ : ByteArray} {r : Bool} (H : stringslite_HasPrefix n s prefix_ = some r) : PureOK Try.prog 72 [D.v (.string s), D.v (.string prefix_)] (D.v (.bool r)) true := by
  unfold stringslite_HasPrefix at H
  refine pure_runR (tab := tab) tab_ok Try.func72 rfl (by kernel_rfl) (by kernel_rfl) (by simp [Try.f72]) ?_
  refine runR_take tab_ok fol 1 ?_
  try simp -implicitDefEqProofs only [go_sem, Nat.reduceEqDiff, Nat.reduceAdd, reduceCtorEq, ↓reduceIte]
  rcases ite_inv H with ⟨c1, H2⟩ | ⟨c1, H2⟩
  · obtain ⟨s2, b3, H4⟩ := bind_inv H2
    obtain ⟨h5, h6, h7, h8⟩ := bslc_inv b3
    have h9 : 0 ≤ Int.toNat (prefix_.size : Int) := by omega
    have h10 : Int.toNat (prefix_.size : Int) ≤ s.size := by omega
    have h11 : ByteArray.extract s (0) (Int.toNat (prefix_.size : Int)) = s2 := h8.symm
    try simp only [Int.toNat_natCast] at h9 h10 h11
    try simp -implicitDefEqProofs only [go_sem, Nat.reduceEqDiff, Nat.reduceAdd, reduceCtorEq, ↓reduceIte, c1, nat_of .i64 (Int.le_trans h5 h6), h9, h10, h11]
    obtain rfl := Option.some.inj H4
    exact end_pure (by first | (simp -implicitDefEqProofs only [go_sem, ↓reduceIte, Try.f72] <;> rfl) | rfl) (by first | rfl | (simp -implicitDefEqProofs only [go_sem, Int.reduceToNat, Int.reduceLT, Int.reduceLE, Int.reduceBEq, Int.reduceBNe, Nat.reduceLT, Nat.reduceBEq, Int.reduceEq, Nat.reduceEqDiff, Nat.reduceAdd, Nat.reduceSub, Nat.reduceMul, Nat.reduceLeDiff, reduceCtorEq, ↓reduceIte, c1, nat_of .i64 (Int.le_trans h5 h6), h9, h10, h11]; done) | (simp -implicitDefEqProofs only [go_sem, Int.reduceToNat, Int.reduceLT, Int.reduceLE, Int.reduceBEq, Int.reduceBNe, Nat.reduceLT, Nat.reduceBEq, Int.reduceEq, Nat.reduceEqDiff, Nat.reduceAdd, Nat.reduceSub, Nat.reduceMul, Nat.reduceLeDiff, reduceCtorEq, ↓reduceIte, c1, nat_of .i64 (Int.le_trans h5 h6), h9, h10, h11]; rfl)) rfl (by intro h; first | rfl | cases h)
  · try simp -implicitDefEqProofs only [go_sem, Nat.reduceEqDiff, Nat.reduceAdd, ↓reduceIte, c1]
    obtain rfl := Option.some.inj H2
    exact end_pure (by first | (simp -implicitDefEqProofs only [go_sem, ↓reduceIte, Try.f72] <;> rfl) | rfl) (by first | rfl | (simp -implicitDefEqProofs only [go_sem, Int.reduceToNat, Int.reduceLT, Int.reduceLE, Int.reduceBEq, Int.reduceBNe, Nat.reduceLT, Nat.reduceBEq, Int.reduceEq, Nat.reduceEqDiff, Nat.reduceAdd, Nat.reduceSub, Nat.reduceMul, Nat.reduceLeDiff, reduceCtorEq, ↓reduceIte, c1]; done) | (simp -implicitDefEqProofs only [go_sem, Int.reduceToNat, Int.reduceLT, Int.reduceLE, Int.reduceBEq, Int.reduceBNe, Nat.reduceLT, Nat.reduceBEq, Int.reduceEq, Nat.reduceEqDiff, Nat.reduceAdd, Nat.reduceSub, Nat.reduceMul, Nat.reduceLeDiff, reduceCtorEq, ↓reduceIte, c1]; rfl)) rfl (by intro h; first | rfl | cases h)
def strings_HasPrefix (n : Nat) (s : ByteArray) (prefix_ : ByteArray) : Option Bool :=
  (stringslite_HasPrefix n s prefix_).bind fun t7 =>
  some t7
theorem strings_HasPrefix_ok {n : Nat} {s : ByteArray} {prefix_ : ByteArray} {r : Bool} (H : strings_HasPrefix n s prefix_ = some r) : PureOK Try.prog 47 [D.v (.string s), D.v (.string prefix_)] (D.v (.bool r)) true := by
  unfold strings_HasPrefix at H
  refine pure_runR (tab := tab) tab_ok Try.func47 rfl (by kernel_rfl) (by kernel_rfl) (by simp [Try.f47]) ?_
  refine runR_take tab_ok fol 1 ?_
  obtain ⟨t7, b1, H2⟩ := bind_inv H
  try simp -implicitDefEqProofs only [go_sem, Nat.reduceEqDiff, Nat.reduceAdd, reduceCtorEq, ↓reduceIte]
  refine onCall_pure (by first | rfl | (simp -implicitDefEqProofs only [go_sem, Int.reduceToNat, Int.reduceLT, Int.reduceLE, Int.reduceBEq, Int.reduceBNe, Nat.reduceLT, Nat.reduceBEq, Int.reduceEq, Nat.reduceEqDiff, Nat.reduceAdd, Nat.reduceSub, Nat.reduceMul, Nat.reduceLeDiff, reduceCtorEq, ↓reduceIte]; done) | (simp -implicitDefEqProofs only [go_sem, Int.reduceToNat, Int.reduceLT, Int.reduceLE, Int.reduceBEq, Int.reduceBNe, Nat.reduceLT, Nat.reduceBEq, Int.reduceEq, Nat.reduceEqDiff, Nat.reduceAdd, Nat.reduceSub, Nat.reduceMul, Nat.reduceLeDiff, reduceCtorEq, ↓reduceIte]; rfl)) (stringslite_HasPrefix_ok b1) (by first | exact .inr rfl | exact .inl rfl) ?_
  try simp -implicitDefEqProofs only [go_sem, Nat.reduceAdd, ↓reduceIte]
  obtain rfl := Option.some.inj H2
  exact end_pure (by first | (simp -implicitDefEqProofs only [go_sem, ↓reduceIte, Try.f47] <;> rfl) | rfl) (by first | rfl | (simp -implicitDefEqProofs only [go_sem, Int.reduceToNat, Int.reduceLT, Int.reduceLE, Int.reduceBEq, Int.reduceBNe, Nat.reduceLT, Nat.reduceBEq, Int.reduceEq, Nat.reduceEqDiff, Nat.reduceAdd, Nat.reduceSub, Nat.reduceMul, Nat.reduceLeDiff, reduceCtorEq, ↓reduceIte]; done) | (simp -implicitDefEqProofs only [go_sem, Int.reduceToNat, Int.reduceLT, Int.reduceLE, Int.reduceBEq, Int.reduceBNe, Nat.reduceLT, Nat.reduceBEq, Int.reduceEq, Nat.reduceEqDiff, Nat.reduceAdd, Nat.reduceSub, Nat.reduceMul, Nat.reduceLeDiff, reduceCtorEq, ↓reduceIte]; rfl)) rfl (by intro h; first | rfl | cases h)
def glob_Match (n : Nat) (pattern : ByteArray) (name : ByteArray) : Option Bool :=
  (strings_CutSuffix n pattern ({ data := #[42] })).bind fun t9 =>
  (if t9.2 then
    (strings_HasPrefix n name t9.1).bind fun t19 =>
    some t19
  else
    some (pattern.toList == name.toList))
theorem glob_Match_ok {n : Nat} {pattern : ByteArray} {name : ByteArray} {r : Bool} (H : glob_Match n pattern name = some r) : PureOK Try.prog 17 [D.v (.string pattern), D.v (.string name)] (D.v (.bool r)) true := by
  unfold glob_Match at H
  refine pure_runR (tab := tab) tab_ok Try.func17 rfl (by kernel_rfl) (by kernel_rfl) (by simp [Try.f17]) ?_
  refine runR_take tab_ok fol 1 ?_
  obtain ⟨t9, b1, H2⟩ := bind_inv H
  try simp -implicitDefEqProofs only [go_sem, Nat.reduceAdd, reduceCtorEq, ↓reduceIte]
  refine onCall_pure (by first | rfl | (simp -implicitDefEqProofs only [go_sem, Int.reduceToNat, Int.reduceLT, Int.reduceLE, Int.reduceBEq, Int.reduceBNe, Nat.reduceLT, Nat.reduceBEq, Int.reduceEq, Nat.reduceEqDiff, Nat.reduceAdd, Nat.reduceSub, Nat.reduceMul, Nat.reduceLeDiff, reduceCtorEq, ↓reduceIte]; done) | (simp -implicitDefEqProofs only [go_sem, Int.reduceToNat, Int.reduceLT, Int.reduceLE, Int.reduceBEq, Int.reduceBNe, Nat.reduceLT, Nat.reduceBEq, Int.reduceEq, Nat.reduceEqDiff, Nat.reduceAdd, Nat.reduceSub, Nat.reduceMul, Nat.reduceLeDiff, reduceCtorEq, ↓reduceIte]; rfl)) (strings_CutSuffix_ok b1) (by first | exact .inr rfl | exact .inl rfl) ?_
  try simp -implicitDefEqProofs only [go_sem, Nat.reduceEqDiff, Nat.reduceAdd, ↓reduceIte]
  rcases ite_inv H2 with ⟨c3, H4⟩ | ⟨c3, H4⟩
  · obtain ⟨t19, b5, H6⟩ := bind_inv H4
    try simp -implicitDefEqProofs only [go_sem, Nat.reduceEqDiff, Nat.reduceAdd, ↓reduceIte, c3]
    refine onCall_pure (by first | rfl | (simp -implicitDefEqProofs only [go_sem, Int.reduceToNat, Int.reduceLT, Int.reduceLE, Int.reduceBEq, Int.reduceBNe, Nat.reduceLT, Nat.reduceBEq, Int.reduceEq, Nat.reduceEqDiff, Nat.reduceAdd, Nat.reduceSub, Nat.reduceMul, Nat.reduceLeDiff, reduceCtorEq, ↓reduceIte, c3]; done) | (simp -implicitDefEqProofs only [go_sem, Int.reduceToNat, Int.reduceLT, Int.reduceLE, Int.reduceBEq, Int.reduceBNe, Nat.reduceLT, Nat.reduceBEq, Int.reduceEq, Nat.reduceEqDiff, Nat.reduceAdd, Nat.reduceSub, Nat.reduceMul, Nat.reduceLeDiff, reduceCtorEq, ↓reduceIte, c3]; rfl)) (strings_HasPrefix_ok b5) (by first | exact .inr rfl | exact .inl rfl) ?_
    try simp -implicitDefEqProofs only [go_sem, Nat.reduceAdd, ↓reduceIte]
    obtain rfl := Option.some.inj H6
    exact end_pure (by first | (simp -implicitDefEqProofs only [go_sem, ↓reduceIte, Try.f17] <;> rfl) | rfl) (by first | rfl | (simp -implicitDefEqProofs only [go_sem, Int.reduceToNat, Int.reduceLT, Int.reduceLE, Int.reduceBEq, Int.reduceBNe, Nat.reduceLT, Nat.reduceBEq, Int.reduceEq, Nat.reduceEqDiff, Nat.reduceAdd, Nat.reduceSub, Nat.reduceMul, Nat.reduceLeDiff, reduceCtorEq, ↓reduceIte, c3]; done) | (simp -implicitDefEqProofs only [go_sem, Int.reduceToNat, Int.reduceLT, Int.reduceLE, Int.reduceBEq, Int.reduceBNe, Nat.reduceLT, Nat.reduceBEq, Int.reduceEq, Nat.reduceEqDiff, Nat.reduceAdd, Nat.reduceSub, Nat.reduceMul, Nat.reduceLeDiff, reduceCtorEq, ↓reduceIte, c3]; rfl)) rfl (by intro h; first | rfl | cases h)
  · try simp -implicitDefEqProofs only [go_sem, Nat.reduceEqDiff, Nat.reduceAdd, reduceCtorEq, ↓reduceIte, c3]
    obtain rfl := Option.some.inj H4
    exact end_pure (by first | (simp -implicitDefEqProofs only [go_sem, ↓reduceIte, Try.f17] <;> rfl) | rfl) (by first | rfl | (simp -implicitDefEqProofs only [go_sem, Int.reduceToNat, Int.reduceLT, Int.reduceLE, Int.reduceBEq, Int.reduceBNe, Nat.reduceLT, Nat.reduceBEq, Int.reduceEq, Nat.reduceEqDiff, Nat.reduceAdd, Nat.reduceSub, Nat.reduceMul, Nat.reduceLeDiff, reduceCtorEq, ↓reduceIte, c3]; done) | (simp -implicitDefEqProofs only [go_sem, Int.reduceToNat, Int.reduceLT, Int.reduceLE, Int.reduceBEq, Int.reduceBNe, Nat.reduceLT, Nat.reduceBEq, Int.reduceEq, Nat.reduceEqDiff, Nat.reduceAdd, Nat.reduceSub, Nat.reduceMul, Nat.reduceLeDiff, reduceCtorEq, ↓reduceIte, c3]; rfl)) rfl (by intro h; first | rfl | cases h)
def ref1_SameTexts_L1 (n : Nat) (a : List ByteArray) (b : List ByteArray) : Nat → Int → Option ((Unit) ⊕ Bool)
  | 0, _ => none
  | c + 1, i =>
    (if (decide (i < (a.length : Int))) then
      (idx a i).bind fun x3 =>
      (idx b i).bind fun x4 =>
      (if (x3.toList == x4.toList) then
        ref1_SameTexts_L1 n a b c (IntKind.i64.wrap (i + 1))
      else
        some (.inr false))
    else
      some (.inl ()))

def ref1_SameTexts (n : Nat) (a : List ByteArray) (b : List ByteArray) : Option Bool :=
  (if ((a.length : Int) != (b.length : Int)) then
    some false
  else
    (
      ref1_SameTexts_L1 n a b n 0 : Option ((Unit) ⊕ Bool)).bind fun
      | .inl _ =>
        some true
      | .inr r => some r)
theorem ref1_SameTexts_ok {n : Nat} {a : List ByteArray} {b : List ByteArray} {r : Bool} (H : ref1_SameTexts n a b = some r) : PureOK Try.prog 19 [D.sl (List.map eS a), D.sl (List.map eS b)] (D.v (.bool r)) true := by
  unfold ref1_SameTexts at H
  refine pure_runR (tab := tab) tab_ok Try.func19 rfl (by kernel_rfl) (by kernel_rfl) (by simp [Try.f19]) ?_
  refine runR_seq ?_
  refine runR_take tab_ok fol 1 ?_
  try simp -implicitDefEqProofs only [go_sem]
  refine runR_seq ?_
  refine runR_take tab_ok fol 1 ?_
  try simp -implicitDefEqProofs only [go_sem, Nat.reduceEqDiff, Nat.reduceAdd, reduceCtorEq, ↓reduceIte]
  rcases ite_inv H with ⟨c1, H2⟩ | ⟨c1, H2⟩
  · try simp -implicitDefEqProofs only [go_sem, Nat.reduceAdd, c1]
    obtain rfl := Option.some.inj H2
    exact end_pure (by first | (simp -implicitDefEqProofs only [go_sem, ↓reduceIte, Try.f19] <;> rfl) | rfl) (by first | rfl | (simp -implicitDefEqProofs only [go_sem, Int.reduceToNat, Int.reduceLT, Int.reduceLE, Int.reduceBEq, Int.reduceBNe, Nat.reduceLT, Nat.reduceBEq, Int.reduceEq, Nat.reduceEqDiff, Nat.reduceAdd, Nat.reduceSub, Nat.reduceMul, Nat.reduceLeDiff, reduceCtorEq, ↓reduceIte, c1]; done) | (simp -implicitDefEqProofs only [go_sem, Int.reduceToNat, Int.reduceLT, Int.reduceLE, Int.reduceBEq, Int.reduceBNe, Nat.reduceLT, Nat.reduceBEq, Int.reduceEq, Nat.reduceEqDiff, Nat.reduceAdd, Nat.reduceSub, Nat.reduceMul, Nat.reduceLeDiff, reduceCtorEq, ↓reduceIte, c1]; rfl)) rfl (by intro h; first | rfl | cases h)
  · try simp -implicitDefEqProofs only [go_sem, c1]
    refine runR_seq ?_
    refine runR_seq ?_
    refine runR_take tab_ok fol 1 ?_
    try simp -implicitDefEqProofs only [go_sem, Nat.reduceAdd]
    obtain ⟨e_, E3, H4⟩ := bind_inv H2
    refine runR_join (α := { y : Unit // e_ = .inl y }) (fun | ⟨_, _⟩ => ⟨noFr, noHp, 0⟩) ?_ ?_
    · refine runR_block ?_
      refine runR_loop (α := { q : Nat × Int // ref1_SameTexts_L1 n a b q.1 q.2 = some e_ }) (fun | ⟨⟨c, i⟩, _⟩ => ⟨upd 0 (.d (.sl (List.map eS a)) true) (upd 1 (.d (.sl (List.map eS b)) true) (upd 5 (.v (.int .i64 i)) noFr)), noHp, 0⟩) (fun q => q.1.1) ⟨(n, 0), E3⟩ ?_ ?_
      · exact ren_mk [] (by rfl) (rf_upd (by rfl) (rf_upd (by rfl) (rf_upd (by rfl) (rf_no _)))) (rh_no _)
      · rintro ⟨⟨c, i⟩, L5⟩
        rcases c with _ | c
        · exact nomatch (show none = some _ from L5)
        · unfold ref1_SameTexts_L1 at L5
          try dsimp only at L5
          refine runR_take tab_ok fol 1 ?_
          try simp -implicitDefEqProofs only [go_sem, Nat.reduceEqDiff, Nat.reduceAdd, reduceCtorEq, ↓reduceIte]
          rcases ite_inv L5 with ⟨c22, H23⟩ | ⟨c22, H23⟩
          · obtain ⟨x3, b24, H25⟩ := bind_inv H23
            obtain ⟨h26, h27⟩ := idx_inv b24
            try simp only [Int.reduceToNat, Int.toNat_natCast] at h27
            have h28 := map_at eS h27
            obtain ⟨x4, b30, H31⟩ := bind_inv H25
            obtain ⟨h32, h33⟩ := idx_inv b30
            try simp only [Int.reduceToNat, Int.toNat_natCast] at h33
            have h34 := map_at eS h33
            try simp -implicitDefEqProofs only [go_sem, Nat.reduceEqDiff, Nat.reduceAdd, reduceCtorEq, ↓reduceIte, c22, nat_of .i64 h26, h28, h34]
            refine Rd_endF (by rfl) ?_
            try simp -implicitDefEqProofs only [go_sem, ↓reduceIte]
            rcases ite_inv H31 with ⟨c36, H37⟩ | ⟨c36, H37⟩
            · try simp -implicitDefEqProofs only [go_sem, Nat.reduceEqDiff, Nat.reduceAdd, reduceCtorEq, ↓reduceIte, c36]
              exact ⟨⟨(c, (IntKind.i64.wrap (i + 1))), H37⟩, ren_mk [] (by rfl) (rf_upd (by rfl) (rf_upd (by rfl) (rf_upd (by rfl) (rf_no _)))) (rh_no _), Nat.lt_succ_self _⟩
            · try simp -implicitDefEqProofs only [go_sem, Nat.reduceAdd, c36]
              obtain rfl := Option.some.inj H37
              obtain rfl := Option.some.inj H4
              exact end_pure (by first | (simp -implicitDefEqProofs only [go_sem, ↓reduceIte, Try.f19] <;> rfl) | rfl) (by first | rfl | (simp -implicitDefEqProofs only [go_sem, Int.reduceToNat, Int.reduceLT, Int.reduceLE, Int.reduceBEq, Int.reduceBNe, Nat.reduceLT, Nat.reduceBEq, Int.reduceEq, Nat.reduceEqDiff, Nat.reduceAdd, Nat.reduceSub, Nat.reduceMul, Nat.reduceLeDiff, reduceCtorEq, ↓reduceIte, c22, nat_of .i64 h26, h28, nat_of .i64 h32, h34, c36]; done) | (simp -implicitDefEqProofs only [go_sem, Int.reduceToNat, Int.reduceLT, Int.reduceLE, Int.reduceBEq, Int.reduceBNe, Nat.reduceLT, Nat.reduceBEq, Int.reduceEq, Nat.reduceEqDiff, Nat.reduceAdd, Nat.reduceSub, Nat.reduceMul, Nat.reduceLeDiff, reduceCtorEq, ↓reduceIte, c22, nat_of .i64 h26, h28, nat_of .i64 h32, h34, c36]; rfl)) rfl (by intro h; first | rfl | cases h)
          · try simp -implicitDefEqProofs only [go_sem, ↓reduceIte, c22]
            obtain rfl := Option.some.inj H23
            exact ⟨⟨(), rfl⟩, ren_mk [] (by rfl) (rf_no _) (rh_no _)⟩
    · rintro ⟨_, he38⟩
      replace he38 := he38.symm
      subst he38
      try dsimp only at H4
      refine runR_take tab_ok fol 1 ?_
      try simp -implicitDefEqProofs only [go_sem]
      obtain rfl := Option.some.inj H4
      exact end_pure (by first | (simp -implicitDefEqProofs only [go_sem, ↓reduceIte, Try.f19] <;> rfl) | rfl) (by first | rfl | (simp -implicitDefEqProofs only [go_sem, Int.reduceToNat, Int.reduceLT, Int.reduceLE, Int.reduceBEq, Int.reduceBNe, Nat.reduceLT, Nat.reduceBEq, Int.reduceEq, Nat.reduceEqDiff, Nat.reduceAdd, Nat.reduceSub, Nat.reduceMul, Nat.reduceLeDiff, reduceCtorEq, ↓reduceIte]; done) | (simp -implicitDefEqProofs only [go_sem, Int.reduceToNat, Int.reduceLT, Int.reduceLE, Int.reduceBEq, Int.reduceBNe, Nat.reduceLT, Nat.reduceBEq, Int.reduceEq, Nat.reduceEqDiff, Nat.reduceAdd, Nat.reduceSub, Nat.reduceMul, Nat.reduceLeDiff, reduceCtorEq, ↓reduceIte]; rfl)) rfl (by intro h; first | rfl | cases h)
def glob_matches_c1 (n : Nat) (p : ByteArray) (c2 : ByteArray) : Option Bool :=
  (glob_Match n p c2).bind fun t6 =>
  some t6
theorem glob_matches_c1_ok {n : Nat} {p : ByteArray} {c2 : ByteArray} {r : Bool} (H : glob_matches_c1 n p c2 = some r) : PureOK Try.prog 73 [D.v (.string p), D.pt [D.v (.string c2)] 0] (D.v (.bool r)) true := by
  unfold glob_matches_c1 at H
  refine pure_runR (tab := tab) tab_ok Try.func73 rfl (by kernel_rfl) (by kernel_rfl) (by simp [Try.f73]) ?_
  refine runR_take tab_ok fol 1 ?_
  obtain ⟨t6, b1, H2⟩ := bind_inv H
  try simp -implicitDefEqProofs only [go_sem, Nat.reduceEqDiff, Nat.reduceAdd, reduceCtorEq, ↓reduceIte]
  refine onCall_pure (by first | rfl | (simp -implicitDefEqProofs only [go_sem, Int.reduceToNat, Int.reduceLT, Int.reduceLE, Int.reduceBEq, Int.reduceBNe, Nat.reduceLT, Nat.reduceBEq, Int.reduceEq, Nat.reduceEqDiff, Nat.reduceAdd, Nat.reduceSub, Nat.reduceMul, Nat.reduceLeDiff, reduceCtorEq, ↓reduceIte]; done) | (simp -implicitDefEqProofs only [go_sem, Int.reduceToNat, Int.reduceLT, Int.reduceLE, Int.reduceBEq, Int.reduceBNe, Nat.reduceLT, Nat.reduceBEq, Int.reduceEq, Nat.reduceEqDiff, Nat.reduceAdd, Nat.reduceSub, Nat.reduceMul, Nat.reduceLeDiff, reduceCtorEq, ↓reduceIte]; rfl)) (glob_Match_ok b1) (by first | exact .inr rfl | exact .inl rfl) ?_
  try simp -implicitDefEqProofs only [go_sem, Nat.reduceAdd, ↓reduceIte]
  obtain rfl := Option.some.inj H2
  exact end_pure (by first | (simp -implicitDefEqProofs only [go_sem, ↓reduceIte, Try.f73] <;> rfl) | rfl) (by first | rfl | (simp -implicitDefEqProofs only [go_sem, Int.reduceToNat, Int.reduceLT, Int.reduceLE, Int.reduceBEq, Int.reduceBNe, Nat.reduceLT, Nat.reduceBEq, Int.reduceEq, Nat.reduceEqDiff, Nat.reduceAdd, Nat.reduceSub, Nat.reduceMul, Nat.reduceLeDiff, reduceCtorEq, ↓reduceIte]; done) | (simp -implicitDefEqProofs only [go_sem, Int.reduceToNat, Int.reduceLT, Int.reduceLE, Int.reduceBEq, Int.reduceBNe, Nat.reduceLT, Nat.reduceBEq, Int.reduceEq, Nat.reduceEqDiff, Nat.reduceAdd, Nat.reduceSub, Nat.reduceMul, Nat.reduceLeDiff, reduceCtorEq, ↓reduceIte]; rfl)) rfl (by intro h; first | rfl | cases h)
def slices_IndexFunc_string__glob_matches_c1_L1 (n : Nat) (s : List ByteArray) (c2 : ByteArray) : Nat → Int → Option ((Unit) ⊕ Int)
  | 0, _ => none
  | c + 1, t8 =>
    (if (decide (t8 < (s.length : Int))) then
      (idx s t8).bind fun x2 =>
      (glob_matches_c1 n x2 c2).bind fun t162 =>
      (if t162 then
        some (.inr t8)
      else
        slices_IndexFunc_string__glob_matches_c1_L1 n s c2 c (IntKind.i64.wrap (t8 + 1)))
    else
      some (.inl ()))

def slices_IndexFunc_string__glob_matches_c1 (n : Nat) (s : List ByteArray) (c2 : ByteArray) : Option Int :=
  (
    slices_IndexFunc_string__glob_matches_c1_L1 n s c2 n 0 : Option ((Unit) ⊕ Int)).bind fun
    | .inl _ =>
      some (-1)
    | .inr r => some r
theorem slices_IndexFunc_string__glob_matches_c1_ok {n : Nat} {s : List ByteArray} {c2 : ByteArray} {r : Int} (H : slices_IndexFunc_string__glob_matches_c1 n s c2 = some r) : PureA Try.prog 93 [.d (D.sl (List.map eS s)), .fn 73 [D.pt [D.v (.string c2)] 0]] (D.v (.int .i64 r)) true := by
  unfold slices_IndexFunc_string__glob_matches_c1 at H
  refine pureA_runR (tab := tab) tab_ok Try.func93 rfl (by kernel_rfl) (by kernel_rfl) (by simp [Try.f93]) ?_
  refine runR_seq ?_
  refine runR_take tab_ok fol 1 ?_
  try simp -implicitDefEqProofs only [go_sem]
  refine runR_seq ?_
  refine runR_seq ?_
  refine runR_take tab_ok fol 1 ?_
  try simp -implicitDefEqProofs only [go_sem, Nat.reduceAdd, reduceCtorEq, ↓reduceIte]
  obtain ⟨e_, E1, H2⟩ := bind_inv H
  refine runR_join (α := { y : Unit // e_ = .inl y }) (fun | ⟨_, _⟩ => ⟨noFr, noHp, 0⟩) ?_ ?_
  · refine runR_block ?_
    refine runR_loop (α := { q : Nat × Int // slices_IndexFunc_string__glob_matches_c1_L1 n s c2 q.1 q.2 = some e_ }) (fun | ⟨⟨c, t8⟩, _⟩ => ⟨upd 0 (.d (.sl (List.map eS s)) true) (upd 1 (.fn 73 [.d (.pt [.v (.string c2)] 0) true]) (upd 7 (.v (.int .i64 (s.length : Int))) (upd 8 (.v (.int .i64 t8)) noFr))), noHp, 0⟩) (fun q => q.1.1) ⟨(n, 0), E1⟩ ?_ ?_
    · exact ren_mk [] (by rfl) (rf_upd (by rfl) (rf_upd (by rfl) (rf_upd (by rfl) (rf_upd (by rfl) (rf_no _))))) (rh_no _)
    · rintro ⟨⟨c, t8⟩, L3⟩
      rcases c with _ | c
      · exact nomatch (show none = some _ from L3)
      · unfold slices_IndexFunc_string__glob_matches_c1_L1 at L3
        try dsimp only at L3
        refine runR_take tab_ok fol 1 ?_
        try simp -implicitDefEqProofs only [go_sem, Nat.reduceEqDiff, reduceCtorEq, ↓reduceIte]
        rcases ite_inv L3 with ⟨c16, H17⟩ | ⟨c16, H17⟩
        · obtain ⟨x2, b18, H19⟩ := bind_inv H17
          obtain ⟨h20, h21⟩ := idx_inv b18
          try simp only [Int.reduceToNat, Int.toNat_natCast] at h21
          have h22 := map_at eS h21
          obtain ⟨t162, b24, H25⟩ := bind_inv H19
          try simp -implicitDefEqProofs only [go_sem, Nat.reduceEqDiff, Nat.reduceAdd, reduceCtorEq, ↓reduceIte, c16, nat_of .i64 h20, h22]
          refine onCall_pure (by first | rfl | (simp -implicitDefEqProofs only [go_sem, Int.reduceToNat, Int.reduceLT, Int.reduceLE, Int.reduceBEq, Int.reduceBNe, Nat.reduceLT, Nat.reduceBEq, Int.reduceEq, Nat.reduceEqDiff, Nat.reduceAdd, Nat.reduceSub, Nat.reduceMul, Nat.reduceLeDiff, reduceCtorEq, ↓reduceIte, c16, nat_of .i64 h20, h22]; done) | (simp -implicitDefEqProofs only [go_sem, Int.reduceToNat, Int.reduceLT, Int.reduceLE, Int.reduceBEq, Int.reduceBNe, Nat.reduceLT, Nat.reduceBEq, Int.reduceEq, Nat.reduceEqDiff, Nat.reduceAdd, Nat.reduceSub, Nat.reduceMul, Nat.reduceLeDiff, reduceCtorEq, ↓reduceIte, c16, nat_of .i64 h20, h22]; rfl)) (glob_matches_c1_ok b24) (by first | exact .inr rfl | exact .inl rfl) ?_
          try simp -implicitDefEqProofs only [go_sem, ↓reduceIte]
          rcases ite_inv H25 with ⟨c26, H27⟩ | ⟨c26, H27⟩
          · try simp -implicitDefEqProofs only [go_sem, Nat.reduceEqDiff, Nat.reduceAdd, ↓reduceIte, c26]
            obtain rfl := Option.some.inj H27
            obtain rfl := Option.some.inj H2
            exact end_pure (by first | (simp -implicitDefEqProofs only [go_sem, ↓reduceIte, Try.f93] <;> rfl) | rfl) (by first | rfl | (simp -implicitDefEqProofs only [go_sem, Int.reduceToNat, Int.reduceLT, Int.reduceLE, Int.reduceBEq, Int.reduceBNe, Nat.reduceLT, Nat.reduceBEq, Int.reduceEq, Nat.reduceEqDiff, Nat.reduceAdd, Nat.reduceSub, Nat.reduceMul, Nat.reduceLeDiff, reduceCtorEq, ↓reduceIte, c16, nat_of .i64 h20, h22, c26]; done) | (simp -implicitDefEqProofs only [go_sem, Int.reduceToNat, Int.reduceLT, Int.reduceLE, Int.reduceBEq, Int.reduceBNe, Nat.reduceLT, Nat.reduceBEq, Int.reduceEq, Nat.reduceEqDiff, Nat.reduceAdd, Nat.reduceSub, Nat.reduceMul, Nat.reduceLeDiff, reduceCtorEq, ↓reduceIte, c16, nat_of .i64 h20, h22, c26]; rfl)) rfl (by intro h; first | rfl | cases h)
          · try simp -implicitDefEqProofs only [go_sem, Nat.reduceEqDiff, Nat.reduceAdd, reduceCtorEq, ↓reduceIte, c26]
            exact ⟨⟨(c, (IntKind.i64.wrap (t8 + 1))), H27⟩, ren_mk [] (by rfl) (rf_upd (by rfl) (rf_upd (by rfl) (rf_upd (by rfl) (rf_upd (by rfl) (rf_no _))))) (rh_no _), Nat.lt_succ_self _⟩
        · try simp -implicitDefEqProofs only [go_sem, ↓reduceIte, c16]
          obtain rfl := Option.some.inj H17
          exact ⟨⟨(), rfl⟩, ren_mk [] (by rfl) (rf_no _) (rh_no _)⟩
  · rintro ⟨_, he28⟩
    replace he28 := he28.symm
    subst he28
    try dsimp only at H2
    refine runR_take tab_ok fol 1 ?_
    try simp -implicitDefEqProofs only [go_sem]
    obtain rfl := Option.some.inj H2
    exact end_pure (by first | (simp -implicitDefEqProofs only [go_sem, ↓reduceIte, Try.f93] <;> rfl) | rfl) (by first | rfl | (simp -implicitDefEqProofs only [go_sem, Int.reduceToNat, Int.reduceLT, Int.reduceLE, Int.reduceBEq, Int.reduceBNe, Nat.reduceLT, Nat.reduceBEq, Int.reduceEq, Nat.reduceEqDiff, Nat.reduceAdd, Nat.reduceSub, Nat.reduceMul, Nat.reduceLeDiff, reduceCtorEq, ↓reduceIte]; done) | (simp -implicitDefEqProofs only [go_sem, Int.reduceToNat, Int.reduceLT, Int.reduceLE, Int.reduceBEq, Int.reduceBNe, Nat.reduceLT, Nat.reduceBEq, Int.reduceEq, Nat.reduceEqDiff, Nat.reduceAdd, Nat.reduceSub, Nat.reduceMul, Nat.reduceLeDiff, reduceCtorEq, ↓reduceIte]; rfl)) rfl (by intro h; first | rfl | cases h)
def slices_ContainsFunc_string__glob_matches_c1 (n : Nat) (s : List ByteArray) (c2 : ByteArray) : Option Bool :=
  (slices_IndexFunc_string__glob_matches_c1 n s c2).bind fun t7 =>
  some (decide (0 ≤ t7))
theorem slices_ContainsFunc_string__glob_matches_c1_ok {n : Nat} {s : List ByteArray} {c2 : ByteArray} {r : Bool} (H : slices_ContainsFunc_string__glob_matches_c1 n s c2 = some r) : PureA Try.prog 68 [.d (D.sl (List.map eS s)), .fn 73 [D.pt [D.v (.string c2)] 0]] (D.v (.bool r)) true := by
  unfold slices_ContainsFunc_string__glob_matches_c1 at H
  refine pureA_runR (tab := tab) tab_ok Try.func68 rfl (by kernel_rfl) (by kernel_rfl) (by simp [Try.f68]) ?_
  refine runR_take tab_ok fol 1 ?_
  obtain ⟨t7, b1, H2⟩ := bind_inv H
  try simp -implicitDefEqProofs only [go_sem, Nat.reduceEqDiff, Nat.reduceAdd, reduceCtorEq, ↓reduceIte]
  refine onCall_pureA (by first | rfl | (simp -implicitDefEqProofs only [go_sem, Int.reduceToNat, Int.reduceLT, Int.reduceLE, Int.reduceBEq, Int.reduceBNe, Nat.reduceLT, Nat.reduceBEq, Int.reduceEq, Nat.reduceEqDiff, Nat.reduceAdd, Nat.reduceSub, Nat.reduceMul, Nat.reduceLeDiff, reduceCtorEq, ↓reduceIte]; done) | (simp -implicitDefEqProofs only [go_sem, Int.reduceToNat, Int.reduceLT, Int.reduceLE, Int.reduceBEq, Int.reduceBNe, Nat.reduceLT, Nat.reduceBEq, Int.reduceEq, Nat.reduceEqDiff, Nat.reduceAdd, Nat.reduceSub, Nat.reduceMul, Nat.reduceLeDiff, reduceCtorEq, ↓reduceIte]; rfl)) (slices_IndexFunc_string__glob_matches_c1_ok b1) (by first | exact .inr rfl | exact .inl rfl) ?_
  try simp -implicitDefEqProofs only [go_sem, Nat.reduceAdd, ↓reduceIte]
  obtain rfl := Option.some.inj H2
  exact end_pure (by first | (simp -implicitDefEqProofs only [go_sem, ↓reduceIte, Try.f68] <;> rfl) | rfl) (by first | rfl | (simp -implicitDefEqProofs only [go_sem, Int.reduceToNat, Int.reduceLT, Int.reduceLE, Int.reduceBEq, Int.reduceBNe, Nat.reduceLT, Nat.reduceBEq, Int.reduceEq, Nat.reduceEqDiff, Nat.reduceAdd, Nat.reduceSub, Nat.reduceMul, Nat.reduceLeDiff, reduceCtorEq, ↓reduceIte]; done) | (simp -implicitDefEqProofs only [go_sem, Int.reduceToNat, Int.reduceLT, Int.reduceLE, Int.reduceBEq, Int.reduceBNe, Nat.reduceLT, Nat.reduceBEq, Int.reduceEq, Nat.reduceEqDiff, Nat.reduceAdd, Nat.reduceSub, Nat.reduceMul, Nat.reduceLeDiff, reduceCtorEq, ↓reduceIte]; rfl)) rfl (by intro h; first | rfl | cases h)
def glob_matches (n : Nat) (patterns : List ByteArray) (name : ByteArray) : Option Bool :=
  (slices_ContainsFunc_string__glob_matches_c1 n patterns name).bind fun t7 =>
  some t7
theorem glob_matches_ok {n : Nat} {patterns : List ByteArray} {name : ByteArray} {r : Bool} (H : glob_matches n patterns name = some r) : PureOK Try.prog 48 [D.sl (List.map eS patterns), D.v (.string name)] (D.v (.bool r)) true := by
  unfold glob_matches at H
  refine pure_runR (tab := tab) tab_ok Try.func48 rfl (by kernel_rfl) (by kernel_rfl) (by simp [Try.f48]) ?_
  refine runR_take tab_ok fol 1 ?_
  obtain ⟨t7, b1, H2⟩ := bind_inv H
  try simp -implicitDefEqProofs only [go_sem, Nat.reduceEqDiff, Nat.reduceAdd, reduceCtorEq, ↓reduceIte]
  refine onCall_pureA (by first | rfl | (simp -implicitDefEqProofs only [go_sem, Int.reduceToNat, Int.reduceLT, Int.reduceLE, Int.reduceBEq, Int.reduceBNe, Nat.reduceLT, Nat.reduceBEq, Int.reduceEq, Nat.reduceEqDiff, Nat.reduceAdd, Nat.reduceSub, Nat.reduceMul, Nat.reduceLeDiff, reduceCtorEq, ↓reduceIte]; done) | (simp -implicitDefEqProofs only [go_sem, Int.reduceToNat, Int.reduceLT, Int.reduceLE, Int.reduceBEq, Int.reduceBNe, Nat.reduceLT, Nat.reduceBEq, Int.reduceEq, Nat.reduceEqDiff, Nat.reduceAdd, Nat.reduceSub, Nat.reduceMul, Nat.reduceLeDiff, reduceCtorEq, ↓reduceIte]; rfl)) (slices_ContainsFunc_string__glob_matches_c1_ok b1) (by first | exact .inr rfl | exact .inl rfl) ?_
  try simp -implicitDefEqProofs only [go_sem, Nat.reduceAdd, ↓reduceIte]
  obtain rfl := Option.some.inj H2
  exact end_pure (by first | (simp -implicitDefEqProofs only [go_sem, ↓reduceIte, Try.f48] <;> rfl) | rfl) (by first | rfl | (simp -implicitDefEqProofs only [go_sem, Int.reduceToNat, Int.reduceLT, Int.reduceLE, Int.reduceBEq, Int.reduceBNe, Nat.reduceLT, Nat.reduceBEq, Int.reduceEq, Nat.reduceEqDiff, Nat.reduceAdd, Nat.reduceSub, Nat.reduceMul, Nat.reduceLeDiff, reduceCtorEq, ↓reduceIte]; done) | (simp -implicitDefEqProofs only [go_sem, Int.reduceToNat, Int.reduceLT, Int.reduceLE, Int.reduceBEq, Int.reduceBNe, Nat.reduceLT, Nat.reduceBEq, Int.reduceEq, Nat.reduceEqDiff, Nat.reduceAdd, Nat.reduceSub, Nat.reduceMul, Nat.reduceLeDiff, reduceCtorEq, ↓reduceIte]; rfl)) rfl (by intro h; first | rfl | cases h)
def glob_Over_L1 (n : Nat) (patterns : List ByteArray) (names : List ByteArray) : Nat → (List ByteArray × Int) → Option (List ByteArray)
  | 0, _ => none
  | c + 1, (out, t10) =>
    (if (decide (t10 < (names.length : Int))) then
      (idx names t10).bind fun x2 =>
      (glob_matches n patterns x2).bind fun t162 =>
      (if t162 then
        (app out [x2]).bind fun l =>
        glob_Over_L1 n patterns names c (l, (IntKind.i64.wrap (t10 + 1)))
      else
        glob_Over_L1 n patterns names c (out, (IntKind.i64.wrap (t10 + 1))))
    else
      some out)
def glob_Over_L1_f (n : Nat) (patterns : List ByteArray) (_ : List ByteArray) (st : List ByteArray) (x2 : ByteArray) (k : List ByteArray → Option (List ByteArray)) : Option (List ByteArray) :=
  match st with
  | out =>
    (glob_matches n patterns x2).bind fun t162 =>
    (if t162 then
      (app out [x2]).bind fun l =>
      k l
    else
      k out)
def glob_Over_L1_e (_ : Nat) (_ : List ByteArray) (_ : List ByteArray) (st : List ByteArray) : Option (List ByteArray) :=
  match st with
  | out => some out
theorem glob_Over_L1_list (n : Nat) (patterns : List ByteArray) (names : List ByteArray) (hx : names.length < 4611686018427387904) (c : Nat) (st : List ByteArray) (ix : Nat) (hi : ix ≤ names.length) (hc : names.length - ix < c) : glob_Over_L1 n patterns names c (match st, (ix : Int) with | out, ix => (out, ix)) = foldK (glob_Over_L1_f n patterns names) (glob_Over_L1_e n patterns names) (names.drop ix) st :=
  loop_list (fun c st ix => glob_Over_L1 n patterns names c (match st, ix with | out, ix => (out, ix))) names (glob_Over_L1_f n patterns names) (glob_Over_L1_e n patterns names) (fun _ _ _ => rfl) hx c st ix hi hc

def glob_Over (n : Nat) (patterns : List ByteArray) (names : List ByteArray) : Option (List ByteArray) :=
  (
    glob_Over_L1 n patterns names n ([], 0) : Option (List ByteArray)).bind fun out3 =>
  (norm_Once n out3).bind fun t23 =>
  some t23
theorem glob_Over_ok {n : Nat} {patterns : List ByteArray} {names : List ByteArray} {r : List ByteArray} (H : glob_Over n patterns names = some r) : PureOK Try.prog 20 [D.sl (List.map eS patterns), D.sl (List.map eS names)] (D.sl (List.map eS r)) true := by
  unfold glob_Over at H
  refine pure_runR (tab := tab) tab_ok Try.func20 rfl (by kernel_rfl) (by kernel_rfl) (by simp [Try.f20]) ?_
  refine runR_seq ?_
  refine runR_take tab_ok fol 1 ?_
  try simp -implicitDefEqProofs only [go_sem]
  refine runR_seq ?_
  refine runR_take tab_ok fol 1 ?_
  try simp -implicitDefEqProofs only [go_sem, Nat.reduceAdd]
  refine runR_seq ?_
  refine runR_seq ?_
  refine runR_take tab_ok fol 1 ?_
  try simp -implicitDefEqProofs only [go_sem, Nat.reduceEqDiff, Nat.reduceAdd, ↓reduceIte]
  obtain ⟨e_, E1, H2⟩ := bind_inv H
  refine runR_join (α := { y : List ByteArray // e_ = y } × Nat) (fun | ⟨⟨out3, _⟩, g3⟩ => ⟨upd 5 (accV 0 g3 (List.map eS out3)) noFr, upd 0 (accO 1 g3 false (List.map eS out3)) noHp, 1⟩) ?_ ?_
  · refine runR_block ?_
    refine runR_loop (α := { q : (Nat × (List ByteArray × Int)) × Nat // glob_Over_L1 n patterns names q.1.1 q.1.2 = some e_ }) (fun | ⟨⟨⟨c, ⟨out, t10⟩⟩, g⟩, _⟩ => ⟨upd 0 (.d (.sl (List.map eS patterns)) true) (upd 5 (accV 0 g (List.map eS out)) (upd 8 (.d (.sl (List.map eS names)) true) (upd 9 (.v (.int .i64 (names.length : Int))) (upd 10 (.v (.int .i64 t10)) noFr)))), upd 0 (accO 1 g false (List.map eS out)) noHp, 1⟩) (fun q => q.1.1.1) ⟨((n, ([], 0)), 0), E1⟩ ?_ ?_
    · exact ren_mk [] (by rfl) (rf_upd (by rfl) (rf_upd (by rfl) (rf_upd (by rfl) (rf_upd (by rfl) (rf_upd (by rfl) (rf_no _)))))) (rh_upd rh_accN (rh_no _))
    · rintro ⟨⟨⟨c, ⟨out, t10⟩⟩, g⟩, L3⟩
      rcases c with _ | c
      · exact nomatch (show none = some _ from L3)
      · unfold glob_Over_L1 at L3
        try dsimp only at L3
        refine runR_take tab_ok fol 1 ?_
        try simp -implicitDefEqProofs only [go_sem, Nat.reduceEqDiff, Nat.reduceAdd, reduceCtorEq, ↓reduceIte]
        rcases ite_inv L3 with ⟨c16, H17⟩ | ⟨c16, H17⟩
        · obtain ⟨x2, b18, H19⟩ := bind_inv H17
          obtain ⟨h20, h21⟩ := idx_inv b18
          try simp only [Int.reduceToNat, Int.toNat_natCast] at h21
          have h22 := map_at eS h21
          obtain ⟨t162, b24, H25⟩ := bind_inv H19
          try simp -implicitDefEqProofs only [go_sem, Nat.reduceEqDiff, Nat.reduceAdd, reduceCtorEq, ↓reduceIte, c16, nat_of .i64 h20, h22]
          refine onCall_pure (by first | rfl | (simp -implicitDefEqProofs only [go_sem, Int.reduceToNat, Int.reduceLT, Int.reduceLE, Int.reduceBEq, Int.reduceBNe, Nat.reduceLT, Nat.reduceBEq, Int.reduceEq, Nat.reduceEqDiff, Nat.reduceAdd, Nat.reduceSub, Nat.reduceMul, Nat.reduceLeDiff, reduceCtorEq, ↓reduceIte, c16, nat_of .i64 h20, h22]; done) | (simp -implicitDefEqProofs only [go_sem, Int.reduceToNat, Int.reduceLT, Int.reduceLE, Int.reduceBEq, Int.reduceBNe, Nat.reduceLT, Nat.reduceBEq, Int.reduceEq, Nat.reduceEqDiff, Nat.reduceAdd, Nat.reduceSub, Nat.reduceMul, Nat.reduceLeDiff, reduceCtorEq, ↓reduceIte, c16, nat_of .i64 h20, h22]; rfl)) (glob_matches_ok b24) (by first | exact .inr rfl | exact .inl rfl) ?_
          try simp -implicitDefEqProofs only [go_sem, ↓reduceIte]
          rcases ite_inv H25 with ⟨c26, H27⟩ | ⟨c26, H27⟩
          · obtain ⟨l, b28, H29⟩ := bind_inv H27
            obtain ⟨h30, h31⟩ := app_inv b28
            have h30 : out.length + 1 ≤ 4294967296 := h30
            have h32 : List.map eS out ++ [[.v (.string x2)]] = List.map eS l := app_map eS h31
            have h33 : out.length + 1 = l.length := app_len h31
            have h34 : l.length ≤ 4294967296 := by omega
            have q35 : 0 < l.length := by omega
            try simp -implicitDefEqProofs only [go_sem, Nat.reduceLT, Nat.reduceEqDiff, Nat.reduceAdd, Nat.reduceLeDiff, reduceCtorEq, ↓reduceIte, c26, h32, h33, h34]
            rcases out with _ | ⟨q0, q1⟩
            · try simp only [List.map_nil, accI, accN]
              exact ⟨⟨((c, (l, (IntKind.i64.wrap (t10 + 1)))), 0), H29⟩, ren_mk [(0, 11)] (by rfl) (rf_upd (by rfl) (rf_upd (ren_accP (by rfl) q35) (rf_upd (by rfl) (rf_upd (by rfl) (rf_upd (by rfl) (rf_no _)))))) (rh_upd (rh_accP (by rfl) q35 (by rfl)) (rh_no _)), Nat.lt_succ_self _⟩
            · try simp only [List.map_cons, accI, accN]
              exact ⟨⟨((c, (l, (IntKind.i64.wrap (t10 + 1)))), (g + 1)), H29⟩, ren_mk [(0, 0)] (by rfl) (rf_upd (by rfl) (rf_upd (ren_accP (by rfl) q35) (rf_upd (by rfl) (rf_upd (by rfl) (rf_upd (by rfl) (rf_no _)))))) (rh_upd (rh_accP (by rfl) q35 (by rfl)) (rh_no _)), Nat.lt_succ_self _⟩
          · try simp -implicitDefEqProofs only [go_sem, Nat.reduceEqDiff, Nat.reduceAdd, reduceCtorEq, ↓reduceIte, c26]
            exact ⟨⟨((c, (out, (IntKind.i64.wrap (t10 + 1)))), g), H27⟩, ren_mk [(0, 0)] (by rfl) (rf_upd (by rfl) (rf_upd (ren_acc (by rfl)) (rf_upd (by rfl) (rf_upd (by rfl) (rf_upd (by rfl) (rf_no _)))))) (rh_upd (rh_acc (by rfl) (by rfl)) (rh_no _)), Nat.lt_succ_self _⟩
        · try simp -implicitDefEqProofs only [go_sem, ↓reduceIte, c16]
          obtain rfl := Option.some.inj H17
          exact ⟨⟨⟨out, rfl⟩, g⟩, ren_mk [(0, 0)] (by rfl) (rf_upd (ren_acc (by rfl)) (rf_no _)) (rh_upd (rh_acc (by rfl) (by rfl)) (rh_no _))⟩
  · rintro ⟨⟨out3, he38⟩, g3⟩
    replace he38 := he38.symm
    subst he38
    try dsimp only at H2
    refine runR_take tab_ok fol 1 ?_
    obtain ⟨t23, b36, H37⟩ := bind_inv H2
    try simp -implicitDefEqProofs only [go_sem, Nat.reduceAdd, ↓reduceIte]
    refine onCall_pure (by first | rfl | (simp -implicitDefEqProofs only [go_sem, ↓reduceIte]; done) | (simp -implicitDefEqProofs only [go_sem, ↓reduceIte]; rfl)) (norm_Once_ok b36) (by first | exact .inr rfl | exact .inl rfl) ?_
    try simp -implicitDefEqProofs only [go_sem, Nat.reduceAdd, ↓reduceIte]
    obtain rfl := Option.some.inj H37
    exact end_pure (by first | (simp -implicitDefEqProofs only [go_sem, ↓reduceIte, Try.f20] <;> rfl) | rfl) (by first | rfl | (simp -implicitDefEqProofs only [go_sem, Int.reduceToNat, Int.reduceLT, Int.reduceLE, Int.reduceBEq, Int.reduceBNe, Nat.reduceLT, Nat.reduceBEq, Int.reduceEq, Nat.reduceEqDiff, Nat.reduceAdd, Nat.reduceSub, Nat.reduceMul, Nat.reduceLeDiff, reduceCtorEq, ↓reduceIte]; done) | (simp -implicitDefEqProofs only [go_sem, Int.reduceToNat, Int.reduceLT, Int.reduceLE, Int.reduceBEq, Int.reduceBNe, Nat.reduceLT, Nat.reduceBEq, Int.reduceEq, Nat.reduceEqDiff, Nat.reduceAdd, Nat.reduceSub, Nat.reduceMul, Nat.reduceLeDiff, reduceCtorEq, ↓reduceIte]; rfl)) rfl (by intro h; first | rfl | cases h)
def ref1_alnum (_ : Nat) (c2 : Int) : Option Bool :=
  (if (decide (97 ≤ c2)) then
    (if (decide (c2 ≤ 122)) then
      some true
    else
      (if (decide (48 ≤ c2)) then
        some (decide (c2 ≤ 57))
      else
        some false))
  else
    (if (decide (48 ≤ c2)) then
      some (decide (c2 ≤ 57))
    else
      some false))
theorem ref1_alnum_ok {n : Nat} {c2 : Int} {r : Bool} (H : ref1_alnum n c2 = some r) : PureOK Try.prog 77 [D.v (.int .u8 c2)] (D.v (.bool r)) true := by
  unfold ref1_alnum at H
  refine pure_runR (tab := tab) tab_ok Try.func77 rfl (by kernel_rfl) (by kernel_rfl) (by simp [Try.f77]) ?_
  refine runR_take tab_ok fol 1 ?_
  try simp -implicitDefEqProofs only [go_sem, Nat.reduceAdd, reduceCtorEq, ↓reduceIte]
  rcases ite_inv H with ⟨c1, H2⟩ | ⟨c1, H2⟩
  · try simp -implicitDefEqProofs only [go_sem, Nat.reduceEqDiff, Nat.reduceAdd, reduceCtorEq, ↓reduceIte, c1]
    rcases ite_inv H2 with ⟨c3, H4⟩ | ⟨c3, H4⟩
    · try simp -implicitDefEqProofs only [go_sem, Nat.reduceEqDiff, Nat.reduceAdd, ↓reduceIte, c3]
      obtain rfl := Option.some.inj H4
      exact end_pure (by first | (simp -implicitDefEqProofs only [go_sem, ↓reduceIte, Try.f77] <;> rfl) | rfl) (by first | rfl | (simp -implicitDefEqProofs only [go_sem, Int.reduceToNat, Int.reduceLT, Int.reduceLE, Int.reduceBEq, Int.reduceBNe, Nat.reduceLT, Nat.reduceBEq, Int.reduceEq, Nat.reduceEqDiff, Nat.reduceAdd, Nat.reduceSub, Nat.reduceMul, Nat.reduceLeDiff, reduceCtorEq, ↓reduceIte, c1, c3]; done) | (simp -implicitDefEqProofs only [go_sem, Int.reduceToNat, Int.reduceLT, Int.reduceLE, Int.reduceBEq, Int.reduceBNe, Nat.reduceLT, Nat.reduceBEq, Int.reduceEq, Nat.reduceEqDiff, Nat.reduceAdd, Nat.reduceSub, Nat.reduceMul, Nat.reduceLeDiff, reduceCtorEq, ↓reduceIte, c1, c3]; rfl)) rfl (by intro h; first | rfl | cases h)
    · try simp -implicitDefEqProofs only [go_sem, Nat.reduceEqDiff, Nat.reduceAdd, reduceCtorEq, ↓reduceIte, c3]
      rcases ite_inv H4 with ⟨c5, H6⟩ | ⟨c5, H6⟩
      · try simp -implicitDefEqProofs only [go_sem, Nat.reduceEqDiff, Nat.reduceAdd, reduceCtorEq, ↓reduceIte, c5]
        obtain rfl := Option.some.inj H6
        exact end_pure (by first | (simp -implicitDefEqProofs only [go_sem, ↓reduceIte, Try.f77] <;> rfl) | rfl) (by first | rfl | (simp -implicitDefEqProofs only [go_sem, Int.reduceToNat, Int.reduceLT, Int.reduceLE, Int.reduceBEq, Int.reduceBNe, Nat.reduceLT, Nat.reduceBEq, Int.reduceEq, Nat.reduceEqDiff, Nat.reduceAdd, Nat.reduceSub, Nat.reduceMul, Nat.reduceLeDiff, reduceCtorEq, ↓reduceIte, c1, c3, c5]; done) | (simp -implicitDefEqProofs only [go_sem, Int.reduceToNat, Int.reduceLT, Int.reduceLE, Int.reduceBEq, Int.reduceBNe, Nat.reduceLT, Nat.reduceBEq, Int.reduceEq, Nat.reduceEqDiff, Nat.reduceAdd, Nat.reduceSub, Nat.reduceMul, Nat.reduceLeDiff, reduceCtorEq, ↓reduceIte, c1, c3, c5]; rfl)) rfl (by intro h; first | rfl | cases h)
      · try simp -implicitDefEqProofs only [go_sem, Nat.reduceEqDiff, Nat.reduceAdd, ↓reduceIte, c5]
        obtain rfl := Option.some.inj H6
        exact end_pure (by first | (simp -implicitDefEqProofs only [go_sem, ↓reduceIte, Try.f77] <;> rfl) | rfl) (by first | rfl | (simp -implicitDefEqProofs only [go_sem, Int.reduceToNat, Int.reduceLT, Int.reduceLE, Int.reduceBEq, Int.reduceBNe, Nat.reduceLT, Nat.reduceBEq, Int.reduceEq, Nat.reduceEqDiff, Nat.reduceAdd, Nat.reduceSub, Nat.reduceMul, Nat.reduceLeDiff, reduceCtorEq, ↓reduceIte, c1, c3, c5]; done) | (simp -implicitDefEqProofs only [go_sem, Int.reduceToNat, Int.reduceLT, Int.reduceLE, Int.reduceBEq, Int.reduceBNe, Nat.reduceLT, Nat.reduceBEq, Int.reduceEq, Nat.reduceEqDiff, Nat.reduceAdd, Nat.reduceSub, Nat.reduceMul, Nat.reduceLeDiff, reduceCtorEq, ↓reduceIte, c1, c3, c5]; rfl)) rfl (by intro h; first | rfl | cases h)
  · try simp -implicitDefEqProofs only [go_sem, Nat.reduceEqDiff, Nat.reduceAdd, reduceCtorEq, ↓reduceIte, c1]
    rcases ite_inv H2 with ⟨c7, H8⟩ | ⟨c7, H8⟩
    · try simp -implicitDefEqProofs only [go_sem, Nat.reduceEqDiff, Nat.reduceAdd, reduceCtorEq, ↓reduceIte, c7]
      obtain rfl := Option.some.inj H8
      exact end_pure (by first | (simp -implicitDefEqProofs only [go_sem, ↓reduceIte, Try.f77] <;> rfl) | rfl) (by first | rfl | (simp -implicitDefEqProofs only [go_sem, Int.reduceToNat, Int.reduceLT, Int.reduceLE, Int.reduceBEq, Int.reduceBNe, Nat.reduceLT, Nat.reduceBEq, Int.reduceEq, Nat.reduceEqDiff, Nat.reduceAdd, Nat.reduceSub, Nat.reduceMul, Nat.reduceLeDiff, reduceCtorEq, ↓reduceIte, c1, c7]; done) | (simp -implicitDefEqProofs only [go_sem, Int.reduceToNat, Int.reduceLT, Int.reduceLE, Int.reduceBEq, Int.reduceBNe, Nat.reduceLT, Nat.reduceBEq, Int.reduceEq, Nat.reduceEqDiff, Nat.reduceAdd, Nat.reduceSub, Nat.reduceMul, Nat.reduceLeDiff, reduceCtorEq, ↓reduceIte, c1, c7]; rfl)) rfl (by intro h; first | rfl | cases h)
    · try simp -implicitDefEqProofs only [go_sem, Nat.reduceEqDiff, Nat.reduceAdd, ↓reduceIte, c7]
      obtain rfl := Option.some.inj H8
      exact end_pure (by first | (simp -implicitDefEqProofs only [go_sem, ↓reduceIte, Try.f77] <;> rfl) | rfl) (by first | rfl | (simp -implicitDefEqProofs only [go_sem, Int.reduceToNat, Int.reduceLT, Int.reduceLE, Int.reduceBEq, Int.reduceBNe, Nat.reduceLT, Nat.reduceBEq, Int.reduceEq, Nat.reduceEqDiff, Nat.reduceAdd, Nat.reduceSub, Nat.reduceMul, Nat.reduceLeDiff, reduceCtorEq, ↓reduceIte, c1, c7]; done) | (simp -implicitDefEqProofs only [go_sem, Int.reduceToNat, Int.reduceLT, Int.reduceLE, Int.reduceBEq, Int.reduceBNe, Nat.reduceLT, Nat.reduceBEq, Int.reduceEq, Nat.reduceEqDiff, Nat.reduceAdd, Nat.reduceSub, Nat.reduceMul, Nat.reduceLeDiff, reduceCtorEq, ↓reduceIte, c1, c7]; rfl)) rfl (by intro h; first | rfl | cases h)
def ref1_Name_L1 (n : Nat) (s : ByteArray) : Nat → Int → Option ((Unit) ⊕ Bool)
  | 0, _ => none
  | c + 1, i =>
    (if (decide (i < (s.size : Int))) then
      (bidx s i).bind fun ch3 =>
      (ref1_alnum n ch3).bind fun t272 =>
      (if t272 then
        ref1_Name_L1 n s c (IntKind.i64.wrap (i + 1))
      else
        (if (ch3 != 95) then
          (if (ch3 != 45) then
            (if (ch3 != 46) then
              some (.inr false)
            else
              ref1_Name_L1 n s c (IntKind.i64.wrap (i + 1)))
          else
            ref1_Name_L1 n s c (IntKind.i64.wrap (i + 1)))
        else
          ref1_Name_L1 n s c (IntKind.i64.wrap (i + 1))))
    else
      some (.inl ()))

def ref1_Name (n : Nat) (s : ByteArray) : Option Bool :=
  (
    (if (decide ((s.size : Int) < 1)) then
      some true
    else
      (if (decide (30 < (s.size : Int))) then
        some true
      else
        (bidx s 0).bind fun ch =>
        (ref1_alnum n ch).bind fun t15 =>
        some (!t15))) : Option (Bool)).bind fun t17 =>
  (if t17 then
    some false
  else
    (
      ref1_Name_L1 n s n 0 : Option ((Unit) ⊕ Bool)).bind fun
      | .inl _ =>
        some true
      | .inr r => some r)
theorem ref1_Name_ok {n : Nat} {s : ByteArray} {r : Bool} (H : ref1_Name n s = some r) : PureOK Try.prog 52 [D.v (.string s)] (D.v (.bool r)) true := by
  unfold ref1_Name at H
  refine pure_runR (tab := tab) tab_ok Try.func52 rfl (by kernel_rfl) (by kernel_rfl) (by simp [Try.f52]) ?_
  refine runR_seq ?_
  refine runR_take tab_ok fol 1 ?_
  try simp -implicitDefEqProofs only [go_sem]
  refine runR_seq ?_
  refine runR_seq ?_
  obtain ⟨e_, E1, H2⟩ := bind_inv H
  refine runR_join (α := { y : Bool // e_ = y }) (fun | ⟨t17, _⟩ => ⟨upd 0 (.v (.string s)) (upd 17 (.v (.bool t17)) noFr), noHp, 0⟩) ?_ ?_
  · refine runR_take tab_ok fol 1 ?_
    try simp -implicitDefEqProofs only [go_sem, Nat.reduceAdd, reduceCtorEq, ↓reduceIte]
    rcases ite_inv E1 with ⟨c3, H4⟩ | ⟨c3, H4⟩
    · try simp -implicitDefEqProofs only [go_sem, Nat.reduceEqDiff, Nat.reduceAdd, ↓reduceIte, c3]
      obtain rfl := Option.some.inj H4
      exact ⟨⟨true, rfl⟩, ren_mk [] (by rfl) (rf_upd (by rfl) (rf_upd (by rfl) (rf_no _))) (rh_no _)⟩
    · try simp -implicitDefEqProofs only [go_sem, Nat.reduceEqDiff, Nat.reduceAdd, reduceCtorEq, ↓reduceIte, c3]
      rcases ite_inv H4 with ⟨c5, H6⟩ | ⟨c5, H6⟩
      · try simp -implicitDefEqProofs only [go_sem, Nat.reduceEqDiff, Nat.reduceAdd, ↓reduceIte, c5]
        obtain rfl := Option.some.inj H6
        exact ⟨⟨true, rfl⟩, ren_mk [] (by rfl) (rf_upd (by rfl) (rf_upd (by rfl) (rf_no _))) (rh_no _)⟩
      · obtain ⟨ch, b7, H8⟩ := bind_inv H6
        obtain ⟨h9, by_, h10, h11⟩ := bidx_inv b7
        try simp only [Int.reduceToNat] at h10
        obtain ⟨t15, b12, H13⟩ := bind_inv H8
        try simp -implicitDefEqProofs only [go_sem, Int.reduceToNat, Nat.reduceEqDiff, Nat.reduceAdd, reduceCtorEq, ↓reduceIte, c5, nat_of .i64 h9, h10, h11.symm]
        refine onCall_pure (by first | rfl | (simp -implicitDefEqProofs only [go_sem, Int.reduceToNat, Int.reduceLT, Int.reduceLE, Int.reduceBEq, Int.reduceBNe, Nat.reduceLT, Nat.reduceBEq, Int.reduceEq, Nat.reduceEqDiff, Nat.reduceAdd, Nat.reduceSub, Nat.reduceMul, Nat.reduceLeDiff, reduceCtorEq, ↓reduceIte, c3, c5, nat_of .i64 h9, h10, h11.symm]; done) | (simp -implicitDefEqProofs only [go_sem, Int.reduceToNat, Int.reduceLT, Int.reduceLE, Int.reduceBEq, Int.reduceBNe, Nat.reduceLT, Nat.reduceBEq, Int.reduceEq, Nat.reduceEqDiff, Nat.reduceAdd, Nat.reduceSub, Nat.reduceMul, Nat.reduceLeDiff, reduceCtorEq, ↓reduceIte, c3, c5, nat_of .i64 h9, h10, h11.symm]; rfl)) (ref1_alnum_ok b12) (by first | exact .inr rfl | exact .inl rfl) ?_
        try simp -implicitDefEqProofs only [go_sem, Nat.reduceEqDiff, Nat.reduceAdd, ↓reduceIte]
        obtain rfl := Option.some.inj H13
        exact ⟨⟨(!t15), rfl⟩, ren_mk [] (by rfl) (rf_upd (by rfl) (rf_upd (by rfl) (rf_no _))) (rh_no _)⟩
  · rintro ⟨t17, he54⟩
    replace he54 := he54.symm
    subst he54
    try dsimp only at H2
    refine runR_take tab_ok fol 1 ?_
    try simp -implicitDefEqProofs only [go_sem, reduceCtorEq, ↓reduceIte]
    rcases ite_inv H2 with ⟨c14, H15⟩ | ⟨c14, H15⟩
    · try simp -implicitDefEqProofs only [go_sem, c14]
      obtain rfl := Option.some.inj H15
      exact end_pure (by first | (simp -implicitDefEqProofs only [go_sem, ↓reduceIte, Try.f52] <;> rfl) | rfl) (by first | rfl | (simp -implicitDefEqProofs only [go_sem, Int.reduceToNat, Int.reduceLT, Int.reduceLE, Int.reduceBEq, Int.reduceBNe, Nat.reduceLT, Nat.reduceBEq, Int.reduceEq, Nat.reduceEqDiff, Nat.reduceAdd, Nat.reduceSub, Nat.reduceMul, Nat.reduceLeDiff, reduceCtorEq, ↓reduceIte, c14]; done) | (simp -implicitDefEqProofs only [go_sem, Int.reduceToNat, Int.reduceLT, Int.reduceLE, Int.reduceBEq, Int.reduceBNe, Nat.reduceLT, Nat.reduceBEq, Int.reduceEq, Nat.reduceEqDiff, Nat.reduceAdd, Nat.reduceSub, Nat.reduceMul, Nat.reduceLeDiff, reduceCtorEq, ↓reduceIte, c14]; rfl)) rfl (by intro h; first | rfl | cases h)
    · try simp -implicitDefEqProofs only [go_sem, c14]
      refine runR_seq ?_
      refine runR_seq ?_
      refine runR_take tab_ok fol 1 ?_
      try simp -implicitDefEqProofs only [go_sem]
      obtain ⟨e_2, E16, H17⟩ := bind_inv H15
      refine runR_join (α := { y : Unit // e_2 = .inl y }) (fun | ⟨_, _⟩ => ⟨noFr, noHp, 0⟩) ?_ ?_
      · refine runR_block ?_
        refine runR_loop (α := { q : Nat × Int // ref1_Name_L1 n s q.1 q.2 = some e_2 }) (fun | ⟨⟨c, i⟩, _⟩ => ⟨upd 0 (.v (.string s)) (upd 3 (.v (.int .i64 i)) noFr), noHp, 0⟩) (fun q => q.1.1) ⟨(n, 0), E16⟩ ?_ ?_
        · exact ren_mk [] (by rfl) (rf_upd (by rfl) (rf_upd (by rfl) (rf_no _))) (rh_no _)
        · rintro ⟨⟨c, i⟩, L18⟩
          rcases c with _ | c
          · exact nomatch (show none = some _ from L18)
          · unfold ref1_Name_L1 at L18
            try dsimp only at L18
            refine runR_take tab_ok fol 1 ?_
            try simp -implicitDefEqProofs only [go_sem, Nat.reduceEqDiff, Nat.reduceAdd, reduceCtorEq, ↓reduceIte]
            rcases ite_inv L18 with ⟨c36, H37⟩ | ⟨c36, H37⟩
            · obtain ⟨ch3, b38, H39⟩ := bind_inv H37
              obtain ⟨h40, by_3, h41, h42⟩ := bidx_inv b38
              try simp only [Int.reduceToNat, Int.toNat_natCast] at h41
              obtain ⟨t272, b43, H44⟩ := bind_inv H39
              try simp -implicitDefEqProofs only [go_sem, Nat.reduceEqDiff, Nat.reduceAdd, reduceCtorEq, ↓reduceIte, c36, nat_of .i64 h40, h41, h42.symm]
              refine onCall_pure (by first | rfl | (simp -implicitDefEqProofs only [go_sem, Int.reduceToNat, Int.reduceLT, Int.reduceLE, Int.reduceBEq, Int.reduceBNe, Nat.reduceLT, Nat.reduceBEq, Int.reduceEq, Nat.reduceEqDiff, Nat.reduceAdd, Nat.reduceSub, Nat.reduceMul, Nat.reduceLeDiff, reduceCtorEq, ↓reduceIte, c36, nat_of .i64 h40, h41, h42.symm]; done) | (simp -implicitDefEqProofs only [go_sem, Int.reduceToNat, Int.reduceLT, Int.reduceLE, Int.reduceBEq, Int.reduceBNe, Nat.reduceLT, Nat.reduceBEq, Int.reduceEq, Nat.reduceEqDiff, Nat.reduceAdd, Nat.reduceSub, Nat.reduceMul, Nat.reduceLeDiff, reduceCtorEq, ↓reduceIte, c36, nat_of .i64 h40, h41, h42.symm]; rfl)) (ref1_alnum_ok b43) (by first | exact .inr rfl | exact .inl rfl) ?_
              try simp -implicitDefEqProofs only [go_sem, Nat.reduceAdd, ↓reduceIte]
              rcases ite_inv H44 with ⟨c45, H46⟩ | ⟨c45, H46⟩
              · try simp -implicitDefEqProofs only [go_sem, Nat.reduceEqDiff, Nat.reduceAdd, reduceCtorEq, ↓reduceIte, c45]
                exact ⟨⟨(c, (IntKind.i64.wrap (i + 1))), H46⟩, ren_mk [] (by rfl) (rf_upd (by rfl) (rf_upd (by rfl) (rf_no _))) (rh_no _), Nat.lt_succ_self _⟩
              · try simp -implicitDefEqProofs only [go_sem, Nat.reduceEqDiff, Nat.reduceAdd, reduceCtorEq, ↓reduceIte, nat_of .i64 h40, h41, h42.symm, c45]
                rcases ite_inv H46 with ⟨c47, H48⟩ | ⟨c47, H48⟩
                · try simp -implicitDefEqProofs only [go_sem, Nat.reduceEqDiff, Nat.reduceAdd, reduceCtorEq, ↓reduceIte, nat_of .i64 h40, h41, h42.symm, c47]
                  rcases ite_inv H48 with ⟨c49, H50⟩ | ⟨c49, H50⟩
                  · try simp -implicitDefEqProofs only [go_sem, Nat.reduceEqDiff, Nat.reduceAdd, reduceCtorEq, ↓reduceIte, nat_of .i64 h40, h41, h42.symm, c49]
                    rcases ite_inv H50 with ⟨c51, H52⟩ | ⟨c51, H52⟩
                    · try simp -implicitDefEqProofs only [go_sem, Nat.reduceAdd, c51]
                      obtain rfl := Option.some.inj H52
                      obtain rfl := Option.some.inj H17
                      exact end_pure (by first | (simp -implicitDefEqProofs only [go_sem, ↓reduceIte, Try.f52] <;> rfl) | rfl) (by first | rfl | (simp -implicitDefEqProofs only [go_sem, Int.reduceToNat, Int.reduceLT, Int.reduceLE, Int.reduceBEq, Int.reduceBNe, Nat.reduceLT, Nat.reduceBEq, Int.reduceEq, Nat.reduceEqDiff, Nat.reduceAdd, Nat.reduceSub, Nat.reduceMul, Nat.reduceLeDiff, reduceCtorEq, ↓reduceIte, c36, nat_of .i64 h40, h41, h42.symm, c45, c47, c49, c51]; done) | (simp -implicitDefEqProofs only [go_sem, Int.reduceToNat, Int.reduceLT, Int.reduceLE, Int.reduceBEq, Int.reduceBNe, Nat.reduceLT, Nat.reduceBEq, Int.reduceEq, Nat.reduceEqDiff, Nat.reduceAdd, Nat.reduceSub, Nat.reduceMul, Nat.reduceLeDiff, reduceCtorEq, ↓reduceIte, c36, nat_of .i64 h40, h41, h42.symm, c45, c47, c49, c51]; rfl)) rfl (by intro h; first | rfl | cases h)
                    · try simp -implicitDefEqProofs only [go_sem, Nat.reduceEqDiff, Nat.reduceAdd, reduceCtorEq, ↓reduceIte, c51]
                      exact ⟨⟨(c, (IntKind.i64.wrap (i + 1))), H52⟩, ren_mk [] (by rfl) (rf_upd (by rfl) (rf_upd (by rfl) (rf_no _))) (rh_no _), Nat.lt_succ_self _⟩
                  · try simp -implicitDefEqProofs only [go_sem, Nat.reduceEqDiff, Nat.reduceAdd, reduceCtorEq, ↓reduceIte, c49]
                    exact ⟨⟨(c, (IntKind.i64.wrap (i + 1))), H50⟩, ren_mk [] (by rfl) (rf_upd (by rfl) (rf_upd (by rfl) (rf_no _))) (rh_no _), Nat.lt_succ_self _⟩
                · try simp -implicitDefEqProofs only [go_sem, Nat.reduceEqDiff, Nat.reduceAdd, reduceCtorEq, ↓reduceIte, c47]
                  exact ⟨⟨(c, (IntKind.i64.wrap (i + 1))), H48⟩, ren_mk [] (by rfl) (rf_upd (by rfl) (rf_upd (by rfl) (rf_no _))) (rh_no _), Nat.lt_succ_self _⟩
            · try simp -implicitDefEqProofs only [go_sem, ↓reduceIte, c36]
              obtain rfl := Option.some.inj H37
              exact ⟨⟨(), rfl⟩, ren_mk [] (by rfl) (rf_no _) (rh_no _)⟩
      · rintro ⟨_, he53⟩
        replace he53 := he53.symm
        subst he53
        try dsimp only at H17
        refine runR_take tab_ok fol 1 ?_
        try simp -implicitDefEqProofs only [go_sem]
        obtain rfl := Option.some.inj H17
        exact end_pure (by first | (simp -implicitDefEqProofs only [go_sem, ↓reduceIte, Try.f52] <;> rfl) | rfl) (by first | rfl | (simp -implicitDefEqProofs only [go_sem, Int.reduceToNat, Int.reduceLT, Int.reduceLE, Int.reduceBEq, Int.reduceBNe, Nat.reduceLT, Nat.reduceBEq, Int.reduceEq, Nat.reduceEqDiff, Nat.reduceAdd, Nat.reduceSub, Nat.reduceMul, Nat.reduceLeDiff, reduceCtorEq, ↓reduceIte]; done) | (simp -implicitDefEqProofs only [go_sem, Int.reduceToNat, Int.reduceLT, Int.reduceLE, Int.reduceBEq, Int.reduceBNe, Nat.reduceLT, Nat.reduceBEq, Int.reduceEq, Nat.reduceEqDiff, Nat.reduceAdd, Nat.reduceSub, Nat.reduceMul, Nat.reduceLeDiff, reduceCtorEq, ↓reduceIte]; rfl)) rfl (by intro h; first | rfl | cases h)
def law1_Tame_L1 (n : Nat) (s : ByteArray) : Nat → (ByteArray × Int) → Option (ByteArray)
  | 0, _ => none
  | c + 1, (t, i) =>
    (
      (if (decide (i < (s.size : Int))) then
        some (decide ((t.size : Int) < 12))
      else
        some false) : Option (Bool)).bind fun t132 =>
    (if t132 then
      (bslc s i (IntKind.i64.wrap (i + 1))).bind fun s4 =>
      (cat ({ data := #[110] }) s4).bind fun s5 =>
      (ref1_Name n s5).bind fun t222 =>
      (if t222 then
        (cat t s4).bind fun s6 =>
        law1_Tame_L1 n s c (s6, (IntKind.i64.wrap (i + 1)))
      else
        law1_Tame_L1 n s c (t, (IntKind.i64.wrap (i + 1))))
    else
      some t)

def law1_Tame (n : Nat) (s : ByteArray) : Option ByteArray :=
  (
    law1_Tame_L1 n s n ({ data := #[110] }, 0) : Option (ByteArray)).bind fun t3 =>
  some t3
theorem law1_Tame_ok {n : Nat} {s : ByteArray} {r : ByteArray} (H : law1_Tame n s = some r) : PureOK Try.prog 24 [D.v (.string s)] (D.v (.string r)) true := by
  unfold law1_Tame at H
  refine pure_runR (tab := tab) tab_ok Try.func24 rfl (by kernel_rfl) (by kernel_rfl) (by simp [Try.f24]) ?_
  refine runR_seq ?_
  refine runR_take tab_ok fol 1 ?_
  try simp -implicitDefEqProofs only [go_sem]
  refine runR_seq ?_
  refine runR_take tab_ok fol 1 ?_
  try simp -implicitDefEqProofs only [go_sem, Nat.reduceAdd]
  refine runR_seq ?_
  refine runR_seq ?_
  refine runR_take tab_ok fol 1 ?_
  try simp -implicitDefEqProofs only [go_sem, Nat.reduceAdd]
  obtain ⟨e_, E1, H2⟩ := bind_inv H
  refine runR_join (α := { y : ByteArray // e_ = y }) (fun | ⟨t3, _⟩ => ⟨upd 3 (.v (.string t3)) noFr, noHp, 0⟩) ?_ ?_
  · refine runR_block ?_
    refine runR_loop (α := { q : Nat × (ByteArray × Int) // law1_Tame_L1 n s q.1 q.2 = some e_ }) (fun | ⟨⟨c, ⟨t, i⟩⟩, _⟩ => ⟨upd 0 (.v (.string s)) (upd 3 (.v (.string t)) (upd 4 (.v (.int .i64 i)) noFr)), noHp, 0⟩) (fun q => q.1.1) ⟨(n, ({ data := #[110] }, 0)), E1⟩ ?_ ?_
    · exact ren_mk [] (by rfl) (rf_upd (by rfl) (rf_upd (by rfl) (rf_upd (by rfl) (rf_no _)))) (rh_no _)
    · rintro ⟨⟨c, ⟨t, i⟩⟩, L3⟩
      rcases c with _ | c
      · exact nomatch (show none = some _ from L3)
      · unfold law1_Tame_L1 at L3
        try dsimp only at L3
        refine runR_seq ?_
        refine runR_seq ?_
        obtain ⟨e_3, E29, H30⟩ := bind_inv L3
        refine runR_join (α := { y : Bool // e_3 = y }) (fun | ⟨t132, _⟩ => ⟨upd 0 (.v (.string s)) (upd 3 (.v (.string t)) (upd 4 (.v (.int .i64 i)) (upd 13 (.v (.bool t132)) noFr))), noHp, 0⟩) ?_ ?_
        · refine runR_take tab_ok fol 1 ?_
          try simp -implicitDefEqProofs only [go_sem, Nat.reduceEqDiff, Nat.reduceAdd, reduceCtorEq, ↓reduceIte]
          rcases ite_inv E29 with ⟨c31, H32⟩ | ⟨c31, H32⟩
          · try simp -implicitDefEqProofs only [go_sem, Nat.reduceEqDiff, Nat.reduceAdd, reduceCtorEq, ↓reduceIte, c31]
            obtain rfl := Option.some.inj H32
            exact ⟨⟨(decide ((t.size : Int) < 12)), rfl⟩, ren_mk [] (by rfl) (rf_upd (by rfl) (rf_upd (by rfl) (rf_upd (by rfl) (rf_upd (by rfl) (rf_no _))))) (rh_no _)⟩
          · try simp -implicitDefEqProofs only [go_sem, Nat.reduceEqDiff, Nat.reduceAdd, ↓reduceIte, c31]
            obtain rfl := Option.some.inj H32
            exact ⟨⟨false, rfl⟩, ren_mk [] (by rfl) (rf_upd (by rfl) (rf_upd (by rfl) (rf_upd (by rfl) (rf_upd (by rfl) (rf_no _))))) (rh_no _)⟩
        · rintro ⟨t132, he57⟩
          replace he57 := he57.symm
          subst he57
          try dsimp only at H30
          refine runR_take tab_ok fol 2 ?_
          try simp -implicitDefEqProofs only [go_sem, Nat.reduceEqDiff, reduceCtorEq, ↓reduceIte]
          rcases ite_inv H30 with ⟨c33, H34⟩ | ⟨c33, H34⟩
          · obtain ⟨s4, b35, H36⟩ := bind_inv H34
            obtain ⟨h37, h38, h39, h40⟩ := bslc_inv b35
            have h41 : Int.toNat i ≤ Int.toNat (IntKind.i64.wrap (i + 1)) := by omega
            have h42 : Int.toNat (IntKind.i64.wrap (i + 1)) ≤ s.size := by omega
            have h43 : ByteArray.extract s (Int.toNat i) (Int.toNat (IntKind.i64.wrap (i + 1))) = s4 := h40.symm
            try simp only [Int.toNat_natCast] at h41 h42 h43
            obtain ⟨s5, b44, H45⟩ := bind_inv H36
            obtain ⟨h46, h47⟩ := cat_inv b44
            have h48 : 1 + s4.size ≤ maxLen := h46
            obtain ⟨t222, b49, H50⟩ := bind_inv H45
            try simp -implicitDefEqProofs only [go_sem, Nat.reduceEqDiff, Nat.reduceAdd, reduceCtorEq, ↓reduceIte, c33, nat_of .i64 h37, nat_of .i64 (Int.le_trans h37 h38), h41, h42, h43, h47, h48]
            refine onCall_pure (by first | rfl | (simp -implicitDefEqProofs only [go_sem, Int.reduceToNat, Int.reduceLT, Int.reduceLE, Int.reduceBEq, Int.reduceBNe, Nat.reduceLT, Nat.reduceBEq, Int.reduceEq, Nat.reduceEqDiff, Nat.reduceAdd, Nat.reduceSub, Nat.reduceMul, Nat.reduceLeDiff, reduceCtorEq, ↓reduceIte, c33, nat_of .i64 h37, nat_of .i64 (Int.le_trans h37 h38), h41, h42, h43, h46, h47, h48]; done) | (simp -implicitDefEqProofs only [go_sem, Int.reduceToNat, Int.reduceLT, Int.reduceLE, Int.reduceBEq, Int.reduceBNe, Nat.reduceLT, Nat.reduceBEq, Int.reduceEq, Nat.reduceEqDiff, Nat.reduceAdd, Nat.reduceSub, Nat.reduceMul, Nat.reduceLeDiff, reduceCtorEq, ↓reduceIte, c33, nat_of .i64 h37, nat_of .i64 (Int.le_trans h37 h38), h41, h42, h43, h46, h47, h48]; rfl)) (ref1_Name_ok b49) (by first | exact .inr rfl | exact .inl rfl) ?_
            try simp -implicitDefEqProofs only [go_sem, ↓reduceIte]
            rcases ite_inv H50 with ⟨c51, H52⟩ | ⟨c51, H52⟩
            · obtain ⟨s6, b53, H54⟩ := bind_inv H52
              obtain ⟨h55, h56⟩ := cat_inv b53
              try simp -implicitDefEqProofs only [go_sem, Nat.reduceEqDiff, Nat.reduceAdd, reduceCtorEq, ↓reduceIte, nat_of .i64 h37, nat_of .i64 (Int.le_trans h37 h38), h41, h42, h43, c51, h55, h56]
              exact ⟨⟨(c, (s6, (IntKind.i64.wrap (i + 1)))), H54⟩, ren_mk [] (by rfl) (rf_upd (by rfl) (rf_upd (by rfl) (rf_upd (by rfl) (rf_no _)))) (rh_no _), Nat.lt_succ_self _⟩
            · try simp -implicitDefEqProofs only [go_sem, Nat.reduceEqDiff, Nat.reduceAdd, reduceCtorEq, ↓reduceIte, c51]
              exact ⟨⟨(c, (t, (IntKind.i64.wrap (i + 1)))), H52⟩, ren_mk [] (by rfl) (rf_upd (by rfl) (rf_upd (by rfl) (rf_upd (by rfl) (rf_no _)))) (rh_no _), Nat.lt_succ_self _⟩
          · try simp -implicitDefEqProofs only [go_sem, ↓reduceIte, c33]
            obtain rfl := Option.some.inj H34
            exact ⟨⟨t, rfl⟩, ren_mk [] (by rfl) (rf_upd (by rfl) (rf_no _)) (rh_no _)⟩
  · rintro ⟨t3, he58⟩
    replace he58 := he58.symm
    subst he58
    try dsimp only at H2
    refine runR_take tab_ok fol 1 ?_
    try simp -implicitDefEqProofs only [go_sem, Nat.reduceAdd, ↓reduceIte]
    obtain rfl := Option.some.inj H2
    exact end_pure (by first | (simp -implicitDefEqProofs only [go_sem, ↓reduceIte, Try.f24] <;> rfl) | rfl) (by first | rfl | (simp -implicitDefEqProofs only [go_sem, Int.reduceToNat, Int.reduceLT, Int.reduceLE, Int.reduceBEq, Int.reduceBNe, Nat.reduceLT, Nat.reduceBEq, Int.reduceEq, Nat.reduceEqDiff, Nat.reduceAdd, Nat.reduceSub, Nat.reduceMul, Nat.reduceLeDiff, reduceCtorEq, ↓reduceIte]; done) | (simp -implicitDefEqProofs only [go_sem, Int.reduceToNat, Int.reduceLT, Int.reduceLE, Int.reduceBEq, Int.reduceBNe, Nat.reduceLT, Nat.reduceBEq, Int.reduceEq, Nat.reduceEqDiff, Nat.reduceAdd, Nat.reduceSub, Nat.reduceMul, Nat.reduceLeDiff, reduceCtorEq, ↓reduceIte]; rfl)) rfl (by intro h; first | rfl | cases h)
def ref1_Texts_L1 (n : Nat) (t19 : List ByteArray) (t25 : List ByteArray) : Nat → (List ByteArray × Int × Int) → Option (List ByteArray)
  | 0, _ => none
  | c + 1, (t5, t6, t7) =>
    (
      (if (decide (t6 < (t19.length : Int))) then
        some (t5, true)
      else
        some (t5, (decide (t7 < (t25.length : Int))))) : Option (List ByteArray × Bool)).bind fun (t52, t352) =>
    (if t352 then
      (
        (if (t7 == (t25.length : Int)) then
          some (t52, true)
        else
          (if (decide (t6 < (t19.length : Int))) then
            (idx t19 t6).bind fun x7 =>
            (idx t25 t7).bind fun x8 =>
            some (t52, (Op.bytesLess x7.toList x8.toList))
          else
            some (t52, false))) : Option (List ByteArray × Bool)).bind fun (t53, t382) =>
      (if t382 then
        (idx t19 t6).bind fun x9 =>
        (app t53 [x9]).bind fun l4 =>
        ref1_Texts_L1 n t19 t25 c (l4, (IntKind.i64.wrap (t6 + 1)), t7)
      else
        (if (t6 == (t19.length : Int)) then
          (idx t25 t7).bind fun x10 =>
          (app t53 [x10]).bind fun l5 =>
          ref1_Texts_L1 n t19 t25 c (l5, t6, (IntKind.i64.wrap (t7 + 1)))
        else
          (idx t25 t7).bind fun x11 =>
          (idx t19 t6).bind fun x12 =>
          (if (Op.bytesLess x11.toList x12.toList) then
            (app t53 [x11]).bind fun l6 =>
            ref1_Texts_L1 n t19 t25 c (l6, t6, (IntKind.i64.wrap (t7 + 1)))
          else
            ref1_Texts_L1 n t19 t25 c (t53, (IntKind.i64.wrap (t6 + 1)), t7))))
    else
      some t52)

def ref1_Texts : Nat → (List ByteArray) → Option (List ByteArray)
  | 0, _ => none
  | n + 1, t0 =>
    (if (decide ((t0.length : Int) < 2)) then
      (app [] t0).bind fun _ =>
      some t0
    else
      (slc t0 0 (IntKind.i64.wrap (Int.tdiv (t0.length : Int) 2))).bind fun l2 =>
      ((ref1_Texts n) l2).bind fun t19 =>
      (slc t0 (IntKind.i64.wrap (Int.tdiv (t0.length : Int) 2)) ((List.length t0) : Int)).bind fun l3 =>
      ((ref1_Texts n) l3).bind fun t25 =>
      (
        ref1_Texts_L1 n t19 t25 n ([], 0, 0) : Option (List ByteArray)).bind fun t55 =>
      some t55)
set_option maxHeartbeats 8000000 in
theorem ref1_Texts_ok : ∀ {n : Nat} {t0 : List ByteArray} {r : List ByteArray}, ref1_Texts n t0 = some r → PureOK Try.prog 25 [D.sl (List.map eS t0)] (D.sl (List.map eS r)) true := by
  intro n
  induction n with
  | zero => intro t0 r H; exact nomatch (show none = some _ from H)
  | succ n ih =>
    intro t0 r H
    unfold ref1_Texts at H
    refine pure_runR (tab := tab) tab_ok Try.func25 rfl (by kernel_rfl) (by kernel_rfl) (by simp [Try.f25]) ?_
    refine runR_seq ?_
    refine runR_take tab_ok fol 1 ?_
    try simp -implicitDefEqProofs only [go_sem]
    refine runR_seq ?_
    refine runR_take tab_ok fol 1 ?_
    try simp -implicitDefEqProofs only [go_sem, Nat.reduceAdd, reduceCtorEq, ↓reduceIte]
    rcases ite_inv H with ⟨c1, H2⟩ | ⟨c1, H2⟩
    · obtain ⟨l, b3, H4⟩ := bind_inv H2
      obtain ⟨h5, h6⟩ := app_inv b3
      have h6 : t0 = l := h6
      subst h6
      have h5 : t0.length ≤ 4294967296 := by have := h5; simpa using this
      try simp -implicitDefEqProofs only [go_sem, Nat.reduceLT, Nat.reduceEqDiff, Nat.reduceAdd, Nat.reduceLeDiff, reduceCtorEq, ↓reduceIte, c1, plainR_map (f := eS) (fun _ => rfl) t0, chk_map (n := 1) (f := eS) (fun _ => rfl) t0, h5, List.take_zero]
      obtain rfl := Option.some.inj H4
      exact end_pure (by first | (simp -implicitDefEqProofs only [go_sem, ↓reduceIte, Try.f25] <;> rfl) | rfl) (by first | rfl | (simp -implicitDefEqProofs only [go_sem, ↓reduceIte]; done) | (simp -implicitDefEqProofs only [go_sem, ↓reduceIte]; rfl)) rfl (by intro h; first | rfl | cases h)
    · try simp -implicitDefEqProofs only [go_sem, c1]
      refine runR_seq ?_
      refine runR_take tab_ok fol 1 ?_
      obtain ⟨l2, b9, H10⟩ := bind_inv H2
      obtain ⟨h11, h12, h13, h14⟩ := slc_inv b9
      have h15 : 0 ≤ Int.toNat (IntKind.i64.wrap (Int.tdiv (t0.length : Int) 2)) := by omega
      have h16 : Int.toNat (IntKind.i64.wrap (Int.tdiv (t0.length : Int) 2)) ≤ (List.length t0) := by omega
      have h17 : List.take (Int.toNat (IntKind.i64.wrap (Int.tdiv (t0.length : Int) 2))) (List.map eS t0) = List.map eS l2 := by rw [h14]; simp [List.map_take]
      try simp only [Int.toNat_natCast] at h15 h16 h17
      obtain ⟨t19, b18, H19⟩ := bind_inv H10
      try simp -implicitDefEqProofs only [go_sem, Int.reduceEq, Nat.reduceEqDiff, Nat.reduceAdd, reduceCtorEq, ↓reduceIte, nat_of .i64 (Int.le_trans h11 h12), h15, h16, h17, chk_map (n := 1) (f := eS) (fun _ => rfl) t0]
      refine onCallD_pure (by first | rfl | (simp -implicitDefEqProofs only [go_sem, Int.reduceToNat, Int.reduceLT, Int.reduceLE, Int.reduceBEq, Int.reduceBNe, Nat.reduceLT, Nat.reduceBEq, Int.reduceEq, Nat.reduceEqDiff, Nat.reduceAdd, Nat.reduceSub, Nat.reduceMul, Nat.reduceLeDiff, reduceCtorEq, ↓reduceIte, c1, nat_of .i64 (Int.le_trans h11 h12), h15, h16, h17, chk_map (n := 1) (f := eS) (fun _ => rfl) t0]; done) | (simp -implicitDefEqProofs only [go_sem, Int.reduceToNat, Int.reduceLT, Int.reduceLE, Int.reduceBEq, Int.reduceBNe, Nat.reduceLT, Nat.reduceBEq, Int.reduceEq, Nat.reduceEqDiff, Nat.reduceAdd, Nat.reduceSub, Nat.reduceMul, Nat.reduceLeDiff, reduceCtorEq, ↓reduceIte, c1, nat_of .i64 (Int.le_trans h11 h12), h15, h16, h17, chk_map (n := 1) (f := eS) (fun _ => rfl) t0]; rfl)) (ih b18) (by first | exact .inr rfl | exact .inl rfl) ?_
      obtain ⟨l3, b20, H21⟩ := bind_inv H19
      obtain ⟨h22, h23, h24, h25⟩ := slc_inv b20
      have h26 : Int.toNat (IntKind.i64.wrap (Int.tdiv (t0.length : Int) 2)) ≤ (List.length t0) := by omega
      have h27 : (List.length t0) ≤ (List.length t0) := by omega
      have h28 : List.drop (Int.toNat (IntKind.i64.wrap (Int.tdiv (t0.length : Int) 2))) (List.map eS t0) = List.map eS l3 := by rw [h25]; simp [List.map_drop]
      try simp only [Int.toNat_natCast] at h26 h27 h28
      obtain ⟨t25, b29, H30⟩ := bind_inv H21
      try simp -implicitDefEqProofs only [go_sem, Int.reduceEq, Nat.reduceEqDiff, Nat.reduceAdd, reduceCtorEq, ↓reduceIte, nat_of .i64 (Int.le_trans h11 h12), h16, h27, h28, chk_map (n := 1) (f := eS) (fun _ => rfl) t0]
      refine onCallD_pure (by first | rfl | (simp -implicitDefEqProofs only [go_sem, Int.reduceToNat, Int.reduceLT, Int.reduceLE, Int.reduceBEq, Int.reduceBNe, Nat.reduceLT, Nat.reduceBEq, Int.reduceEq, Nat.reduceEqDiff, Nat.reduceAdd, Nat.reduceSub, Nat.reduceMul, Nat.reduceLeDiff, reduceCtorEq, ↓reduceIte, c1, nat_of .i64 (Int.le_trans h11 h12), h15, h16, h17, chk_map (n := 1) (f := eS) (fun _ => rfl) t0, nat_of .i64 h22, h26, h27, h28, chk_map (n := 1) (f := eS) (fun _ => rfl) t0]; done) | (simp -implicitDefEqProofs only [go_sem, Int.reduceToNat, Int.reduceLT, Int.reduceLE, Int.reduceBEq, Int.reduceBNe, Nat.reduceLT, Nat.reduceBEq, Int.reduceEq, Nat.reduceEqDiff, Nat.reduceAdd, Nat.reduceSub, Nat.reduceMul, Nat.reduceLeDiff, reduceCtorEq, ↓reduceIte, c1, nat_of .i64 (Int.le_trans h11 h12), h15, h16, h17, chk_map (n := 1) (f := eS) (fun _ => rfl) t0, nat_of .i64 h22, h26, h27, h28, chk_map (n := 1) (f := eS) (fun _ => rfl) t0]; rfl)) (ih b29) (by first | exact .inr rfl | exact .inl rfl) ?_
      try simp -implicitDefEqProofs only [go_sem, Nat.reduceEqDiff, Nat.reduceAdd, ↓reduceIte]
      refine Rd_endF (by rfl) ?_
      try simp -implicitDefEqProofs only [go_sem]
      refine runR_seq ?_
      refine runR_take tab_ok fol 1 ?_
      try simp -implicitDefEqProofs only [go_sem, Nat.reduceAdd]
      refine runR_seq ?_
      refine runR_take tab_ok fol 1 ?_
      try simp -implicitDefEqProofs only [go_sem, Nat.reduceAdd]
      refine runR_seq ?_
      obtain ⟨e_, E31, H32⟩ := bind_inv H30
      refine runR_join (α := { y : List ByteArray // e_ = y } × Nat) (fun | ⟨⟨t55, _⟩, g5⟩ => ⟨upd 5 (accV 0 g5 (List.map eS t55)) noFr, upd 0 (accO 1 g5 false (List.map eS t55)) noHp, 1⟩) ?_ ?_
      · refine runR_block ?_
        refine runR_loop (α := { q : (Nat × (List ByteArray × Int × Int)) × Nat // ref1_Texts_L1 n t19 t25 q.1.1 q.1.2 = some e_ }) (fun | ⟨⟨⟨c, ⟨t5, t6, t7⟩⟩, g⟩, _⟩ => ⟨upd 3 (.d (.sl (List.map eS t19)) false) (upd 4 (.d (.sl (List.map eS t25)) false) (upd 5 (accV 0 g (List.map eS t5)) (upd 6 (.v (.int .i64 t6)) (upd 7 (.v (.int .i64 t7)) noFr)))), upd 0 (accO 1 g false (List.map eS t5)) noHp, 1⟩) (fun q => q.1.1.1) ⟨((n, ([], 0, 0)), 0), E31⟩ ?_ ?_
        · exact ren_mk [] (by rfl) (rf_upd (by rfl) (rf_upd (by rfl) (rf_upd (by rfl) (rf_upd (by rfl) (rf_upd (by rfl) (rf_no _)))))) (rh_upd rh_accN (rh_no _))
        · rintro ⟨⟨⟨c, ⟨t5, t6, t7⟩⟩, g⟩, L33⟩
          rcases c with _ | c
          · exact nomatch (show none = some _ from L33)
          · unfold ref1_Texts_L1 at L33
            try dsimp only at L33
            refine runR_seq ?_
            refine runR_seq ?_
            obtain ⟨e_4, E90, H91⟩ := bind_inv L33
            refine runR_join (α := { y : List ByteArray × Bool // e_4 = y } × Nat) (fun | ⟨⟨⟨t52, t352⟩, _⟩, g2⟩ => ⟨upd 3 (.d (.sl (List.map eS t19)) false) (upd 4 (.d (.sl (List.map eS t25)) false) (upd 5 (accV 0 g2 (List.map eS t52)) (upd 6 (.v (.int .i64 t6)) (upd 7 (.v (.int .i64 t7)) (upd 35 (.v (.bool t352)) noFr))))), upd 0 (accO 1 g2 false (List.map eS t52)) noHp, 1⟩) ?_ ?_
            · refine runR_take tab_ok fol 1 ?_
              try simp -implicitDefEqProofs only [go_sem, Nat.reduceEqDiff, Nat.reduceAdd, ↓reduceIte]
              rcases ite_inv E90 with ⟨c92, H93⟩ | ⟨c92, H93⟩
              · try simp -implicitDefEqProofs only [go_sem, Nat.reduceEqDiff, Nat.reduceAdd, ↓reduceIte, c92]
                obtain rfl := Option.some.inj H93
                exact ⟨⟨⟨(t5, true), rfl⟩, g⟩, ren_mk [(0, 0)] (by rfl) (rf_upd (by rfl) (rf_upd (by rfl) (rf_upd (ren_acc (by rfl)) (rf_upd (by rfl) (rf_upd (by rfl) (rf_upd (by rfl) (rf_no _))))))) (rh_upd (rh_acc (by rfl) (by rfl)) (rh_no _))⟩
              · try simp -implicitDefEqProofs only [go_sem, Nat.reduceEqDiff, Nat.reduceAdd, ↓reduceIte, c92]
                obtain rfl := Option.some.inj H93
                exact ⟨⟨⟨(t5, (decide (t7 < (t25.length : Int)))), rfl⟩, g⟩, ren_mk [(0, 0)] (by rfl) (rf_upd (by rfl) (rf_upd (by rfl) (rf_upd (ren_acc (by rfl)) (rf_upd (by rfl) (rf_upd (by rfl) (rf_upd (by rfl) (rf_no _))))))) (rh_upd (rh_acc (by rfl) (by rfl)) (rh_no _))⟩
            · rintro ⟨⟨⟨t52, t352⟩, he169⟩, g2⟩
              replace he169 := he169.symm
              subst he169
              try dsimp only at H91
              refine runR_take tab_ok fol 1 ?_
              try simp -implicitDefEqProofs only [go_sem, Nat.reduceEqDiff, ↓reduceIte]
              rcases ite_inv H91 with ⟨c94, H95⟩ | ⟨c94, H95⟩
              · try simp -implicitDefEqProofs only [go_sem, c94]
                refine runR_block ?_
                refine runR_block ?_
                refine runR_seq ?_
                obtain ⟨e_5, E96, H97⟩ := bind_inv H95
                refine runR_join (α := { y : List ByteArray × Bool // e_5 = y } × Nat) (fun | ⟨⟨⟨t53, t382⟩, _⟩, g3⟩ => ⟨upd 3 (.d (.sl (List.map eS t19)) false) (upd 4 (.d (.sl (List.map eS t25)) false) (upd 5 (accV 0 g3 (List.map eS t53)) (upd 6 (.v (.int .i64 t6)) (upd 7 (.v (.int .i64 t7)) (upd 38 (.v (.bool t382)) noFr))))), upd 0 (accO 1 g3 false (List.map eS t53)) noHp, 1⟩) ?_ ?_
                · refine runR_take tab_ok fol 1 ?_
                  try simp -implicitDefEqProofs only [go_sem, Nat.reduceEqDiff, Nat.reduceAdd, ↓reduceIte]
                  rcases ite_inv E96 with ⟨c98, H99⟩ | ⟨c98, H99⟩
                  · try simp -implicitDefEqProofs only [go_sem, Nat.reduceEqDiff, Nat.reduceAdd, ↓reduceIte, c98]
                    refine Rd_endF (by rfl) ?_
                    try simp -implicitDefEqProofs only [go_sem]
                    obtain rfl := Option.some.inj H99
                    exact ⟨⟨⟨(t52, true), rfl⟩, g2⟩, ren_mk [(0, 0)] (by rfl) (rf_upd (by rfl) (rf_upd (by rfl) (rf_upd (ren_acc (by rfl)) (rf_upd (by rfl) (rf_upd (by rfl) (rf_upd (by rfl) (rf_no _))))))) (rh_upd (rh_acc (by rfl) (by rfl)) (rh_no _))⟩
                  · try simp -implicitDefEqProofs only [go_sem, Nat.reduceEqDiff, Nat.reduceAdd, ↓reduceIte, c98]
                    rcases ite_inv H99 with ⟨c100, H101⟩ | ⟨c100, H101⟩
                    · obtain ⟨x7, b102, H103⟩ := bind_inv H101
                      obtain ⟨h104, h105⟩ := idx_inv b102
                      try simp only [Int.reduceToNat, Int.toNat_natCast] at h105
                      have h106 := map_at eS h105
                      obtain ⟨x8, b108, H109⟩ := bind_inv H103
                      obtain ⟨h110, h111⟩ := idx_inv b108
                      try simp only [Int.reduceToNat, Int.toNat_natCast] at h111
                      have h112 := map_at eS h111
                      try simp -implicitDefEqProofs only [go_sem, Nat.reduceEqDiff, Nat.reduceAdd, ↓reduceIte, c100, nat_of .i64 h104, h106, nat_of .i64 h110, h112]
                      refine Rd_endF (by rfl) ?_
                      try simp -implicitDefEqProofs only [go_sem]
                      obtain rfl := Option.some.inj H109
                      exact ⟨⟨⟨(t52, (Op.bytesLess x7.toList x8.toList)), rfl⟩, g2⟩, ren_mk [(0, 0)] (by rfl) (rf_upd (by rfl) (rf_upd (by rfl) (rf_upd (ren_acc (by rfl)) (rf_upd (by rfl) (rf_upd (by rfl) (rf_upd (by rfl) (rf_no _))))))) (rh_upd (rh_acc (by rfl) (by rfl)) (rh_no _))⟩
                    · try simp -implicitDefEqProofs only [go_sem, Nat.reduceEqDiff, Nat.reduceAdd, ↓reduceIte, c100]
                      refine Rd_endF (by rfl) ?_
                      try simp -implicitDefEqProofs only [go_sem]
                      obtain rfl := Option.some.inj H101
                      exact ⟨⟨⟨(t52, false), rfl⟩, g2⟩, ren_mk [(0, 0)] (by rfl) (rf_upd (by rfl) (rf_upd (by rfl) (rf_upd (ren_acc (by rfl)) (rf_upd (by rfl) (rf_upd (by rfl) (rf_upd (by rfl) (rf_no _))))))) (rh_upd (rh_acc (by rfl) (by rfl)) (rh_no _))⟩
                · rintro ⟨⟨⟨t53, t382⟩, he168⟩, g3⟩
                  replace he168 := he168.symm
                  subst he168
                  try dsimp only at H97
                  refine runR_take tab_ok fol 3 ?_
                  try simp -implicitDefEqProofs only [go_sem, Nat.reduceEqDiff, ↓reduceIte]
                  rcases ite_inv H97 with ⟨c114, H115⟩ | ⟨c114, H115⟩
                  · obtain ⟨x9, b116, H117⟩ := bind_inv H115
                    obtain ⟨h118, h119⟩ := idx_inv b116
                    try simp only [Int.reduceToNat, Int.toNat_natCast] at h119
                    have h120 := map_at eS h119
                    obtain ⟨l4, b122, H123⟩ := bind_inv H117
                    obtain ⟨h124, h125⟩ := app_inv b122
                    have h124 : t53.length + 1 ≤ 4294967296 := h124
                    have h126 : List.map eS t53 ++ [[.v (.string x9)]] = List.map eS l4 := app_map eS h125
                    have h127 : t53.length + 1 = l4.length := app_len h125
                    have h128 : l4.length ≤ 4294967296 := by omega
                    have q129 : 0 < l4.length := by omega
                    try simp -implicitDefEqProofs only [go_sem, Nat.reduceLT, Nat.reduceEqDiff, Nat.reduceAdd, Nat.reduceLeDiff, reduceCtorEq, ↓reduceIte, c114, nat_of .i64 h118, h120, h126, h127, h128]
                    rcases t53 with _ | ⟨q0, q1⟩
                    · try simp only [List.map_nil, accI, accN]
                      exact ⟨⟨((c, (l4, (IntKind.i64.wrap (t6 + 1)), t7)), 0), H123⟩, ren_mk [(0, 7)] (by rfl) (rf_upd (by rfl) (rf_upd (by rfl) (rf_upd (ren_accP (by rfl) q129) (rf_upd (by rfl) (rf_upd (by rfl) (rf_no _)))))) (rh_upd (rh_accP (by rfl) q129 (by rfl)) (rh_no _)), Nat.lt_succ_self _⟩
                    · try simp only [List.map_cons, accI, accN]
                      exact ⟨⟨((c, (l4, (IntKind.i64.wrap (t6 + 1)), t7)), (g3 + 1)), H123⟩, ren_mk [(0, 0)] (by rfl) (rf_upd (by rfl) (rf_upd (by rfl) (rf_upd (ren_accP (by rfl) q129) (rf_upd (by rfl) (rf_upd (by rfl) (rf_no _)))))) (rh_upd (rh_accP (by rfl) q129 (by rfl)) (rh_no _)), Nat.lt_succ_self _⟩
                  · try simp -implicitDefEqProofs only [go_sem, Nat.reduceEqDiff, Nat.reduceAdd, ↓reduceIte, c114]
                    rcases ite_inv H115 with ⟨c130, H131⟩ | ⟨c130, H131⟩
                    · try simp -implicitDefEqProofs only [go_sem, Nat.reduceEqDiff, Nat.reduceAdd, ↓reduceIte, c130]
                      refine Rd_endF (by rfl) ?_
                      obtain ⟨x10, b132, H133⟩ := bind_inv H131
                      obtain ⟨h134, h135⟩ := idx_inv b132
                      try simp only [Int.reduceToNat, Int.toNat_natCast] at h135
                      have h136 := map_at eS h135
                      obtain ⟨l5, b138, H139⟩ := bind_inv H133
                      obtain ⟨h140, h141⟩ := app_inv b138
                      have h140 : t53.length + 1 ≤ 4294967296 := h140
                      have h142 : List.map eS t53 ++ [[.v (.string x10)]] = List.map eS l5 := app_map eS h141
                      have h143 : t53.length + 1 = l5.length := app_len h141
                      have h144 : l5.length ≤ 4294967296 := by omega
                      have q145 : 0 < l5.length := by omega
                      try simp -implicitDefEqProofs only [go_sem, Nat.reduceLT, Nat.reduceEqDiff, Nat.reduceAdd, Nat.reduceLeDiff, reduceCtorEq, ↓reduceIte, nat_of .i64 h134, h136, h142, h143, h144]
                      rcases t53 with _ | ⟨q0, q1⟩
                      · try simp only [List.map_nil, accI, accN]
                        exact ⟨⟨((c, (l5, t6, (IntKind.i64.wrap (t7 + 1)))), 0), H139⟩, ren_mk [(0, 23)] (by rfl) (rf_upd (by rfl) (rf_upd (by rfl) (rf_upd (ren_accP (by rfl) q145) (rf_upd (by rfl) (rf_upd (by rfl) (rf_no _)))))) (rh_upd (rh_accP (by rfl) q145 (by rfl)) (rh_no _)), Nat.lt_succ_self _⟩
                      · try simp only [List.map_cons, accI, accN]
                        exact ⟨⟨((c, (l5, t6, (IntKind.i64.wrap (t7 + 1)))), (g3 + 1)), H139⟩, ren_mk [(0, 0)] (by rfl) (rf_upd (by rfl) (rf_upd (by rfl) (rf_upd (ren_accP (by rfl) q145) (rf_upd (by rfl) (rf_upd (by rfl) (rf_no _)))))) (rh_upd (rh_accP (by rfl) q145 (by rfl)) (rh_no _)), Nat.lt_succ_self _⟩
                    · obtain ⟨x11, b146, H147⟩ := bind_inv H131
                      obtain ⟨h148, h149⟩ := idx_inv b146
                      try simp only [Int.reduceToNat, Int.toNat_natCast] at h149
                      have h150 := map_at eS h149
                      obtain ⟨x12, b152, H153⟩ := bind_inv H147
                      obtain ⟨h154, h155⟩ := idx_inv b152
                      try simp only [Int.reduceToNat, Int.toNat_natCast] at h155
                      have h156 := map_at eS h155
                      try simp -implicitDefEqProofs only [go_sem, Nat.reduceEqDiff, Nat.reduceAdd, ↓reduceIte, c130, nat_of .i64 h148, h150, nat_of .i64 h154, h156]
                      refine Rd_endF (by rfl) ?_
                      try simp -implicitDefEqProofs only [go_sem, ↓reduceIte]
                      rcases ite_inv H153 with ⟨c158, H159⟩ | ⟨c158, H159⟩
                      · obtain ⟨l6, b160, H161⟩ := bind_inv H159
                        obtain ⟨h162, h163⟩ := app_inv b160
                        have h162 : t53.length + 1 ≤ 4294967296 := h162
                        have h164 : List.map eS t53 ++ [[.v (.string x11)]] = List.map eS l6 := app_map eS h163
                        have h165 : t53.length + 1 = l6.length := app_len h163
                        have h166 : l6.length ≤ 4294967296 := by omega
                        have q167 : 0 < l6.length := by omega
                        try simp -implicitDefEqProofs only [go_sem, Nat.reduceLT, Nat.reduceEqDiff, Nat.reduceAdd, Nat.reduceLeDiff, reduceCtorEq, ↓reduceIte, nat_of .i64 h148, h150, c158, h164, h165, h166]
                        rcases t53 with _ | ⟨q0, q1⟩
                        · try simp only [List.map_nil, accI, accN]
                          exact ⟨⟨((c, (l6, t6, (IntKind.i64.wrap (t7 + 1)))), 0), H161⟩, ren_mk [(0, 23)] (by rfl) (rf_upd (by rfl) (rf_upd (by rfl) (rf_upd (ren_accP (by rfl) q167) (rf_upd (by rfl) (rf_upd (by rfl) (rf_no _)))))) (rh_upd (rh_accP (by rfl) q167 (by rfl)) (rh_no _)), Nat.lt_succ_self _⟩
                        · try simp only [List.map_cons, accI, accN]
                          exact ⟨⟨((c, (l6, t6, (IntKind.i64.wrap (t7 + 1)))), (g3 + 1)), H161⟩, ren_mk [(0, 0)] (by rfl) (rf_upd (by rfl) (rf_upd (by rfl) (rf_upd (ren_accP (by rfl) q167) (rf_upd (by rfl) (rf_upd (by rfl) (rf_no _)))))) (rh_upd (rh_accP (by rfl) q167 (by rfl)) (rh_no _)), Nat.lt_succ_self _⟩
                      · try simp -implicitDefEqProofs only [go_sem, Nat.reduceEqDiff, Nat.reduceAdd, ↓reduceIte, c158]
                        exact ⟨⟨((c, (t53, (IntKind.i64.wrap (t6 + 1)), t7)), g3), H159⟩, ren_mk [(0, 0)] (by rfl) (rf_upd (by rfl) (rf_upd (by rfl) (rf_upd (ren_acc (by rfl)) (rf_upd (by rfl) (rf_upd (by rfl) (rf_no _)))))) (rh_upd (rh_acc (by rfl) (by rfl)) (rh_no _)), Nat.lt_succ_self _⟩
              · try simp -implicitDefEqProofs only [go_sem, ↓reduceIte, c94]
                obtain rfl := Option.some.inj H95
                exact ⟨⟨⟨t52, rfl⟩, g2⟩, ren_mk [(0, 0)] (by rfl) (rf_upd (ren_acc (by rfl)) (rf_no _)) (rh_upd (rh_acc (by rfl) (by rfl)) (rh_no _))⟩
      · rintro ⟨⟨t55, he170⟩, g5⟩
        replace he170 := he170.symm
        subst he170
        try dsimp only at H32
        refine runR_take tab_ok fol 1 ?_
        try simp -implicitDefEqProofs only [go_sem, Nat.reduceAdd, ↓reduceIte]
        obtain rfl := Option.some.inj H32
        exact end_pure (by first | (simp -implicitDefEqProofs only [go_sem, ↓reduceIte, Try.f25] <;> rfl) | rfl) (by first | rfl | (simp -implicitDefEqProofs only [go_sem, ↓reduceIte]; done) | (simp -implicitDefEqProofs only [go_sem, ↓reduceIte]; rfl)) rfl (by intro h; first | rfl | cases h)
end Go.Proofs.Ytkkhgdmmbhpckaa.Ab
