/-
  Functions, read off the code.
-/
import Derived.Test.YtdckfddlcmkdlaaRss
import Derived.Test.YtdckfddlcmkdlaaRtc
import Derived.Test.YtdckfddlcmkdlaaSka
namespace Go.Proofs.Ytdckfddlcmkdlaa.Ab
open Go.RowKit
def stor_wrong_c1 (n : Nat) (t : GTuple) : Option Bool :=
  (tupl_Ok n t).bind fun t4 =>
  some (!t4)
theorem stor_wrong_c1_ok {n : Nat} {t : GTuple} {r : Bool} (H : stor_wrong_c1 n t = some r) : PureOK Try.prog 79 [D.ag (eGTuple t)] (D.v (.bool r)) true := by
  unfold stor_wrong_c1 at H
  refine pure_runR (tab := tab) tab_ok Try.func79 rfl (by kernel_rfl) (by kernel_rfl) (by simp [Try.f79]) ?_
  refine runR_take tab_ok fol 1 ?_
  obtain ⟨t4, b1, H2⟩ := bind_inv H
  try simp -implicitDefEqProofs only [go_sem, Nat.reduceEqDiff, Nat.reduceAdd, ↓reduceIte, eGTuple]
  refine onCall_pure (by first | rfl | (simp -implicitDefEqProofs only [go_sem, Int.reduceToNat, Int.reduceLT, Int.reduceLE, Int.reduceBEq, Int.reduceBNe, Nat.reduceLT, Nat.reduceBEq, Int.reduceEq, Nat.reduceEqDiff, Nat.reduceAdd, Nat.reduceSub, Nat.reduceMul, Nat.reduceLeDiff, reduceCtorEq, ↓reduceIte, eGTuple]; done) | (simp -implicitDefEqProofs only [go_sem, Int.reduceToNat, Int.reduceLT, Int.reduceLE, Int.reduceBEq, Int.reduceBNe, Nat.reduceLT, Nat.reduceBEq, Int.reduceEq, Nat.reduceEqDiff, Nat.reduceAdd, Nat.reduceSub, Nat.reduceMul, Nat.reduceLeDiff, reduceCtorEq, ↓reduceIte, eGTuple]; rfl)) (tupl_Ok_ok b1) (by first | exact .inr rfl | exact .inl rfl) ?_
  try simp -implicitDefEqProofs only [go_sem, Nat.reduceAdd, ↓reduceIte]
  obtain rfl := Option.some.inj H2
  exact end_pure (by first | (simp -implicitDefEqProofs only [go_sem, ↓reduceIte, Try.f79] <;> rfl) | rfl) (by first | rfl | (simp -implicitDefEqProofs only [go_sem, Int.reduceToNat, Int.reduceLT, Int.reduceLE, Int.reduceBEq, Int.reduceBNe, Nat.reduceLT, Nat.reduceBEq, Int.reduceEq, Nat.reduceEqDiff, Nat.reduceAdd, Nat.reduceSub, Nat.reduceMul, Nat.reduceLeDiff, reduceCtorEq, ↓reduceIte, eGTuple]; done) | (simp -implicitDefEqProofs only [go_sem, Int.reduceToNat, Int.reduceLT, Int.reduceLE, Int.reduceBEq, Int.reduceBNe, Nat.reduceLT, Nat.reduceBEq, Int.reduceEq, Nat.reduceEqDiff, Nat.reduceAdd, Nat.reduceSub, Nat.reduceMul, Nat.reduceLeDiff, reduceCtorEq, ↓reduceIte, eGTuple]; rfl)) rfl (by intro h; first | rfl | cases h)
def slices_IndexFunc_Tuple__stor_wrong_c1_L1 (n : Nat) (s : List GTuple) : Nat → Int → Option ((Unit) ⊕ Int)
  | 0, _ => none
  | c + 1, t8 =>
    (if (decide (t8 < (s.length : Int))) then
      (idx s t8).bind fun x2 =>
      (stor_wrong_c1 n x2).bind fun t162 =>
      (if t162 then
        some (.inr t8)
      else
        slices_IndexFunc_Tuple__stor_wrong_c1_L1 n s c (IntKind.i64.wrap (t8 + 1)))
    else
      some (.inl ()))

def slices_IndexFunc_Tuple__stor_wrong_c1 (n : Nat) (s : List GTuple) : Option Int :=
  (
    slices_IndexFunc_Tuple__stor_wrong_c1_L1 n s n 0 : Option ((Unit) ⊕ Int)).bind fun
    | .inl _ =>
      some (-1)
    | .inr r => some r
theorem slices_IndexFunc_Tuple__stor_wrong_c1_ok {n : Nat} {s : List GTuple} {r : Int} (H : slices_IndexFunc_Tuple__stor_wrong_c1 n s = some r) : PureA Try.prog 81 [.d (D.sl (List.map eGTuple s)), .fn 79 []] (D.v (.int .i64 r)) true := by
  unfold slices_IndexFunc_Tuple__stor_wrong_c1 at H
  refine pureA_runR (tab := tab) tab_ok Try.func81 rfl (by kernel_rfl) (by kernel_rfl) (by simp [Try.f81]) ?_
  refine runR_seq ?_
  refine runR_take tab_ok fol 1 ?_
  try simp -implicitDefEqProofs only [go_sem]
  refine runR_seq ?_
  refine runR_seq ?_
  refine runR_take tab_ok fol 1 ?_
  try simp -implicitDefEqProofs only [go_sem, Nat.reduceAdd, reduceCtorEq, ↓reduceIte]
  obtain ⟨e_, E1, H2⟩ := bind_inv H
  refine runR_join (α := { y : Unit // e_ = .inl y }) (fun | ⟨_, _⟩ => ⟨noFr, noHp, 0⟩) ?_ ?_
  · refine runR_block ?_
    refine runR_loop (α := { q : Nat × Int // slices_IndexFunc_Tuple__stor_wrong_c1_L1 n s q.1 q.2 = some e_ }) (fun | ⟨⟨c, t8⟩, _⟩ => ⟨upd 0 (.d (.sl (List.map eGTuple s)) true) (upd 1 (.fn 79 []) (upd 7 (.v (.int .i64 (s.length : Int))) (upd 8 (.v (.int .i64 t8)) noFr))), noHp, 0⟩) (fun q => q.1.1) ⟨(n, 0), E1⟩ ?_ ?_
    · exact ren_mk [] (by rfl) (rf_upd (by rfl) (rf_upd (by rfl) (rf_upd (by rfl) (rf_upd (by rfl) (rf_no _))))) (rh_no _)
    · rintro ⟨⟨c, t8⟩, L3⟩
      rcases c with _ | c
      · exact nomatch (show none = some _ from L3)
      · unfold slices_IndexFunc_Tuple__stor_wrong_c1_L1 at L3
        try dsimp only at L3
        refine runR_take tab_ok fol 1 ?_
        try simp -implicitDefEqProofs only [go_sem, Nat.reduceEqDiff, reduceCtorEq, ↓reduceIte]
        rcases ite_inv L3 with ⟨c16, H17⟩ | ⟨c16, H17⟩
        · obtain ⟨x2, b18, H19⟩ := bind_inv H17
          obtain ⟨h20, h21⟩ := idx_inv b18
          try simp only [Int.reduceToNat, Int.toNat_natCast] at h21
          have h22 := map_at eGTuple h21
          obtain ⟨t162, b24, H25⟩ := bind_inv H19
          try simp -implicitDefEqProofs only [go_sem, Nat.reduceEqDiff, Nat.reduceAdd, reduceCtorEq, ↓reduceIte, eGTuple, c16, nat_of .i64 h20, h22]
          refine onCall_pure (by first | rfl | (simp -implicitDefEqProofs only [go_sem, Int.reduceToNat, Int.reduceLT, Int.reduceLE, Int.reduceBEq, Int.reduceBNe, Nat.reduceLT, Nat.reduceBEq, Int.reduceEq, Nat.reduceEqDiff, Nat.reduceAdd, Nat.reduceSub, Nat.reduceMul, Nat.reduceLeDiff, reduceCtorEq, ↓reduceIte, eGTuple, c16, nat_of .i64 h20, h22]; done) | (simp -implicitDefEqProofs only [go_sem, Int.reduceToNat, Int.reduceLT, Int.reduceLE, Int.reduceBEq, Int.reduceBNe, Nat.reduceLT, Nat.reduceBEq, Int.reduceEq, Nat.reduceEqDiff, Nat.reduceAdd, Nat.reduceSub, Nat.reduceMul, Nat.reduceLeDiff, reduceCtorEq, ↓reduceIte, eGTuple, c16, nat_of .i64 h20, h22]; rfl)) (stor_wrong_c1_ok b24) (by first | exact .inr rfl | exact .inl rfl) ?_
          try simp -implicitDefEqProofs only [go_sem, ↓reduceIte]
          rcases ite_inv H25 with ⟨c26, H27⟩ | ⟨c26, H27⟩
          · try simp -implicitDefEqProofs only [go_sem, Nat.reduceEqDiff, Nat.reduceAdd, ↓reduceIte, c26]
            obtain rfl := Option.some.inj H27
            obtain rfl := Option.some.inj H2
            exact end_pure (by first | (simp -implicitDefEqProofs only [go_sem, ↓reduceIte, Try.f81] <;> rfl) | rfl) (by first | rfl | (simp -implicitDefEqProofs only [go_sem, Int.reduceToNat, Int.reduceLT, Int.reduceLE, Int.reduceBEq, Int.reduceBNe, Nat.reduceLT, Nat.reduceBEq, Int.reduceEq, Nat.reduceEqDiff, Nat.reduceAdd, Nat.reduceSub, Nat.reduceMul, Nat.reduceLeDiff, reduceCtorEq, ↓reduceIte, eGTuple, c16, nat_of .i64 h20, h22, c26]; done) | (simp -implicitDefEqProofs only [go_sem, Int.reduceToNat, Int.reduceLT, Int.reduceLE, Int.reduceBEq, Int.reduceBNe, Nat.reduceLT, Nat.reduceBEq, Int.reduceEq, Nat.reduceEqDiff, Nat.reduceAdd, Nat.reduceSub, Nat.reduceMul, Nat.reduceLeDiff, reduceCtorEq, ↓reduceIte, eGTuple, c16, nat_of .i64 h20, h22, c26]; rfl)) rfl (by intro h; first | rfl | cases h)
          · try simp -implicitDefEqProofs only [go_sem, Nat.reduceEqDiff, Nat.reduceAdd, reduceCtorEq, ↓reduceIte, c26]
            exact ⟨⟨(c, (IntKind.i64.wrap (t8 + 1))), H27⟩, ren_mk [] (by rfl) (rf_upd (by rfl) (rf_upd (by rfl) (rf_upd (by rfl) (rf_upd (by rfl) (rf_no _))))) (rh_no _), Nat.lt_succ_self _⟩
        · try simp -implicitDefEqProofs only [go_sem, ↓reduceIte, c16]
          obtain rfl := Option.some.inj H17
          exact ⟨⟨(), rfl⟩, ren_mk [] (by rfl) (rf_no _) (rh_no _)⟩
  · rintro ⟨_, he28⟩
    replace he28 := he28.symm
    subst he28
    try dsimp only at H2
    refine runR_take tab_ok fol 1 ?_
    try simp -implicitDefEqProofs only [go_sem]
    obtain rfl := Option.some.inj H2
    exact end_pure (by first | (simp -implicitDefEqProofs only [go_sem, ↓reduceIte, Try.f81] <;> rfl) | rfl) (by first | rfl | (simp -implicitDefEqProofs only [go_sem, Int.reduceToNat, Int.reduceLT, Int.reduceLE, Int.reduceBEq, Int.reduceBNe, Nat.reduceLT, Nat.reduceBEq, Int.reduceEq, Nat.reduceEqDiff, Nat.reduceAdd, Nat.reduceSub, Nat.reduceMul, Nat.reduceLeDiff, reduceCtorEq, ↓reduceIte, eGTuple]; done) | (simp -implicitDefEqProofs only [go_sem, Int.reduceToNat, Int.reduceLT, Int.reduceLE, Int.reduceBEq, Int.reduceBNe, Nat.reduceLT, Nat.reduceBEq, Int.reduceEq, Nat.reduceEqDiff, Nat.reduceAdd, Nat.reduceSub, Nat.reduceMul, Nat.reduceLeDiff, reduceCtorEq, ↓reduceIte, eGTuple]; rfl)) rfl (by intro h; first | rfl | cases h)
def slices_ContainsFunc_Tuple__stor_wrong_c1 (n : Nat) (s : List GTuple) : Option Bool :=
  (slices_IndexFunc_Tuple__stor_wrong_c1 n s).bind fun t7 =>
  some (decide (0 ≤ t7))
theorem slices_ContainsFunc_Tuple__stor_wrong_c1_ok {n : Nat} {s : List GTuple} {r : Bool} (H : slices_ContainsFunc_Tuple__stor_wrong_c1 n s = some r) : PureA Try.prog 67 [.d (D.sl (List.map eGTuple s)), .fn 79 []] (D.v (.bool r)) true := by
  unfold slices_ContainsFunc_Tuple__stor_wrong_c1 at H
  refine pureA_runR (tab := tab) tab_ok Try.func67 rfl (by kernel_rfl) (by kernel_rfl) (by simp [Try.f67]) ?_
  refine runR_take tab_ok fol 1 ?_
  obtain ⟨t7, b1, H2⟩ := bind_inv H
  try simp -implicitDefEqProofs only [go_sem, Nat.reduceEqDiff, Nat.reduceAdd, reduceCtorEq, ↓reduceIte]
  refine onCall_pureA (by first | rfl | (simp -implicitDefEqProofs only [go_sem, Int.reduceToNat, Int.reduceLT, Int.reduceLE, Int.reduceBEq, Int.reduceBNe, Nat.reduceLT, Nat.reduceBEq, Int.reduceEq, Nat.reduceEqDiff, Nat.reduceAdd, Nat.reduceSub, Nat.reduceMul, Nat.reduceLeDiff, reduceCtorEq, ↓reduceIte, eGTuple]; done) | (simp -implicitDefEqProofs only [go_sem, Int.reduceToNat, Int.reduceLT, Int.reduceLE, Int.reduceBEq, Int.reduceBNe, Nat.reduceLT, Nat.reduceBEq, Int.reduceEq, Nat.reduceEqDiff, Nat.reduceAdd, Nat.reduceSub, Nat.reduceMul, Nat.reduceLeDiff, reduceCtorEq, ↓reduceIte, eGTuple]; rfl)) (slices_IndexFunc_Tuple__stor_wrong_c1_ok b1) (by first | exact .inr rfl | exact .inl rfl) ?_
  try simp -implicitDefEqProofs only [go_sem, Nat.reduceAdd, ↓reduceIte]
  obtain rfl := Option.some.inj H2
  exact end_pure (by first | (simp -implicitDefEqProofs only [go_sem, ↓reduceIte, Try.f67] <;> rfl) | rfl) (by first | rfl | (simp -implicitDefEqProofs only [go_sem, Int.reduceToNat, Int.reduceLT, Int.reduceLE, Int.reduceBEq, Int.reduceBNe, Nat.reduceLT, Nat.reduceBEq, Int.reduceEq, Nat.reduceEqDiff, Nat.reduceAdd, Nat.reduceSub, Nat.reduceMul, Nat.reduceLeDiff, reduceCtorEq, ↓reduceIte, eGTuple]; done) | (simp -implicitDefEqProofs only [go_sem, Int.reduceToNat, Int.reduceLT, Int.reduceLE, Int.reduceBEq, Int.reduceBNe, Nat.reduceLT, Nat.reduceBEq, Int.reduceEq, Nat.reduceEqDiff, Nat.reduceAdd, Nat.reduceSub, Nat.reduceMul, Nat.reduceLeDiff, reduceCtorEq, ↓reduceIte, eGTuple]; rfl)) rfl (by intro h; first | rfl | cases h)
def stor_wrong (n : Nat) (l : List GTuple) : Option Bool :=
  (slices_ContainsFunc_Tuple__stor_wrong_c1 n l).bind fun t4 =>
  some t4
theorem stor_wrong_ok {n : Nat} {l : List GTuple} {r : Bool} (H : stor_wrong n l = some r) : PureOK Try.prog 65 [D.sl (List.map eGTuple l)] (D.v (.bool r)) true := by
  unfold stor_wrong at H
  refine pure_runR (tab := tab) tab_ok Try.func65 rfl (by kernel_rfl) (by kernel_rfl) (by simp [Try.f65]) ?_
  refine runR_take tab_ok fol 1 ?_
  obtain ⟨t4, b1, H2⟩ := bind_inv H
  try simp -implicitDefEqProofs only [go_sem, Nat.reduceAdd, reduceCtorEq, ↓reduceIte]
  refine onCall_pureA (by first | rfl | (simp -implicitDefEqProofs only [go_sem, Int.reduceToNat, Int.reduceLT, Int.reduceLE, Int.reduceBEq, Int.reduceBNe, Nat.reduceLT, Nat.reduceBEq, Int.reduceEq, Nat.reduceEqDiff, Nat.reduceAdd, Nat.reduceSub, Nat.reduceMul, Nat.reduceLeDiff, reduceCtorEq, ↓reduceIte, eGTuple]; done) | (simp -implicitDefEqProofs only [go_sem, Int.reduceToNat, Int.reduceLT, Int.reduceLE, Int.reduceBEq, Int.reduceBNe, Nat.reduceLT, Nat.reduceBEq, Int.reduceEq, Nat.reduceEqDiff, Nat.reduceAdd, Nat.reduceSub, Nat.reduceMul, Nat.reduceLeDiff, reduceCtorEq, ↓reduceIte, eGTuple]; rfl)) (slices_ContainsFunc_Tuple__stor_wrong_c1_ok b1) (by first | exact .inr rfl | exact .inl rfl) ?_
  try simp -implicitDefEqProofs only [go_sem, Nat.reduceAdd, ↓reduceIte]
  obtain rfl := Option.some.inj H2
  exact end_pure (by first | (simp -implicitDefEqProofs only [go_sem, ↓reduceIte, Try.f65] <;> rfl) | rfl) (by first | rfl | (simp -implicitDefEqProofs only [go_sem, Int.reduceToNat, Int.reduceLT, Int.reduceLE, Int.reduceBEq, Int.reduceBNe, Nat.reduceLT, Nat.reduceBEq, Int.reduceEq, Nat.reduceEqDiff, Nat.reduceAdd, Nat.reduceSub, Nat.reduceMul, Nat.reduceLeDiff, reduceCtorEq, ↓reduceIte, eGTuple]; done) | (simp -implicitDefEqProofs only [go_sem, Int.reduceToNat, Int.reduceLT, Int.reduceLE, Int.reduceBEq, Int.reduceBNe, Nat.reduceLT, Nat.reduceBEq, Int.reduceEq, Nat.reduceEqDiff, Nat.reduceAdd, Nat.reduceSub, Nat.reduceMul, Nat.reduceLeDiff, reduceCtorEq, ↓reduceIte, eGTuple]; rfl)) rfl (by intro h; first | rfl | cases h)
def stor_Store_Rev (_ : Nat) (s : StorStore) : Option Int :=
  some (IntKind.i64.wrap ((s.was.length : Int) - 1))
theorem stor_Store_Rev_ok {n : Nat} {s : StorStore} {r : Int} (H : stor_Store_Rev n s = some r) : PureOK Try.prog 30 [D.pt (eStorStore s) 0] (D.v (.int .i64 r)) true := by
  unfold stor_Store_Rev at H
  refine pure_runR (tab := tab) tab_ok Try.func30 rfl (by kernel_rfl) (by kernel_rfl) (by simp [Try.f30]) ?_
  refine runR_take tab_ok fol 1 ?_
  try simp -implicitDefEqProofs only [go_sem, Nat.reduceAdd, reduceCtorEq, ↓reduceIte, eStorStore]
  obtain rfl := Option.some.inj H
  exact end_pure (by first | (simp -implicitDefEqProofs only [go_sem, ↓reduceIte, Try.f30] <;> rfl) | rfl) (by first | rfl | (simp -implicitDefEqProofs only [go_sem, Int.reduceToNat, Int.reduceLT, Int.reduceLE, Int.reduceBEq, Int.reduceBNe, Nat.reduceLT, Nat.reduceBEq, Int.reduceEq, Nat.reduceEqDiff, Nat.reduceAdd, Nat.reduceSub, Nat.reduceMul, Nat.reduceLeDiff, reduceCtorEq, ↓reduceIte, eGTuple, eStorStore]; done) | (simp -implicitDefEqProofs only [go_sem, Int.reduceToNat, Int.reduceLT, Int.reduceLE, Int.reduceBEq, Int.reduceBNe, Nat.reduceLT, Nat.reduceBEq, Int.reduceEq, Nat.reduceEqDiff, Nat.reduceAdd, Nat.reduceSub, Nat.reduceMul, Nat.reduceLeDiff, reduceCtorEq, ↓reduceIte, eGTuple, eStorStore]; rfl)) rfl (by intro h; first | rfl | cases h)
theorem cl55_0 (xs : List GTuple) (h : decide (xs.length = 0) = true) : PureOK Try.prog 55 [.sl (List.map eGTuple xs)] (.sl []) true := by
  rw [List.eq_nil_of_length_eq_zero (of_decide_eq_true h)]
  exact clone_nil tab_ok fol Try.func55 (T := 23) (B := 4) rfl (by kernel_rfl) (by kernel_rfl) (by decide) rfl (by simp only [go_sem]) (by simp only [go_sem]) (by simp only [go_sem]; decide) (by simp only [go_sem]; decide)
theorem cl55_in (xs : List GTuple) (h0 : 0 < xs.length) (hn : xs.length ≤ 4294967296) {b : Bool} {hp : Hp} {nx : Nat} : InlOK Try.prog 55 [.d (.sl (List.map eGTuple xs)) b] hp nx fun v hp2 nx2 => v = .so (nx + 3) 1 0 xs.length ∧ hp2 = upd (nx + 3) (some (.rw (List.map eGTuple xs) 6 1 false false)) hp ∧ nx2 = nx + 7 := by
  have h := clone_map (e := eGTuple) (k := 6) (b := b) (hp := hp) (nx := nx) tab_ok fol Try.func55 (T := 23) (B := 4) rfl (by kernel_rfl) (by kernel_rfl) (by decide) rfl (by simp only [go_sem]) (by simp only [go_sem]) (by simp only [go_sem]) (by decide) (by simp only [go_sem]; decide) (fun _ => rfl) xs h0 hn
  rw [plainR_map (f := eGTuple) (fun _ => rfl), Bool.not_true, Bool.and_false] at h
  exact h
def stor_Store_At (n : Nat) (s : StorStore) (rev : Int) : Option (List GTuple × Bool) :=
  (
    (if (decide (rev < 0)) then
      some true
    else
      (stor_Store_Rev n s).bind fun t11 =>
      some (decide (t11 < rev))) : Option (Bool)).bind fun t13 =>
  (if t13 then
    some ([], false)
  else
    (idx s.was rev).bind fun x =>
    (if (decide (x.length = 0)) then
      some ([], true)
    else
      grd (decide (x.length ≤ 4294967296)) <|
      some (x, true)))
theorem stor_Store_At_ok {n : Nat} {s : StorStore} {rev : Int} {r : List GTuple × Bool} (H : stor_Store_At n s rev = some r) : PureOK Try.prog 34 [D.pt (eStorStore s) 0, D.v (.int .i64 rev)] (D.tu [D.sl (List.map eGTuple r.1), D.v (.bool r.2)]) true := by
  unfold stor_Store_At at H
  refine pure_runR (tab := tab) tab_ok Try.func34 rfl (by kernel_rfl) (by kernel_rfl) (by simp [Try.f34]) ?_
  refine runR_seq ?_
  refine runR_take tab_ok fol 1 ?_
  try simp -implicitDefEqProofs only [go_sem, Nat.reduceAdd, eStorStore]
  refine runR_seq ?_
  refine runR_seq ?_
  obtain ⟨e_, E1, H2⟩ := bind_inv H
  refine runR_join (α := { y : Bool // e_ = y }) (fun | ⟨t13, _⟩ => ⟨upd 0 (.d (.pt [.v (.int .i64 s.most), .sl (List.map (eL eGTuple) s.was)] 0) true) (upd 1 (.v (.int .i64 rev)) (upd 13 (.v (.bool t13)) noFr)), noHp, 0⟩) ?_ ?_
  · refine runR_take tab_ok fol 1 ?_
    try simp -implicitDefEqProofs only [go_sem, Nat.reduceEqDiff, Nat.reduceAdd, ↓reduceIte]
    rcases ite_inv E1 with ⟨c3, H4⟩ | ⟨c3, H4⟩
    · try simp -implicitDefEqProofs only [go_sem, Nat.reduceEqDiff, Nat.reduceAdd, ↓reduceIte, c3]
      obtain rfl := Option.some.inj H4
      exact ⟨⟨true, rfl⟩, ren_mk [] (by rfl) (rf_upd (by rfl) (rf_upd (by rfl) (rf_upd (by rfl) (rf_no _)))) (rh_no _)⟩
    · obtain ⟨t11, b5, H6⟩ := bind_inv H4
      try simp -implicitDefEqProofs only [go_sem, Nat.reduceEqDiff, Nat.reduceAdd, reduceCtorEq, ↓reduceIte, c3]
      refine onCall_pure (by first | rfl | (simp -implicitDefEqProofs only [go_sem, Int.reduceToNat, Int.reduceLT, Int.reduceLE, Int.reduceBEq, Int.reduceBNe, Nat.reduceLT, Nat.reduceBEq, Int.reduceEq, Nat.reduceEqDiff, Nat.reduceAdd, Nat.reduceSub, Nat.reduceMul, Nat.reduceLeDiff, reduceCtorEq, ↓reduceIte, eGTuple, eStorStore, c3]; done) | (simp -implicitDefEqProofs only [go_sem, Int.reduceToNat, Int.reduceLT, Int.reduceLE, Int.reduceBEq, Int.reduceBNe, Nat.reduceLT, Nat.reduceBEq, Int.reduceEq, Nat.reduceEqDiff, Nat.reduceAdd, Nat.reduceSub, Nat.reduceMul, Nat.reduceLeDiff, reduceCtorEq, ↓reduceIte, eGTuple, eStorStore, c3]; rfl)) (stor_Store_Rev_ok b5) (by first | exact .inr rfl | exact .inl rfl) ?_
      try simp -implicitDefEqProofs only [go_sem, Nat.reduceEqDiff, Nat.reduceAdd, ↓reduceIte]
      obtain rfl := Option.some.inj H6
      exact ⟨⟨(decide (t11 < rev)), rfl⟩, ren_mk [] (by rfl) (rf_upd (by rfl) (rf_upd (by rfl) (rf_upd (by rfl) (rf_no _)))) (rh_no _)⟩
  · rintro ⟨t13, he24⟩
    replace he24 := he24.symm
    subst he24
    try dsimp only at H2
    refine runR_take tab_ok fol 2 ?_
    try simp -implicitDefEqProofs only [go_sem, Nat.reduceEqDiff, reduceCtorEq, ↓reduceIte]
    rcases ite_inv H2 with ⟨c7, H8⟩ | ⟨c7, H8⟩
    · try simp -implicitDefEqProofs only [go_sem, Nat.reduceAdd, c7]
      obtain rfl := Option.some.inj H8
      exact end_pure (by first | (simp -implicitDefEqProofs only [go_sem, Nat.reduceEqDiff, ↓reduceIte, Try.f34] <;> rfl) | rfl) (by first | rfl | (simp -implicitDefEqProofs only [go_sem, Int.reduceToNat, Int.reduceLT, Int.reduceLE, Int.reduceBEq, Int.reduceBNe, Nat.reduceLT, Nat.reduceBEq, Int.reduceEq, Nat.reduceEqDiff, Nat.reduceAdd, Nat.reduceSub, Nat.reduceMul, Nat.reduceLeDiff, reduceCtorEq, ↓reduceIte, eGTuple, eStorStore, c7]; done) | (simp -implicitDefEqProofs only [go_sem, Int.reduceToNat, Int.reduceLT, Int.reduceLE, Int.reduceBEq, Int.reduceBNe, Nat.reduceLT, Nat.reduceBEq, Int.reduceEq, Nat.reduceEqDiff, Nat.reduceAdd, Nat.reduceSub, Nat.reduceMul, Nat.reduceLeDiff, reduceCtorEq, ↓reduceIte, eGTuple, eStorStore, c7]; rfl)) rfl (by intro h; first | rfl | cases h)
    · obtain ⟨x, b9, H10⟩ := bind_inv H8
      obtain ⟨h11, h12⟩ := idx_inv b9
      try simp only [Int.reduceToNat, Int.toNat_natCast] at h12
      have h13 := map_at (eL eGTuple) h12
      try simp -implicitDefEqProofs only [go_sem, Nat.reduceEqDiff, Nat.reduceAdd, reduceCtorEq, ↓reduceIte, c7, nat_of .i64 h11, h13]
      rcases ite_inv H10 with ⟨c15, H16⟩ | ⟨c15, H16⟩
      · try simp -implicitDefEqProofs only [go_sem, Int.reduceToNat, Int.reduceLT, Int.reduceLE, Int.reduceBEq, Int.reduceBNe, Nat.reduceLT, Nat.reduceBEq, Int.reduceEq, Nat.reduceEqDiff, Nat.reduceAdd, Nat.reduceSub, Nat.reduceMul, Nat.reduceLeDiff, reduceCtorEq, ↓reduceIte, eGTuple, eStorStore, c7, nat_of .i64 h11, h13, c15]
        refine onCall_pure (by first | rfl | (simp -implicitDefEqProofs only [go_sem, Int.reduceToNat, Int.reduceLT, Int.reduceLE, Int.reduceBEq, Int.reduceBNe, Nat.reduceLT, Nat.reduceBEq, Int.reduceEq, Nat.reduceEqDiff, Nat.reduceAdd, Nat.reduceSub, Nat.reduceMul, Nat.reduceLeDiff, reduceCtorEq, ↓reduceIte, eGTuple, eStorStore, c7, nat_of .i64 h11, h13, c15]; done) | (simp -implicitDefEqProofs only [go_sem, Int.reduceToNat, Int.reduceLT, Int.reduceLE, Int.reduceBEq, Int.reduceBNe, Nat.reduceLT, Nat.reduceBEq, Int.reduceEq, Nat.reduceEqDiff, Nat.reduceAdd, Nat.reduceSub, Nat.reduceMul, Nat.reduceLeDiff, reduceCtorEq, ↓reduceIte, eGTuple, eStorStore, c7, nat_of .i64 h11, h13, c15]; rfl)) (cl55_0 x c15) (.inr rfl) ?_
        try simp -implicitDefEqProofs only [go_sem, Nat.reduceAdd, ↓reduceIte]
        obtain rfl := Option.some.inj H16
        exact end_pure (by first | (simp -implicitDefEqProofs only [go_sem, Nat.reduceEqDiff, ↓reduceIte, Try.f34] <;> rfl) | rfl) (by first | rfl | (simp -implicitDefEqProofs only [go_sem, Int.reduceToNat, Int.reduceLT, Int.reduceLE, Int.reduceBEq, Int.reduceBNe, Nat.reduceLT, Nat.reduceBEq, Int.reduceEq, Nat.reduceEqDiff, Nat.reduceAdd, Nat.reduceSub, Nat.reduceMul, Nat.reduceLeDiff, reduceCtorEq, ↓reduceIte, eGTuple, eStorStore, c7, nat_of .i64 h11, h13, c15]; done) | (simp -implicitDefEqProofs only [go_sem, Int.reduceToNat, Int.reduceLT, Int.reduceLE, Int.reduceBEq, Int.reduceBNe, Nat.reduceLT, Nat.reduceBEq, Int.reduceEq, Nat.reduceEqDiff, Nat.reduceAdd, Nat.reduceSub, Nat.reduceMul, Nat.reduceLeDiff, reduceCtorEq, ↓reduceIte, eGTuple, eStorStore, c7, nat_of .i64 h11, h13, c15]; rfl)) rfl (by intro h; first | rfl | cases h)
      · obtain ⟨g17, H18⟩ := grd_inv H16
        have h19 : x.length ≤ 4294967296 := of_decide_eq_true g17
        have q20 : 0 < x.length := by have := of_decide_eq_false c15; omega
        try simp -implicitDefEqProofs only [go_sem, Int.reduceToNat, Int.reduceLT, Int.reduceLE, Int.reduceBEq, Int.reduceBNe, Nat.reduceLT, Nat.reduceBEq, Int.reduceEq, Nat.reduceEqDiff, Nat.reduceAdd, Nat.reduceSub, Nat.reduceMul, Nat.reduceLeDiff, reduceCtorEq, ↓reduceIte, eGTuple, eStorStore, c7, nat_of .i64 h11, h13, c15]
        refine onCall_inl (InlOK.mono (cl55_in x q20 h19) ?_)
        rintro v21 hp22 nx23 ⟨rfl, rfl, rfl⟩
        try simp -implicitDefEqProofs only [go_sem, Nat.reduceAdd, ↓reduceIte]
        obtain rfl := Option.some.inj H18
        exact end_pure (by first | (simp -implicitDefEqProofs only [go_sem, Nat.reduceEqDiff, ↓reduceIte, Try.f34] <;> rfl) | rfl) (by first | rfl | (simp -implicitDefEqProofs only [go_sem, ↓reduceIte]; done) | (simp -implicitDefEqProofs only [go_sem, ↓reduceIte]; rfl)) rfl (by intro h; first | rfl | cases h)
def stor_Store_now (n : Nat) (s : StorStore) : Option (List GTuple) :=
  (stor_Store_Rev n s).bind fun t8 =>
  (idx s.was t8).bind fun x =>
  some x
theorem stor_Store_now_ok {n : Nat} {s : StorStore} {r : List GTuple} (H : stor_Store_now n s = some r) : PureOK Try.prog 64 [D.pt (eStorStore s) 0] (D.sl (List.map eGTuple r)) false := by
  unfold stor_Store_now at H
  refine pure_runR (tab := tab) tab_ok Try.func64 rfl (by kernel_rfl) (by kernel_rfl) (by simp [Try.f64]) ?_
  refine runR_take tab_ok fol 1 ?_
  obtain ⟨t8, b1, H2⟩ := bind_inv H
  try simp -implicitDefEqProofs only [go_sem, Nat.reduceAdd, reduceCtorEq, ↓reduceIte, eStorStore]
  refine onCallD_pure (by first | rfl | (simp -implicitDefEqProofs only [go_sem, Int.reduceToNat, Int.reduceLT, Int.reduceLE, Int.reduceBEq, Int.reduceBNe, Nat.reduceLT, Nat.reduceBEq, Int.reduceEq, Nat.reduceEqDiff, Nat.reduceAdd, Nat.reduceSub, Nat.reduceMul, Nat.reduceLeDiff, reduceCtorEq, ↓reduceIte, eGTuple, eStorStore]; done) | (simp -implicitDefEqProofs only [go_sem, Int.reduceToNat, Int.reduceLT, Int.reduceLE, Int.reduceBEq, Int.reduceBNe, Nat.reduceLT, Nat.reduceBEq, Int.reduceEq, Nat.reduceEqDiff, Nat.reduceAdd, Nat.reduceSub, Nat.reduceMul, Nat.reduceLeDiff, reduceCtorEq, ↓reduceIte, eGTuple, eStorStore]; rfl)) (stor_Store_Rev_ok b1) (by first | exact .inr rfl | exact .inl rfl) ?_
  obtain ⟨x, b3, H4⟩ := bind_inv H2
  obtain ⟨h5, h6⟩ := idx_inv b3
  try simp only [Int.reduceToNat, Int.toNat_natCast] at h6
  have h7 := map_at (eL eGTuple) h6
  try simp -implicitDefEqProofs only [go_sem, Nat.reduceEqDiff, Nat.reduceAdd, ↓reduceIte, nat_of .i64 h5, h7]
  refine Rd_endF (by rfl) ?_
  try simp -implicitDefEqProofs only [go_sem]
  obtain rfl := Option.some.inj H4
  exact end_pure (by first | (simp -implicitDefEqProofs only [go_sem, ↓reduceIte, Try.f64] <;> rfl) | rfl) (by first | rfl | (simp -implicitDefEqProofs only [go_sem, Int.reduceToNat, Int.reduceLT, Int.reduceLE, Int.reduceBEq, Int.reduceBNe, Nat.reduceLT, Nat.reduceBEq, Int.reduceEq, Nat.reduceEqDiff, Nat.reduceAdd, Nat.reduceSub, Nat.reduceMul, Nat.reduceLeDiff, reduceCtorEq, ↓reduceIte, eGTuple, eStorStore, nat_of .i64 h5, h7]; done) | (simp -implicitDefEqProofs only [go_sem, Int.reduceToNat, Int.reduceLT, Int.reduceLE, Int.reduceBEq, Int.reduceBNe, Nat.reduceLT, Nat.reduceBEq, Int.reduceEq, Nat.reduceEqDiff, Nat.reduceAdd, Nat.reduceSub, Nat.reduceMul, Nat.reduceLeDiff, reduceCtorEq, ↓reduceIte, eGTuple, eStorStore, nat_of .i64 h5, h7]; rfl)) rfl (by intro h; first | rfl | cases h)
def stor_Store_Len (n : Nat) (s : StorStore) : Option Int :=
  (stor_Store_now n s).bind fun t4 =>
  some (t4.length : Int)
theorem stor_Store_Len_ok {n : Nat} {s : StorStore} {r : Int} (H : stor_Store_Len n s = some r) : PureOK Try.prog 38 [D.pt (eStorStore s) 0] (D.v (.int .i64 r)) true := by
  unfold stor_Store_Len at H
  refine pure_runR (tab := tab) tab_ok Try.func38 rfl (by kernel_rfl) (by kernel_rfl) (by simp [Try.f38]) ?_
  refine runR_take tab_ok fol 1 ?_
  obtain ⟨t4, b1, H2⟩ := bind_inv H
  try simp -implicitDefEqProofs only [go_sem, Nat.reduceAdd, reduceCtorEq, ↓reduceIte, eStorStore]
  refine onCall_pure (by first | rfl | (simp -implicitDefEqProofs only [go_sem, Int.reduceToNat, Int.reduceLT, Int.reduceLE, Int.reduceBEq, Int.reduceBNe, Nat.reduceLT, Nat.reduceBEq, Int.reduceEq, Nat.reduceEqDiff, Nat.reduceAdd, Nat.reduceSub, Nat.reduceMul, Nat.reduceLeDiff, reduceCtorEq, ↓reduceIte, eGTuple, eStorStore]; done) | (simp -implicitDefEqProofs only [go_sem, Int.reduceToNat, Int.reduceLT, Int.reduceLE, Int.reduceBEq, Int.reduceBNe, Nat.reduceLT, Nat.reduceBEq, Int.reduceEq, Nat.reduceEqDiff, Nat.reduceAdd, Nat.reduceSub, Nat.reduceMul, Nat.reduceLeDiff, reduceCtorEq, ↓reduceIte, eGTuple, eStorStore]; rfl)) (stor_Store_now_ok b1) (by first | exact .inr rfl | exact .inl rfl) ?_
  try simp -implicitDefEqProofs only [go_sem, Nat.reduceAdd, ↓reduceIte]
  obtain rfl := Option.some.inj H2
  exact end_pure (by first | (simp -implicitDefEqProofs only [go_sem, ↓reduceIte, Try.f38] <;> rfl) | rfl) (by first | rfl | (simp -implicitDefEqProofs only [go_sem, Int.reduceToNat, Int.reduceLT, Int.reduceLE, Int.reduceBEq, Int.reduceBNe, Nat.reduceLT, Nat.reduceBEq, Int.reduceEq, Nat.reduceEqDiff, Nat.reduceAdd, Nat.reduceSub, Nat.reduceMul, Nat.reduceLeDiff, reduceCtorEq, ↓reduceIte, eGTuple, eStorStore]; done) | (simp -implicitDefEqProofs only [go_sem, Int.reduceToNat, Int.reduceLT, Int.reduceLE, Int.reduceBEq, Int.reduceBNe, Nat.reduceLT, Nat.reduceBEq, Int.reduceEq, Nat.reduceEqDiff, Nat.reduceAdd, Nat.reduceSub, Nat.reduceMul, Nat.reduceLeDiff, reduceCtorEq, ↓reduceIte, eGTuple, eStorStore]; rfl)) rfl (by intro h; first | rfl | cases h)
def stor_Store_All (n : Nat) (s : StorStore) : Option (List GTuple) :=
  (stor_Store_now n s).bind fun t4 =>
  (if (decide (t4.length = 0)) then
    some []
  else
    grd (decide (t4.length ≤ 4294967296)) <|
    some t4)
theorem stor_Store_All_ok {n : Nat} {s : StorStore} {r : List GTuple} (H : stor_Store_All n s = some r) : PureOK Try.prog 31 [D.pt (eStorStore s) 0] (D.sl (List.map eGTuple r)) true := by
  unfold stor_Store_All at H
  refine pure_runR (tab := tab) tab_ok Try.func31 rfl (by kernel_rfl) (by kernel_rfl) (by simp [Try.f31]) ?_
  refine runR_take tab_ok fol 1 ?_
  obtain ⟨t4, b1, H2⟩ := bind_inv H
  try simp -implicitDefEqProofs only [go_sem, Nat.reduceAdd, reduceCtorEq, ↓reduceIte, eStorStore]
  refine onCall_pure (by first | rfl | (simp -implicitDefEqProofs only [go_sem, Int.reduceToNat, Int.reduceLT, Int.reduceLE, Int.reduceBEq, Int.reduceBNe, Nat.reduceLT, Nat.reduceBEq, Int.reduceEq, Nat.reduceEqDiff, Nat.reduceAdd, Nat.reduceSub, Nat.reduceMul, Nat.reduceLeDiff, reduceCtorEq, ↓reduceIte, eGTuple, eStorStore]; done) | (simp -implicitDefEqProofs only [go_sem, Int.reduceToNat, Int.reduceLT, Int.reduceLE, Int.reduceBEq, Int.reduceBNe, Nat.reduceLT, Nat.reduceBEq, Int.reduceEq, Nat.reduceEqDiff, Nat.reduceAdd, Nat.reduceSub, Nat.reduceMul, Nat.reduceLeDiff, reduceCtorEq, ↓reduceIte, eGTuple, eStorStore]; rfl)) (stor_Store_now_ok b1) (by first | exact .inr rfl | exact .inl rfl) ?_
  try simp -implicitDefEqProofs only [go_sem, Nat.reduceAdd, ↓reduceIte]
  rcases ite_inv H2 with ⟨c3, H4⟩ | ⟨c3, H4⟩
  · try simp -implicitDefEqProofs only [go_sem, Int.reduceToNat, Int.reduceLT, Int.reduceLE, Int.reduceBEq, Int.reduceBNe, Nat.reduceLT, Nat.reduceBEq, Int.reduceEq, Nat.reduceEqDiff, Nat.reduceAdd, Nat.reduceSub, Nat.reduceMul, Nat.reduceLeDiff, reduceCtorEq, ↓reduceIte, eGTuple, eStorStore, c3]
    refine onCall_pure (by first | rfl | (simp -implicitDefEqProofs only [go_sem, Int.reduceToNat, Int.reduceLT, Int.reduceLE, Int.reduceBEq, Int.reduceBNe, Nat.reduceLT, Nat.reduceBEq, Int.reduceEq, Nat.reduceEqDiff, Nat.reduceAdd, Nat.reduceSub, Nat.reduceMul, Nat.reduceLeDiff, reduceCtorEq, ↓reduceIte, eGTuple, eStorStore, c3]; done) | (simp -implicitDefEqProofs only [go_sem, Int.reduceToNat, Int.reduceLT, Int.reduceLE, Int.reduceBEq, Int.reduceBNe, Nat.reduceLT, Nat.reduceBEq, Int.reduceEq, Nat.reduceEqDiff, Nat.reduceAdd, Nat.reduceSub, Nat.reduceMul, Nat.reduceLeDiff, reduceCtorEq, ↓reduceIte, eGTuple, eStorStore, c3]; rfl)) (cl55_0 t4 c3) (.inr rfl) ?_
    try simp -implicitDefEqProofs only [go_sem, Nat.reduceAdd, ↓reduceIte]
    obtain rfl := Option.some.inj H4
    exact end_pure (by first | (simp -implicitDefEqProofs only [go_sem, ↓reduceIte, Try.f31] <;> rfl) | rfl) (by first | rfl | (simp -implicitDefEqProofs only [go_sem, Int.reduceToNat, Int.reduceLT, Int.reduceLE, Int.reduceBEq, Int.reduceBNe, Nat.reduceLT, Nat.reduceBEq, Int.reduceEq, Nat.reduceEqDiff, Nat.reduceAdd, Nat.reduceSub, Nat.reduceMul, Nat.reduceLeDiff, reduceCtorEq, ↓reduceIte, eGTuple, eStorStore, c3]; done) | (simp -implicitDefEqProofs only [go_sem, Int.reduceToNat, Int.reduceLT, Int.reduceLE, Int.reduceBEq, Int.reduceBNe, Nat.reduceLT, Nat.reduceBEq, Int.reduceEq, Nat.reduceEqDiff, Nat.reduceAdd, Nat.reduceSub, Nat.reduceMul, Nat.reduceLeDiff, reduceCtorEq, ↓reduceIte, eGTuple, eStorStore, c3]; rfl)) rfl (by intro h; first | rfl | cases h)
  · obtain ⟨g5, H6⟩ := grd_inv H4
    have h7 : t4.length ≤ 4294967296 := of_decide_eq_true g5
    have q8 : 0 < t4.length := by have := of_decide_eq_false c3; omega
    try simp -implicitDefEqProofs only [go_sem, Int.reduceToNat, Int.reduceLT, Int.reduceLE, Int.reduceBEq, Int.reduceBNe, Nat.reduceLT, Nat.reduceBEq, Int.reduceEq, Nat.reduceEqDiff, Nat.reduceAdd, Nat.reduceSub, Nat.reduceMul, Nat.reduceLeDiff, reduceCtorEq, ↓reduceIte, eGTuple, eStorStore, c3]
    refine onCall_inl (InlOK.mono (cl55_in t4 q8 h7) ?_)
    rintro v9 hp10 nx11 ⟨rfl, rfl, rfl⟩
    try simp -implicitDefEqProofs only [go_sem, Nat.reduceAdd, ↓reduceIte]
    obtain rfl := Option.some.inj H6
    exact end_pure (by first | (simp -implicitDefEqProofs only [go_sem, ↓reduceIte, Try.f31] <;> rfl) | rfl) (by first | rfl | (simp -implicitDefEqProofs only [go_sem, ↓reduceIte]; done) | (simp -implicitDefEqProofs only [go_sem, ↓reduceIte]; rfl)) rfl (by intro h; first | rfl | cases h)
def law4_Batch_L1 (n : Nat) (t0 : List Int) : Nat → (List GTuple × List GTuple × List GTuple × List GTuple × Int) → Option (List GTuple × List GTuple × List GTuple × List GTuple)
  | 0, _ => none
  | c + 1, (t30, t31, t32, t33, t4) =>
    (
      (if (decide (t4 < (t0.length : Int))) then
        some (t30, t31, t32, t33, (decide (t4 < 12)))
      else
        some (t30, t31, t32, t33, false)) : Option (List GTuple × List GTuple × List GTuple × List GTuple × Bool)).bind fun (t302, t312, t322, t332, t142) =>
    (if t142 then
      (idx t0 t4).bind fun x2 =>
      (law2_Tame n (sh x2 4)).bind fun t222 =>
      (
        (if ((IntKind.i64.wrap (an x2 15 : Int)) == 0) then
          some (t302, t312, t322, t332, true)
        else
          (if ((IntKind.i64.wrap (an x2 15 : Int)) == 1) then
            some (t302, t312, t322, t332, true)
          else
            (if ((IntKind.i64.wrap (an x2 15 : Int)) == 2) then
              some (t302, t312, t322, t332, true)
            else
              (if ((IntKind.i64.wrap (an x2 15 : Int)) == 3) then
                some (t302, t312, t322, t332, true)
              else
                (if ((IntKind.i64.wrap (an x2 15 : Int)) == 4) then
                  some (t302, t312, t322, t332, true)
                else
                  (if ((IntKind.i64.wrap (an x2 15 : Int)) == 5) then
                    some (t302, t312, t322, t332, true)
                  else
                    (if ((IntKind.i64.wrap (an x2 15 : Int)) == 6) then
                      some (t302, t312, t322, t332, true)
                    else
                      (if ((IntKind.i64.wrap (an x2 15 : Int)) == 7) then
                        some (t302, t312, t322, t332, true)
                      else
                        some (t302, t312, t322, t332, ((IntKind.i64.wrap (an x2 15 : Int)) == 8)))))))))) : Option (List GTuple × List GTuple × List GTuple × List GTuple × Bool)).bind fun (t303, t313, t323, t333, t342) =>
      (if t342 then
        (app t303 [t222]).bind fun l =>
        law4_Batch_L1 n t0 c (l, t313, t323, t333, (IntKind.i64.wrap (t4 + 1)))
      else
        (
          (if ((IntKind.i64.wrap (an x2 15 : Int)) == 9) then
            some (t303, t313, t323, t333, true)
          else
            (if ((IntKind.i64.wrap (an x2 15 : Int)) == 10) then
              some (t303, t313, t323, t333, true)
            else
              (if ((IntKind.i64.wrap (an x2 15 : Int)) == 11) then
                some (t303, t313, t323, t333, true)
              else
                some (t303, t313, t323, t333, ((IntKind.i64.wrap (an x2 15 : Int)) == 12))))) : Option (List GTuple × List GTuple × List GTuple × List GTuple × Bool)).bind fun (t304, t314, t324, t334, t502) =>
        (if t502 then
          (app t314 [t222]).bind fun l2 =>
          law4_Batch_L1 n t0 c (t304, l2, t324, t334, (IntKind.i64.wrap (t4 + 1)))
        else
          (if ((IntKind.i64.wrap (an x2 15 : Int)) == 13) then
            (app t324 [t222]).bind fun l3 =>
            law4_Batch_L1 n t0 c (t304, t314, l3, t334, (IntKind.i64.wrap (t4 + 1)))
          else
            (if ((IntKind.i64.wrap (an x2 15 : Int)) == 14) then
              (app t334 [t222]).bind fun l4 =>
              law4_Batch_L1 n t0 c (t304, t314, t324, l4, (IntKind.i64.wrap (t4 + 1)))
            else
              (app t304 [(⟨(⟨ByteArray.empty, ByteArray.empty⟩ : GObj), { data := #[120] }, (⟨ByteArray.empty, ByteArray.empty, ByteArray.empty⟩ : GSub)⟩ : GTuple)]).bind fun l5 =>
              law4_Batch_L1 n t0 c (l5, t314, t324, t334, (IntKind.i64.wrap (t4 + 1)))))))
    else
      some (t302, t312, t322, t332))

def law4_Batch (n : Nat) (t0 : List Int) : Option GBatch :=
  (
    law4_Batch_L1 n t0 n ([], [], [], [], 0) : Option (List GTuple × List GTuple × List GTuple × List GTuple)).bind fun (t306, t316, t326, t336) =>
  some (⟨t306, t316, t326, t336⟩ : GBatch)
set_option maxHeartbeats 8000000 in
theorem law4_Batch_ok {n : Nat} {t0 : List Int} {r : GBatch} (H : law4_Batch n t0 = some r) : PureOK Try.prog 33 [D.sl (List.map eI t0)] (D.ag (eGBatch r)) true := by
  unfold law4_Batch at H
  refine pure_runR (tab := tab) tab_ok Try.func33 rfl (by kernel_rfl) (by kernel_rfl) (by simp [Try.f33]) ?_
  refine runR_seq ?_
  refine runR_take tab_ok fol 1 ?_
  try simp -implicitDefEqProofs only [go_sem, ↓reduceIte, eGBatch]
  refine runR_seq ?_
  refine runR_take tab_ok fol 1 ?_
  try simp -implicitDefEqProofs only [go_sem, Nat.reduceEqDiff, Nat.reduceAdd, ↓reduceIte]
  refine runR_seq ?_
  refine runR_seq ?_
  refine runR_take tab_ok fol 1 ?_
  try simp -implicitDefEqProofs only [go_sem, Nat.reduceAdd]
  obtain ⟨e_, E1, H2⟩ := bind_inv H
  refine runR_join (α := { y : List GTuple × List GTuple × List GTuple × List GTuple // e_ = y } × Nat × Nat × Nat × Nat) (fun | ⟨⟨⟨t306, t316, t326, t336⟩, _⟩, ⟨g21, g22, g23, g24⟩⟩ => ⟨upd 2 (.pt 0 0) (upd 3 (.pt 1 0) noFr), upd 0 (some (.bx [.v (.slice none 0 0), .v (.slice none 0 0), .v (.slice none 0 0), .v (.slice none 0 0)])) (upd 1 (some (.bx [accV 2 g21 (List.map eGTuple t306), accV 3 g22 (List.map eGTuple t316), accV 4 g23 (List.map eGTuple t326), accV 5 g24 (List.map eGTuple t336)])) (upd 2 (accO 6 g21 false (List.map eGTuple t306)) (upd 3 (accO 6 g22 false (List.map eGTuple t316)) (upd 4 (accO 6 g23 false (List.map eGTuple t326)) (upd 5 (accO 6 g24 false (List.map eGTuple t336)) noHp))))), 6⟩) ?_ ?_
  · refine runR_block ?_
    refine runR_loop (α := { q : (Nat × (List GTuple × List GTuple × List GTuple × List GTuple × Int)) × Nat × Nat × Nat × Nat // law4_Batch_L1 n t0 q.1.1 q.1.2 = some e_ }) (fun | ⟨⟨⟨c, ⟨t30, t31, t32, t33, t4⟩⟩, ⟨g, g2, g3, g4⟩⟩, _⟩ => ⟨upd 0 (.d (.sl (List.map eI t0)) true) (upd 2 (.pt 0 0) (upd 3 (.pt 1 0) (upd 4 (.v (.int .i64 t4)) noFr))), upd 0 (some (.bx [.v (.slice none 0 0), .v (.slice none 0 0), .v (.slice none 0 0), .v (.slice none 0 0)])) (upd 1 (some (.bx [accV 2 g (List.map eGTuple t30), accV 3 g2 (List.map eGTuple t31), accV 4 g3 (List.map eGTuple t32), accV 5 g4 (List.map eGTuple t33)])) (upd 2 (accO 6 g false (List.map eGTuple t30)) (upd 3 (accO 6 g2 false (List.map eGTuple t31)) (upd 4 (accO 6 g3 false (List.map eGTuple t32)) (upd 5 (accO 6 g4 false (List.map eGTuple t33)) noHp))))), 6⟩) (fun q => q.1.1.1) ⟨((n, ([], [], [], [], 0)), (0, 0, 0, 0)), E1⟩ ?_ ?_
    · exact ren_mk [(0, 0), (1, 2)] (by rfl) (rf_upd (by rfl) (rf_upd (by rfl) (rf_upd (by rfl) (rf_upd (by rfl) (rf_no _))))) (rh_upd (rh_one (by rfl) (by rfl) (by rfl)) (rh_upd (rh_one (by rfl) (renO_bx (renL_cons (by rfl) (renL_cons (by rfl) (renL_cons (by rfl) (renL_cons (by rfl) (renL_nil _)))))) (by rfl)) (rh_upd rh_accN (rh_upd rh_accN (rh_upd rh_accN (rh_upd rh_accN (rh_no _)))))))
    · rintro ⟨⟨⟨c, ⟨t30, t31, t32, t33, t4⟩⟩, ⟨g, g2, g3, g4⟩⟩, L3⟩
      rcases c with _ | c
      · exact nomatch (show none = some _ from L3)
      · unfold law4_Batch_L1 at L3
        try dsimp only at L3
        refine runR_seq ?_
        refine runR_seq ?_
        obtain ⟨e_5, E55, H56⟩ := bind_inv L3
        refine runR_join (α := { y : List GTuple × List GTuple × List GTuple × List GTuple × Bool // e_5 = y } × Nat × Nat × Nat × Nat) (fun | ⟨⟨⟨t302, t312, t322, t332, t142⟩, _⟩, ⟨g5, g6, g7, g8⟩⟩ => ⟨upd 0 (.d (.sl (List.map eI t0)) true) (upd 2 (.pt 0 0) (upd 3 (.pt 1 0) (upd 4 (.v (.int .i64 t4)) (upd 14 (.v (.bool t142)) noFr)))), upd 0 (some (.bx [.v (.slice none 0 0), .v (.slice none 0 0), .v (.slice none 0 0), .v (.slice none 0 0)])) (upd 1 (some (.bx [accV 2 g5 (List.map eGTuple t302), accV 3 g6 (List.map eGTuple t312), accV 4 g7 (List.map eGTuple t322), accV 5 g8 (List.map eGTuple t332)])) (upd 2 (accO 6 g5 false (List.map eGTuple t302)) (upd 3 (accO 6 g6 false (List.map eGTuple t312)) (upd 4 (accO 6 g7 false (List.map eGTuple t322)) (upd 5 (accO 6 g8 false (List.map eGTuple t332)) noHp))))), 6⟩) ?_ ?_
        · refine runR_take tab_ok fol 1 ?_
          try simp -implicitDefEqProofs only [go_sem, Nat.reduceEqDiff, Nat.reduceAdd, reduceCtorEq, ↓reduceIte]
          rcases ite_inv E55 with ⟨c57, H58⟩ | ⟨c57, H58⟩
          · try simp -implicitDefEqProofs only [go_sem, Nat.reduceEqDiff, Nat.reduceAdd, reduceCtorEq, ↓reduceIte, c57]
            obtain rfl := Option.some.inj H58
            exact ⟨⟨⟨(t30, t31, t32, t33, (decide (t4 < 12))), rfl⟩, (g, g2, g3, g4)⟩, ren_mk [(0, 0), (1, 1), (2, 2), (3, 3), (4, 4), (5, 5)] (by rfl) (rf_upd (by rfl) (rf_upd (by rfl) (rf_upd (by rfl) (rf_upd (by rfl) (rf_upd (by rfl) (rf_no _)))))) (rh_upd (rh_one (by rfl) (by rfl) (by rfl)) (rh_upd (rh_one (by rfl) (renO_bx (renL_cons (ren_acc (by rfl)) (renL_cons (ren_acc (by rfl)) (renL_cons (ren_acc (by rfl)) (renL_cons (ren_acc (by rfl)) (renL_nil _)))))) (by rfl)) (rh_upd (rh_acc (by rfl) (by rfl)) (rh_upd (rh_acc (by rfl) (by rfl)) (rh_upd (rh_acc (by rfl) (by rfl)) (rh_upd (rh_acc (by rfl) (by rfl)) (rh_no _)))))))⟩
          · try simp -implicitDefEqProofs only [go_sem, Nat.reduceEqDiff, Nat.reduceAdd, ↓reduceIte, c57]
            obtain rfl := Option.some.inj H58
            exact ⟨⟨⟨(t30, t31, t32, t33, false), rfl⟩, (g, g2, g3, g4)⟩, ren_mk [(0, 0), (1, 1), (2, 2), (3, 3), (4, 4), (5, 5)] (by rfl) (rf_upd (by rfl) (rf_upd (by rfl) (rf_upd (by rfl) (rf_upd (by rfl) (rf_upd (by rfl) (rf_no _)))))) (rh_upd (rh_one (by rfl) (by rfl) (by rfl)) (rh_upd (rh_one (by rfl) (renO_bx (renL_cons (ren_acc (by rfl)) (renL_cons (ren_acc (by rfl)) (renL_cons (ren_acc (by rfl)) (renL_cons (ren_acc (by rfl)) (renL_nil _)))))) (by rfl)) (rh_upd (rh_acc (by rfl) (by rfl)) (rh_upd (rh_acc (by rfl) (by rfl)) (rh_upd (rh_acc (by rfl) (by rfl)) (rh_upd (rh_acc (by rfl) (by rfl)) (rh_no _)))))))⟩
        · rintro ⟨⟨⟨t302, t312, t322, t332, t142⟩, he145⟩, ⟨g5, g6, g7, g8⟩⟩
          replace he145 := he145.symm
          subst he145
          try dsimp only at H56
          refine runR_take tab_ok fol 1 ?_
          try simp -implicitDefEqProofs only [go_sem, Nat.reduceEqDiff, reduceCtorEq, ↓reduceIte]
          rcases ite_inv H56 with ⟨c59, H60⟩ | ⟨c59, H60⟩
          · try simp -implicitDefEqProofs only [go_sem, c59]
            refine runR_seq ?_
            refine runR_block ?_
            refine runR_seq ?_
            refine runR_take tab_ok fol 1 ?_
            obtain ⟨x2, b61, H62⟩ := bind_inv H60
            obtain ⟨h63, h64⟩ := idx_inv b61
            try simp only [Int.reduceToNat, Int.toNat_natCast] at h64
            have h65 := map_at eI h64
            obtain ⟨t222, b67, H68⟩ := bind_inv H62
            try simp -implicitDefEqProofs only [go_sem, Int.reduceToNat, Int.reduceLT, Nat.reduceEqDiff, Nat.reduceAdd, reduceCtorEq, ↓reduceIte, nat_of .i64 h63, h65]
            refine onCall_pure (by first | rfl | (simp -implicitDefEqProofs only [go_sem, Int.reduceToNat, Int.reduceLT, Int.reduceLE, Int.reduceBEq, Int.reduceBNe, Nat.reduceLT, Nat.reduceBEq, Int.reduceEq, Nat.reduceEqDiff, Nat.reduceAdd, Nat.reduceSub, Nat.reduceMul, Nat.reduceLeDiff, reduceCtorEq, ↓reduceIte, eGTuple, eStorStore, eGBatch, eGObj, eGSub, c59, nat_of .i64 h63, h65]; done) | (simp -implicitDefEqProofs only [go_sem, Int.reduceToNat, Int.reduceLT, Int.reduceLE, Int.reduceBEq, Int.reduceBNe, Nat.reduceLT, Nat.reduceBEq, Int.reduceEq, Nat.reduceEqDiff, Nat.reduceAdd, Nat.reduceSub, Nat.reduceMul, Nat.reduceLeDiff, reduceCtorEq, ↓reduceIte, eGTuple, eStorStore, eGBatch, eGObj, eGSub, c59, nat_of .i64 h63, h65]; rfl)) (law2_Tame_ok b67) (by first | exact .inr rfl | exact .inl rfl) ?_
            try simp -implicitDefEqProofs only [go_sem, Nat.reduceEqDiff, Nat.reduceAdd, ↓reduceIte, eGTuple]
            refine runR_seq ?_
            refine runR_take tab_ok fol 1 ?_
            try simp -implicitDefEqProofs only [go_sem, Nat.reduceEqDiff, Nat.reduceAdd, reduceCtorEq, ↓reduceIte, nat_of .i64 h63, h65]
            refine runR_block ?_
            refine runR_seq ?_
            refine runR_seq ?_
            refine runR_take tab_ok fol 1 ?_
            try simp -implicitDefEqProofs only [go_sem, Nat.reduceAdd, ↓reduceIte]
            obtain ⟨e_6, E69, H70⟩ := bind_inv H68
            refine runR_join (α := { y : List GTuple × List GTuple × List GTuple × List GTuple × Bool // e_6 = y } × Nat × Nat × Nat × Nat) (fun | ⟨⟨⟨t303, t313, t323, t333, t342⟩, _⟩, ⟨g9, g10, g11, g12⟩⟩ => ⟨upd 0 (.d (.sl (List.map eI t0)) true) (upd 2 (.pt 0 0) (upd 3 (.pt 1 0) (upd 4 (.v (.int .i64 t4)) (upd 5 (.pt 6 0) (upd 27 (.v (.int .i64 (IntKind.i64.wrap (an x2 15 : Int)))) (upd 34 (.v (.bool t342)) noFr)))))), upd 0 (some (.bx [.v (.slice none 0 0), .v (.slice none 0 0), .v (.slice none 0 0), .v (.slice none 0 0)])) (upd 1 (some (.bx [accV 2 g9 (List.map eGTuple t303), accV 3 g10 (List.map eGTuple t313), accV 4 g11 (List.map eGTuple t323), accV 5 g12 (List.map eGTuple t333)])) (upd 2 (accO 6 g9 false (List.map eGTuple t303)) (upd 3 (accO 6 g10 false (List.map eGTuple t313)) (upd 4 (accO 6 g11 false (List.map eGTuple t323)) (upd 5 (accO 6 g12 false (List.map eGTuple t333)) (upd 6 (some (.bx [.v (.string t222.obj.type_), .v (.string t222.obj.id_), .v (.string t222.rel), .v (.string t222.sub_.type_), .v (.string t222.sub_.id_), .v (.string t222.sub_.rel)])) noHp)))))), 7⟩) ?_ ?_
            · refine runR_take tab_ok fol 1 ?_
              try simp -implicitDefEqProofs only [go_sem, ↓reduceIte]
              rcases ite_inv E69 with ⟨c71, H72⟩ | ⟨c71, H72⟩
              · try simp -implicitDefEqProofs only [go_sem, c71]
                obtain rfl := Option.some.inj H72
                exact ⟨⟨⟨(t302, t312, t322, t332, true), rfl⟩, (g5, g6, g7, g8)⟩, ren_mk [(0, 0), (1, 1), (2, 2), (3, 3), (4, 4), (5, 5), (6, 12)] (by rfl) (rf_upd (by rfl) (rf_upd (by rfl) (rf_upd (by rfl) (rf_upd (by rfl) (rf_upd (by rfl) (rf_upd (by rfl) (rf_upd (by rfl) (rf_no _)))))))) (rh_upd (rh_one (by rfl) (by rfl) (by rfl)) (rh_upd (rh_one (by rfl) (renO_bx (renL_cons (ren_acc (by rfl)) (renL_cons (ren_acc (by rfl)) (renL_cons (ren_acc (by rfl)) (renL_cons (ren_acc (by rfl)) (renL_nil _)))))) (by rfl)) (rh_upd (rh_acc (by rfl) (by rfl)) (rh_upd (rh_acc (by rfl) (by rfl)) (rh_upd (rh_acc (by rfl) (by rfl)) (rh_upd (rh_acc (by rfl) (by rfl)) (rh_upd (rh_one (by rfl) (by rfl) (by rfl)) (rh_no _))))))))⟩
              · try simp -implicitDefEqProofs only [go_sem, Nat.reduceEqDiff, Nat.reduceAdd, ↓reduceIte, c71]
                rcases ite_inv H72 with ⟨c73, H74⟩ | ⟨c73, H74⟩
                · try simp -implicitDefEqProofs only [go_sem, c73]
                  obtain rfl := Option.some.inj H74
                  exact ⟨⟨⟨(t302, t312, t322, t332, true), rfl⟩, (g5, g6, g7, g8)⟩, ren_mk [(0, 0), (1, 1), (2, 2), (3, 3), (4, 4), (5, 5), (6, 12)] (by rfl) (rf_upd (by rfl) (rf_upd (by rfl) (rf_upd (by rfl) (rf_upd (by rfl) (rf_upd (by rfl) (rf_upd (by rfl) (rf_upd (by rfl) (rf_no _)))))))) (rh_upd (rh_one (by rfl) (by rfl) (by rfl)) (rh_upd (rh_one (by rfl) (renO_bx (renL_cons (ren_acc (by rfl)) (renL_cons (ren_acc (by rfl)) (renL_cons (ren_acc (by rfl)) (renL_cons (ren_acc (by rfl)) (renL_nil _)))))) (by rfl)) (rh_upd (rh_acc (by rfl) (by rfl)) (rh_upd (rh_acc (by rfl) (by rfl)) (rh_upd (rh_acc (by rfl) (by rfl)) (rh_upd (rh_acc (by rfl) (by rfl)) (rh_upd (rh_one (by rfl) (by rfl) (by rfl)) (rh_no _))))))))⟩
                · try simp -implicitDefEqProofs only [go_sem, Nat.reduceEqDiff, Nat.reduceAdd, ↓reduceIte, c73]
                  rcases ite_inv H74 with ⟨c75, H76⟩ | ⟨c75, H76⟩
                  · try simp -implicitDefEqProofs only [go_sem, c75]
                    obtain rfl := Option.some.inj H76
                    exact ⟨⟨⟨(t302, t312, t322, t332, true), rfl⟩, (g5, g6, g7, g8)⟩, ren_mk [(0, 0), (1, 1), (2, 2), (3, 3), (4, 4), (5, 5), (6, 12)] (by rfl) (rf_upd (by rfl) (rf_upd (by rfl) (rf_upd (by rfl) (rf_upd (by rfl) (rf_upd (by rfl) (rf_upd (by rfl) (rf_upd (by rfl) (rf_no _)))))))) (rh_upd (rh_one (by rfl) (by rfl) (by rfl)) (rh_upd (rh_one (by rfl) (renO_bx (renL_cons (ren_acc (by rfl)) (renL_cons (ren_acc (by rfl)) (renL_cons (ren_acc (by rfl)) (renL_cons (ren_acc (by rfl)) (renL_nil _)))))) (by rfl)) (rh_upd (rh_acc (by rfl) (by rfl)) (rh_upd (rh_acc (by rfl) (by rfl)) (rh_upd (rh_acc (by rfl) (by rfl)) (rh_upd (rh_acc (by rfl) (by rfl)) (rh_upd (rh_one (by rfl) (by rfl) (by rfl)) (rh_no _))))))))⟩
                  · try simp -implicitDefEqProofs only [go_sem, Nat.reduceEqDiff, Nat.reduceAdd, ↓reduceIte, c75]
                    rcases ite_inv H76 with ⟨c77, H78⟩ | ⟨c77, H78⟩
                    · try simp -implicitDefEqProofs only [go_sem, c77]
                      obtain rfl := Option.some.inj H78
                      exact ⟨⟨⟨(t302, t312, t322, t332, true), rfl⟩, (g5, g6, g7, g8)⟩, ren_mk [(0, 0), (1, 1), (2, 2), (3, 3), (4, 4), (5, 5), (6, 12)] (by rfl) (rf_upd (by rfl) (rf_upd (by rfl) (rf_upd (by rfl) (rf_upd (by rfl) (rf_upd (by rfl) (rf_upd (by rfl) (rf_upd (by rfl) (rf_no _)))))))) (rh_upd (rh_one (by rfl) (by rfl) (by rfl)) (rh_upd (rh_one (by rfl) (renO_bx (renL_cons (ren_acc (by rfl)) (renL_cons (ren_acc (by rfl)) (renL_cons (ren_acc (by rfl)) (renL_cons (ren_acc (by rfl)) (renL_nil _)))))) (by rfl)) (rh_upd (rh_acc (by rfl) (by rfl)) (rh_upd (rh_acc (by rfl) (by rfl)) (rh_upd (rh_acc (by rfl) (by rfl)) (rh_upd (rh_acc (by rfl) (by rfl)) (rh_upd (rh_one (by rfl) (by rfl) (by rfl)) (rh_no _))))))))⟩
                    · try simp -implicitDefEqProofs only [go_sem, Nat.reduceEqDiff, Nat.reduceAdd, ↓reduceIte, c77]
                      rcases ite_inv H78 with ⟨c79, H80⟩ | ⟨c79, H80⟩
                      · try simp -implicitDefEqProofs only [go_sem, c79]
                        obtain rfl := Option.some.inj H80
                        exact ⟨⟨⟨(t302, t312, t322, t332, true), rfl⟩, (g5, g6, g7, g8)⟩, ren_mk [(0, 0), (1, 1), (2, 2), (3, 3), (4, 4), (5, 5), (6, 12)] (by rfl) (rf_upd (by rfl) (rf_upd (by rfl) (rf_upd (by rfl) (rf_upd (by rfl) (rf_upd (by rfl) (rf_upd (by rfl) (rf_upd (by rfl) (rf_no _)))))))) (rh_upd (rh_one (by rfl) (by rfl) (by rfl)) (rh_upd (rh_one (by rfl) (renO_bx (renL_cons (ren_acc (by rfl)) (renL_cons (ren_acc (by rfl)) (renL_cons (ren_acc (by rfl)) (renL_cons (ren_acc (by rfl)) (renL_nil _)))))) (by rfl)) (rh_upd (rh_acc (by rfl) (by rfl)) (rh_upd (rh_acc (by rfl) (by rfl)) (rh_upd (rh_acc (by rfl) (by rfl)) (rh_upd (rh_acc (by rfl) (by rfl)) (rh_upd (rh_one (by rfl) (by rfl) (by rfl)) (rh_no _))))))))⟩
                      · try simp -implicitDefEqProofs only [go_sem, Nat.reduceEqDiff, Nat.reduceAdd, ↓reduceIte, c79]
                        rcases ite_inv H80 with ⟨c81, H82⟩ | ⟨c81, H82⟩
                        · try simp -implicitDefEqProofs only [go_sem, c81]
                          obtain rfl := Option.some.inj H82
                          exact ⟨⟨⟨(t302, t312, t322, t332, true), rfl⟩, (g5, g6, g7, g8)⟩, ren_mk [(0, 0), (1, 1), (2, 2), (3, 3), (4, 4), (5, 5), (6, 12)] (by rfl) (rf_upd (by rfl) (rf_upd (by rfl) (rf_upd (by rfl) (rf_upd (by rfl) (rf_upd (by rfl) (rf_upd (by rfl) (rf_upd (by rfl) (rf_no _)))))))) (rh_upd (rh_one (by rfl) (by rfl) (by rfl)) (rh_upd (rh_one (by rfl) (renO_bx (renL_cons (ren_acc (by rfl)) (renL_cons (ren_acc (by rfl)) (renL_cons (ren_acc (by rfl)) (renL_cons (ren_acc (by rfl)) (renL_nil _)))))) (by rfl)) (rh_upd (rh_acc (by rfl) (by rfl)) (rh_upd (rh_acc (by rfl) (by rfl)) (rh_upd (rh_acc (by rfl) (by rfl)) (rh_upd (rh_acc (by rfl) (by rfl)) (rh_upd (rh_one (by rfl) (by rfl) (by rfl)) (rh_no _))))))))⟩
                        · try simp -implicitDefEqProofs only [go_sem, Nat.reduceEqDiff, Nat.reduceAdd, ↓reduceIte, c81]
                          rcases ite_inv H82 with ⟨c83, H84⟩ | ⟨c83, H84⟩
                          · try simp -implicitDefEqProofs only [go_sem, c83]
                            obtain rfl := Option.some.inj H84
                            exact ⟨⟨⟨(t302, t312, t322, t332, true), rfl⟩, (g5, g6, g7, g8)⟩, ren_mk [(0, 0), (1, 1), (2, 2), (3, 3), (4, 4), (5, 5), (6, 12)] (by rfl) (rf_upd (by rfl) (rf_upd (by rfl) (rf_upd (by rfl) (rf_upd (by rfl) (rf_upd (by rfl) (rf_upd (by rfl) (rf_upd (by rfl) (rf_no _)))))))) (rh_upd (rh_one (by rfl) (by rfl) (by rfl)) (rh_upd (rh_one (by rfl) (renO_bx (renL_cons (ren_acc (by rfl)) (renL_cons (ren_acc (by rfl)) (renL_cons (ren_acc (by rfl)) (renL_cons (ren_acc (by rfl)) (renL_nil _)))))) (by rfl)) (rh_upd (rh_acc (by rfl) (by rfl)) (rh_upd (rh_acc (by rfl) (by rfl)) (rh_upd (rh_acc (by rfl) (by rfl)) (rh_upd (rh_acc (by rfl) (by rfl)) (rh_upd (rh_one (by rfl) (by rfl) (by rfl)) (rh_no _))))))))⟩
                          · try simp -implicitDefEqProofs only [go_sem, Nat.reduceEqDiff, Nat.reduceAdd, ↓reduceIte, c83]
                            rcases ite_inv H84 with ⟨c85, H86⟩ | ⟨c85, H86⟩
                            · try simp -implicitDefEqProofs only [go_sem, c85]
                              obtain rfl := Option.some.inj H86
                              exact ⟨⟨⟨(t302, t312, t322, t332, true), rfl⟩, (g5, g6, g7, g8)⟩, ren_mk [(0, 0), (1, 1), (2, 2), (3, 3), (4, 4), (5, 5), (6, 12)] (by rfl) (rf_upd (by rfl) (rf_upd (by rfl) (rf_upd (by rfl) (rf_upd (by rfl) (rf_upd (by rfl) (rf_upd (by rfl) (rf_upd (by rfl) (rf_no _)))))))) (rh_upd (rh_one (by rfl) (by rfl) (by rfl)) (rh_upd (rh_one (by rfl) (renO_bx (renL_cons (ren_acc (by rfl)) (renL_cons (ren_acc (by rfl)) (renL_cons (ren_acc (by rfl)) (renL_cons (ren_acc (by rfl)) (renL_nil _)))))) (by rfl)) (rh_upd (rh_acc (by rfl) (by rfl)) (rh_upd (rh_acc (by rfl) (by rfl)) (rh_upd (rh_acc (by rfl) (by rfl)) (rh_upd (rh_acc (by rfl) (by rfl)) (rh_upd (rh_one (by rfl) (by rfl) (by rfl)) (rh_no _))))))))⟩
                            · try simp -implicitDefEqProofs only [go_sem, Nat.reduceEqDiff, Nat.reduceAdd, ↓reduceIte, c85]
                              obtain rfl := Option.some.inj H86
                              exact ⟨⟨⟨(t302, t312, t322, t332, ((IntKind.i64.wrap (an x2 15 : Int)) == 8)), rfl⟩, (g5, g6, g7, g8)⟩, ren_mk [(0, 0), (1, 1), (2, 2), (3, 3), (4, 4), (5, 5), (6, 12)] (by rfl) (rf_upd (by rfl) (rf_upd (by rfl) (rf_upd (by rfl) (rf_upd (by rfl) (rf_upd (by rfl) (rf_upd (by rfl) (rf_upd (by rfl) (rf_no _)))))))) (rh_upd (rh_one (by rfl) (by rfl) (by rfl)) (rh_upd (rh_one (by rfl) (renO_bx (renL_cons (ren_acc (by rfl)) (renL_cons (ren_acc (by rfl)) (renL_cons (ren_acc (by rfl)) (renL_cons (ren_acc (by rfl)) (renL_nil _)))))) (by rfl)) (rh_upd (rh_acc (by rfl) (by rfl)) (rh_upd (rh_acc (by rfl) (by rfl)) (rh_upd (rh_acc (by rfl) (by rfl)) (rh_upd (rh_acc (by rfl) (by rfl)) (rh_upd (rh_one (by rfl) (by rfl) (by rfl)) (rh_no _))))))))⟩
            · rintro ⟨⟨⟨t303, t313, t323, t333, t342⟩, he144⟩, ⟨g9, g10, g11, g12⟩⟩
              replace he144 := he144.symm
              subst he144
              try dsimp only at H70
              rcases ite_inv H70 with ⟨c87, H88⟩ | ⟨c87, H88⟩
              · refine runR_condT (by rfl) c87 ?_
                try simp -implicitDefEqProofs only [go_sem, c87]
                refine runR_take tab_ok fol 4 ?_
                obtain ⟨l, b89, H90⟩ := bind_inv H88
                obtain ⟨h91, h92⟩ := app_inv b89
                have h91 : t303.length + 1 ≤ 4294967296 := h91
                have h93 : List.map eGTuple t303 ++ [[.v (.string t222.obj.type_), .v (.string t222.obj.id_), .v (.string t222.rel), .v (.string t222.sub_.type_), .v (.string t222.sub_.id_), .v (.string t222.sub_.rel)]] = List.map eGTuple l := app_map eGTuple h92
                have h94 : t303.length + 1 = l.length := app_len h92
                have h95 : l.length ≤ 4294967296 := by omega
                have q96 : 0 < l.length := by omega
                try simp -implicitDefEqProofs only [go_sem, Nat.reduceLT, Nat.reduceEqDiff, Nat.reduceAdd, Nat.reduceMul, Nat.reduceLeDiff, reduceCtorEq, ↓reduceIte, h93, h94, h95, accI_ne]
                rcases t303 with _ | ⟨q0, q1⟩
                · try simp only [List.map_nil, accI, accN]
                  exact ⟨⟨((c, (l, t313, t323, t333, (IntKind.i64.wrap (t4 + 1)))), (0, g10, g11, g12)), H90⟩, ren_mk [(0, 0), (1, 1), (2, 11), (3, 3), (4, 4), (5, 5)] (by rfl) (rf_upd (by rfl) (rf_upd (by rfl) (rf_upd (by rfl) (rf_upd (by rfl) (rf_no _))))) (rh_upd (rh_one (by rfl) (by rfl) (by rfl)) (rh_upd (rh_one (by rfl) (renO_bx (renL_cons (ren_accP (by rfl) q96) (renL_cons (ren_acc (by rfl)) (renL_cons (ren_acc (by rfl)) (renL_cons (ren_acc (by rfl)) (renL_nil _)))))) (by rfl)) (rh_upd (rh_accP (by rfl) q96 (by rfl)) (rh_upd (rh_acc (by rfl) (by rfl)) (rh_upd (rh_acc (by rfl) (by rfl)) (rh_upd (rh_acc (by rfl) (by rfl)) (rh_no _))))))), Nat.lt_succ_self _⟩
                · try simp only [List.map_cons, accI, accN]
                  exact ⟨⟨((c, (l, t313, t323, t333, (IntKind.i64.wrap (t4 + 1)))), ((g9 + 1), g10, g11, g12)), H90⟩, ren_mk [(0, 0), (1, 1), (2, 2), (3, 3), (4, 4), (5, 5)] (by rfl) (rf_upd (by rfl) (rf_upd (by rfl) (rf_upd (by rfl) (rf_upd (by rfl) (rf_no _))))) (rh_upd (rh_one (by rfl) (by rfl) (by rfl)) (rh_upd (rh_one (by rfl) (renO_bx (renL_cons (ren_accP (by rfl) q96) (renL_cons (ren_acc (by rfl)) (renL_cons (ren_acc (by rfl)) (renL_cons (ren_acc (by rfl)) (renL_nil _)))))) (by rfl)) (rh_upd (rh_accP (by rfl) q96 (by rfl)) (rh_upd (rh_acc (by rfl) (by rfl)) (rh_upd (rh_acc (by rfl) (by rfl)) (rh_upd (rh_acc (by rfl) (by rfl)) (rh_no _))))))), Nat.lt_succ_self _⟩
              · refine runR_condF (by rfl) c87 ?_
                try simp -implicitDefEqProofs only [go_sem, c87]
                refine runR_seq ?_
                refine runR_seq ?_
                refine runR_take tab_ok fol 1 ?_
                try simp -implicitDefEqProofs only [go_sem, Nat.reduceEqDiff, Nat.reduceAdd, reduceCtorEq, ↓reduceIte]
                obtain ⟨e_7, E97, H98⟩ := bind_inv H88
                refine runR_join (α := { y : List GTuple × List GTuple × List GTuple × List GTuple × Bool // e_7 = y } × Nat × Nat × Nat × Nat) (fun | ⟨⟨⟨t304, t314, t324, t334, t502⟩, _⟩, ⟨g13, g14, g15, g16⟩⟩ => ⟨upd 0 (.d (.sl (List.map eI t0)) true) (upd 2 (.pt 0 0) (upd 3 (.pt 1 0) (upd 4 (.v (.int .i64 t4)) (upd 5 (.pt 6 0) (upd 27 (.v (.int .i64 (IntKind.i64.wrap (an x2 15 : Int)))) (upd 50 (.v (.bool t502)) noFr)))))), upd 0 (some (.bx [.v (.slice none 0 0), .v (.slice none 0 0), .v (.slice none 0 0), .v (.slice none 0 0)])) (upd 1 (some (.bx [accV 2 g13 (List.map eGTuple t304), accV 3 g14 (List.map eGTuple t314), accV 4 g15 (List.map eGTuple t324), accV 5 g16 (List.map eGTuple t334)])) (upd 2 (accO 6 g13 false (List.map eGTuple t304)) (upd 3 (accO 6 g14 false (List.map eGTuple t314)) (upd 4 (accO 6 g15 false (List.map eGTuple t324)) (upd 5 (accO 6 g16 false (List.map eGTuple t334)) (upd 6 (some (.bx [.v (.string t222.obj.type_), .v (.string t222.obj.id_), .v (.string t222.rel), .v (.string t222.sub_.type_), .v (.string t222.sub_.id_), .v (.string t222.sub_.rel)])) noHp)))))), 7⟩) ?_ ?_
                · refine runR_take tab_ok fol 1 ?_
                  try simp -implicitDefEqProofs only [go_sem, ↓reduceIte]
                  rcases ite_inv E97 with ⟨c99, H100⟩ | ⟨c99, H100⟩
                  · try simp -implicitDefEqProofs only [go_sem, c99]
                    obtain rfl := Option.some.inj H100
                    exact ⟨⟨⟨(t303, t313, t323, t333, true), rfl⟩, (g9, g10, g11, g12)⟩, ren_mk [(0, 0), (1, 1), (2, 2), (3, 3), (4, 4), (5, 5), (6, 6)] (by rfl) (rf_upd (by rfl) (rf_upd (by rfl) (rf_upd (by rfl) (rf_upd (by rfl) (rf_upd (by rfl) (rf_upd (by rfl) (rf_upd (by rfl) (rf_no _)))))))) (rh_upd (rh_one (by rfl) (by rfl) (by rfl)) (rh_upd (rh_one (by rfl) (renO_bx (renL_cons (ren_acc (by rfl)) (renL_cons (ren_acc (by rfl)) (renL_cons (ren_acc (by rfl)) (renL_cons (ren_acc (by rfl)) (renL_nil _)))))) (by rfl)) (rh_upd (rh_acc (by rfl) (by rfl)) (rh_upd (rh_acc (by rfl) (by rfl)) (rh_upd (rh_acc (by rfl) (by rfl)) (rh_upd (rh_acc (by rfl) (by rfl)) (rh_upd (rh_one (by rfl) (by rfl) (by rfl)) (rh_no _))))))))⟩
                  · try simp -implicitDefEqProofs only [go_sem, Nat.reduceEqDiff, Nat.reduceAdd, reduceCtorEq, ↓reduceIte, c99]
                    rcases ite_inv H100 with ⟨c101, H102⟩ | ⟨c101, H102⟩
                    · try simp -implicitDefEqProofs only [go_sem, c101]
                      obtain rfl := Option.some.inj H102
                      exact ⟨⟨⟨(t303, t313, t323, t333, true), rfl⟩, (g9, g10, g11, g12)⟩, ren_mk [(0, 0), (1, 1), (2, 2), (3, 3), (4, 4), (5, 5), (6, 6)] (by rfl) (rf_upd (by rfl) (rf_upd (by rfl) (rf_upd (by rfl) (rf_upd (by rfl) (rf_upd (by rfl) (rf_upd (by rfl) (rf_upd (by rfl) (rf_no _)))))))) (rh_upd (rh_one (by rfl) (by rfl) (by rfl)) (rh_upd (rh_one (by rfl) (renO_bx (renL_cons (ren_acc (by rfl)) (renL_cons (ren_acc (by rfl)) (renL_cons (ren_acc (by rfl)) (renL_cons (ren_acc (by rfl)) (renL_nil _)))))) (by rfl)) (rh_upd (rh_acc (by rfl) (by rfl)) (rh_upd (rh_acc (by rfl) (by rfl)) (rh_upd (rh_acc (by rfl) (by rfl)) (rh_upd (rh_acc (by rfl) (by rfl)) (rh_upd (rh_one (by rfl) (by rfl) (by rfl)) (rh_no _))))))))⟩
                    · try simp -implicitDefEqProofs only [go_sem, Nat.reduceEqDiff, Nat.reduceAdd, reduceCtorEq, ↓reduceIte, c101]
                      rcases ite_inv H102 with ⟨c103, H104⟩ | ⟨c103, H104⟩
                      · try simp -implicitDefEqProofs only [go_sem, c103]
                        obtain rfl := Option.some.inj H104
                        exact ⟨⟨⟨(t303, t313, t323, t333, true), rfl⟩, (g9, g10, g11, g12)⟩, ren_mk [(0, 0), (1, 1), (2, 2), (3, 3), (4, 4), (5, 5), (6, 6)] (by rfl) (rf_upd (by rfl) (rf_upd (by rfl) (rf_upd (by rfl) (rf_upd (by rfl) (rf_upd (by rfl) (rf_upd (by rfl) (rf_upd (by rfl) (rf_no _)))))))) (rh_upd (rh_one (by rfl) (by rfl) (by rfl)) (rh_upd (rh_one (by rfl) (renO_bx (renL_cons (ren_acc (by rfl)) (renL_cons (ren_acc (by rfl)) (renL_cons (ren_acc (by rfl)) (renL_cons (ren_acc (by rfl)) (renL_nil _)))))) (by rfl)) (rh_upd (rh_acc (by rfl) (by rfl)) (rh_upd (rh_acc (by rfl) (by rfl)) (rh_upd (rh_acc (by rfl) (by rfl)) (rh_upd (rh_acc (by rfl) (by rfl)) (rh_upd (rh_one (by rfl) (by rfl) (by rfl)) (rh_no _))))))))⟩
                      · try simp -implicitDefEqProofs only [go_sem, Nat.reduceEqDiff, Nat.reduceAdd, reduceCtorEq, ↓reduceIte, c103]
                        obtain rfl := Option.some.inj H104
                        exact ⟨⟨⟨(t303, t313, t323, t333, ((IntKind.i64.wrap (an x2 15 : Int)) == 12)), rfl⟩, (g9, g10, g11, g12)⟩, ren_mk [(0, 0), (1, 1), (2, 2), (3, 3), (4, 4), (5, 5), (6, 6)] (by rfl) (rf_upd (by rfl) (rf_upd (by rfl) (rf_upd (by rfl) (rf_upd (by rfl) (rf_upd (by rfl) (rf_upd (by rfl) (rf_upd (by rfl) (rf_no _)))))))) (rh_upd (rh_one (by rfl) (by rfl) (by rfl)) (rh_upd (rh_one (by rfl) (renO_bx (renL_cons (ren_acc (by rfl)) (renL_cons (ren_acc (by rfl)) (renL_cons (ren_acc (by rfl)) (renL_cons (ren_acc (by rfl)) (renL_nil _)))))) (by rfl)) (rh_upd (rh_acc (by rfl) (by rfl)) (rh_upd (rh_acc (by rfl) (by rfl)) (rh_upd (rh_acc (by rfl) (by rfl)) (rh_upd (rh_acc (by rfl) (by rfl)) (rh_upd (rh_one (by rfl) (by rfl) (by rfl)) (rh_no _))))))))⟩
                · rintro ⟨⟨⟨t304, t314, t324, t334, t502⟩, he143⟩, ⟨g13, g14, g15, g16⟩⟩
                  replace he143 := he143.symm
                  subst he143
                  try dsimp only at H98
                  refine runR_take tab_ok fol 4 ?_
                  try simp -implicitDefEqProofs only [go_sem, Nat.reduceEqDiff, reduceCtorEq, ↓reduceIte]
                  rcases ite_inv H98 with ⟨c105, H106⟩ | ⟨c105, H106⟩
                  · obtain ⟨l2, b107, H108⟩ := bind_inv H106
                    obtain ⟨h109, h110⟩ := app_inv b107
                    have h109 : t314.length + 1 ≤ 4294967296 := h109
                    have h111 : List.map eGTuple t314 ++ [[.v (.string t222.obj.type_), .v (.string t222.obj.id_), .v (.string t222.rel), .v (.string t222.sub_.type_), .v (.string t222.sub_.id_), .v (.string t222.sub_.rel)]] = List.map eGTuple l2 := app_map eGTuple h110
                    have h112 : t314.length + 1 = l2.length := app_len h110
                    have h113 : l2.length ≤ 4294967296 := by omega
                    have q114 : 0 < l2.length := by omega
                    try simp -implicitDefEqProofs only [go_sem, Nat.reduceLT, Nat.reduceEqDiff, Nat.reduceAdd, Nat.reduceMul, Nat.reduceLeDiff, reduceCtorEq, ↓reduceIte, c105, h111, h112, h113, accI_ne]
                    rcases t314 with _ | ⟨q0, q1⟩
                    · try simp only [List.map_nil, accI, accN]
                      exact ⟨⟨((c, (t304, l2, t324, t334, (IntKind.i64.wrap (t4 + 1)))), (g13, 0, g15, g16)), H108⟩, ren_mk [(0, 0), (1, 1), (2, 2), (3, 11), (4, 4), (5, 5)] (by rfl) (rf_upd (by rfl) (rf_upd (by rfl) (rf_upd (by rfl) (rf_upd (by rfl) (rf_no _))))) (rh_upd (rh_one (by rfl) (by rfl) (by rfl)) (rh_upd (rh_one (by rfl) (renO_bx (renL_cons (ren_acc (by rfl)) (renL_cons (ren_accP (by rfl) q114) (renL_cons (ren_acc (by rfl)) (renL_cons (ren_acc (by rfl)) (renL_nil _)))))) (by rfl)) (rh_upd (rh_acc (by rfl) (by rfl)) (rh_upd (rh_accP (by rfl) q114 (by rfl)) (rh_upd (rh_acc (by rfl) (by rfl)) (rh_upd (rh_acc (by rfl) (by rfl)) (rh_no _))))))), Nat.lt_succ_self _⟩
                    · try simp only [List.map_cons, accI, accN]
                      exact ⟨⟨((c, (t304, l2, t324, t334, (IntKind.i64.wrap (t4 + 1)))), (g13, (g14 + 1), g15, g16)), H108⟩, ren_mk [(0, 0), (1, 1), (2, 2), (3, 3), (4, 4), (5, 5)] (by rfl) (rf_upd (by rfl) (rf_upd (by rfl) (rf_upd (by rfl) (rf_upd (by rfl) (rf_no _))))) (rh_upd (rh_one (by rfl) (by rfl) (by rfl)) (rh_upd (rh_one (by rfl) (renO_bx (renL_cons (ren_acc (by rfl)) (renL_cons (ren_accP (by rfl) q114) (renL_cons (ren_acc (by rfl)) (renL_cons (ren_acc (by rfl)) (renL_nil _)))))) (by rfl)) (rh_upd (rh_acc (by rfl) (by rfl)) (rh_upd (rh_accP (by rfl) q114 (by rfl)) (rh_upd (rh_acc (by rfl) (by rfl)) (rh_upd (rh_acc (by rfl) (by rfl)) (rh_no _))))))), Nat.lt_succ_self _⟩
                  · try simp -implicitDefEqProofs only [go_sem, Nat.reduceEqDiff, Nat.reduceAdd, reduceCtorEq, ↓reduceIte, c105]
                    rcases ite_inv H106 with ⟨c115, H116⟩ | ⟨c115, H116⟩
                    · obtain ⟨l3, b117, H118⟩ := bind_inv H116
                      obtain ⟨h119, h120⟩ := app_inv b117
                      have h119 : t324.length + 1 ≤ 4294967296 := h119
                      have h121 : List.map eGTuple t324 ++ [[.v (.string t222.obj.type_), .v (.string t222.obj.id_), .v (.string t222.rel), .v (.string t222.sub_.type_), .v (.string t222.sub_.id_), .v (.string t222.sub_.rel)]] = List.map eGTuple l3 := app_map eGTuple h120
                      have h122 : t324.length + 1 = l3.length := app_len h120
                      have h123 : l3.length ≤ 4294967296 := by omega
                      have q124 : 0 < l3.length := by omega
                      try simp -implicitDefEqProofs only [go_sem, Nat.reduceLT, Nat.reduceEqDiff, Nat.reduceAdd, Nat.reduceMul, Nat.reduceLeDiff, reduceCtorEq, ↓reduceIte, c115, h121, h122, h123, accI_ne]
                      rcases t324 with _ | ⟨q0, q1⟩
                      · try simp only [List.map_nil, accI, accN]
                        exact ⟨⟨((c, (t304, t314, l3, t334, (IntKind.i64.wrap (t4 + 1)))), (g13, g14, 0, g16)), H118⟩, ren_mk [(0, 0), (1, 1), (2, 2), (3, 3), (4, 13), (5, 5)] (by rfl) (rf_upd (by rfl) (rf_upd (by rfl) (rf_upd (by rfl) (rf_upd (by rfl) (rf_no _))))) (rh_upd (rh_one (by rfl) (by rfl) (by rfl)) (rh_upd (rh_one (by rfl) (renO_bx (renL_cons (ren_acc (by rfl)) (renL_cons (ren_acc (by rfl)) (renL_cons (ren_accP (by rfl) q124) (renL_cons (ren_acc (by rfl)) (renL_nil _)))))) (by rfl)) (rh_upd (rh_acc (by rfl) (by rfl)) (rh_upd (rh_acc (by rfl) (by rfl)) (rh_upd (rh_accP (by rfl) q124 (by rfl)) (rh_upd (rh_acc (by rfl) (by rfl)) (rh_no _))))))), Nat.lt_succ_self _⟩
                      · try simp only [List.map_cons, accI, accN]
                        exact ⟨⟨((c, (t304, t314, l3, t334, (IntKind.i64.wrap (t4 + 1)))), (g13, g14, (g15 + 1), g16)), H118⟩, ren_mk [(0, 0), (1, 1), (2, 2), (3, 3), (4, 4), (5, 5)] (by rfl) (rf_upd (by rfl) (rf_upd (by rfl) (rf_upd (by rfl) (rf_upd (by rfl) (rf_no _))))) (rh_upd (rh_one (by rfl) (by rfl) (by rfl)) (rh_upd (rh_one (by rfl) (renO_bx (renL_cons (ren_acc (by rfl)) (renL_cons (ren_acc (by rfl)) (renL_cons (ren_accP (by rfl) q124) (renL_cons (ren_acc (by rfl)) (renL_nil _)))))) (by rfl)) (rh_upd (rh_acc (by rfl) (by rfl)) (rh_upd (rh_acc (by rfl) (by rfl)) (rh_upd (rh_accP (by rfl) q124 (by rfl)) (rh_upd (rh_acc (by rfl) (by rfl)) (rh_no _))))))), Nat.lt_succ_self _⟩
                    · try simp -implicitDefEqProofs only [go_sem, Nat.reduceEqDiff, Nat.reduceAdd, reduceCtorEq, ↓reduceIte, c115]
                      rcases ite_inv H116 with ⟨c125, H126⟩ | ⟨c125, H126⟩
                      · obtain ⟨l4, b127, H128⟩ := bind_inv H126
                        obtain ⟨h129, h130⟩ := app_inv b127
                        have h129 : t334.length + 1 ≤ 4294967296 := h129
                        have h131 : List.map eGTuple t334 ++ [[.v (.string t222.obj.type_), .v (.string t222.obj.id_), .v (.string t222.rel), .v (.string t222.sub_.type_), .v (.string t222.sub_.id_), .v (.string t222.sub_.rel)]] = List.map eGTuple l4 := app_map eGTuple h130
                        have h132 : t334.length + 1 = l4.length := app_len h130
                        have h133 : l4.length ≤ 4294967296 := by omega
                        have q134 : 0 < l4.length := by omega
                        try simp -implicitDefEqProofs only [go_sem, Nat.reduceLT, Nat.reduceEqDiff, Nat.reduceAdd, Nat.reduceMul, Nat.reduceLeDiff, reduceCtorEq, ↓reduceIte, c125, h131, h132, h133, accI_ne]
                        rcases t334 with _ | ⟨q0, q1⟩
                        · try simp only [List.map_nil, accI, accN]
                          exact ⟨⟨((c, (t304, t314, t324, l4, (IntKind.i64.wrap (t4 + 1)))), (g13, g14, g15, 0)), H128⟩, ren_mk [(0, 0), (1, 1), (2, 2), (3, 3), (4, 4), (5, 15)] (by rfl) (rf_upd (by rfl) (rf_upd (by rfl) (rf_upd (by rfl) (rf_upd (by rfl) (rf_no _))))) (rh_upd (rh_one (by rfl) (by rfl) (by rfl)) (rh_upd (rh_one (by rfl) (renO_bx (renL_cons (ren_acc (by rfl)) (renL_cons (ren_acc (by rfl)) (renL_cons (ren_acc (by rfl)) (renL_cons (ren_accP (by rfl) q134) (renL_nil _)))))) (by rfl)) (rh_upd (rh_acc (by rfl) (by rfl)) (rh_upd (rh_acc (by rfl) (by rfl)) (rh_upd (rh_acc (by rfl) (by rfl)) (rh_upd (rh_accP (by rfl) q134 (by rfl)) (rh_no _))))))), Nat.lt_succ_self _⟩
                        · try simp only [List.map_cons, accI, accN]
                          exact ⟨⟨((c, (t304, t314, t324, l4, (IntKind.i64.wrap (t4 + 1)))), (g13, g14, g15, (g16 + 1))), H128⟩, ren_mk [(0, 0), (1, 1), (2, 2), (3, 3), (4, 4), (5, 5)] (by rfl) (rf_upd (by rfl) (rf_upd (by rfl) (rf_upd (by rfl) (rf_upd (by rfl) (rf_no _))))) (rh_upd (rh_one (by rfl) (by rfl) (by rfl)) (rh_upd (rh_one (by rfl) (renO_bx (renL_cons (ren_acc (by rfl)) (renL_cons (ren_acc (by rfl)) (renL_cons (ren_acc (by rfl)) (renL_cons (ren_accP (by rfl) q134) (renL_nil _)))))) (by rfl)) (rh_upd (rh_acc (by rfl) (by rfl)) (rh_upd (rh_acc (by rfl) (by rfl)) (rh_upd (rh_acc (by rfl) (by rfl)) (rh_upd (rh_accP (by rfl) q134 (by rfl)) (rh_no _))))))), Nat.lt_succ_self _⟩
                      · obtain ⟨l5, b135, H136⟩ := bind_inv H126
                        obtain ⟨h137, h138⟩ := app_inv b135
                        have h137 : t304.length + 1 ≤ 4294967296 := h137
                        have h139 : List.map eGTuple t304 ++ [[.v (.string ByteArray.empty), .v (.string ByteArray.empty), .v (.string { data := #[120] }), .v (.string ByteArray.empty), .v (.string ByteArray.empty), .v (.string ByteArray.empty)]] = List.map eGTuple l5 := app_map eGTuple h138
                        have h140 : t304.length + 1 = l5.length := app_len h138
                        have h141 : l5.length ≤ 4294967296 := by omega
                        have q142 : 0 < l5.length := by omega
                        try simp -implicitDefEqProofs only [go_sem, Nat.reduceLT, Nat.reduceEqDiff, Nat.reduceAdd, Nat.reduceMul, Nat.reduceLeDiff, reduceCtorEq, ↓reduceIte, c125, h139, h140, h141, accI_ne]
                        rcases t304 with _ | ⟨q0, q1⟩
                        · try simp only [List.map_nil, accI, accN]
                          exact ⟨⟨((c, (l5, t314, t324, t334, (IntKind.i64.wrap (t4 + 1)))), (0, g14, g15, g16)), H136⟩, ren_mk [(0, 0), (1, 1), (2, 15), (3, 3), (4, 4), (5, 5)] (by rfl) (rf_upd (by rfl) (rf_upd (by rfl) (rf_upd (by rfl) (rf_upd (by rfl) (rf_no _))))) (rh_upd (rh_one (by rfl) (by rfl) (by rfl)) (rh_upd (rh_one (by rfl) (renO_bx (renL_cons (ren_accP (by rfl) q142) (renL_cons (ren_acc (by rfl)) (renL_cons (ren_acc (by rfl)) (renL_cons (ren_acc (by rfl)) (renL_nil _)))))) (by rfl)) (rh_upd (rh_accP (by rfl) q142 (by rfl)) (rh_upd (rh_acc (by rfl) (by rfl)) (rh_upd (rh_acc (by rfl) (by rfl)) (rh_upd (rh_acc (by rfl) (by rfl)) (rh_no _))))))), Nat.lt_succ_self _⟩
                        · try simp only [List.map_cons, accI, accN]
                          exact ⟨⟨((c, (l5, t314, t324, t334, (IntKind.i64.wrap (t4 + 1)))), ((g13 + 1), g14, g15, g16)), H136⟩, ren_mk [(0, 0), (1, 1), (2, 2), (3, 3), (4, 4), (5, 5)] (by rfl) (rf_upd (by rfl) (rf_upd (by rfl) (rf_upd (by rfl) (rf_upd (by rfl) (rf_no _))))) (rh_upd (rh_one (by rfl) (by rfl) (by rfl)) (rh_upd (rh_one (by rfl) (renO_bx (renL_cons (ren_accP (by rfl) q142) (renL_cons (ren_acc (by rfl)) (renL_cons (ren_acc (by rfl)) (renL_cons (ren_acc (by rfl)) (renL_nil _)))))) (by rfl)) (rh_upd (rh_accP (by rfl) q142 (by rfl)) (rh_upd (rh_acc (by rfl) (by rfl)) (rh_upd (rh_acc (by rfl) (by rfl)) (rh_upd (rh_acc (by rfl) (by rfl)) (rh_no _))))))), Nat.lt_succ_self _⟩
          · try simp -implicitDefEqProofs only [go_sem, ↓reduceIte, c59]
            obtain rfl := Option.some.inj H60
            exact ⟨⟨⟨(t302, t312, t322, t332), rfl⟩, (g5, g6, g7, g8)⟩, ren_mk [(0, 0), (1, 1), (2, 2), (3, 3), (4, 4), (5, 5)] (by rfl) (rf_upd (by rfl) (rf_upd (by rfl) (rf_no _))) (rh_upd (rh_one (by rfl) (by rfl) (by rfl)) (rh_upd (rh_one (by rfl) (renO_bx (renL_cons (ren_acc (by rfl)) (renL_cons (ren_acc (by rfl)) (renL_cons (ren_acc (by rfl)) (renL_cons (ren_acc (by rfl)) (renL_nil _)))))) (by rfl)) (rh_upd (rh_acc (by rfl) (by rfl)) (rh_upd (rh_acc (by rfl) (by rfl)) (rh_upd (rh_acc (by rfl) (by rfl)) (rh_upd (rh_acc (by rfl) (by rfl)) (rh_no _)))))))⟩
  · rintro ⟨⟨⟨t306, t316, t326, t336⟩, he146⟩, ⟨g21, g22, g23, g24⟩⟩
    replace he146 := he146.symm
    subst he146
    try dsimp only at H2
    refine runR_take tab_ok fol 1 ?_
    try simp -implicitDefEqProofs only [go_sem, Nat.reduceEqDiff, Nat.reduceAdd, reduceCtorEq, ↓reduceIte]
    obtain rfl := Option.some.inj H2
    exact end_pure (by first | (simp -implicitDefEqProofs only [go_sem, Nat.reduceEqDiff, Nat.reduceAdd, ↓reduceIte, Try.f33] <;> rfl) | rfl) (by first | rfl | (simp -implicitDefEqProofs only [go_sem, Nat.reduceEqDiff, reduceCtorEq, ↓reduceIte]; done) | (simp -implicitDefEqProofs only [go_sem, Nat.reduceEqDiff, reduceCtorEq, ↓reduceIte]; rfl)) rfl (by intro h; first | rfl | cases h)
def stor_Store_Write_c1 (n : Nat) (t : GTuple) (c2 : List GTuple) : Option Bool :=
  (rows_Has n c2 t).bind fun t6 =>
  some t6
theorem stor_Store_Write_c1_ok {n : Nat} {t : GTuple} {c2 : List GTuple} {r : Bool} (H : stor_Store_Write_c1 n t c2 = some r) : PureOK Try.prog 66 [D.ag (eGTuple t), D.pt [D.sl (List.map eGTuple c2)] 0] (D.v (.bool r)) true := by
  unfold stor_Store_Write_c1 at H
  refine pure_runR (tab := tab) tab_ok Try.func66 rfl (by kernel_rfl) (by kernel_rfl) (by simp [Try.f66]) ?_
  refine runR_take tab_ok fol 1 ?_
  obtain ⟨t6, b1, H2⟩ := bind_inv H
  try simp -implicitDefEqProofs only [go_sem, Nat.reduceEqDiff, Nat.reduceAdd, ↓reduceIte, eGTuple]
  refine onCall_pure (by first | rfl | (simp -implicitDefEqProofs only [go_sem, Int.reduceToNat, Int.reduceLT, Int.reduceLE, Int.reduceBEq, Int.reduceBNe, Nat.reduceLT, Nat.reduceBEq, Int.reduceEq, Nat.reduceEqDiff, Nat.reduceAdd, Nat.reduceSub, Nat.reduceMul, Nat.reduceLeDiff, reduceCtorEq, ↓reduceIte, eGTuple, eStorStore, eGBatch, eGObj, eGSub]; done) | (simp -implicitDefEqProofs only [go_sem, Int.reduceToNat, Int.reduceLT, Int.reduceLE, Int.reduceBEq, Int.reduceBNe, Nat.reduceLT, Nat.reduceBEq, Int.reduceEq, Nat.reduceEqDiff, Nat.reduceAdd, Nat.reduceSub, Nat.reduceMul, Nat.reduceLeDiff, reduceCtorEq, ↓reduceIte, eGTuple, eStorStore, eGBatch, eGObj, eGSub]; rfl)) (rows_Has_ok b1) (by first | exact .inr rfl | exact .inl rfl) ?_
  try simp -implicitDefEqProofs only [go_sem, Nat.reduceAdd, ↓reduceIte]
  obtain rfl := Option.some.inj H2
  exact end_pure (by first | (simp -implicitDefEqProofs only [go_sem, ↓reduceIte, Try.f66] <;> rfl) | rfl) (by first | rfl | (simp -implicitDefEqProofs only [go_sem, Int.reduceToNat, Int.reduceLT, Int.reduceLE, Int.reduceBEq, Int.reduceBNe, Nat.reduceLT, Nat.reduceBEq, Int.reduceEq, Nat.reduceEqDiff, Nat.reduceAdd, Nat.reduceSub, Nat.reduceMul, Nat.reduceLeDiff, reduceCtorEq, ↓reduceIte, eGTuple, eStorStore, eGBatch, eGObj, eGSub]; done) | (simp -implicitDefEqProofs only [go_sem, Int.reduceToNat, Int.reduceLT, Int.reduceLE, Int.reduceBEq, Int.reduceBNe, Nat.reduceLT, Nat.reduceBEq, Int.reduceEq, Nat.reduceEqDiff, Nat.reduceAdd, Nat.reduceSub, Nat.reduceMul, Nat.reduceLeDiff, reduceCtorEq, ↓reduceIte, eGTuple, eStorStore, eGBatch, eGObj, eGSub]; rfl)) rfl (by intro h; first | rfl | cases h)
def slices_Equal_Tuple_L1 (n : Nat) (s1 : List GTuple) (s2 : List GTuple) : Nat → Int → Option ((Unit) ⊕ Bool)
  | 0, _ => none
  | c + 1, t13 =>
    (if (decide (t13 < (s1.length : Int))) then
      (idx s1 t13).bind fun x3 =>
      (idx s2 t13).bind fun x4 =>
      (if ((x3.obj.type_ == x4.obj.type_) && ((x3.obj.id_ == x4.obj.id_) && ((x3.rel == x4.rel) && ((x3.sub_.type_ == x4.sub_.type_) && ((x3.sub_.id_ == x4.sub_.id_) && (x3.sub_.rel == x4.sub_.rel)))))) then
        slices_Equal_Tuple_L1 n s1 s2 c (IntKind.i64.wrap (t13 + 1))
      else
        some (.inr false))
    else
      some (.inl ()))

def slices_Equal_Tuple (n : Nat) (s1 : List GTuple) (s2 : List GTuple) : Option Bool :=
  (if ((s1.length : Int) != (s2.length : Int)) then
    some false
  else
    (
      slices_Equal_Tuple_L1 n s1 s2 n 0 : Option ((Unit) ⊕ Bool)).bind fun
      | .inl _ =>
        some true
      | .inr r => some r)
theorem slices_Equal_Tuple_ok {n : Nat} {s1 : List GTuple} {s2 : List GTuple} {r : Bool} (H : slices_Equal_Tuple n s1 s2 = some r) : PureOK Try.prog 69 [D.sl (List.map eGTuple s1), D.sl (List.map eGTuple s2)] (D.v (.bool r)) true := by
  unfold slices_Equal_Tuple at H
  refine pure_runR (tab := tab) tab_ok Try.func69 rfl (by kernel_rfl) (by kernel_rfl) (by simp [Try.f69]) ?_
  refine runR_seq ?_
  refine runR_take tab_ok fol 1 ?_
  try simp -implicitDefEqProofs only [go_sem]
  refine runR_seq ?_
  refine runR_take tab_ok fol 1 ?_
  try simp -implicitDefEqProofs only [go_sem, Nat.reduceEqDiff, Nat.reduceAdd, reduceCtorEq, ↓reduceIte]
  rcases ite_inv H with ⟨c1, H2⟩ | ⟨c1, H2⟩
  · try simp -implicitDefEqProofs only [go_sem, Nat.reduceAdd, c1]
    obtain rfl := Option.some.inj H2
    exact end_pure (by first | (simp -implicitDefEqProofs only [go_sem, ↓reduceIte, Try.f69] <;> rfl) | rfl) (by first | rfl | (simp -implicitDefEqProofs only [go_sem, Int.reduceToNat, Int.reduceLT, Int.reduceLE, Int.reduceBEq, Int.reduceBNe, Nat.reduceLT, Nat.reduceBEq, Int.reduceEq, Nat.reduceEqDiff, Nat.reduceAdd, Nat.reduceSub, Nat.reduceMul, Nat.reduceLeDiff, reduceCtorEq, ↓reduceIte, eGTuple, eStorStore, eGBatch, eGObj, eGSub, c1]; done) | (simp -implicitDefEqProofs only [go_sem, Int.reduceToNat, Int.reduceLT, Int.reduceLE, Int.reduceBEq, Int.reduceBNe, Nat.reduceLT, Nat.reduceBEq, Int.reduceEq, Nat.reduceEqDiff, Nat.reduceAdd, Nat.reduceSub, Nat.reduceMul, Nat.reduceLeDiff, reduceCtorEq, ↓reduceIte, eGTuple, eStorStore, eGBatch, eGObj, eGSub, c1]; rfl)) rfl (by intro h; first | rfl | cases h)
  · try simp -implicitDefEqProofs only [go_sem, c1]
    refine runR_seq ?_
    refine runR_seq ?_
    refine runR_take tab_ok fol 1 ?_
    try simp -implicitDefEqProofs only [go_sem, Nat.reduceAdd, reduceCtorEq, ↓reduceIte]
    obtain ⟨e_, E3, H4⟩ := bind_inv H2
    refine runR_join (α := { y : Unit // e_ = .inl y }) (fun | ⟨_, _⟩ => ⟨noFr, noHp, 0⟩) ?_ ?_
    · refine runR_block ?_
      refine runR_loop (α := { q : Nat × Int // slices_Equal_Tuple_L1 n s1 s2 q.1 q.2 = some e_ }) (fun | ⟨⟨c, t13⟩, _⟩ => ⟨upd 0 (.d (.sl (List.map eGTuple s1)) true) (upd 1 (.d (.sl (List.map eGTuple s2)) true) (upd 12 (.v (.int .i64 (s1.length : Int))) (upd 13 (.v (.int .i64 t13)) noFr))), noHp, 0⟩) (fun q => q.1.1) ⟨(n, 0), E3⟩ ?_ ?_
      · exact ren_mk [] (by rfl) (rf_upd (by rfl) (rf_upd (by rfl) (rf_upd (by rfl) (rf_upd (by rfl) (rf_no _))))) (rh_no _)
      · rintro ⟨⟨c, t13⟩, L5⟩
        rcases c with _ | c
        · exact nomatch (show none = some _ from L5)
        · unfold slices_Equal_Tuple_L1 at L5
          try dsimp only at L5
          refine runR_take tab_ok fol 1 ?_
          try simp -implicitDefEqProofs only [go_sem, Nat.reduceEqDiff, reduceCtorEq, ↓reduceIte]
          rcases ite_inv L5 with ⟨c22, H23⟩ | ⟨c22, H23⟩
          · obtain ⟨x3, b24, H25⟩ := bind_inv H23
            obtain ⟨h26, h27⟩ := idx_inv b24
            try simp only [Int.reduceToNat, Int.toNat_natCast] at h27
            have h28 := map_at eGTuple h27
            obtain ⟨x4, b30, H31⟩ := bind_inv H25
            obtain ⟨h32, h33⟩ := idx_inv b30
            try simp only [Int.reduceToNat, Int.toNat_natCast] at h33
            have h34 := map_at eGTuple h33
            try simp -implicitDefEqProofs only [go_sem, Nat.reduceEqDiff, Nat.reduceAdd, reduceCtorEq, ↓reduceIte, eGTuple, c22, nat_of .i64 h26, h28, h34]
            refine Rd_endF (by rfl) ?_
            try simp -implicitDefEqProofs only [go_sem, ↓reduceIte]
            rcases ite_inv H31 with ⟨c36, H37⟩ | ⟨c36, H37⟩
            · try simp -implicitDefEqProofs only [go_sem, Nat.reduceEqDiff, Nat.reduceAdd, reduceCtorEq, ↓reduceIte, c36]
              exact ⟨⟨(c, (IntKind.i64.wrap (t13 + 1))), H37⟩, ren_mk [] (by rfl) (rf_upd (by rfl) (rf_upd (by rfl) (rf_upd (by rfl) (rf_upd (by rfl) (rf_no _))))) (rh_no _), Nat.lt_succ_self _⟩
            · try simp -implicitDefEqProofs only [go_sem, Nat.reduceAdd, c36]
              obtain rfl := Option.some.inj H37
              obtain rfl := Option.some.inj H4
              exact end_pure (by first | (simp -implicitDefEqProofs only [go_sem, ↓reduceIte, Try.f69] <;> rfl) | rfl) (by first | rfl | (simp -implicitDefEqProofs only [go_sem, Int.reduceToNat, Int.reduceLT, Int.reduceLE, Int.reduceBEq, Int.reduceBNe, Nat.reduceLT, Nat.reduceBEq, Int.reduceEq, Nat.reduceEqDiff, Nat.reduceAdd, Nat.reduceSub, Nat.reduceMul, Nat.reduceLeDiff, reduceCtorEq, ↓reduceIte, eGTuple, eStorStore, eGBatch, eGObj, eGSub, c22, nat_of .i64 h26, h28, nat_of .i64 h32, h34, c36]; done) | (simp -implicitDefEqProofs only [go_sem, Int.reduceToNat, Int.reduceLT, Int.reduceLE, Int.reduceBEq, Int.reduceBNe, Nat.reduceLT, Nat.reduceBEq, Int.reduceEq, Nat.reduceEqDiff, Nat.reduceAdd, Nat.reduceSub, Nat.reduceMul, Nat.reduceLeDiff, reduceCtorEq, ↓reduceIte, eGTuple, eStorStore, eGBatch, eGObj, eGSub, c22, nat_of .i64 h26, h28, nat_of .i64 h32, h34, c36]; rfl)) rfl (by intro h; first | rfl | cases h)
          · try simp -implicitDefEqProofs only [go_sem, ↓reduceIte, c22]
            obtain rfl := Option.some.inj H23
            exact ⟨⟨(), rfl⟩, ren_mk [] (by rfl) (rf_no _) (rh_no _)⟩
    · rintro ⟨_, he38⟩
      replace he38 := he38.symm
      subst he38
      try dsimp only at H4
      refine runR_take tab_ok fol 1 ?_
      try simp -implicitDefEqProofs only [go_sem]
      obtain rfl := Option.some.inj H4
      exact end_pure (by first | (simp -implicitDefEqProofs only [go_sem, ↓reduceIte, Try.f69] <;> rfl) | rfl) (by first | rfl | (simp -implicitDefEqProofs only [go_sem, Int.reduceToNat, Int.reduceLT, Int.reduceLE, Int.reduceBEq, Int.reduceBNe, Nat.reduceLT, Nat.reduceBEq, Int.reduceEq, Nat.reduceEqDiff, Nat.reduceAdd, Nat.reduceSub, Nat.reduceMul, Nat.reduceLeDiff, reduceCtorEq, ↓reduceIte, eGTuple, eStorStore, eGBatch, eGObj, eGSub]; done) | (simp -implicitDefEqProofs only [go_sem, Int.reduceToNat, Int.reduceLT, Int.reduceLE, Int.reduceBEq, Int.reduceBNe, Nat.reduceLT, Nat.reduceBEq, Int.reduceEq, Nat.reduceEqDiff, Nat.reduceAdd, Nat.reduceSub, Nat.reduceMul, Nat.reduceLeDiff, reduceCtorEq, ↓reduceIte, eGTuple, eStorStore, eGBatch, eGObj, eGSub]; rfl)) rfl (by intro h; first | rfl | cases h)
def slices_IndexFunc_Tuple__stor_Store_Write_c1_L1 (n : Nat) (s : List GTuple) (c2 : List GTuple) : Nat → Int → Option ((Unit) ⊕ Int)
  | 0, _ => none
  | c + 1, t8 =>
    (if (decide (t8 < (s.length : Int))) then
      (idx s t8).bind fun x2 =>
      (stor_Store_Write_c1 n x2 c2).bind fun t162 =>
      (if t162 then
        some (.inr t8)
      else
        slices_IndexFunc_Tuple__stor_Store_Write_c1_L1 n s c2 c (IntKind.i64.wrap (t8 + 1)))
    else
      some (.inl ()))

def slices_IndexFunc_Tuple__stor_Store_Write_c1 (n : Nat) (s : List GTuple) (c2 : List GTuple) : Option Int :=
  (
    slices_IndexFunc_Tuple__stor_Store_Write_c1_L1 n s c2 n 0 : Option ((Unit) ⊕ Int)).bind fun
    | .inl _ =>
      some (-1)
    | .inr r => some r
theorem slices_IndexFunc_Tuple__stor_Store_Write_c1_ok {n : Nat} {s : List GTuple} {c2 : List GTuple} {r : Int} (H : slices_IndexFunc_Tuple__stor_Store_Write_c1 n s c2 = some r) : PureA Try.prog 81 [.d (D.sl (List.map eGTuple s)), .fn 66 [D.pt [D.sl (List.map eGTuple c2)] 0]] (D.v (.int .i64 r)) true := by
  unfold slices_IndexFunc_Tuple__stor_Store_Write_c1 at H
  refine pureA_runR (tab := tab) tab_ok Try.func81 rfl (by kernel_rfl) (by kernel_rfl) (by simp [Try.f81]) ?_
  refine runR_seq ?_
  refine runR_take tab_ok fol 1 ?_
  try simp -implicitDefEqProofs only [go_sem]
  refine runR_seq ?_
  refine runR_seq ?_
  refine runR_take tab_ok fol 1 ?_
  try simp -implicitDefEqProofs only [go_sem, Nat.reduceAdd, reduceCtorEq, ↓reduceIte]
  obtain ⟨e_, E1, H2⟩ := bind_inv H
  refine runR_join (α := { y : Unit // e_ = .inl y }) (fun | ⟨_, _⟩ => ⟨noFr, noHp, 0⟩) ?_ ?_
  · refine runR_block ?_
    refine runR_loop (α := { q : Nat × Int // slices_IndexFunc_Tuple__stor_Store_Write_c1_L1 n s c2 q.1 q.2 = some e_ }) (fun | ⟨⟨c, t8⟩, _⟩ => ⟨upd 0 (.d (.sl (List.map eGTuple s)) true) (upd 1 (.fn 66 [.d (.pt [.sl (List.map eGTuple c2)] 0) true]) (upd 7 (.v (.int .i64 (s.length : Int))) (upd 8 (.v (.int .i64 t8)) noFr))), noHp, 0⟩) (fun q => q.1.1) ⟨(n, 0), E1⟩ ?_ ?_
    · exact ren_mk [] (by rfl) (rf_upd (by rfl) (rf_upd (by rfl) (rf_upd (by rfl) (rf_upd (by rfl) (rf_no _))))) (rh_no _)
    · rintro ⟨⟨c, t8⟩, L3⟩
      rcases c with _ | c
      · exact nomatch (show none = some _ from L3)
      · unfold slices_IndexFunc_Tuple__stor_Store_Write_c1_L1 at L3
        try dsimp only at L3
        refine runR_take tab_ok fol 1 ?_
        try simp -implicitDefEqProofs only [go_sem, Nat.reduceEqDiff, reduceCtorEq, ↓reduceIte]
        rcases ite_inv L3 with ⟨c16, H17⟩ | ⟨c16, H17⟩
        · obtain ⟨x2, b18, H19⟩ := bind_inv H17
          obtain ⟨h20, h21⟩ := idx_inv b18
          try simp only [Int.reduceToNat, Int.toNat_natCast] at h21
          have h22 := map_at eGTuple h21
          obtain ⟨t162, b24, H25⟩ := bind_inv H19
          try simp -implicitDefEqProofs only [go_sem, Nat.reduceEqDiff, Nat.reduceAdd, reduceCtorEq, ↓reduceIte, eGTuple, c16, nat_of .i64 h20, h22]
          refine onCall_pure (by first | rfl | (simp -implicitDefEqProofs only [go_sem, Int.reduceToNat, Int.reduceLT, Int.reduceLE, Int.reduceBEq, Int.reduceBNe, Nat.reduceLT, Nat.reduceBEq, Int.reduceEq, Nat.reduceEqDiff, Nat.reduceAdd, Nat.reduceSub, Nat.reduceMul, Nat.reduceLeDiff, reduceCtorEq, ↓reduceIte, eGTuple, eStorStore, eGBatch, eGObj, eGSub, c16, nat_of .i64 h20, h22]; done) | (simp -implicitDefEqProofs only [go_sem, Int.reduceToNat, Int.reduceLT, Int.reduceLE, Int.reduceBEq, Int.reduceBNe, Nat.reduceLT, Nat.reduceBEq, Int.reduceEq, Nat.reduceEqDiff, Nat.reduceAdd, Nat.reduceSub, Nat.reduceMul, Nat.reduceLeDiff, reduceCtorEq, ↓reduceIte, eGTuple, eStorStore, eGBatch, eGObj, eGSub, c16, nat_of .i64 h20, h22]; rfl)) (stor_Store_Write_c1_ok b24) (by first | exact .inr rfl | exact .inl rfl) ?_
          try simp -implicitDefEqProofs only [go_sem, ↓reduceIte]
          rcases ite_inv H25 with ⟨c26, H27⟩ | ⟨c26, H27⟩
          · try simp -implicitDefEqProofs only [go_sem, Nat.reduceEqDiff, Nat.reduceAdd, ↓reduceIte, c26]
            obtain rfl := Option.some.inj H27
            obtain rfl := Option.some.inj H2
            exact end_pure (by first | (simp -implicitDefEqProofs only [go_sem, ↓reduceIte, Try.f81] <;> rfl) | rfl) (by first | rfl | (simp -implicitDefEqProofs only [go_sem, Int.reduceToNat, Int.reduceLT, Int.reduceLE, Int.reduceBEq, Int.reduceBNe, Nat.reduceLT, Nat.reduceBEq, Int.reduceEq, Nat.reduceEqDiff, Nat.reduceAdd, Nat.reduceSub, Nat.reduceMul, Nat.reduceLeDiff, reduceCtorEq, ↓reduceIte, eGTuple, eStorStore, eGBatch, eGObj, eGSub, c16, nat_of .i64 h20, h22, c26]; done) | (simp -implicitDefEqProofs only [go_sem, Int.reduceToNat, Int.reduceLT, Int.reduceLE, Int.reduceBEq, Int.reduceBNe, Nat.reduceLT, Nat.reduceBEq, Int.reduceEq, Nat.reduceEqDiff, Nat.reduceAdd, Nat.reduceSub, Nat.reduceMul, Nat.reduceLeDiff, reduceCtorEq, ↓reduceIte, eGTuple, eStorStore, eGBatch, eGObj, eGSub, c16, nat_of .i64 h20, h22, c26]; rfl)) rfl (by intro h; first | rfl | cases h)
          · try simp -implicitDefEqProofs only [go_sem, Nat.reduceEqDiff, Nat.reduceAdd, reduceCtorEq, ↓reduceIte, c26]
            exact ⟨⟨(c, (IntKind.i64.wrap (t8 + 1))), H27⟩, ren_mk [] (by rfl) (rf_upd (by rfl) (rf_upd (by rfl) (rf_upd (by rfl) (rf_upd (by rfl) (rf_no _))))) (rh_no _), Nat.lt_succ_self _⟩
        · try simp -implicitDefEqProofs only [go_sem, ↓reduceIte, c16]
          obtain rfl := Option.some.inj H17
          exact ⟨⟨(), rfl⟩, ren_mk [] (by rfl) (rf_no _) (rh_no _)⟩
  · rintro ⟨_, he28⟩
    replace he28 := he28.symm
    subst he28
    try dsimp only at H2
    refine runR_take tab_ok fol 1 ?_
    try simp -implicitDefEqProofs only [go_sem]
    obtain rfl := Option.some.inj H2
    exact end_pure (by first | (simp -implicitDefEqProofs only [go_sem, ↓reduceIte, Try.f81] <;> rfl) | rfl) (by first | rfl | (simp -implicitDefEqProofs only [go_sem, Int.reduceToNat, Int.reduceLT, Int.reduceLE, Int.reduceBEq, Int.reduceBNe, Nat.reduceLT, Nat.reduceBEq, Int.reduceEq, Nat.reduceEqDiff, Nat.reduceAdd, Nat.reduceSub, Nat.reduceMul, Nat.reduceLeDiff, reduceCtorEq, ↓reduceIte, eGTuple, eStorStore, eGBatch, eGObj, eGSub]; done) | (simp -implicitDefEqProofs only [go_sem, Int.reduceToNat, Int.reduceLT, Int.reduceLE, Int.reduceBEq, Int.reduceBNe, Nat.reduceLT, Nat.reduceBEq, Int.reduceEq, Nat.reduceEqDiff, Nat.reduceAdd, Nat.reduceSub, Nat.reduceMul, Nat.reduceLeDiff, reduceCtorEq, ↓reduceIte, eGTuple, eStorStore, eGBatch, eGObj, eGSub]; rfl)) rfl (by intro h; first | rfl | cases h)
def slices_ContainsFunc_Tuple__stor_Store_Write_c1 (n : Nat) (s : List GTuple) (c2 : List GTuple) : Option Bool :=
  (slices_IndexFunc_Tuple__stor_Store_Write_c1 n s c2).bind fun t7 =>
  some (decide (0 ≤ t7))
theorem slices_ContainsFunc_Tuple__stor_Store_Write_c1_ok {n : Nat} {s : List GTuple} {c2 : List GTuple} {r : Bool} (H : slices_ContainsFunc_Tuple__stor_Store_Write_c1 n s c2 = some r) : PureA Try.prog 67 [.d (D.sl (List.map eGTuple s)), .fn 66 [D.pt [D.sl (List.map eGTuple c2)] 0]] (D.v (.bool r)) true := by
  unfold slices_ContainsFunc_Tuple__stor_Store_Write_c1 at H
  refine pureA_runR (tab := tab) tab_ok Try.func67 rfl (by kernel_rfl) (by kernel_rfl) (by simp [Try.f67]) ?_
  refine runR_take tab_ok fol 1 ?_
  obtain ⟨t7, b1, H2⟩ := bind_inv H
  try simp -implicitDefEqProofs only [go_sem, Nat.reduceEqDiff, Nat.reduceAdd, reduceCtorEq, ↓reduceIte]
  refine onCall_pureA (by first | rfl | (simp -implicitDefEqProofs only [go_sem, Int.reduceToNat, Int.reduceLT, Int.reduceLE, Int.reduceBEq, Int.reduceBNe, Nat.reduceLT, Nat.reduceBEq, Int.reduceEq, Nat.reduceEqDiff, Nat.reduceAdd, Nat.reduceSub, Nat.reduceMul, Nat.reduceLeDiff, reduceCtorEq, ↓reduceIte, eGTuple, eStorStore, eGBatch, eGObj, eGSub]; done) | (simp -implicitDefEqProofs only [go_sem, Int.reduceToNat, Int.reduceLT, Int.reduceLE, Int.reduceBEq, Int.reduceBNe, Nat.reduceLT, Nat.reduceBEq, Int.reduceEq, Nat.reduceEqDiff, Nat.reduceAdd, Nat.reduceSub, Nat.reduceMul, Nat.reduceLeDiff, reduceCtorEq, ↓reduceIte, eGTuple, eStorStore, eGBatch, eGObj, eGSub]; rfl)) (slices_IndexFunc_Tuple__stor_Store_Write_c1_ok b1) (by first | exact .inr rfl | exact .inl rfl) ?_
  try simp -implicitDefEqProofs only [go_sem, Nat.reduceAdd, ↓reduceIte]
  obtain rfl := Option.some.inj H2
  exact end_pure (by first | (simp -implicitDefEqProofs only [go_sem, ↓reduceIte, Try.f67] <;> rfl) | rfl) (by first | rfl | (simp -implicitDefEqProofs only [go_sem, Int.reduceToNat, Int.reduceLT, Int.reduceLE, Int.reduceBEq, Int.reduceBNe, Nat.reduceLT, Nat.reduceBEq, Int.reduceEq, Nat.reduceEqDiff, Nat.reduceAdd, Nat.reduceSub, Nat.reduceMul, Nat.reduceLeDiff, reduceCtorEq, ↓reduceIte, eGTuple, eStorStore, eGBatch, eGObj, eGSub]; done) | (simp -implicitDefEqProofs only [go_sem, Int.reduceToNat, Int.reduceLT, Int.reduceLE, Int.reduceBEq, Int.reduceBNe, Nat.reduceLT, Nat.reduceBEq, Int.reduceEq, Nat.reduceEqDiff, Nat.reduceAdd, Nat.reduceSub, Nat.reduceMul, Nat.reduceLeDiff, reduceCtorEq, ↓reduceIte, eGTuple, eStorStore, eGBatch, eGObj, eGSub]; rfl)) rfl (by intro h; first | rfl | cases h)
end Go.Proofs.Ytdckfddlcmkdlaa.Ab
