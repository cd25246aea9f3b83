/-
  Functions, read off the code.
-/
import Derived.Test.YtdckfddlcmkdlaaRss
import Derived.Test.YtdckfddlcmkdlaaSta
namespace Go.Proofs.Ytdckfddlcmkdlaa.Ab
open Go.RowKit
def ref1_Is_L1 (n : Nat) (l : List GTuple) : Nat → Int → Option ((Unit) ⊕ Bool)
  | 0, _ => none
  | c + 1, i =>
    (if (decide (i < (l.length : Int))) then
      (idx l (IntKind.i64.wrap (i - 1))).bind fun x3 =>
      (idx l i).bind fun x4 =>
      (ref1_Less n x3 x4).bind fun t192 =>
      (if t192 then
        ref1_Is_L1 n l c (IntKind.i64.wrap (i + 1))
      else
        some (.inr false))
    else
      some (.inl ()))

def ref1_Is (n : Nat) (l : List GTuple) : Option Bool :=
  (
    ref1_Is_L1 n l n 1 : Option ((Unit) ⊕ Bool)).bind fun
    | .inl _ =>
      some true
    | .inr r => some r
theorem ref1_Is_ok {n : Nat} {l : List GTuple} {r : Bool} (H : ref1_Is n l = some r) : PureOK Try.prog 23 [D.sl (List.map eGTuple l)] (D.v (.bool r)) true := by
  unfold ref1_Is at H
  refine pure_runR (tab := tab) tab_ok Try.func23 rfl (by kernel_rfl) (by kernel_rfl) (by simp [Try.f23]) ?_
  refine runR_seq ?_
  refine runR_take tab_ok fol 1 ?_
  try simp -implicitDefEqProofs only [go_sem]
  refine runR_seq ?_
  refine runR_seq ?_
  refine runR_take tab_ok fol 1 ?_
  try simp -implicitDefEqProofs only [go_sem, Nat.reduceAdd]
  obtain ⟨e_, E1, H2⟩ := bind_inv H
  refine runR_join (α := { y : Unit // e_ = .inl y }) (fun | ⟨_, _⟩ => ⟨noFr, noHp, 0⟩) ?_ ?_
  · refine runR_block ?_
    refine runR_loop (α := { q : Nat × Int // ref1_Is_L1 n l q.1 q.2 = some e_ }) (fun | ⟨⟨c, i⟩, _⟩ => ⟨upd 0 (.d (.sl (List.map eGTuple l)) true) (upd 3 (.v (.int .i64 i)) noFr), noHp, 0⟩) (fun q => q.1.1) ⟨(n, 1), E1⟩ ?_ ?_
    · exact ren_mk [] (by rfl) (rf_upd (by rfl) (rf_upd (by rfl) (rf_no _))) (rh_no _)
    · rintro ⟨⟨c, i⟩, L3⟩
      rcases c with _ | c
      · exact nomatch (show none = some _ from L3)
      · unfold ref1_Is_L1 at L3
        try dsimp only at L3
        refine runR_take tab_ok fol 1 ?_
        try simp -implicitDefEqProofs only [go_sem, Nat.reduceEqDiff, Nat.reduceAdd, reduceCtorEq, ↓reduceIte]
        rcases ite_inv L3 with ⟨c22, H23⟩ | ⟨c22, H23⟩
        · obtain ⟨x3, b24, H25⟩ := bind_inv H23
          obtain ⟨h26, h27⟩ := idx_inv b24
          try simp only [Int.reduceToNat, Int.toNat_natCast] at h27
          have h28 := map_at eGTuple h27
          obtain ⟨x4, b30, H31⟩ := bind_inv H25
          obtain ⟨h32, h33⟩ := idx_inv b30
          try simp only [Int.reduceToNat, Int.toNat_natCast] at h33
          have h34 := map_at eGTuple h33
          obtain ⟨t192, b36, H37⟩ := bind_inv H31
          try simp -implicitDefEqProofs only [go_sem, Nat.reduceEqDiff, Nat.reduceAdd, reduceCtorEq, ↓reduceIte, eGTuple, c22, nat_of .i64 h26, h28, nat_of .i64 h32, h34]
          refine onCallD_pure (by first | rfl | (simp -implicitDefEqProofs only [go_sem, Int.reduceToNat, Int.reduceLT, Int.reduceLE, Int.reduceBEq, Int.reduceBNe, Nat.reduceLT, Nat.reduceBEq, Int.reduceEq, Nat.reduceEqDiff, Nat.reduceAdd, Nat.reduceSub, Nat.reduceMul, Nat.reduceLeDiff, reduceCtorEq, ↓reduceIte, eGTuple, eGBatch, c22, nat_of .i64 h26, h28, nat_of .i64 h32, h34]; done) | (simp -implicitDefEqProofs only [go_sem, Int.reduceToNat, Int.reduceLT, Int.reduceLE, Int.reduceBEq, Int.reduceBNe, Nat.reduceLT, Nat.reduceBEq, Int.reduceEq, Nat.reduceEqDiff, Nat.reduceAdd, Nat.reduceSub, Nat.reduceMul, Nat.reduceLeDiff, reduceCtorEq, ↓reduceIte, eGTuple, eGBatch, c22, nat_of .i64 h26, h28, nat_of .i64 h32, h34]; rfl)) (ref1_Less_ok b36) (by first | exact .inr rfl | exact .inl rfl) ?_
          try simp -implicitDefEqProofs only [go_sem, Nat.reduceAdd, ↓reduceIte]
          refine Rd_endF (by rfl) ?_
          try simp -implicitDefEqProofs only [go_sem, ↓reduceIte]
          rcases ite_inv H37 with ⟨c38, H39⟩ | ⟨c38, H39⟩
          · try simp -implicitDefEqProofs only [go_sem, Nat.reduceEqDiff, Nat.reduceAdd, reduceCtorEq, ↓reduceIte, c38]
            exact ⟨⟨(c, (IntKind.i64.wrap (i + 1))), H39⟩, ren_mk [] (by rfl) (rf_upd (by rfl) (rf_upd (by rfl) (rf_no _))) (rh_no _), Nat.lt_succ_self _⟩
          · try simp -implicitDefEqProofs only [go_sem, Nat.reduceAdd, c38]
            obtain rfl := Option.some.inj H39
            obtain rfl := Option.some.inj H2
            exact end_pure (by first | (simp -implicitDefEqProofs only [go_sem, ↓reduceIte, Try.f23] <;> rfl) | rfl) (by first | rfl | (simp -implicitDefEqProofs only [go_sem, Int.reduceToNat, Int.reduceLT, Int.reduceLE, Int.reduceBEq, Int.reduceBNe, Nat.reduceLT, Nat.reduceBEq, Int.reduceEq, Nat.reduceEqDiff, Nat.reduceAdd, Nat.reduceSub, Nat.reduceMul, Nat.reduceLeDiff, reduceCtorEq, ↓reduceIte, eGTuple, eGBatch, c22, nat_of .i64 h26, h28, nat_of .i64 h32, h34, c38]; done) | (simp -implicitDefEqProofs only [go_sem, Int.reduceToNat, Int.reduceLT, Int.reduceLE, Int.reduceBEq, Int.reduceBNe, Nat.reduceLT, Nat.reduceBEq, Int.reduceEq, Nat.reduceEqDiff, Nat.reduceAdd, Nat.reduceSub, Nat.reduceMul, Nat.reduceLeDiff, reduceCtorEq, ↓reduceIte, eGTuple, eGBatch, c22, nat_of .i64 h26, h28, nat_of .i64 h32, h34, c38]; rfl)) rfl (by intro h; first | rfl | cases h)
        · try simp -implicitDefEqProofs only [go_sem, ↓reduceIte, c22]
          obtain rfl := Option.some.inj H23
          exact ⟨⟨(), rfl⟩, ren_mk [] (by rfl) (rf_no _) (rh_no _)⟩
  · rintro ⟨_, he40⟩
    replace he40 := he40.symm
    subst he40
    try dsimp only at H2
    refine runR_take tab_ok fol 1 ?_
    try simp -implicitDefEqProofs only [go_sem]
    obtain rfl := Option.some.inj H2
    exact end_pure (by first | (simp -implicitDefEqProofs only [go_sem, ↓reduceIte, Try.f23] <;> rfl) | rfl) (by first | rfl | (simp -implicitDefEqProofs only [go_sem, Int.reduceToNat, Int.reduceLT, Int.reduceLE, Int.reduceBEq, Int.reduceBNe, Nat.reduceLT, Nat.reduceBEq, Int.reduceEq, Nat.reduceEqDiff, Nat.reduceAdd, Nat.reduceSub, Nat.reduceMul, Nat.reduceLeDiff, reduceCtorEq, ↓reduceIte, eGTuple, eGBatch]; done) | (simp -implicitDefEqProofs only [go_sem, Int.reduceToNat, Int.reduceLT, Int.reduceLE, Int.reduceBEq, Int.reduceBNe, Nat.reduceLT, Nat.reduceBEq, Int.reduceEq, Nat.reduceEqDiff, Nat.reduceAdd, Nat.reduceSub, Nat.reduceMul, Nat.reduceLeDiff, reduceCtorEq, ↓reduceIte, eGTuple, eGBatch]; rfl)) rfl (by intro h; first | rfl | cases h)
def law4_StorPast_C1_stor_New (_ : Nat) : Option Unit :=
  some ()

def law4_StorPast_L2 (n : Nat) (t31 : List (List GTuple)) : Nat → List (List GTuple) → Option (List (List GTuple))
  | 0, _ => none
  | c + 1, t49 =>
    (stor_Store_Rev n (⟨1000, t31⟩ : StorStore)).bind fun t284 =>
    (if (decide ((t49.length : Int) ≤ t284)) then
      (stor_Store_All n (⟨1000, t31⟩ : StorStore)).bind fun t324 =>
      (app t49 [t324]).bind fun l13 =>
      law4_StorPast_L2 n t31 c l13
    else
      some t49)

def law4_StorPast_C3_stor_Store_now (n : Nat) (t31 : List (List GTuple)) : Option (List GTuple) :=
  (stor_Store_Rev n (⟨1000, t31⟩ : StorStore)).bind fun t89 =>
  (idx t31 t89).bind fun x29 =>
  some x29

def law4_StorPast_C6_stor_Store_Write_c2 (n : Nat) (t24 : List GTuple) (x31 : GTuple) : Option Bool :=
  (stor_Store_Write_c1 n x31 t24).bind fun t66 =>
  some (!t66)

def law4_StorPast_L3 (n : Nat) (t31 : List (List GTuple)) (t411 : List (List GTuple)) (t402 : GBatch) (t24 : List GTuple) : Nat → Int → Option ((Unit) ⊕ Int)
  | 0, _ => none
  | c + 1, t810 =>
    (if (decide (t810 < (t402.must.length : Int))) then
      (idx t402.must t810).bind fun x31 =>
      (law4_StorPast_C6_stor_Store_Write_c2 n t24 x31 : Option Bool).bind fun t36 =>
      (if t36 then
        some (.inr t810)
      else
        law4_StorPast_L3 n t31 t411 t402 t24 c (IntKind.i64.wrap (t810 + 1)))
    else
      some (.inl ()))

def law4_StorPast_C5_slices_IndexFunc_Tuple (n : Nat) (t31 : List (List GTuple)) (t411 : List (List GTuple)) (t402 : GBatch) (t24 : List GTuple) : Option Int :=
  (
    law4_StorPast_L3 n t31 t411 t402 t24 n 0 : Option ((Unit) ⊕ Int)).bind fun
    | .inl _ =>
      some (-1)
    | .inr r => some r

def law4_StorPast_C4_slices_ContainsFunc_Tuple (n : Nat) (t31 : List (List GTuple)) (t411 : List (List GTuple)) (t402 : GBatch) (t24 : List GTuple) : Option Bool :=
  (law4_StorPast_C5_slices_IndexFunc_Tuple n t31 t411 t402 t24 : Option Int).bind fun t413 =>
  some (decide (0 ≤ t413))

def law4_StorPast_C2_stor_Store_Write (n : Nat) (t31 : List (List GTuple)) (t411 : List (List GTuple)) (t402 : GBatch) : Option (Int × List (List GTuple)) :=
  (
    (stor_wrong n t402.add).bind fun t122 =>
    (if t122 then
      some true
    else
      (stor_wrong n t402.drop).bind fun t162 =>
      (if t162 then
        some true
      else
        (stor_wrong n t402.must).bind fun t212 =>
        (if t212 then
          some true
        else
          (stor_wrong n t402.not_).bind fun t262 =>
          some t262))) : Option (Bool)).bind fun t272 =>
  (if t272 then
    some (2, t31)
  else
    (rows_Of n t402.add).bind fun t302 =>
    (rows_Of n t402.drop).bind fun t332 =>
    (law4_StorPast_C3_stor_Store_now n t31 : Option (List GTuple)).bind fun t24 =>
    (rows_Minus n t24 t332).bind fun t392 =>
    (rows_Plus n t392 t302).bind fun t412 =>
    (rows_Minus n t302 t332).bind fun t452 =>
    (if (decide ((t452.length : Int) < (t302.length : Int))) then
      some (6, t31)
    else
      (law4_StorPast_C4_slices_ContainsFunc_Tuple n t31 t411 t402 t24 : Option Bool).bind fun t414 =>
      (if t414 then
        some (4, t31)
      else
        (slices_ContainsFunc_Tuple__stor_Store_Write_c1 n t402.not_ t24).bind fun t592 =>
        (if t592 then
          some (3, t31)
        else
          (if (decide (1000 < (t412.length : Int))) then
            some (5, t31)
          else
            (slices_Equal_Tuple n t412 t24).bind fun t702 =>
            (if t702 then
              some (0, t31)
            else
              (app t31 [t412]).bind fun l14 =>
              some (0, l14)))))))

def law4_StorPast_C7_stor_Store_now (n : Nat) (o012 : List (List GTuple)) : Option (List GTuple) :=
  (stor_Store_Rev n (⟨1000, o012⟩ : StorStore)).bind fun t812 =>
  (idx o012 t812).bind fun x32 =>
  some x32

def law4_StorPast_L4 (_ : Nat) : Nat → Unit → Option (Unit)
  | 0, _ => none
  | _ + 1, _ =>
    some ()

def law4_StorPast_L6 (_ : Nat) : Nat → Unit → Option (Unit)
  | 0, _ => none
  | _ + 1, _ =>
    some ()

def law4_StorPast_L7 (n : Nat) (x38 : List GTuple) : Nat → (List GTuple × Int) → Option (Unit)
  | 0, _ => none
  | c + 1, (t911, t8011) =>
    (if (decide (t8011 < (x38.length : Int))) then
      (idx t911 t8011).bind fun _ =>
      (some (List.set t911 (Int.toNat t8011) (⟨(⟨ByteArray.empty, ByteArray.empty⟩ : GObj), ByteArray.empty, (⟨ByteArray.empty, ByteArray.empty, ByteArray.empty⟩ : GSub)⟩ : GTuple))).bind fun l18 =>
      law4_StorPast_L7 n x38 c (l18, (IntKind.i64.wrap (t8011 + 1)))
    else
      some ())

def law4_StorPast_L5 (n : Nat) (t411 : List (List GTuple)) (o012 : List (List GTuple)) : Nat → Int → Option ((Unit) ⊕ Bool)
  | 0, _ => none
  | c + 1, t813 =>
    (if (decide (t813 < (t411.length : Int))) then
      (
        (if (decide (t813 < 0)) then
          some true
        else
          (stor_Store_Rev n (⟨1000, o012⟩ : StorStore)).bind fun t116 =>
          some (decide (t116 < t813))) : Option (Bool)).bind fun t136 =>
      (if t136 then
        (
          some () : Option (Unit)).bind fun _ =>
        some (.inr false)
      else
        (idx o012 t813).bind fun x38 =>
        (if (decide (x38.length = 0)) then
          (
            (idx t411 t813).bind fun x39 =>
            (ref1_Same n [] x39).bind fun t7511 =>
            some (!t7511) : Option (Bool)).bind fun t7711 =>
          (if t7711 then
            some (.inr false)
          else
            (
              law4_StorPast_L6 n n () : Option (Unit)).bind fun _ =>
            law4_StorPast_L5 n t411 o012 c (IntKind.i64.wrap (t813 + 1)))
        else
          grd (decide (x38.length ≤ 4294967296)) <|
          (
            (idx t411 t813).bind fun x40 =>
            (ref1_Same n x38 x40).bind fun t7512 =>
            some (!t7512) : Option (Bool)).bind fun t7712 =>
          (if t7712 then
            some (.inr false)
          else
            (
              law4_StorPast_L7 n x38 n (x38, 0) : Option (Unit)).bind fun _ =>
            law4_StorPast_L5 n t411 o012 c (IntKind.i64.wrap (t813 + 1)))))
    else
      some (.inl ()))

def law4_StorPast_L8 (n : Nat) (t25 : List GTuple) : Nat → (List GTuple × Int) → Option (Unit)
  | 0, _ => none
  | c + 1, (t67, t464) =>
    (if (decide (t464 < (t25.length : Int))) then
      (law2_Tame n t464).bind fun t524 =>
      (idx t67 t464).bind fun _ =>
      (some (List.set t67 (Int.toNat t464) t524)).bind fun l20 =>
      law4_StorPast_L8 n t25 c (l20, (IntKind.i64.wrap (t464 + 1)))
    else
      some ())

def law4_StorPast_L10 (_ : Nat) : Nat → Unit → Option (Unit)
  | 0, _ => none
  | _ + 1, _ =>
    some ()

def law4_StorPast_L11 (n : Nat) (x50 : List GTuple) : Nat → (List GTuple × Int) → Option (Unit)
  | 0, _ => none
  | c + 1, (t915, t8015) =>
    (if (decide (t8015 < (x50.length : Int))) then
      (idx t915 t8015).bind fun _ =>
      (some (List.set t915 (Int.toNat t8015) (⟨(⟨ByteArray.empty, ByteArray.empty⟩ : GObj), ByteArray.empty, (⟨ByteArray.empty, ByteArray.empty, ByteArray.empty⟩ : GSub)⟩ : GTuple))).bind fun l24 =>
      law4_StorPast_L11 n x50 c (l24, (IntKind.i64.wrap (t8015 + 1)))
    else
      some ())

def law4_StorPast_L9 (n : Nat) (t411 : List (List GTuple)) (o012 : List (List GTuple)) : Nat → Int → Option ((Unit) ⊕ Bool)
  | 0, _ => none
  | c + 1, t815 =>
    (if (decide (t815 < (t411.length : Int))) then
      (
        (if (decide (t815 < 0)) then
          some true
        else
          (stor_Store_Rev n (⟨1000, o012⟩ : StorStore)).bind fun t118 =>
          some (decide (t118 < t815))) : Option (Bool)).bind fun t138 =>
      (if t138 then
        (
          some () : Option (Unit)).bind fun _ =>
        some (.inr false)
      else
        (idx o012 t815).bind fun x50 =>
        (if (decide (x50.length = 0)) then
          (
            (idx t411 t815).bind fun x51 =>
            (ref1_Same n [] x51).bind fun t7515 =>
            some (!t7515) : Option (Bool)).bind fun t7715 =>
          (if t7715 then
            some (.inr false)
          else
            (
              law4_StorPast_L10 n n () : Option (Unit)).bind fun _ =>
            law4_StorPast_L9 n t411 o012 c (IntKind.i64.wrap (t815 + 1)))
        else
          grd (decide (x50.length ≤ 4294967296)) <|
          (
            (idx t411 t815).bind fun x52 =>
            (ref1_Same n x50 x52).bind fun t7516 =>
            some (!t7516) : Option (Bool)).bind fun t7716 =>
          (if t7716 then
            some (.inr false)
          else
            (
              law4_StorPast_L11 n x50 n (x50, 0) : Option (Unit)).bind fun _ =>
            law4_StorPast_L9 n t411 o012 c (IntKind.i64.wrap (t815 + 1)))))
    else
      some (.inl ()))

def law4_StorPast_L1 (n : Nat) (t0 : List (List Int)) : Nat → (List (List GTuple) × List (List GTuple) × Int) → Option ((List (List GTuple)) ⊕ Bool)
  | 0, _ => none
  | c + 1, (t31, t48, t5) =>
    (
      (if (decide (t5 < (t0.length : Int))) then
        some (decide (t5 < 15))
      else
        some false) : Option (Bool)).bind fun t222 =>
    (if t222 then
      (
        law4_StorPast_L2 n t31 n t48 : Option (List (List GTuple))).bind fun t411 =>
      (idx t0 t5).bind fun x28 =>
      (law4_Batch n x28).bind fun t402 =>
      (law4_StorPast_C2_stor_Store_Write n t31 t411 t402 : Option (Int × List (List GTuple))).bind fun (_, o012) =>
      (law4_StorPast_C7_stor_Store_now n o012 : Option (List GTuple)).bind fun t25 =>
      (if (decide (t25.length = 0)) then
        (
          law4_StorPast_L4 n n () : Option (Unit)).bind fun _ =>
        (
          law4_StorPast_L5 n t411 o012 n 0 : Option ((Unit) ⊕ Bool)).bind fun
          | .inl _ =>
            law4_StorPast_L1 n t0 c (o012, t411, (IntKind.i64.wrap (t5 + 1)))
          | .inr r => some (.inr r)
      else
        grd (decide (t25.length ≤ 4294967296)) <|
        (
          law4_StorPast_L8 n t25 n (t25, 0) : Option (Unit)).bind fun _ =>
        (
          law4_StorPast_L9 n t411 o012 n 0 : Option ((Unit) ⊕ Bool)).bind fun
          | .inl _ =>
            law4_StorPast_L1 n t0 c (o012, t411, (IntKind.i64.wrap (t5 + 1)))
          | .inr r => some (.inr r))
    else
      some (.inl t31))

def law4_StorPast (n : Nat) (t0 : List (List Int)) : Option Bool :=
  (law4_StorPast_C1_stor_New n : Option Unit).bind fun _ =>
  (
    law4_StorPast_L1 n t0 n ([[]], [], 0) : Option ((List (List GTuple)) ⊕ Bool)).bind fun
    | .inl t313 =>
      (stor_Store_All n (⟨1000, t313⟩ : StorStore)).bind fun t892 =>
      (ref1_Is n t892).bind fun t90 =>
      (if t90 then
        (law4_awake n).bind fun t922 =>
        some t922
      else
        some false)
    | .inr r => some r
set_option maxHeartbeats 8000000 in
theorem law4_StorPast_ok {n : Nat} {t0 : List (List Int)} {r : Bool} (H : law4_StorPast n t0 = some r) : PureOK Try.prog 7 [D.sl (List.map (eL eI) t0)] (D.v (.bool r)) true := by
  unfold law4_StorPast at H
  refine pure_runR (tab := tab) tab_ok Try.func7 rfl (by kernel_rfl) (by kernel_rfl) (by simp [Try.f7]) ?_
  refine runR_seq ?_
  refine runR_take tab_ok fol 1 ?_
  try simp -implicitDefEqProofs only [go_sem]
  refine runR_seq ?_
  refine runR_take tab_ok fol 1 ?_
  try simp -implicitDefEqProofs only [go_sem, Nat.reduceAdd]
  obtain ⟨e_, E1, H2⟩ := bind_inv H
  refine onCall_inl (InlOK.mono (inl_runRJ (α := { y : Unit // e_ = y }) tab_ok Try.func29 rfl (by kernel_rfl) (by kernel_rfl) (by simp [Try.f29]) (fun | ⟨_, _⟩ => ⟨upd 2 (.pt 3 0) noFr, upd 3 (some (.bx [.v (.int .i64 1000), .so 4 0 0 1])) (upd 4 (some (.rw [[.sl []]] 1 0 false false)) noHp), 5⟩) (fun | ⟨_, _⟩ => .pt 3 0) (by rintro ⟨_, he3⟩; first | ((simp -implicitDefEqProofs only [go_sem, ↓reduceIte, Try.f29]) <;> rfl) | rfl) ?_) ?_)
  · unfold law4_StorPast_C1_stor_New at E1
    try dsimp only at E1
    refine runR_take tab_ok fol 1 ?_
    try simp -implicitDefEqProofs only [go_sem, Int.reduceLT, Nat.reduceLT, Nat.reduceEqDiff, Nat.reduceAdd, Nat.reduceLeDiff, reduceCtorEq, ↓reduceIte]
    obtain rfl := Option.some.inj E1
    exact endJ_ret ⟨(), rfl⟩ (ren_mk [(3, 9), (4, 7)] (by rfl) (rf_upd (by rfl) (rf_no _)) (rh_upd (rh_one (by rfl) (by rfl) (by rfl)) (rh_upd (rh_one (by rfl) (by rfl) (by rfl)) (rh_no _))))
  rintro v4 hp5 nx6 ⟨⟨_, he3⟩, rfl, rfl, rfl⟩
  replace he3 := he3.symm
  subst he3
  try dsimp only at H2
  dsimp only
  try simp -implicitDefEqProofs only [go_sem, Nat.reduceAdd, ↓reduceIte]
  refine runR_seq ?_
  refine runR_take tab_ok fol 1 ?_
  try simp -implicitDefEqProofs only [go_sem, Nat.reduceAdd, ↓reduceIte]
  refine runR_seq ?_
  refine runR_take tab_ok fol 1 ?_
  try simp -implicitDefEqProofs only [go_sem, Nat.reduceAdd]
  refine runR_seq ?_
  refine runR_seq ?_
  refine runR_take tab_ok fol 1 ?_
  try simp -implicitDefEqProofs only [go_sem, Nat.reduceAdd]
  obtain ⟨e_2, E7, H8⟩ := bind_inv H2
  refine runR_join (α := { y : List (List GTuple) // e_2 = .inl y } × Nat) (fun | ⟨⟨t313, _⟩, g125⟩ => ⟨upd 3 (.pt 0 0) noFr, upd 0 (some (.bx [.v (.int .i64 1000), .so 1 g125 0 (t313.length)])) (upd 1 (some (.rw (List.map (eL eGTuple) t313) 1 g125 false false)) noHp), 2⟩) ?_ ?_
  · refine runR_block ?_
    refine runR_loop (α := { q : (Nat × (List (List GTuple) × List (List GTuple) × Int)) × Nat × Nat // law4_StorPast_L1 n t0 q.1.1 q.1.2 = some e_2 }) (fun | ⟨⟨⟨c, ⟨t31, t48, t5⟩⟩, ⟨g60, g61⟩⟩, _⟩ => ⟨upd 0 (.d (.sl (List.map (eL eI) t0)) true) (upd 3 (.pt 0 0) (upd 4 (accV 2 g61 (List.map (eL eGTuple) t48)) (upd 5 (.v (.int .i64 t5)) noFr))), upd 0 (some (.bx [.v (.int .i64 1000), .so 1 g60 0 (t31.length)])) (upd 1 (some (.rw (List.map (eL eGTuple) t31) 1 g60 false false)) (upd 2 (accO 1 g61 false (List.map (eL eGTuple) t48)) noHp)), 3⟩) (fun q => q.1.1.1) ⟨((n, ([[]], [], 0)), (0, 0)), E7⟩ ?_ ?_
    · exact ren_mk [(0, 3), (1, 4)] (by rfl) (rf_upd (by rfl) (rf_upd (by rfl) (rf_upd (by rfl) (rf_upd (by rfl) (rf_no _))))) (rh_upd (rh_one (by rfl) (by rfl) (by rfl)) (rh_upd (rh_one (by rfl) (by rfl) (by rfl)) (rh_upd rh_accN (rh_no _))))
    · rintro ⟨⟨⟨c, ⟨t31, t48, t5⟩⟩, ⟨g60, g61⟩⟩, L9⟩
      rcases c with _ | c
      · exact nomatch (show none = some _ from L9)
      · unfold law4_StorPast_L1 at L9
        try dsimp only at L9
        refine runR_seq ?_
        refine runR_seq ?_
        obtain ⟨e_42, E625, H626⟩ := bind_inv L9
        refine runR_join (α := { y : Bool // e_42 = y } × Nat) (fun | ⟨⟨t222, _⟩, g62⟩ => ⟨upd 0 (.d (.sl (List.map (eL eI) t0)) true) (upd 3 (.pt 0 0) (upd 4 (accV 2 g62 (List.map (eL eGTuple) t48)) (upd 5 (.v (.int .i64 t5)) (upd 22 (.v (.bool t222)) noFr)))), upd 0 (some (.bx [.v (.int .i64 1000), .so 1 g60 0 (t31.length)])) (upd 1 (some (.rw (List.map (eL eGTuple) t31) 1 g60 false false)) (upd 2 (accO 1 g62 false (List.map (eL eGTuple) t48)) noHp)), 3⟩) ?_ ?_
        · refine runR_take tab_ok fol 1 ?_
          try simp -implicitDefEqProofs only [go_sem, Nat.reduceEqDiff, Nat.reduceAdd, reduceCtorEq, ↓reduceIte]
          rcases ite_inv E625 with ⟨c627, H628⟩ | ⟨c627, H628⟩
          · try simp -implicitDefEqProofs only [go_sem, Nat.reduceEqDiff, Nat.reduceAdd, reduceCtorEq, ↓reduceIte, c627]
            obtain rfl := Option.some.inj H628
            exact ⟨⟨⟨(decide (t5 < 15)), rfl⟩, g61⟩, ren_mk [(0, 0), (1, 1), (2, 2)] (by rfl) (rf_upd (by rfl) (rf_upd (by rfl) (rf_upd (ren_acc (by rfl)) (rf_upd (by rfl) (rf_upd (by rfl) (rf_no _)))))) (rh_upd (rh_one (by rfl) (by rfl) (by rfl)) (rh_upd (rh_one (by rfl) (by rfl) (by rfl)) (rh_upd (rh_acc (by rfl) (by rfl)) (rh_no _))))⟩
          · try simp -implicitDefEqProofs only [go_sem, Nat.reduceEqDiff, Nat.reduceAdd, ↓reduceIte, c627]
            obtain rfl := Option.some.inj H628
            exact ⟨⟨⟨false, rfl⟩, g61⟩, ren_mk [(0, 0), (1, 1), (2, 2)] (by rfl) (rf_upd (by rfl) (rf_upd (by rfl) (rf_upd (ren_acc (by rfl)) (rf_upd (by rfl) (rf_upd (by rfl) (rf_no _)))))) (rh_upd (rh_one (by rfl) (by rfl) (by rfl)) (rh_upd (rh_one (by rfl) (by rfl) (by rfl)) (rh_upd (rh_acc (by rfl) (by rfl)) (rh_no _))))⟩
        · rintro ⟨⟨t222, he1255⟩, g62⟩
          replace he1255 := he1255.symm
          subst he1255
          try dsimp only at H626
          refine runR_take tab_ok fol 1 ?_
          try simp -implicitDefEqProofs only [go_sem, Nat.reduceEqDiff, reduceCtorEq, ↓reduceIte]
          rcases ite_inv H626 with ⟨c629, H630⟩ | ⟨c629, H630⟩
          · try simp -implicitDefEqProofs only [go_sem, c629]
            refine runR_seq ?_
            refine runR_block ?_
            refine runR_seq ?_
            obtain ⟨e_43, E631, H632⟩ := bind_inv H630
            refine runR_join (α := { y : List (List GTuple) // e_43 = y } × Nat) (fun | ⟨⟨t411, _⟩, g66⟩ => ⟨upd 0 (.d (.sl (List.map (eL eI) t0)) true) (upd 3 (.pt 0 0) (upd 4 (accV 2 g66 (List.map (eL eGTuple) t411)) (upd 5 (.v (.int .i64 t5)) noFr))), upd 0 (some (.bx [.v (.int .i64 1000), .so 1 g60 0 (t31.length)])) (upd 1 (some (.rw (List.map (eL eGTuple) t31) 1 g60 false false)) (upd 2 (accO 1 g66 false (List.map (eL eGTuple) t411)) noHp)), 3⟩) ?_ ?_
            · refine runR_block ?_
              refine runR_loop (α := { q : (Nat × List (List GTuple)) × Nat // law4_StorPast_L2 n t31 q.1.1 q.1.2 = some e_43 }) (fun | ⟨⟨⟨c, t49⟩, g64⟩, _⟩ => ⟨upd 0 (.d (.sl (List.map (eL eI) t0)) true) (upd 3 (.pt 0 0) (upd 4 (accV 2 g64 (List.map (eL eGTuple) t49)) (upd 5 (.v (.int .i64 t5)) noFr))), upd 0 (some (.bx [.v (.int .i64 1000), .so 1 g60 0 (t31.length)])) (upd 1 (some (.rw (List.map (eL eGTuple) t31) 1 g60 false false)) (upd 2 (accO 1 g64 false (List.map (eL eGTuple) t49)) noHp)), 3⟩) (fun q => q.1.1.1) ⟨((n, t48), g62), E631⟩ ?_ ?_
              · exact ren_mk [(0, 0), (1, 1), (2, 2)] (by rfl) (rf_upd (by rfl) (rf_upd (by rfl) (rf_upd (ren_acc (by rfl)) (rf_upd (by rfl) (rf_no _))))) (rh_upd (rh_one (by rfl) (by rfl) (by rfl)) (rh_upd (rh_one (by rfl) (by rfl) (by rfl)) (rh_upd (rh_acc (by rfl) (by rfl)) (rh_no _))))
              · rintro ⟨⟨⟨c, t49⟩, g64⟩, L633⟩
                rcases c with _ | c
                · exact nomatch (show none = some _ from L633)
                · unfold law4_StorPast_L2 at L633
                  try dsimp only at L633
                  refine runR_take tab_ok fol 1 ?_
                  obtain ⟨t284, b648, H649⟩ := bind_inv L633
                  try simp -implicitDefEqProofs only [go_sem, Nat.reduceEqDiff, Nat.reduceAdd, reduceCtorEq, ↓reduceIte]
                  refine onCall_pureA (by first | rfl | (simp -implicitDefEqProofs only [go_sem, reduceCtorEq, ↓reduceIte, eStorStore]; done) | (simp -implicitDefEqProofs only [go_sem, reduceCtorEq, ↓reduceIte, eStorStore]; rfl)) (PureA.of_pure (stor_Store_Rev_ok b648)) (by first | exact .inr rfl | exact .inl rfl) ?_
                  try simp -implicitDefEqProofs only [go_sem, Nat.reduceEqDiff, Nat.reduceAdd, ↓reduceIte]
                  rcases ite_inv H649 with ⟨c650, H651⟩ | ⟨c650, H651⟩
                  · obtain ⟨t324, b652, H653⟩ := bind_inv H651
                    try simp -implicitDefEqProofs only [go_sem, Nat.reduceEqDiff, Nat.reduceAdd, reduceCtorEq, ↓reduceIte, c650]
                    refine onCall_pureA (by first | rfl | (simp -implicitDefEqProofs only [go_sem, reduceCtorEq, ↓reduceIte, eStorStore]; done) | (simp -implicitDefEqProofs only [go_sem, reduceCtorEq, ↓reduceIte, eStorStore]; rfl)) (PureA.of_pure (stor_Store_All_ok b652)) (by first | exact .inr rfl | exact .inl rfl) ?_
                    obtain ⟨l13, b654, H655⟩ := bind_inv H653
                    obtain ⟨h656, h657⟩ := app_inv b654
                    have h656 : t49.length + 1 ≤ 4294967296 := h656
                    have h658 : List.map (eL eGTuple) t49 ++ [[.sl (List.map eGTuple t324)]] = List.map (eL eGTuple) l13 := app_map (eL eGTuple) h657
                    have h659 : t49.length + 1 = l13.length := app_len h657
                    have h660 : l13.length ≤ 4294967296 := by omega
                    have q661 : 0 < l13.length := by omega
                    try simp -implicitDefEqProofs only [go_sem, Nat.reduceLT, Nat.reduceEqDiff, Nat.reduceAdd, Nat.reduceLeDiff, reduceCtorEq, ↓reduceIte, h658, h659, h660]
                    rcases t49 with _ | ⟨q0, q1⟩
                    · try simp only [List.map_nil, accI, accN]
                      exact ⟨⟨((c, l13), 0), H655⟩, ren_mk [(0, 0), (1, 1), (2, 12)] (by rfl) (rf_upd (by rfl) (rf_upd (by rfl) (rf_upd (by first | exact ren_accP (by rfl) q661 | rfl) (rf_upd (by rfl) (rf_no _))))) (rh_upd (rh_one (by rfl) (by rfl) (by rfl)) (rh_upd (rh_one (by rfl) (by rfl) (by rfl)) (rh_upd (by first | exact rh_accP (by rfl) q661 (by rfl) | exact rh_one (by rfl) (by rfl) (by rfl)) (rh_no _)))), Nat.lt_succ_self _⟩
                    · try simp only [List.map_cons, accI, accN]
                      exact ⟨⟨((c, l13), (g64 + 1)), H655⟩, ren_mk [(0, 0), (1, 1), (2, 2)] (by rfl) (rf_upd (by rfl) (rf_upd (by rfl) (rf_upd (by first | exact ren_accP (by rfl) q661 | rfl) (rf_upd (by rfl) (rf_no _))))) (rh_upd (rh_one (by rfl) (by rfl) (by rfl)) (rh_upd (rh_one (by rfl) (by rfl) (by rfl)) (rh_upd (by first | exact rh_accP (by rfl) q661 (by rfl) | exact rh_one (by rfl) (by rfl) (by rfl)) (rh_no _)))), Nat.lt_succ_self _⟩
                  · try simp -implicitDefEqProofs only [go_sem, ↓reduceIte, c650]
                    obtain rfl := Option.some.inj H651
                    exact ⟨⟨⟨t49, rfl⟩, g64⟩, ren_mk [(0, 0), (1, 1), (2, 2)] (by rfl) (rf_upd (by rfl) (rf_upd (by rfl) (rf_upd (ren_acc (by rfl)) (rf_upd (by rfl) (rf_no _))))) (rh_upd (rh_one (by rfl) (by rfl) (by rfl)) (rh_upd (rh_one (by rfl) (by rfl) (by rfl)) (rh_upd (rh_acc (by rfl) (by rfl)) (rh_no _))))⟩
            · rintro ⟨⟨t411, he1254⟩, g66⟩
              replace he1254 := he1254.symm
              subst he1254
              try dsimp only at H632
              refine runR_seq ?_
              refine runR_take tab_ok fol 1 ?_
              obtain ⟨x28, b662, H663⟩ := bind_inv H632
              obtain ⟨h664, h665⟩ := idx_inv b662
              try simp only [Int.reduceToNat, Int.toNat_natCast] at h665
              have h666 := map_at (eL eI) h665
              obtain ⟨t402, b668, H669⟩ := bind_inv H663
              try simp -implicitDefEqProofs only [go_sem, Nat.reduceEqDiff, Nat.reduceAdd, reduceCtorEq, ↓reduceIte, nat_of .i64 h664, h666]
              refine onCall_pure (by first | rfl | (simp -implicitDefEqProofs only [go_sem, Int.reduceToNat, Int.reduceLT, Int.reduceLE, Int.reduceBEq, Int.reduceBNe, Nat.reduceLT, Nat.reduceBEq, Int.reduceEq, Nat.reduceEqDiff, Nat.reduceAdd, Nat.reduceSub, Nat.reduceMul, Nat.reduceLeDiff, reduceCtorEq, ↓reduceIte, eGTuple, eGBatch, eStorStore, eGObj, eGSub, nat_of .i64 h664, h666]; done) | (simp -implicitDefEqProofs only [go_sem, Int.reduceToNat, Int.reduceLT, Int.reduceLE, Int.reduceBEq, Int.reduceBNe, Nat.reduceLT, Nat.reduceBEq, Int.reduceEq, Nat.reduceEqDiff, Nat.reduceAdd, Nat.reduceSub, Nat.reduceMul, Nat.reduceLeDiff, reduceCtorEq, ↓reduceIte, eGTuple, eGBatch, eStorStore, eGObj, eGSub, nat_of .i64 h664, h666]; rfl)) (law4_Batch_ok b668) (by first | exact .inr rfl | exact .inl rfl) ?_
              try simp -implicitDefEqProofs only [go_sem, Nat.reduceEqDiff, Nat.reduceAdd, ↓reduceIte, eGBatch]
              obtain ⟨e_44, E670, H671⟩ := bind_inv H669
              refine onCall_inl (InlOK.mono (inl_runRJ (α := { y : Int × List (List GTuple) // e_44 = y } × Nat) tab_ok Try.func32 rfl (by kernel_rfl) (by kernel_rfl) (by simp [Try.f32]) (fun | ⟨⟨⟨t415, o012⟩, _⟩, g67⟩ => ⟨upd 4 (.v (.int .i64 t415)) noFr, upd 0 (some (.bx [.v (.int .i64 1000), .so 1 g67 0 (o012.length)])) (upd 1 (some (.rw (List.map (eL eGTuple) o012) 1 g67 false false)) (upd 2 (accO 1 g66 false (List.map (eL eGTuple) t411)) noHp)), 10⟩) (fun | ⟨⟨⟨t415, o012⟩, _⟩, g67⟩ => .v (.int .i64 t415)) (by rintro ⟨⟨⟨t415, o012⟩, he794⟩, g67⟩; first | ((simp -implicitDefEqProofs only [go_sem, ↓reduceIte, Try.f32]) <;> rfl) | rfl) ?_) ?_)
              · unfold law4_StorPast_C2_stor_Store_Write at E670
                try dsimp only at E670
                refine runR_seq ?_
                refine runR_take tab_ok fol 1 ?_
                try simp -implicitDefEqProofs only [go_sem, Nat.reduceAdd]
                refine runR_seq ?_
                refine runR_seq ?_
                obtain ⟨e_45, E672, H673⟩ := bind_inv E670
                refine runR_join (α := { y : Bool // e_45 = y }) (fun | ⟨t272, _⟩ => ⟨upd 0 (.pt 0 0) (upd 3 (.pt 10 0) (upd 27 (.v (.bool t272)) noFr)), upd 0 (some (.bx [.v (.int .i64 1000), .so 1 g60 0 (t31.length)])) (upd 1 (some (.rw (List.map (eL eGTuple) t31) 1 g60 false false)) (upd 2 (accO 1 g66 false (List.map (eL eGTuple) t411)) (upd 10 (some (.bx [.d (.sl (List.map eGTuple t402.add)) false, .d (.sl (List.map eGTuple t402.drop)) false, .d (.sl (List.map eGTuple t402.must)) false, .d (.sl (List.map eGTuple t402.not_)) false])) noHp))), 11⟩) ?_ ?_
                · refine runR_take tab_ok fol 1 ?_
                  obtain ⟨t122, b674, H675⟩ := bind_inv E672
                  try simp -implicitDefEqProofs only [go_sem, Nat.reduceEqDiff, Nat.reduceAdd, reduceCtorEq, ↓reduceIte]
                  refine onCall_pure (by first | rfl | (simp -implicitDefEqProofs only [go_sem, Int.reduceToNat, Int.reduceLT, Int.reduceLE, Int.reduceBEq, Int.reduceBNe, Nat.reduceLT, Nat.reduceBEq, Int.reduceEq, Nat.reduceEqDiff, Nat.reduceAdd, Nat.reduceSub, Nat.reduceMul, Nat.reduceLeDiff, reduceCtorEq, ↓reduceIte, eGTuple, eGBatch, eStorStore, eGObj, eGSub]; done) | (simp -implicitDefEqProofs only [go_sem, Int.reduceToNat, Int.reduceLT, Int.reduceLE, Int.reduceBEq, Int.reduceBNe, Nat.reduceLT, Nat.reduceBEq, Int.reduceEq, Nat.reduceEqDiff, Nat.reduceAdd, Nat.reduceSub, Nat.reduceMul, Nat.reduceLeDiff, reduceCtorEq, ↓reduceIte, eGTuple, eGBatch, eStorStore, eGObj, eGSub]; rfl)) (stor_wrong_ok b674) (by first | exact .inr rfl | exact .inl rfl) ?_
                  try simp -implicitDefEqProofs only [go_sem, Nat.reduceAdd, ↓reduceIte]
                  rcases ite_inv H675 with ⟨c676, H677⟩ | ⟨c676, H677⟩
                  · try simp -implicitDefEqProofs only [go_sem, Nat.reduceEqDiff, Nat.reduceAdd, ↓reduceIte, c676]
                    obtain rfl := Option.some.inj H677
                    exact ⟨⟨true, rfl⟩, ren_mk [(10, 10)] (by rfl) (rf_upd (by rfl) (rf_upd (by rfl) (rf_upd (by rfl) (rf_no _)))) (rh_upd (rh_one (by rfl) (by rfl) (by rfl)) (rh_upd (rh_one (by rfl) (by rfl) (by rfl)) (rh_upd (rh_acc (by rfl) (by rfl)) (rh_upd (rh_one (by rfl) (by rfl) (by rfl)) (rh_no _)))))⟩
                  · obtain ⟨t162, b678, H679⟩ := bind_inv H677
                    try simp -implicitDefEqProofs only [go_sem, Nat.reduceEqDiff, Nat.reduceAdd, reduceCtorEq, ↓reduceIte, c676]
                    refine onCall_pure (by first | rfl | (simp -implicitDefEqProofs only [go_sem, Int.reduceToNat, Int.reduceLT, Int.reduceLE, Int.reduceBEq, Int.reduceBNe, Nat.reduceLT, Nat.reduceBEq, Int.reduceEq, Nat.reduceEqDiff, Nat.reduceAdd, Nat.reduceSub, Nat.reduceMul, Nat.reduceLeDiff, reduceCtorEq, ↓reduceIte, eGTuple, eGBatch, eStorStore, eGObj, eGSub, c676]; done) | (simp -implicitDefEqProofs only [go_sem, Int.reduceToNat, Int.reduceLT, Int.reduceLE, Int.reduceBEq, Int.reduceBNe, Nat.reduceLT, Nat.reduceBEq, Int.reduceEq, Nat.reduceEqDiff, Nat.reduceAdd, Nat.reduceSub, Nat.reduceMul, Nat.reduceLeDiff, reduceCtorEq, ↓reduceIte, eGTuple, eGBatch, eStorStore, eGObj, eGSub, c676]; rfl)) (stor_wrong_ok b678) (by first | exact .inr rfl | exact .inl rfl) ?_
                    try simp -implicitDefEqProofs only [go_sem, Nat.reduceEqDiff, Nat.reduceAdd, ↓reduceIte]
                    rcases ite_inv H679 with ⟨c680, H681⟩ | ⟨c680, H681⟩
                    · try simp -implicitDefEqProofs only [go_sem, Nat.reduceEqDiff, Nat.reduceAdd, ↓reduceIte, c680]
                      obtain rfl := Option.some.inj H681
                      exact ⟨⟨true, rfl⟩, ren_mk [(10, 10)] (by rfl) (rf_upd (by rfl) (rf_upd (by rfl) (rf_upd (by rfl) (rf_no _)))) (rh_upd (rh_one (by rfl) (by rfl) (by rfl)) (rh_upd (rh_one (by rfl) (by rfl) (by rfl)) (rh_upd (rh_acc (by rfl) (by rfl)) (rh_upd (rh_one (by rfl) (by rfl) (by rfl)) (rh_no _)))))⟩
                    · obtain ⟨t212, b682, H683⟩ := bind_inv H681
                      try simp -implicitDefEqProofs only [go_sem, Nat.reduceEqDiff, Nat.reduceAdd, reduceCtorEq, ↓reduceIte, c680]
                      refine onCall_pure (by first | rfl | (simp -implicitDefEqProofs only [go_sem, Int.reduceToNat, Int.reduceLT, Int.reduceLE, Int.reduceBEq, Int.reduceBNe, Nat.reduceLT, Nat.reduceBEq, Int.reduceEq, Nat.reduceEqDiff, Nat.reduceAdd, Nat.reduceSub, Nat.reduceMul, Nat.reduceLeDiff, reduceCtorEq, ↓reduceIte, eGTuple, eGBatch, eStorStore, eGObj, eGSub, c676, c680]; done) | (simp -implicitDefEqProofs only [go_sem, Int.reduceToNat, Int.reduceLT, Int.reduceLE, Int.reduceBEq, Int.reduceBNe, Nat.reduceLT, Nat.reduceBEq, Int.reduceEq, Nat.reduceEqDiff, Nat.reduceAdd, Nat.reduceSub, Nat.reduceMul, Nat.reduceLeDiff, reduceCtorEq, ↓reduceIte, eGTuple, eGBatch, eStorStore, eGObj, eGSub, c676, c680]; rfl)) (stor_wrong_ok b682) (by first | exact .inr rfl | exact .inl rfl) ?_
                      try simp -implicitDefEqProofs only [go_sem, Nat.reduceEqDiff, Nat.reduceAdd, ↓reduceIte]
                      rcases ite_inv H683 with ⟨c684, H685⟩ | ⟨c684, H685⟩
                      · try simp -implicitDefEqProofs only [go_sem, Nat.reduceEqDiff, Nat.reduceAdd, ↓reduceIte, c684]
                        obtain rfl := Option.some.inj H685
                        exact ⟨⟨true, rfl⟩, ren_mk [(10, 10)] (by rfl) (rf_upd (by rfl) (rf_upd (by rfl) (rf_upd (by rfl) (rf_no _)))) (rh_upd (rh_one (by rfl) (by rfl) (by rfl)) (rh_upd (rh_one (by rfl) (by rfl) (by rfl)) (rh_upd (rh_acc (by rfl) (by rfl)) (rh_upd (rh_one (by rfl) (by rfl) (by rfl)) (rh_no _)))))⟩
                      · obtain ⟨t262, b686, H687⟩ := bind_inv H685
                        try simp -implicitDefEqProofs only [go_sem, Nat.reduceEqDiff, Nat.reduceAdd, reduceCtorEq, ↓reduceIte, c684]
                        refine onCall_pure (by first | rfl | (simp -implicitDefEqProofs only [go_sem, Int.reduceToNat, Int.reduceLT, Int.reduceLE, Int.reduceBEq, Int.reduceBNe, Nat.reduceLT, Nat.reduceBEq, Int.reduceEq, Nat.reduceEqDiff, Nat.reduceAdd, Nat.reduceSub, Nat.reduceMul, Nat.reduceLeDiff, reduceCtorEq, ↓reduceIte, eGTuple, eGBatch, eStorStore, eGObj, eGSub, c676, c680, c684]; done) | (simp -implicitDefEqProofs only [go_sem, Int.reduceToNat, Int.reduceLT, Int.reduceLE, Int.reduceBEq, Int.reduceBNe, Nat.reduceLT, Nat.reduceBEq, Int.reduceEq, Nat.reduceEqDiff, Nat.reduceAdd, Nat.reduceSub, Nat.reduceMul, Nat.reduceLeDiff, reduceCtorEq, ↓reduceIte, eGTuple, eGBatch, eStorStore, eGObj, eGSub, c676, c680, c684]; rfl)) (stor_wrong_ok b686) (by first | exact .inr rfl | exact .inl rfl) ?_
                        try simp -implicitDefEqProofs only [go_sem, Nat.reduceEqDiff, Nat.reduceAdd, ↓reduceIte]
                        obtain rfl := Option.some.inj H687
                        exact ⟨⟨t262, rfl⟩, ren_mk [(10, 10)] (by rfl) (rf_upd (by rfl) (rf_upd (by rfl) (rf_upd (by rfl) (rf_no _)))) (rh_upd (rh_one (by rfl) (by rfl) (by rfl)) (rh_upd (rh_one (by rfl) (by rfl) (by rfl)) (rh_upd (rh_acc (by rfl) (by rfl)) (rh_upd (rh_one (by rfl) (by rfl) (by rfl)) (rh_no _)))))⟩
                · rintro ⟨t272, he793⟩
                  replace he793 := he793.symm
                  subst he793
                  try dsimp only at H673
                  refine runR_take tab_ok fol 2 ?_
                  try simp -implicitDefEqProofs only [go_sem, Nat.reduceEqDiff, reduceCtorEq, ↓reduceIte]
                  rcases ite_inv H673 with ⟨c688, H689⟩ | ⟨c688, H689⟩
                  · try simp -implicitDefEqProofs only [go_sem, Nat.reduceAdd, c688]
                    obtain rfl := Option.some.inj H689
                    exact endJ_ret ⟨⟨(2, t31), rfl⟩, g60⟩ (ren_mk [] (by rfl) (rf_upd (by rfl) (rf_no _)) (rh_upd (rh_one (by rfl) (by rfl) (by rfl)) (rh_upd (rh_one (by rfl) (by rfl) (by rfl)) (rh_upd (rh_acc (by rfl) (by rfl)) (rh_no _)))))
                  · obtain ⟨t302, b690, H691⟩ := bind_inv H689
                    try simp -implicitDefEqProofs only [go_sem, Nat.reduceEqDiff, Nat.reduceAdd, reduceCtorEq, ↓reduceIte, c688]
                    refine onCallD_pure (by first | rfl | (simp -implicitDefEqProofs only [go_sem, Int.reduceToNat, Int.reduceLT, Int.reduceLE, Int.reduceBEq, Int.reduceBNe, Nat.reduceLT, Nat.reduceBEq, Int.reduceEq, Nat.reduceEqDiff, Nat.reduceAdd, Nat.reduceSub, Nat.reduceMul, Nat.reduceLeDiff, reduceCtorEq, ↓reduceIte, eGTuple, eGBatch, eStorStore, eGObj, eGSub, c688]; done) | (simp -implicitDefEqProofs only [go_sem, Int.reduceToNat, Int.reduceLT, Int.reduceLE, Int.reduceBEq, Int.reduceBNe, Nat.reduceLT, Nat.reduceBEq, Int.reduceEq, Nat.reduceEqDiff, Nat.reduceAdd, Nat.reduceSub, Nat.reduceMul, Nat.reduceLeDiff, reduceCtorEq, ↓reduceIte, eGTuple, eGBatch, eStorStore, eGObj, eGSub, c688]; rfl)) (rows_Of_ok b690) (by first | exact .inr rfl | exact .inl rfl) ?_
                    obtain ⟨t332, b692, H693⟩ := bind_inv H691
                    try simp -implicitDefEqProofs only [go_sem, Nat.reduceEqDiff, Nat.reduceAdd, reduceCtorEq, ↓reduceIte]
                    refine onCallD_pure (by first | rfl | (simp -implicitDefEqProofs only [go_sem, Int.reduceToNat, Int.reduceLT, Int.reduceLE, Int.reduceBEq, Int.reduceBNe, Nat.reduceLT, Nat.reduceBEq, Int.reduceEq, Nat.reduceEqDiff, Nat.reduceAdd, Nat.reduceSub, Nat.reduceMul, Nat.reduceLeDiff, reduceCtorEq, ↓reduceIte, eGTuple, eGBatch, eStorStore, eGObj, eGSub, c688]; done) | (simp -implicitDefEqProofs only [go_sem, Int.reduceToNat, Int.reduceLT, Int.reduceLE, Int.reduceBEq, Int.reduceBNe, Nat.reduceLT, Nat.reduceBEq, Int.reduceEq, Nat.reduceEqDiff, Nat.reduceAdd, Nat.reduceSub, Nat.reduceMul, Nat.reduceLeDiff, reduceCtorEq, ↓reduceIte, eGTuple, eGBatch, eStorStore, eGObj, eGSub, c688]; rfl)) (rows_Of_ok b692) (by first | exact .inr rfl | exact .inl rfl) ?_
                    try simp -implicitDefEqProofs only [go_sem, Nat.reduceAdd, reduceCtorEq, ↓reduceIte]
                    obtain ⟨t24, E694, H695⟩ := bind_inv H693
                    refine onCallD_det (ids' := [0, 1]) (v := .d (.sl (List.map eGTuple t24)) false) (δ := []) (nx' := 33) (fun hp1 h1 => ?_) ?_
                    · have e710 : hp1 0 = some (.bx [.v (.int .i64 1000), .so 1 g60 0 (t31.length)]) := (h1.1 0 (by simp)).trans (by first | rfl | (simp -implicitDefEqProofs only [go_sem, Int.reduceToNat, Int.reduceLT, Int.reduceLE, Int.reduceBEq, Int.reduceBNe, Nat.reduceLT, Nat.reduceBEq, Int.reduceEq, Nat.reduceEqDiff, Nat.reduceAdd, Nat.reduceSub, Nat.reduceMul, Nat.reduceLeDiff, reduceCtorEq, ↓reduceIte, eGTuple, eGBatch, eStorStore, eGObj, eGSub]; done) | (simp -implicitDefEqProofs only [go_sem, Int.reduceToNat, Int.reduceLT, Int.reduceLE, Int.reduceBEq, Int.reduceBNe, Nat.reduceLT, Nat.reduceBEq, Int.reduceEq, Nat.reduceEqDiff, Nat.reduceAdd, Nat.reduceSub, Nat.reduceMul, Nat.reduceLeDiff, reduceCtorEq, ↓reduceIte, eGTuple, eGBatch, eStorStore, eGObj, eGSub]; rfl))
                      have e711 : hp1 1 = some (.rw (List.map (eL eGTuple) t31) 1 g60 false false) := (h1.1 1 (by simp)).trans (by first | rfl | (simp -implicitDefEqProofs only [go_sem, Int.reduceToNat, Int.reduceLT, Int.reduceLE, Int.reduceBEq, Int.reduceBNe, Nat.reduceLT, Nat.reduceBEq, Int.reduceEq, Nat.reduceEqDiff, Nat.reduceAdd, Nat.reduceSub, Nat.reduceMul, Nat.reduceLeDiff, reduceCtorEq, ↓reduceIte, eGTuple, eGBatch, eStorStore, eGObj, eGSub]; done) | (simp -implicitDefEqProofs only [go_sem, Int.reduceToNat, Int.reduceLT, Int.reduceLE, Int.reduceBEq, Int.reduceBNe, Nat.reduceLT, Nat.reduceBEq, Int.reduceEq, Nat.reduceEqDiff, Nat.reduceAdd, Nat.reduceSub, Nat.reduceMul, Nat.reduceLeDiff, reduceCtorEq, ↓reduceIte, eGTuple, eGBatch, eStorStore, eGObj, eGSub]; rfl))
                      have e712 : upd 0 (some (.bx [.v (.int .i64 1000), .so 1 g60 0 (t31.length)])) (upd 1 (some (.rw (List.map (eL eGTuple) t31) 1 g60 false false)) (hp1)) = hp1 := by rw [upd_self e711, upd_self e710]
                      rw [← e712]
                      refine inl_runR tab_ok Try.func64 rfl (by kernel_rfl) (by kernel_rfl) (by simp [Try.f64]) ?_
                      unfold law4_StorPast_C3_stor_Store_now at E694
                      try dsimp only at E694
                      refine runR_take tab_ok fol 1 ?_
                      obtain ⟨t89, b696, H697⟩ := bind_inv E694
                      try simp -implicitDefEqProofs only [go_sem, Nat.reduceAdd, reduceCtorEq, ↓reduceIte]
                      refine onCallD_pureA [0, 1] (by intro hp1 h1; have h698 := h1 0 (by simp); have h699 := h1 1 (by simp); (try simp -implicitDefEqProofs only [go_sem, ↓reduceIte] at h698); (try simp -implicitDefEqProofs only [go_sem, reduceCtorEq, ↓reduceIte] at h699); first | (simp -implicitDefEqProofs only [go_sem, ↓reduceIte, eStorStore, h698, h699]; done) | (simp -implicitDefEqProofs only [go_sem, ↓reduceIte, eStorStore, h698, h699]; rfl)) (PureA.of_pure (stor_Store_Rev_ok b696)) (by first | exact .inr rfl | exact .inl rfl) ?_
                      obtain ⟨x29, b700, H701⟩ := bind_inv H697
                      obtain ⟨h702, h703⟩ := idx_inv b700
                      try simp only [Int.reduceToNat, Int.toNat_natCast] at h703
                      have h704 := map_at (eL eGTuple) h703
                      have h705 := at_lt h703
                      try simp -implicitDefEqProofs only [go_sem, Nat.reduceEqDiff, Nat.reduceAdd, reduceCtorEq, ↓reduceIte, nat_of .i64 h702, h704, h705]
                      refine Rd_endF (by rfl) ?_
                      try simp -implicitDefEqProofs only [go_sem]
                      obtain rfl := Option.some.inj H701
                      exact end_ret (by first | ((simp -implicitDefEqProofs only [go_sem, ↓reduceIte, Try.f64]) <;> rfl) | rfl) ⟨rfl, rfl, rfl⟩
                    try dsimp only at H695
                    try simp -implicitDefEqProofs only [go_sem, Nat.reduceEqDiff, Nat.reduceAdd, ↓reduceIte]
                    refine Rd_endF (by rfl) ?_
                    obtain ⟨t392, b713, H714⟩ := bind_inv H695
                    try simp -implicitDefEqProofs only [go_sem, Nat.reduceEqDiff, Nat.reduceAdd, ↓reduceIte]
                    refine onCall_pure (by first | rfl | (simp -implicitDefEqProofs only [go_sem, Int.reduceToNat, Int.reduceLT, Int.reduceLE, Int.reduceBEq, Int.reduceBNe, Nat.reduceLT, Nat.reduceBEq, Int.reduceEq, Nat.reduceEqDiff, Nat.reduceAdd, Nat.reduceSub, Nat.reduceMul, Nat.reduceLeDiff, reduceCtorEq, ↓reduceIte, eGTuple, eGBatch, eStorStore, eGObj, eGSub]; done) | (simp -implicitDefEqProofs only [go_sem, Int.reduceToNat, Int.reduceLT, Int.reduceLE, Int.reduceBEq, Int.reduceBNe, Nat.reduceLT, Nat.reduceBEq, Int.reduceEq, Nat.reduceEqDiff, Nat.reduceAdd, Nat.reduceSub, Nat.reduceMul, Nat.reduceLeDiff, reduceCtorEq, ↓reduceIte, eGTuple, eGBatch, eStorStore, eGObj, eGSub]; rfl)) (rows_Minus_ok b713) (by first | exact .inr rfl | exact .inl rfl) ?_
                    obtain ⟨t412, b715, H716⟩ := bind_inv H714
                    try simp -implicitDefEqProofs only [go_sem, Nat.reduceEqDiff, Nat.reduceAdd, ↓reduceIte]
                    refine onCall_pure (by first | rfl | (simp -implicitDefEqProofs only [go_sem, Int.reduceToNat, Int.reduceLT, Int.reduceLE, Int.reduceBEq, Int.reduceBNe, Nat.reduceLT, Nat.reduceBEq, Int.reduceEq, Nat.reduceEqDiff, Nat.reduceAdd, Nat.reduceSub, Nat.reduceMul, Nat.reduceLeDiff, reduceCtorEq, ↓reduceIte, eGTuple, eGBatch, eStorStore, eGObj, eGSub]; done) | (simp -implicitDefEqProofs only [go_sem, Int.reduceToNat, Int.reduceLT, Int.reduceLE, Int.reduceBEq, Int.reduceBNe, Nat.reduceLT, Nat.reduceBEq, Int.reduceEq, Nat.reduceEqDiff, Nat.reduceAdd, Nat.reduceSub, Nat.reduceMul, Nat.reduceLeDiff, reduceCtorEq, ↓reduceIte, eGTuple, eGBatch, eStorStore, eGObj, eGSub]; rfl)) (rows_Plus_ok b715) (by first | exact .inr rfl | exact .inl rfl) ?_
                    obtain ⟨t452, b717, H718⟩ := bind_inv H716
                    try simp -implicitDefEqProofs only [go_sem, Nat.reduceEqDiff, Nat.reduceAdd, ↓reduceIte]
                    refine onCall_pure (by first | rfl | (simp -implicitDefEqProofs only [go_sem, Int.reduceToNat, Int.reduceLT, Int.reduceLE, Int.reduceBEq, Int.reduceBNe, Nat.reduceLT, Nat.reduceBEq, Int.reduceEq, Nat.reduceEqDiff, Nat.reduceAdd, Nat.reduceSub, Nat.reduceMul, Nat.reduceLeDiff, reduceCtorEq, ↓reduceIte, eGTuple, eGBatch, eStorStore, eGObj, eGSub]; done) | (simp -implicitDefEqProofs only [go_sem, Int.reduceToNat, Int.reduceLT, Int.reduceLE, Int.reduceBEq, Int.reduceBNe, Nat.reduceLT, Nat.reduceBEq, Int.reduceEq, Nat.reduceEqDiff, Nat.reduceAdd, Nat.reduceSub, Nat.reduceMul, Nat.reduceLeDiff, reduceCtorEq, ↓reduceIte, eGTuple, eGBatch, eStorStore, eGObj, eGSub]; rfl)) (rows_Minus_ok b717) (by first | exact .inr rfl | exact .inl rfl) ?_
                    try simp -implicitDefEqProofs only [go_sem, Nat.reduceEqDiff, Nat.reduceAdd, ↓reduceIte]
                    rcases ite_inv H718 with ⟨c719, H720⟩ | ⟨c719, H720⟩
                    · try simp -implicitDefEqProofs only [go_sem, Nat.reduceAdd, c719]
                      obtain rfl := Option.some.inj H720
                      exact endJ_ret ⟨⟨(6, t31), rfl⟩, g60⟩ (ren_mk [] (by rfl) (rf_upd (by rfl) (rf_no _)) (rh_upd (rh_one (by rfl) (by rfl) (by rfl)) (rh_upd (rh_one (by rfl) (by rfl) (by rfl)) (rh_upd (rh_acc (by rfl) (by rfl)) (rh_no _)))))
                    · try simp -implicitDefEqProofs only [go_sem, Nat.reduceEqDiff, Nat.reduceAdd, reduceCtorEq, ↓reduceIte, c719]
                      obtain ⟨e_47, E721, H722⟩ := bind_inv H720
                      refine onCall_inl (InlOK.mono (inl_runRJ (α := { y : Bool // e_47 = y }) tab_ok Try.func67 rfl (by kernel_rfl) (by kernel_rfl) (by simp [Try.f67]) (fun | ⟨t414, _⟩ => ⟨upd 4 (.v (.bool t414)) noFr, upd 0 (some (.bx [.v (.int .i64 1000), .so 1 g60 0 (t31.length)])) (upd 1 (some (.rw (List.map (eL eGTuple) t31) 1 g60 false false)) (upd 2 (accO 1 g66 false (List.map (eL eGTuple) t411)) (upd 10 (some (.bx [.d (.sl (List.map eGTuple t402.add)) false, .d (.sl (List.map eGTuple t402.drop)) false, .d (.sl (List.map eGTuple t402.must)) false, .d (.sl (List.map eGTuple t402.not_)) false])) (upd 19 (some (.bx [.d (.sl (List.map eGTuple t24)) false])) (upd 34 (some (.bx [.fn 66 [.pt 19 0]])) noHp))))), 55⟩) (fun | ⟨t414, _⟩ => .v (.bool t414)) (by rintro ⟨t414, he769⟩; first | ((simp -implicitDefEqProofs only [go_sem, ↓reduceIte, Try.f67]) <;> rfl) | rfl) ?_) ?_)
                      · unfold law4_StorPast_C4_slices_ContainsFunc_Tuple at E721
                        try dsimp only at E721
                        refine runR_take tab_ok fol 1 ?_
                        try simp -implicitDefEqProofs only [go_sem, Nat.reduceEqDiff, Nat.reduceAdd, reduceCtorEq, ↓reduceIte]
                        obtain ⟨e_48, E723, H724⟩ := bind_inv E721
                        refine onCall_inl (InlOK.mono (inl_runRJ (α := { y : Int // e_48 = y }) tab_ok Try.func81 rfl (by kernel_rfl) (by kernel_rfl) (by simp [Try.f81]) (fun | ⟨t413, _⟩ => ⟨upd 4 (.v (.int .i64 t413)) noFr, upd 0 (some (.bx [.v (.int .i64 1000), .so 1 g60 0 (t31.length)])) (upd 1 (some (.rw (List.map (eL eGTuple) t31) 1 g60 false false)) (upd 2 (accO 1 g66 false (List.map (eL eGTuple) t411)) (upd 10 (some (.bx [.d (.sl (List.map eGTuple t402.add)) false, .d (.sl (List.map eGTuple t402.drop)) false, .d (.sl (List.map eGTuple t402.must)) false, .d (.sl (List.map eGTuple t402.not_)) false])) (upd 19 (some (.bx [.d (.sl (List.map eGTuple t24)) false])) (upd 34 (some (.bx [.fn 66 [.pt 19 0]])) noHp))))), 61⟩) (fun | ⟨t413, _⟩ => .v (.int .i64 t413)) (by rintro ⟨t413, he765⟩; first | ((simp -implicitDefEqProofs only [go_sem, ↓reduceIte, Try.f81]) <;> rfl) | rfl) ?_) ?_)
                        · unfold law4_StorPast_C5_slices_IndexFunc_Tuple at E723
                          try dsimp only at E723
                          refine runR_seq ?_
                          refine runR_take tab_ok fol 1 ?_
                          try simp -implicitDefEqProofs only [go_sem, Nat.reduceAdd]
                          refine runR_seq ?_
                          refine runR_seq ?_
                          refine runR_take tab_ok fol 1 ?_
                          try simp -implicitDefEqProofs only [go_sem, Nat.reduceAdd, reduceCtorEq, ↓reduceIte]
                          obtain ⟨e_49, E725, H726⟩ := bind_inv E723
                          refine runR_join (α := { y : Unit // e_49 = .inl y }) (fun | ⟨_, _⟩ => ⟨noFr, upd 0 (some (.bx [.v (.int .i64 1000), .so 1 g60 0 (t31.length)])) (upd 1 (some (.rw (List.map (eL eGTuple) t31) 1 g60 false false)) (upd 2 (accO 1 g66 false (List.map (eL eGTuple) t411)) (upd 10 (some (.bx [.d (.sl (List.map eGTuple t402.add)) false, .d (.sl (List.map eGTuple t402.drop)) false, .d (.sl (List.map eGTuple t402.must)) false, .d (.sl (List.map eGTuple t402.not_)) false])) (upd 19 (some (.bx [.d (.sl (List.map eGTuple t24)) false])) (upd 34 (some (.bx [.fn 66 [.pt 19 0]])) noHp))))), 61⟩) ?_ ?_
                          · refine runR_block ?_
                            refine runR_loop (α := { q : Nat × Int // law4_StorPast_L3 n t31 t411 t402 t24 q.1 q.2 = some e_49 }) (fun | ⟨⟨c, t810⟩, _⟩ => ⟨upd 0 (.d (.sl (List.map eGTuple t402.must)) false) (upd 1 (.fn 68 [.pt 34 0]) (upd 7 (.v (.int .i64 (t402.must.length : Int))) (upd 8 (.v (.int .i64 t810)) noFr))), upd 0 (some (.bx [.v (.int .i64 1000), .so 1 g60 0 (t31.length)])) (upd 1 (some (.rw (List.map (eL eGTuple) t31) 1 g60 false false)) (upd 2 (accO 1 g66 false (List.map (eL eGTuple) t411)) (upd 10 (some (.bx [.d (.sl (List.map eGTuple t402.add)) false, .d (.sl (List.map eGTuple t402.drop)) false, .d (.sl (List.map eGTuple t402.must)) false, .d (.sl (List.map eGTuple t402.not_)) false])) (upd 19 (some (.bx [.d (.sl (List.map eGTuple t24)) false])) (upd 34 (some (.bx [.fn 66 [.pt 19 0]])) noHp))))), 61⟩) (fun q => q.1.1) ⟨(n, 0), E725⟩ ?_ ?_
                            · exact ren_mk [] (by rfl) (rf_upd (by rfl) (rf_upd (by rfl) (rf_upd (by rfl) (rf_upd (by rfl) (rf_no _))))) (rh_upd (rh_one (by rfl) (by rfl) (by rfl)) (rh_upd (rh_one (by rfl) (by rfl) (by rfl)) (rh_upd (rh_acc (by rfl) (by rfl)) (rh_upd (rh_one (by rfl) (by rfl) (by rfl)) (rh_upd (rh_one (by rfl) (by rfl) (by rfl)) (rh_upd (rh_one (by rfl) (by rfl) (by rfl)) (rh_no _)))))))
                            · rintro ⟨⟨c, t810⟩, L727⟩
                              rcases c with _ | c
                              · exact nomatch (show none = some _ from L727)
                              · unfold law4_StorPast_L3 at L727
                                try dsimp only at L727
                                refine runR_take tab_ok fol 1 ?_
                                try simp -implicitDefEqProofs only [go_sem, Nat.reduceEqDiff, Nat.reduceAdd, reduceCtorEq, ↓reduceIte]
                                rcases ite_inv L727 with ⟨c746, H747⟩ | ⟨c746, H747⟩
                                · obtain ⟨x31, b748, H749⟩ := bind_inv H747
                                  obtain ⟨h750, h751⟩ := idx_inv b748
                                  try simp only [Int.reduceToNat, Int.toNat_natCast] at h751
                                  have h752 := map_at eGTuple h751
                                  try simp -implicitDefEqProofs only [go_sem, Nat.reduceEqDiff, Nat.reduceAdd, reduceCtorEq, ↓reduceIte, eGTuple, c746, nat_of .i64 h750, h752]
                                  obtain ⟨e_51, E754, H755⟩ := bind_inv H749
                                  refine onCall_inl (InlOK.mono (inl_runRJ (α := { y : Bool // e_51 = y }) tab_ok Try.func68 rfl (by kernel_rfl) (by kernel_rfl) (by simp [Try.f68]) (fun | ⟨t36, _⟩ => ⟨upd 3 (.v (.bool t36)) noFr, upd 0 (some (.bx [.v (.int .i64 1000), .so 1 g60 0 (t31.length)])) (upd 1 (some (.rw (List.map (eL eGTuple) t31) 1 g60 false false)) (upd 2 (accO 1 g66 false (List.map (eL eGTuple) t411)) (upd 10 (some (.bx [.d (.sl (List.map eGTuple t402.add)) false, .d (.sl (List.map eGTuple t402.drop)) false, .d (.sl (List.map eGTuple t402.must)) false, .d (.sl (List.map eGTuple t402.not_)) false])) (upd 19 (some (.bx [.d (.sl (List.map eGTuple t24)) false])) (upd 34 (some (.bx [.fn 66 [.pt 19 0]])) noHp))))), 70⟩) (fun | ⟨t36, _⟩ => .v (.bool t36)) (by rintro ⟨t36, he758⟩; first | ((simp -implicitDefEqProofs only [go_sem, ↓reduceIte, Try.f68]) <;> rfl) | rfl) ?_) ?_)
                                  · unfold law4_StorPast_C6_stor_Store_Write_c2 at E754
                                    try dsimp only at E754
                                    refine runR_take tab_ok fol 1 ?_
                                    obtain ⟨t66, b756, H757⟩ := bind_inv E754
                                    try simp -implicitDefEqProofs only [go_sem, Nat.reduceEqDiff, Nat.reduceAdd, reduceCtorEq, ↓reduceIte]
                                    refine onCall_pureA (by first | rfl | (simp -implicitDefEqProofs only [go_sem, Int.reduceToNat, Int.reduceLT, Int.reduceLE, Int.reduceBEq, Int.reduceBNe, Nat.reduceLT, Nat.reduceBEq, Int.reduceEq, Nat.reduceEqDiff, Nat.reduceAdd, Nat.reduceSub, Nat.reduceMul, Nat.reduceLeDiff, reduceCtorEq, ↓reduceIte, eGTuple, eGBatch, eStorStore, eGObj, eGSub]; done) | (simp -implicitDefEqProofs only [go_sem, Int.reduceToNat, Int.reduceLT, Int.reduceLE, Int.reduceBEq, Int.reduceBNe, Nat.reduceLT, Nat.reduceBEq, Int.reduceEq, Nat.reduceEqDiff, Nat.reduceAdd, Nat.reduceSub, Nat.reduceMul, Nat.reduceLeDiff, reduceCtorEq, ↓reduceIte, eGTuple, eGBatch, eStorStore, eGObj, eGSub]; rfl)) (PureA.of_pure (stor_Store_Write_c1_ok b756)) (by first | exact .inr rfl | exact .inl rfl) ?_
                                    try simp -implicitDefEqProofs only [go_sem, Nat.reduceAdd, ↓reduceIte]
                                    obtain rfl := Option.some.inj H757
                                    exact endJ_ret ⟨(!t66), rfl⟩ (ren_mk [] (by rfl) (rf_upd (by rfl) (rf_no _)) (rh_upd (rh_one (by rfl) (by rfl) (by rfl)) (rh_upd (rh_one (by rfl) (by rfl) (by rfl)) (rh_upd (rh_acc (by rfl) (by rfl)) (rh_upd (rh_one (by rfl) (by rfl) (by rfl)) (rh_upd (rh_one (by rfl) (by rfl) (by rfl)) (rh_upd (rh_one (by rfl) (by rfl) (by rfl)) (rh_no _))))))))
                                  rintro v759 hp760 nx761 ⟨⟨t36, he758⟩, rfl, rfl, rfl⟩
                                  replace he758 := he758.symm
                                  subst he758
                                  try dsimp only at H755
                                  dsimp only
                                  try simp -implicitDefEqProofs only [go_sem, ↓reduceIte]
                                  rcases ite_inv H755 with ⟨c762, H763⟩ | ⟨c762, H763⟩
                                  · try simp -implicitDefEqProofs only [go_sem, Nat.reduceEqDiff, Nat.reduceAdd, ↓reduceIte, c762]
                                    obtain rfl := Option.some.inj H763
                                    obtain rfl := Option.some.inj H726
                                    exact endJ_ret ⟨t810, rfl⟩ (ren_mk [] (by rfl) (rf_upd (by rfl) (rf_no _)) (rh_upd (rh_one (by rfl) (by rfl) (by rfl)) (rh_upd (rh_one (by rfl) (by rfl) (by rfl)) (rh_upd (rh_acc (by rfl) (by rfl)) (rh_upd (rh_one (by rfl) (by rfl) (by rfl)) (rh_upd (rh_one (by rfl) (by rfl) (by rfl)) (rh_upd (rh_one (by rfl) (by rfl) (by rfl)) (rh_no _))))))))
                                  · try simp -implicitDefEqProofs only [go_sem, Nat.reduceEqDiff, Nat.reduceAdd, reduceCtorEq, ↓reduceIte, c762]
                                    exact ⟨⟨(c, (IntKind.i64.wrap (t810 + 1))), H763⟩, ren_mk [] (by rfl) (rf_upd (by rfl) (rf_upd (by rfl) (rf_upd (by rfl) (rf_upd (by rfl) (rf_no _))))) (rh_upd (rh_one (by rfl) (by rfl) (by rfl)) (rh_upd (rh_one (by rfl) (by rfl) (by rfl)) (rh_upd (rh_acc (by rfl) (by rfl)) (rh_upd (rh_one (by rfl) (by rfl) (by rfl)) (rh_upd (rh_one (by rfl) (by rfl) (by rfl)) (rh_upd (rh_one (by rfl) (by rfl) (by rfl)) (rh_no _))))))), Nat.lt_succ_self _⟩
                                · try simp -implicitDefEqProofs only [go_sem, ↓reduceIte, c746]
                                  obtain rfl := Option.some.inj H747
                                  exact ⟨⟨(), rfl⟩, ren_mk [] (by rfl) (rf_no _) (rh_upd (rh_one (by rfl) (by rfl) (by rfl)) (rh_upd (rh_one (by rfl) (by rfl) (by rfl)) (rh_upd (rh_acc (by rfl) (by rfl)) (rh_upd (rh_one (by rfl) (by rfl) (by rfl)) (rh_upd (rh_one (by rfl) (by rfl) (by rfl)) (rh_upd (rh_one (by rfl) (by rfl) (by rfl)) (rh_no _)))))))⟩
                          · rintro ⟨_, he764⟩
                            replace he764 := he764.symm
                            subst he764
                            try dsimp only at H726
                            refine runR_take tab_ok fol 1 ?_
                            try simp -implicitDefEqProofs only [go_sem, Nat.reduceAdd]
                            obtain rfl := Option.some.inj H726
                            exact endJ_ret ⟨(-1), rfl⟩ (ren_mk [] (by rfl) (rf_upd (by rfl) (rf_no _)) (rh_upd (rh_one (by rfl) (by rfl) (by rfl)) (rh_upd (rh_one (by rfl) (by rfl) (by rfl)) (rh_upd (rh_acc (by rfl) (by rfl)) (rh_upd (rh_one (by rfl) (by rfl) (by rfl)) (rh_upd (rh_one (by rfl) (by rfl) (by rfl)) (rh_upd (rh_one (by rfl) (by rfl) (by rfl)) (rh_no _))))))))
                        rintro v766 hp767 nx768 ⟨⟨t413, he765⟩, rfl, rfl, rfl⟩
                        replace he765 := he765.symm
                        subst he765
                        try dsimp only at H724
                        dsimp only
                        try simp -implicitDefEqProofs only [go_sem, Nat.reduceAdd, ↓reduceIte]
                        obtain rfl := Option.some.inj H724
                        exact endJ_ret ⟨(decide (0 ≤ t413)), rfl⟩ (ren_mk [] (by rfl) (rf_upd (by rfl) (rf_no _)) (rh_upd (rh_one (by rfl) (by rfl) (by rfl)) (rh_upd (rh_one (by rfl) (by rfl) (by rfl)) (rh_upd (rh_acc (by rfl) (by rfl)) (rh_upd (rh_one (by rfl) (by rfl) (by rfl)) (rh_upd (rh_one (by rfl) (by rfl) (by rfl)) (rh_upd (rh_one (by rfl) (by rfl) (by rfl)) (rh_no _))))))))
                      rintro v770 hp771 nx772 ⟨⟨t414, he769⟩, rfl, rfl, rfl⟩
                      replace he769 := he769.symm
                      subst he769
                      try dsimp only at H722
                      dsimp only
                      try simp -implicitDefEqProofs only [go_sem, Nat.reduceAdd, ↓reduceIte]
                      rcases ite_inv H722 with ⟨c773, H774⟩ | ⟨c773, H774⟩
                      · try simp -implicitDefEqProofs only [go_sem, Nat.reduceAdd, c773]
                        obtain rfl := Option.some.inj H774
                        exact endJ_ret ⟨⟨(4, t31), rfl⟩, g60⟩ (ren_mk [] (by rfl) (rf_upd (by rfl) (rf_no _)) (rh_upd (rh_one (by rfl) (by rfl) (by rfl)) (rh_upd (rh_one (by rfl) (by rfl) (by rfl)) (rh_upd (rh_acc (by rfl) (by rfl)) (rh_no _)))))
                      · obtain ⟨t592, b775, H776⟩ := bind_inv H774
                        try simp -implicitDefEqProofs only [go_sem, Nat.reduceEqDiff, Nat.reduceAdd, reduceCtorEq, ↓reduceIte, c773]
                        refine onCall_pureA (by first | rfl | (simp -implicitDefEqProofs only [go_sem, Int.reduceToNat, Int.reduceLT, Int.reduceLE, Int.reduceBEq, Int.reduceBNe, Nat.reduceLT, Nat.reduceBEq, Int.reduceEq, Nat.reduceEqDiff, Nat.reduceAdd, Nat.reduceSub, Nat.reduceMul, Nat.reduceLeDiff, reduceCtorEq, ↓reduceIte, eGTuple, eGBatch, eStorStore, eGObj, eGSub, c773]; done) | (simp -implicitDefEqProofs only [go_sem, Int.reduceToNat, Int.reduceLT, Int.reduceLE, Int.reduceBEq, Int.reduceBNe, Nat.reduceLT, Nat.reduceBEq, Int.reduceEq, Nat.reduceEqDiff, Nat.reduceAdd, Nat.reduceSub, Nat.reduceMul, Nat.reduceLeDiff, reduceCtorEq, ↓reduceIte, eGTuple, eGBatch, eStorStore, eGObj, eGSub, c773]; rfl)) (slices_ContainsFunc_Tuple__stor_Store_Write_c1_ok b775) (by first | exact .inr rfl | exact .inl rfl) ?_
                        try simp -implicitDefEqProofs only [go_sem, Nat.reduceAdd, ↓reduceIte]
                        rcases ite_inv H776 with ⟨c777, H778⟩ | ⟨c777, H778⟩
                        · try simp -implicitDefEqProofs only [go_sem, Nat.reduceAdd, c777]
                          obtain rfl := Option.some.inj H778
                          exact endJ_ret ⟨⟨(3, t31), rfl⟩, g60⟩ (ren_mk [] (by rfl) (rf_upd (by rfl) (rf_no _)) (rh_upd (rh_one (by rfl) (by rfl) (by rfl)) (rh_upd (rh_one (by rfl) (by rfl) (by rfl)) (rh_upd (rh_acc (by rfl) (by rfl)) (rh_no _)))))
                        · try simp -implicitDefEqProofs only [go_sem, Nat.reduceEqDiff, Nat.reduceAdd, reduceCtorEq, ↓reduceIte, c777]
                          rcases ite_inv H778 with ⟨c779, H780⟩ | ⟨c779, H780⟩
                          · try simp -implicitDefEqProofs only [go_sem, Nat.reduceAdd, c779]
                            obtain rfl := Option.some.inj H780
                            exact endJ_ret ⟨⟨(5, t31), rfl⟩, g60⟩ (ren_mk [] (by rfl) (rf_upd (by rfl) (rf_no _)) (rh_upd (rh_one (by rfl) (by rfl) (by rfl)) (rh_upd (rh_one (by rfl) (by rfl) (by rfl)) (rh_upd (rh_acc (by rfl) (by rfl)) (rh_no _)))))
                          · obtain ⟨t702, b781, H782⟩ := bind_inv H780
                            try simp -implicitDefEqProofs only [go_sem, Nat.reduceEqDiff, Nat.reduceAdd, reduceCtorEq, ↓reduceIte, c779]
                            refine onCall_pure (by first | rfl | (simp -implicitDefEqProofs only [go_sem, Int.reduceToNat, Int.reduceLT, Int.reduceLE, Int.reduceBEq, Int.reduceBNe, Nat.reduceLT, Nat.reduceBEq, Int.reduceEq, Nat.reduceEqDiff, Nat.reduceAdd, Nat.reduceSub, Nat.reduceMul, Nat.reduceLeDiff, reduceCtorEq, ↓reduceIte, eGTuple, eGBatch, eStorStore, eGObj, eGSub, c773, c777, c779]; done) | (simp -implicitDefEqProofs only [go_sem, Int.reduceToNat, Int.reduceLT, Int.reduceLE, Int.reduceBEq, Int.reduceBNe, Nat.reduceLT, Nat.reduceBEq, Int.reduceEq, Nat.reduceEqDiff, Nat.reduceAdd, Nat.reduceSub, Nat.reduceMul, Nat.reduceLeDiff, reduceCtorEq, ↓reduceIte, eGTuple, eGBatch, eStorStore, eGObj, eGSub, c773, c777, c779]; rfl)) (slices_Equal_Tuple_ok b781) (by first | exact .inr rfl | exact .inl rfl) ?_
                            try simp -implicitDefEqProofs only [go_sem, Nat.reduceAdd, ↓reduceIte]
                            rcases ite_inv H782 with ⟨c783, H784⟩ | ⟨c783, H784⟩
                            · try simp -implicitDefEqProofs only [go_sem, Nat.reduceAdd, c783]
                              obtain rfl := Option.some.inj H784
                              exact endJ_ret ⟨⟨(0, t31), rfl⟩, g60⟩ (ren_mk [] (by rfl) (rf_upd (by rfl) (rf_no _)) (rh_upd (rh_one (by rfl) (by rfl) (by rfl)) (rh_upd (rh_one (by rfl) (by rfl) (by rfl)) (rh_upd (rh_acc (by rfl) (by rfl)) (rh_no _)))))
                            · obtain ⟨l14, b785, H786⟩ := bind_inv H784
                              obtain ⟨h787, h788⟩ := app_inv b785
                              have h787 : t31.length + 1 ≤ 4294967296 := h787
                              have h789 : List.map (eL eGTuple) t31 ++ [[.sl (List.map eGTuple t412)]] = List.map (eL eGTuple) l14 := app_map (eL eGTuple) h788
                              have h790 : t31.length + 1 = l14.length := app_len h788
                              have h791 : l14.length ≤ 4294967296 := by omega
                              have q792 : 0 < l14.length := by omega
                              try simp -implicitDefEqProofs only [go_sem, Nat.reduceLT, Nat.reduceEqDiff, Nat.reduceAdd, Nat.reduceLeDiff, reduceCtorEq, ↓reduceIte, c783, h789, h790, h791]
                              obtain rfl := Option.some.inj H786
                              exact endJ_ret ⟨⟨(0, l14), rfl⟩, (g60 + 1)⟩ (ren_mk [] (by rfl) (rf_upd (by rfl) (rf_no _)) (rh_upd (rh_one (by rfl) (by rfl) (by rfl)) (rh_upd (rh_one (by rfl) (by rfl) (by rfl)) (rh_upd (rh_acc (by rfl) (by rfl)) (rh_no _)))))
              rintro v795 hp796 nx797 ⟨⟨⟨⟨t415, o012⟩, he794⟩, g67⟩, rfl, rfl, rfl⟩
              replace he794 := he794.symm
              subst he794
              try dsimp only at H671
              dsimp only
              try simp -implicitDefEqProofs only [go_sem]
              refine runR_seq ?_
              refine runR_take tab_ok fol 1 ?_
              try simp -implicitDefEqProofs only [go_sem, Nat.reduceEqDiff, Nat.reduceAdd, reduceCtorEq, ↓reduceIte]
              refine onCall_inl (inl_runR tab_ok Try.func31 rfl (by kernel_rfl) (by kernel_rfl) (by simp [Try.f31]) ?_)
              refine runR_take tab_ok fol 1 ?_
              try simp -implicitDefEqProofs only [go_sem, Nat.reduceAdd, reduceCtorEq, ↓reduceIte]
              obtain ⟨e_52, E798, H799⟩ := bind_inv H671
              refine onCall_inl (InlOK.mono (inl_runRJ (α := { y : List GTuple // e_52 = y }) tab_ok Try.func64 rfl (by kernel_rfl) (by kernel_rfl) (by simp [Try.f64]) (fun | ⟨t25, _⟩ => ⟨upd 2 (.d (.sl (List.map eGTuple t25)) false) noFr, upd 0 (some (.bx [.v (.int .i64 1000), .so 1 g67 0 (o012.length)])) (upd 1 (some (.rw (List.map (eL eGTuple) o012) 1 g67 false false)) (upd 2 (accO 1 g66 false (List.map (eL eGTuple) t411)) noHp)), 18⟩) (fun | ⟨t25, _⟩ => .d (.sl (List.map eGTuple t25)) false) (by rintro ⟨t25, he810⟩; first | ((simp -implicitDefEqProofs only [go_sem, ↓reduceIte, Try.f64]) <;> rfl) | rfl) ?_) ?_)
              · unfold law4_StorPast_C7_stor_Store_now at E798
                try dsimp only at E798
                refine runR_take tab_ok fol 1 ?_
                obtain ⟨t812, b800, H801⟩ := bind_inv E798
                try simp -implicitDefEqProofs only [go_sem, Nat.reduceAdd, reduceCtorEq, ↓reduceIte]
                refine onCallD_pureA [0, 1] (by intro hp1 h1; have h802 := h1 0 (by simp); have h803 := h1 1 (by simp); (try simp -implicitDefEqProofs only [go_sem, ↓reduceIte] at h802); (try simp -implicitDefEqProofs only [go_sem, reduceCtorEq, ↓reduceIte] at h803); first | (simp -implicitDefEqProofs only [go_sem, ↓reduceIte, eStorStore, h802, h803]; done) | (simp -implicitDefEqProofs only [go_sem, ↓reduceIte, eStorStore, h802, h803]; rfl)) (PureA.of_pure (stor_Store_Rev_ok b800)) (by first | exact .inr rfl | exact .inl rfl) ?_
                obtain ⟨x32, b804, H805⟩ := bind_inv H801
                obtain ⟨h806, h807⟩ := idx_inv b804
                try simp only [Int.reduceToNat, Int.toNat_natCast] at h807
                have h808 := map_at (eL eGTuple) h807
                have h809 := at_lt h807
                try simp -implicitDefEqProofs only [go_sem, Nat.reduceEqDiff, Nat.reduceAdd, reduceCtorEq, ↓reduceIte, nat_of .i64 h806, h808, h809]
                refine Rd_endF (by rfl) ?_
                try simp -implicitDefEqProofs only [go_sem]
                obtain rfl := Option.some.inj H805
                exact endJ_ret ⟨x32, rfl⟩ (ren_mk [] (by rfl) (rf_upd (by rfl) (rf_no _)) (rh_upd (rh_one (by rfl) (by rfl) (by rfl)) (rh_upd (rh_one (by rfl) (by rfl) (by rfl)) (rh_upd (rh_acc (by rfl) (by rfl)) (rh_no _)))))
              rintro v811 hp812 nx813 ⟨⟨t25, he810⟩, rfl, rfl, rfl⟩
              replace he810 := he810.symm
              subst he810
              try dsimp only at H799
              dsimp only
              try simp -implicitDefEqProofs only [go_sem, Nat.reduceAdd, ↓reduceIte]
              rcases ite_inv H799 with ⟨c814, H815⟩ | ⟨c814, H815⟩
              · try simp -implicitDefEqProofs only [go_sem, Int.reduceToNat, Int.reduceLT, Int.reduceLE, Int.reduceBEq, Int.reduceBNe, Nat.reduceLT, Nat.reduceBEq, Int.reduceEq, Nat.reduceEqDiff, Nat.reduceAdd, Nat.reduceSub, Nat.reduceMul, Nat.reduceLeDiff, reduceCtorEq, ↓reduceIte, eGTuple, eGBatch, eStorStore, eGObj, eGSub, c814]
                refine onCall_pure (by first | rfl | (simp -implicitDefEqProofs only [go_sem, Int.reduceToNat, Int.reduceLT, Int.reduceLE, Int.reduceBEq, Int.reduceBNe, Nat.reduceLT, Nat.reduceBEq, Int.reduceEq, Nat.reduceEqDiff, Nat.reduceAdd, Nat.reduceSub, Nat.reduceMul, Nat.reduceLeDiff, reduceCtorEq, ↓reduceIte, eGTuple, eGBatch, eStorStore, eGObj, eGSub, c814]; done) | (simp -implicitDefEqProofs only [go_sem, Int.reduceToNat, Int.reduceLT, Int.reduceLE, Int.reduceBEq, Int.reduceBNe, Nat.reduceLT, Nat.reduceBEq, Int.reduceEq, Nat.reduceEqDiff, Nat.reduceAdd, Nat.reduceSub, Nat.reduceMul, Nat.reduceLeDiff, reduceCtorEq, ↓reduceIte, eGTuple, eGBatch, eStorStore, eGObj, eGSub, c814]; rfl)) (cl55_0 t25 c814) (.inr rfl) ?_
                try simp -implicitDefEqProofs only [go_sem, Nat.reduceAdd, ↓reduceIte]
                refine end_ret (v := .d (.sl (List.map eGTuple [])) false) (by first | ((simp -implicitDefEqProofs only [go_sem, ↓reduceIte, Try.f31]) <;> rfl) | rfl) ?_
                try simp -implicitDefEqProofs only [go_sem]
                refine runR_seq ?_
                refine runR_seq ?_
                refine runR_take tab_ok fol 1 ?_
                try simp -implicitDefEqProofs only [go_sem, Nat.reduceAdd, ↓reduceIte]
                obtain ⟨e_53, E816, H817⟩ := bind_inv H815
                refine runR_join (α := { y : Unit // e_53 = y } × Nat) (fun | ⟨⟨_, _⟩, g70⟩ => ⟨upd 0 (.d (.sl (List.map (eL eI) t0)) true) (upd 3 (.pt 0 0) (upd 4 (accV 2 g70 (List.map (eL eGTuple) t411)) (upd 5 (.v (.int .i64 t5)) noFr))), upd 0 (some (.bx [.v (.int .i64 1000), .so 1 g67 0 (o012.length)])) (upd 1 (some (.rw (List.map (eL eGTuple) o012) 1 g67 false false)) (upd 2 (accO 1 g70 false (List.map (eL eGTuple) t411)) noHp)), 3⟩) ?_ ?_
                · refine runR_block ?_
                  refine runR_loop (α := { q : (Nat × Unit) × Nat // law4_StorPast_L4 n q.1.1 q.1.2 = some e_53 }) (fun | ⟨⟨⟨c, _⟩, g68⟩, _⟩ => ⟨upd 0 (.d (.sl (List.map (eL eI) t0)) true) (upd 3 (.pt 0 0) (upd 4 (accV 2 g68 (List.map (eL eGTuple) t411)) (upd 5 (.v (.int .i64 t5)) (upd 6 (.d (.sl (List.map eGTuple [])) false) (upd 45 (.v (.int .i64 0)) (upd 46 (.v (.int .i64 0)) noFr)))))), upd 0 (some (.bx [.v (.int .i64 1000), .so 1 g67 0 (o012.length)])) (upd 1 (some (.rw (List.map (eL eGTuple) o012) 1 g67 false false)) (upd 2 (accO 1 g68 false (List.map (eL eGTuple) t411)) noHp)), 3⟩) (fun q => q.1.1.1) ⟨((n, ()), g66), E816⟩ ?_ ?_
                  · exact ren_mk [(0, 0), (1, 1), (2, 2)] (by rfl) (rf_upd (by rfl) (rf_upd (by rfl) (rf_upd (ren_acc (by rfl)) (rf_upd (by rfl) (rf_upd (by rfl) (rf_upd (by rfl) (rf_upd (by rfl) (rf_no _)))))))) (rh_upd (rh_one (by rfl) (by rfl) (by rfl)) (rh_upd (rh_one (by rfl) (by rfl) (by rfl)) (rh_upd (rh_acc (by rfl) (by rfl)) (rh_no _))))
                  · rintro ⟨⟨⟨c, _⟩, g68⟩, L818⟩
                    rcases c with _ | c
                    · exact nomatch (show none = some _ from L818)
                    · unfold law4_StorPast_L4 at L818
                      try dsimp only at L818
                      refine runR_take tab_ok fol 1 ?_
                      try simp -implicitDefEqProofs only [go_sem, Int.reduceLT, Nat.reduceEqDiff, Nat.reduceAdd, reduceCtorEq, ↓reduceIte]
                      obtain rfl := Option.some.inj L818
                      exact ⟨⟨⟨(), rfl⟩, g68⟩, ren_mk [(0, 0), (1, 1), (2, 2)] (by rfl) (rf_upd (by rfl) (rf_upd (by rfl) (rf_upd (ren_acc (by rfl)) (rf_upd (by rfl) (rf_no _))))) (rh_upd (rh_one (by rfl) (by rfl) (by rfl)) (rh_upd (rh_one (by rfl) (by rfl) (by rfl)) (rh_upd (rh_acc (by rfl) (by rfl)) (rh_no _))))⟩
                · rintro ⟨⟨_, he1013⟩, g70⟩
                  replace he1013 := he1013.symm
                  subst he1013
                  try dsimp only at H817
                  refine runR_seq ?_
                  refine runR_take tab_ok fol 1 ?_
                  try simp -implicitDefEqProofs only [go_sem, Nat.reduceAdd]
                  obtain ⟨e_54, E819, H820⟩ := bind_inv H817
                  refine runR_join (α := { y : Unit // e_54 = .inl y } × Nat) (fun | ⟨⟨_, _⟩, g94⟩ => ⟨upd 0 (.d (.sl (List.map (eL eI) t0)) true) (upd 3 (.pt 0 0) (upd 4 (accV 2 g94 (List.map (eL eGTuple) t411)) (upd 5 (.v (.int .i64 t5)) noFr))), upd 0 (some (.bx [.v (.int .i64 1000), .so 1 g67 0 (o012.length)])) (upd 1 (some (.rw (List.map (eL eGTuple) o012) 1 g67 false false)) (upd 2 (accO 1 g94 false (List.map (eL eGTuple) t411)) noHp)), 3⟩) ?_ ?_
                  · refine runR_block ?_
                    refine runR_loop (α := { q : (Nat × Int) × Nat // law4_StorPast_L5 n t411 o012 q.1.1 q.1.2 = some e_54 }) (fun | ⟨⟨⟨c, t813⟩, g82⟩, _⟩ => ⟨upd 0 (.d (.sl (List.map (eL eI) t0)) true) (upd 3 (.pt 0 0) (upd 4 (accV 2 g82 (List.map (eL eGTuple) t411)) (upd 5 (.v (.int .i64 t5)) (upd 8 (.v (.int .i64 t813)) noFr)))), upd 0 (some (.bx [.v (.int .i64 1000), .so 1 g67 0 (o012.length)])) (upd 1 (some (.rw (List.map (eL eGTuple) o012) 1 g67 false false)) (upd 2 (accO 1 g82 false (List.map (eL eGTuple) t411)) noHp)), 3⟩) (fun q => q.1.1.1) ⟨((n, 0), g70), E819⟩ ?_ ?_
                    · exact ren_mk [(0, 0), (1, 1), (2, 2)] (by rfl) (rf_upd (by rfl) (rf_upd (by rfl) (rf_upd (ren_acc (by rfl)) (rf_upd (by rfl) (rf_upd (by rfl) (rf_no _)))))) (rh_upd (rh_one (by rfl) (by rfl) (by rfl)) (rh_upd (rh_one (by rfl) (by rfl) (by rfl)) (rh_upd (rh_acc (by rfl) (by rfl)) (rh_no _))))
                    · rintro ⟨⟨⟨c, t813⟩, g82⟩, L821⟩
                      rcases c with _ | c
                      · exact nomatch (show none = some _ from L821)
                      · unfold law4_StorPast_L5 at L821
                        try dsimp only at L821
                        refine runR_seq ?_
                        refine runR_take tab_ok fol 1 ?_
                        try simp -implicitDefEqProofs only [go_sem, Nat.reduceEqDiff, Nat.reduceAdd, reduceCtorEq, ↓reduceIte]
                        rcases ite_inv L821 with ⟨c916, H917⟩ | ⟨c916, H917⟩
                        · try simp -implicitDefEqProofs only [go_sem, c916]
                          refine runR_seq ?_
                          refine runR_block ?_
                          refine runR_seq ?_
                          refine runR_take tab_ok fol 1 ?_
                          try simp -implicitDefEqProofs only [go_sem, Nat.reduceEqDiff, Nat.reduceAdd, reduceCtorEq, ↓reduceIte]
                          refine onCall_inl (inl_runR tab_ok Try.func34 rfl (by kernel_rfl) (by kernel_rfl) (by simp [Try.f34]) ?_)
                          refine runR_seq ?_
                          refine runR_take tab_ok fol 1 ?_
                          try simp -implicitDefEqProofs only [go_sem, Nat.reduceAdd, ↓reduceIte]
                          refine runR_seq ?_
                          refine runR_seq ?_
                          obtain ⟨e_61, E918, H919⟩ := bind_inv H917
                          refine runR_join (α := { y : Bool // e_61 = y }) (fun | ⟨t136, _⟩ => ⟨upd 0 (.pt 0 0) (upd 1 (.v (.int .i64 t813)) (upd 13 (.v (.bool t136)) noFr)), upd 0 (some (.bx [.v (.int .i64 1000), .so 1 g67 0 (o012.length)])) (upd 1 (some (.rw (List.map (eL eGTuple) o012) 1 g67 false false)) (upd 2 (accO 1 g82 false (List.map (eL eGTuple) t411)) noHp)), 15⟩) ?_ ?_
                          · refine runR_take tab_ok fol 1 ?_
                            try simp -implicitDefEqProofs only [go_sem, Nat.reduceEqDiff, Nat.reduceAdd, ↓reduceIte]
                            rcases ite_inv E918 with ⟨c920, H921⟩ | ⟨c920, H921⟩
                            · try simp -implicitDefEqProofs only [go_sem, Nat.reduceEqDiff, Nat.reduceAdd, ↓reduceIte, c920]
                              obtain rfl := Option.some.inj H921
                              exact ⟨⟨true, rfl⟩, ren_mk [] (by rfl) (rf_upd (by rfl) (rf_upd (by rfl) (rf_upd (by rfl) (rf_no _)))) (rh_upd (rh_one (by rfl) (by rfl) (by rfl)) (rh_upd (rh_one (by rfl) (by rfl) (by rfl)) (rh_upd (rh_acc (by rfl) (by rfl)) (rh_no _))))⟩
                            · obtain ⟨t116, b922, H923⟩ := bind_inv H921
                              try simp -implicitDefEqProofs only [go_sem, Nat.reduceEqDiff, Nat.reduceAdd, reduceCtorEq, ↓reduceIte, c920]
                              refine onCall_pureA (by first | rfl | (simp -implicitDefEqProofs only [go_sem, reduceCtorEq, ↓reduceIte, eStorStore]; done) | (simp -implicitDefEqProofs only [go_sem, reduceCtorEq, ↓reduceIte, eStorStore]; rfl)) (PureA.of_pure (stor_Store_Rev_ok b922)) (by first | exact .inr rfl | exact .inl rfl) ?_
                              try simp -implicitDefEqProofs only [go_sem, Nat.reduceEqDiff, Nat.reduceAdd, ↓reduceIte]
                              obtain rfl := Option.some.inj H923
                              exact ⟨⟨(decide (t116 < t813)), rfl⟩, ren_mk [] (by rfl) (rf_upd (by rfl) (rf_upd (by rfl) (rf_upd (by rfl) (rf_no _)))) (rh_upd (rh_one (by rfl) (by rfl) (by rfl)) (rh_upd (rh_one (by rfl) (by rfl) (by rfl)) (rh_upd (rh_acc (by rfl) (by rfl)) (rh_no _))))⟩
                          · rintro ⟨t136, he1011⟩
                            replace he1011 := he1011.symm
                            subst he1011
                            try dsimp only at H919
                            refine runR_take tab_ok fol 2 ?_
                            try simp -implicitDefEqProofs only [go_sem, Nat.reduceEqDiff, reduceCtorEq, ↓reduceIte]
                            rcases ite_inv H919 with ⟨c924, H925⟩ | ⟨c924, H925⟩
                            · try simp -implicitDefEqProofs only [go_sem, Nat.reduceAdd, c924]
                              refine end_ret (v := .tu [.v (.slice none 0 0), .v (.bool false)]) (by first | ((simp -implicitDefEqProofs only [go_sem, Nat.reduceEqDiff, ↓reduceIte, Try.f34]) <;> rfl) | rfl) ?_
                              try simp -implicitDefEqProofs only [go_sem, Nat.reduceEqDiff, Nat.reduceAdd, ↓reduceIte]
                              refine runR_seq ?_
                              refine runR_seq ?_
                              obtain ⟨e_62, E926, H927⟩ := bind_inv H925
                              refine runR_join (α := { y : Unit // e_62 = y } × Nat) (fun | ⟨⟨_, _⟩, g83⟩ => ⟨upd 0 (.d (.sl (List.map (eL eI) t0)) true) (upd 3 (.pt 0 0) (upd 4 (accV 2 g83 (List.map (eL eGTuple) t411)) (upd 5 (.v (.int .i64 t5)) (upd 8 (.v (.int .i64 t813)) (upd 9 (.v (.slice none 0 0)) (upd 77 (.v (.bool true)) noFr)))))), upd 0 (some (.bx [.v (.int .i64 1000), .so 1 g67 0 (o012.length)])) (upd 1 (some (.rw (List.map (eL eGTuple) o012) 1 g67 false false)) (upd 2 (accO 1 g83 false (List.map (eL eGTuple) t411)) noHp)), 3⟩) ?_ ?_
                              · refine runR_take tab_ok fol 1 ?_
                                try simp -implicitDefEqProofs only [go_sem, Nat.reduceEqDiff, Nat.reduceAdd, ↓reduceIte]
                                obtain rfl := Option.some.inj E926
                                exact ⟨⟨⟨(), rfl⟩, g82⟩, ren_mk [(0, 0), (1, 1), (2, 2)] (by rfl) (rf_upd (by rfl) (rf_upd (by rfl) (rf_upd (ren_acc (by rfl)) (rf_upd (by rfl) (rf_upd (by rfl) (rf_upd (by rfl) (rf_upd (by rfl) (rf_no _)))))))) (rh_upd (rh_one (by rfl) (by rfl) (by rfl)) (rh_upd (rh_one (by rfl) (by rfl) (by rfl)) (rh_upd (rh_acc (by rfl) (by rfl)) (rh_no _))))⟩
                              · rintro ⟨⟨_, he928⟩, g83⟩
                                replace he928 := he928.symm
                                subst he928
                                try dsimp only at H927
                                refine runR_take tab_ok fol 1 ?_
                                try simp -implicitDefEqProofs only [go_sem, Nat.reduceEqDiff, Nat.reduceAdd, reduceCtorEq, ↓reduceIte]
                                obtain rfl := Option.some.inj H927
                                obtain rfl := Option.some.inj H820
                                obtain rfl := Option.some.inj H8
                                exact end_pure (by first | (simp -implicitDefEqProofs only [go_sem, ↓reduceIte, Try.f7] <;> rfl) | rfl) (by first | rfl | (simp -implicitDefEqProofs only [go_sem, Int.reduceToNat, Int.reduceLT, Int.reduceLE, Int.reduceBEq, Int.reduceBNe, Nat.reduceLT, Nat.reduceBEq, Int.reduceEq, Nat.reduceEqDiff, Nat.reduceAdd, Nat.reduceSub, Nat.reduceMul, Nat.reduceLeDiff, reduceCtorEq, ↓reduceIte, eGTuple, eGBatch, eStorStore, eGObj, eGSub]; done) | (simp -implicitDefEqProofs only [go_sem, Int.reduceToNat, Int.reduceLT, Int.reduceLE, Int.reduceBEq, Int.reduceBNe, Nat.reduceLT, Nat.reduceBEq, Int.reduceEq, Nat.reduceEqDiff, Nat.reduceAdd, Nat.reduceSub, Nat.reduceMul, Nat.reduceLeDiff, reduceCtorEq, ↓reduceIte, eGTuple, eGBatch, eStorStore, eGObj, eGSub]; rfl)) rfl (by intro h; first | rfl | cases h)
                            · obtain ⟨x38, b929, H930⟩ := bind_inv H925
                              obtain ⟨h931, h932⟩ := idx_inv b929
                              try simp only [Int.reduceToNat, Int.toNat_natCast] at h932
                              have h933 := map_at (eL eGTuple) h932
                              have h934 := at_lt h932
                              try simp -implicitDefEqProofs only [go_sem, Nat.reduceEqDiff, Nat.reduceAdd, reduceCtorEq, ↓reduceIte, c924, nat_of .i64 h931, h933, h934]
                              rcases ite_inv H930 with ⟨c935, H936⟩ | ⟨c935, H936⟩
                              · try simp -implicitDefEqProofs only [go_sem, Int.reduceToNat, Int.reduceLT, Int.reduceLE, Int.reduceBEq, Int.reduceBNe, Nat.reduceLT, Nat.reduceBEq, Int.reduceEq, Nat.reduceEqDiff, Nat.reduceAdd, Nat.reduceSub, Nat.reduceMul, Nat.reduceLeDiff, reduceCtorEq, ↓reduceIte, eGTuple, eGBatch, eStorStore, eGObj, eGSub, c924, nat_of .i64 h931, h933, h934, c935]
                                refine onCall_pure (by first | rfl | (simp -implicitDefEqProofs only [go_sem, Int.reduceToNat, Int.reduceLT, Int.reduceLE, Int.reduceBEq, Int.reduceBNe, Nat.reduceLT, Nat.reduceBEq, Int.reduceEq, Nat.reduceEqDiff, Nat.reduceAdd, Nat.reduceSub, Nat.reduceMul, Nat.reduceLeDiff, reduceCtorEq, ↓reduceIte, eGTuple, eGBatch, eStorStore, eGObj, eGSub, c924, nat_of .i64 h931, h933, h934, c935]; done) | (simp -implicitDefEqProofs only [go_sem, Int.reduceToNat, Int.reduceLT, Int.reduceLE, Int.reduceBEq, Int.reduceBNe, Nat.reduceLT, Nat.reduceBEq, Int.reduceEq, Nat.reduceEqDiff, Nat.reduceAdd, Nat.reduceSub, Nat.reduceMul, Nat.reduceLeDiff, reduceCtorEq, ↓reduceIte, eGTuple, eGBatch, eStorStore, eGObj, eGSub, c924, nat_of .i64 h931, h933, h934, c935]; rfl)) (cl55_0 x38 c935) (.inr rfl) ?_
                                try simp -implicitDefEqProofs only [go_sem, Nat.reduceAdd, ↓reduceIte]
                                refine end_ret (v := .tu [.d (.sl (List.map eGTuple [])) false, .v (.bool true)]) (by first | ((simp -implicitDefEqProofs only [go_sem, Nat.reduceEqDiff, ↓reduceIte, Try.f34]) <;> rfl) | rfl) ?_
                                try simp -implicitDefEqProofs only [go_sem, Nat.reduceEqDiff, Nat.reduceAdd, ↓reduceIte]
                                refine runR_seq ?_
                                refine runR_seq ?_
                                obtain ⟨e_63, E937, H938⟩ := bind_inv H936
                                refine runR_join (α := { y : Bool // e_63 = y } × Nat) (fun | ⟨⟨t7711, _⟩, g84⟩ => ⟨upd 0 (.d (.sl (List.map (eL eI) t0)) true) (upd 3 (.pt 0 0) (upd 4 (accV 2 g84 (List.map (eL eGTuple) t411)) (upd 5 (.v (.int .i64 t5)) (upd 8 (.v (.int .i64 t813)) (upd 9 (.d (.sl (List.map eGTuple [])) false) (upd 77 (.v (.bool t7711)) noFr)))))), upd 0 (some (.bx [.v (.int .i64 1000), .so 1 g67 0 (o012.length)])) (upd 1 (some (.rw (List.map (eL eGTuple) o012) 1 g67 false false)) (upd 2 (accO 1 g84 false (List.map (eL eGTuple) t411)) noHp)), 3⟩) ?_ ?_
                                · refine runR_take tab_ok fol 1 ?_
                                  obtain ⟨x39, b939, H940⟩ := bind_inv E937
                                  obtain ⟨h941, h942⟩ := idx_inv b939
                                  try simp only [Int.reduceToNat, Int.toNat_natCast] at h942
                                  have h943 := map_at (eL eGTuple) h942
                                  have h944 := at_lt h942
                                  have q945 : 0 < t411.length := by omega
                                  obtain ⟨t7511, b946, H947⟩ := bind_inv H940
                                  try simp -implicitDefEqProofs only [go_sem, Nat.reduceEqDiff, Nat.reduceAdd, reduceCtorEq, ↓reduceIte, nat_of .i64 h941, h943, h944, accV_pos (f := (eL eGTuple)) q945, accO_pos (f := (eL eGTuple)) q945]
                                  refine onCall_pure (by first | rfl | (simp -implicitDefEqProofs only [go_sem, Int.reduceToNat, Int.reduceLT, Int.reduceLE, Int.reduceBEq, Int.reduceBNe, Nat.reduceLT, Nat.reduceBEq, Int.reduceEq, Nat.reduceEqDiff, Nat.reduceAdd, Nat.reduceSub, Nat.reduceMul, Nat.reduceLeDiff, reduceCtorEq, ↓reduceIte, eGTuple, eGBatch, eStorStore, eGObj, eGSub, nat_of .i64 h941, h943, h944, accV_pos (f := (eL eGTuple)) q945, accO_pos (f := (eL eGTuple)) q945]; done) | (simp -implicitDefEqProofs only [go_sem, Int.reduceToNat, Int.reduceLT, Int.reduceLE, Int.reduceBEq, Int.reduceBNe, Nat.reduceLT, Nat.reduceBEq, Int.reduceEq, Nat.reduceEqDiff, Nat.reduceAdd, Nat.reduceSub, Nat.reduceMul, Nat.reduceLeDiff, reduceCtorEq, ↓reduceIte, eGTuple, eGBatch, eStorStore, eGObj, eGSub, nat_of .i64 h941, h943, h944, accV_pos (f := (eL eGTuple)) q945, accO_pos (f := (eL eGTuple)) q945]; rfl)) (ref1_Same_ok b946) (by first | exact .inr rfl | exact .inl rfl) ?_
                                  try simp -implicitDefEqProofs only [go_sem, Nat.reduceEqDiff, Nat.reduceAdd, ↓reduceIte]
                                  obtain rfl := Option.some.inj H947
                                  exact ⟨⟨⟨(!t7511), rfl⟩, g82⟩, ren_mk [(0, 0), (1, 1), (2, 2)] (by rfl) (rf_upd (by rfl) (rf_upd (by rfl) (rf_upd (by first | exact ren_accP (by rfl) q945 | rfl) (rf_upd (by rfl) (rf_upd (by rfl) (rf_upd (by rfl) (rf_upd (by rfl) (rf_no _)))))))) (rh_upd (rh_one (by rfl) (by rfl) (by rfl)) (rh_upd (rh_one (by rfl) (by rfl) (by rfl)) (rh_upd (by first | exact rh_accP (by rfl) q945 (by rfl) | exact rh_one (by rfl) (by rfl) (by rfl)) (rh_no _))))⟩
                                · rintro ⟨⟨t7711, he954⟩, g84⟩
                                  replace he954 := he954.symm
                                  subst he954
                                  try dsimp only at H938
                                  refine runR_take tab_ok fol 1 ?_
                                  try simp -implicitDefEqProofs only [go_sem, Nat.reduceEqDiff, reduceCtorEq, ↓reduceIte]
                                  rcases ite_inv H938 with ⟨c948, H949⟩ | ⟨c948, H949⟩
                                  · try simp -implicitDefEqProofs only [go_sem, Nat.reduceAdd, c948]
                                    obtain rfl := Option.some.inj H949
                                    obtain rfl := Option.some.inj H820
                                    obtain rfl := Option.some.inj H8
                                    exact end_pure (by first | (simp -implicitDefEqProofs only [go_sem, ↓reduceIte, Try.f7] <;> rfl) | rfl) (by first | rfl | (simp -implicitDefEqProofs only [go_sem, Int.reduceToNat, Int.reduceLT, Int.reduceLE, Int.reduceBEq, Int.reduceBNe, Nat.reduceLT, Nat.reduceBEq, Int.reduceEq, Nat.reduceEqDiff, Nat.reduceAdd, Nat.reduceSub, Nat.reduceMul, Nat.reduceLeDiff, reduceCtorEq, ↓reduceIte, eGTuple, eGBatch, eStorStore, eGObj, eGSub, c948]; done) | (simp -implicitDefEqProofs only [go_sem, Int.reduceToNat, Int.reduceLT, Int.reduceLE, Int.reduceBEq, Int.reduceBNe, Nat.reduceLT, Nat.reduceBEq, Int.reduceEq, Nat.reduceEqDiff, Nat.reduceAdd, Nat.reduceSub, Nat.reduceMul, Nat.reduceLeDiff, reduceCtorEq, ↓reduceIte, eGTuple, eGBatch, eStorStore, eGObj, eGSub, c948]; rfl)) rfl (by intro h; first | rfl | cases h)
                                  · try simp -implicitDefEqProofs only [go_sem, c948]
                                    refine runR_seq ?_
                                    refine runR_take tab_ok fol 1 ?_
                                    try simp -implicitDefEqProofs only [go_sem, Nat.reduceEqDiff, Nat.reduceAdd, reduceCtorEq, ↓reduceIte]
                                    obtain ⟨e_64, E950, H951⟩ := bind_inv H949
                                    refine runR_join (α := { y : Unit // e_64 = y } × Nat) (fun | ⟨⟨_, _⟩, g87⟩ => ⟨upd 0 (.d (.sl (List.map (eL eI) t0)) true) (upd 3 (.pt 0 0) (upd 4 (accV 2 g87 (List.map (eL eGTuple) t411)) (upd 5 (.v (.int .i64 t5)) (upd 8 (.v (.int .i64 t813)) noFr)))), upd 0 (some (.bx [.v (.int .i64 1000), .so 1 g67 0 (o012.length)])) (upd 1 (some (.rw (List.map (eL eGTuple) o012) 1 g67 false false)) (upd 2 (accO 1 g87 false (List.map (eL eGTuple) t411)) noHp)), 3⟩) ?_ ?_
                                    · refine runR_block ?_
                                      refine runR_loop (α := { q : (Nat × Unit) × Nat // law4_StorPast_L6 n q.1.1 q.1.2 = some e_64 }) (fun | ⟨⟨⟨c, _⟩, g85⟩, _⟩ => ⟨upd 0 (.d (.sl (List.map (eL eI) t0)) true) (upd 3 (.pt 0 0) (upd 4 (accV 2 g85 (List.map (eL eGTuple) t411)) (upd 5 (.v (.int .i64 t5)) (upd 8 (.v (.int .i64 t813)) (upd 9 (.d (.sl (List.map eGTuple [])) false) (upd 79 (.v (.int .i64 0)) (upd 80 (.v (.int .i64 0)) noFr))))))), upd 0 (some (.bx [.v (.int .i64 1000), .so 1 g67 0 (o012.length)])) (upd 1 (some (.rw (List.map (eL eGTuple) o012) 1 g67 false false)) (upd 2 (accO 1 g85 false (List.map (eL eGTuple) t411)) noHp)), 3⟩) (fun q => q.1.1.1) ⟨((n, ()), g84), E950⟩ ?_ ?_
                                      · exact ren_mk [(0, 0), (1, 1), (2, 2)] (by rfl) (rf_upd (by rfl) (rf_upd (by rfl) (rf_upd (ren_acc (by rfl)) (rf_upd (by rfl) (rf_upd (by rfl) (rf_upd (by rfl) (rf_upd (by rfl) (rf_upd (by rfl) (rf_no _))))))))) (rh_upd (rh_one (by rfl) (by rfl) (by rfl)) (rh_upd (rh_one (by rfl) (by rfl) (by rfl)) (rh_upd (rh_acc (by rfl) (by rfl)) (rh_no _))))
                                      · rintro ⟨⟨⟨c, _⟩, g85⟩, L952⟩
                                        rcases c with _ | c
                                        · exact nomatch (show none = some _ from L952)
                                        · unfold law4_StorPast_L6 at L952
                                          try dsimp only at L952
                                          refine runR_take tab_ok fol 1 ?_
                                          try simp -implicitDefEqProofs only [go_sem, Int.reduceLT, Nat.reduceEqDiff, Nat.reduceAdd, reduceCtorEq, ↓reduceIte]
                                          obtain rfl := Option.some.inj L952
                                          exact ⟨⟨⟨(), rfl⟩, g85⟩, ren_mk [(0, 0), (1, 1), (2, 2)] (by rfl) (rf_upd (by rfl) (rf_upd (by rfl) (rf_upd (ren_acc (by rfl)) (rf_upd (by rfl) (rf_upd (by rfl) (rf_no _)))))) (rh_upd (rh_one (by rfl) (by rfl) (by rfl)) (rh_upd (rh_one (by rfl) (by rfl) (by rfl)) (rh_upd (rh_acc (by rfl) (by rfl)) (rh_no _))))⟩
                                    · rintro ⟨⟨_, he953⟩, g87⟩
                                      replace he953 := he953.symm
                                      subst he953
                                      try dsimp only at H951
                                      try simp -implicitDefEqProofs only [go_sem]
                                      refine runR_take tab_ok fol 1 ?_
                                      try simp -implicitDefEqProofs only [go_sem, Nat.reduceEqDiff, Nat.reduceAdd, reduceCtorEq, ↓reduceIte]
                                      exact ⟨⟨((c, (IntKind.i64.wrap (t813 + 1))), g87), H951⟩, ren_mk [(0, 0), (1, 1), (2, 2)] (by rfl) (rf_upd (by rfl) (rf_upd (by rfl) (rf_upd (ren_acc (by rfl)) (rf_upd (by rfl) (rf_upd (by rfl) (rf_no _)))))) (rh_upd (rh_one (by rfl) (by rfl) (by rfl)) (rh_upd (rh_one (by rfl) (by rfl) (by rfl)) (rh_upd (rh_acc (by rfl) (by rfl)) (rh_no _)))), Nat.lt_succ_self _⟩
                              · obtain ⟨g955, H956⟩ := grd_inv H936
                                have h957 : x38.length ≤ 4294967296 := of_decide_eq_true g955
                                have q958 : 0 < x38.length := by have := of_decide_eq_false c935; omega
                                try simp -implicitDefEqProofs only [go_sem, Int.reduceToNat, Int.reduceLT, Int.reduceLE, Int.reduceBEq, Int.reduceBNe, Nat.reduceLT, Nat.reduceBEq, Int.reduceEq, Nat.reduceEqDiff, Nat.reduceAdd, Nat.reduceSub, Nat.reduceMul, Nat.reduceLeDiff, reduceCtorEq, ↓reduceIte, eGTuple, eGBatch, eStorStore, eGObj, eGSub, c924, nat_of .i64 h931, h933, h934, c935]
                                refine onCall_inl (InlOK.mono (cl55_in x38 q958 h957) ?_)
                                rintro v959 hp960 nx961 ⟨rfl, rfl, rfl⟩
                                try simp -implicitDefEqProofs only [go_sem, Nat.reduceAdd, ↓reduceIte]
                                refine end_ret (v := .tu [.so 28 1 0 (x38.length), .v (.bool true)]) (by first | ((simp -implicitDefEqProofs only [go_sem, Nat.reduceEqDiff, ↓reduceIte, Try.f34]) <;> rfl) | rfl) ?_
                                try simp -implicitDefEqProofs only [go_sem, Nat.reduceEqDiff, Nat.reduceAdd, ↓reduceIte]
                                refine runR_seq ?_
                                refine runR_seq ?_
                                obtain ⟨e_65, E962, H963⟩ := bind_inv H956
                                refine runR_join (α := { y : Bool // e_65 = y } × Nat) (fun | ⟨⟨t7712, _⟩, g88⟩ => ⟨upd 0 (.d (.sl (List.map (eL eI) t0)) true) (upd 3 (.pt 0 0) (upd 4 (accV 2 g88 (List.map (eL eGTuple) t411)) (upd 5 (.v (.int .i64 t5)) (upd 8 (.v (.int .i64 t813)) (upd 9 (.so 3 1 0 (x38.length)) (upd 77 (.v (.bool t7712)) noFr)))))), upd 0 (some (.bx [.v (.int .i64 1000), .so 1 g67 0 (o012.length)])) (upd 1 (some (.rw (List.map (eL eGTuple) o012) 1 g67 false false)) (upd 2 (accO 1 g88 false (List.map (eL eGTuple) t411)) (upd 3 (some (.rw (List.map eGTuple x38) 6 1 false false)) noHp))), 4⟩) ?_ ?_
                                · refine runR_take tab_ok fol 1 ?_
                                  obtain ⟨x40, b964, H965⟩ := bind_inv E962
                                  obtain ⟨h966, h967⟩ := idx_inv b964
                                  try simp only [Int.reduceToNat, Int.toNat_natCast] at h967
                                  have h968 := map_at (eL eGTuple) h967
                                  have h969 := at_lt h967
                                  have q970 : 0 < t411.length := by omega
                                  obtain ⟨t7512, b971, H972⟩ := bind_inv H965
                                  try simp -implicitDefEqProofs only [go_sem, Nat.reduceEqDiff, Nat.reduceAdd, reduceCtorEq, ↓reduceIte, nat_of .i64 h966, h968, h969, accV_pos (f := (eL eGTuple)) q970, accO_pos (f := (eL eGTuple)) q970]
                                  refine onCall_pure (by first | rfl | (simp -implicitDefEqProofs only [go_sem, ↓reduceIte]; done) | (simp -implicitDefEqProofs only [go_sem, ↓reduceIte]; rfl)) (ref1_Same_ok b971) (by first | exact .inr rfl | exact .inl rfl) ?_
                                  try simp -implicitDefEqProofs only [go_sem, Nat.reduceEqDiff, Nat.reduceAdd, ↓reduceIte]
                                  obtain rfl := Option.some.inj H972
                                  exact ⟨⟨⟨(!t7512), rfl⟩, g82⟩, ren_mk [(0, 0), (1, 1), (2, 2), (3, 28)] (by rfl) (rf_upd (by rfl) (rf_upd (by rfl) (rf_upd (by first | exact ren_accP (by rfl) q970 | rfl) (rf_upd (by rfl) (rf_upd (by rfl) (rf_upd (by rfl) (rf_upd (by rfl) (rf_no _)))))))) (rh_upd (rh_one (by rfl) (by rfl) (by rfl)) (rh_upd (rh_one (by rfl) (by rfl) (by rfl)) (rh_upd (by first | exact rh_accP (by rfl) q970 (by rfl) | exact rh_one (by rfl) (by rfl) (by rfl)) (rh_upd (rh_one (by rfl) (by rfl) (by rfl)) (rh_no _)))))⟩
                                · rintro ⟨⟨t7712, he1010⟩, g88⟩
                                  replace he1010 := he1010.symm
                                  subst he1010
                                  try dsimp only at H963
                                  refine runR_take tab_ok fol 1 ?_
                                  try simp -implicitDefEqProofs only [go_sem, Nat.reduceEqDiff, reduceCtorEq, ↓reduceIte]
                                  rcases ite_inv H963 with ⟨c973, H974⟩ | ⟨c973, H974⟩
                                  · try simp -implicitDefEqProofs only [go_sem, Nat.reduceAdd, c973]
                                    obtain rfl := Option.some.inj H974
                                    obtain rfl := Option.some.inj H820
                                    obtain rfl := Option.some.inj H8
                                    exact end_pure (by first | (simp -implicitDefEqProofs only [go_sem, ↓reduceIte, Try.f7] <;> rfl) | rfl) (by first | rfl | (simp -implicitDefEqProofs only [go_sem, Int.reduceToNat, Int.reduceLT, Int.reduceLE, Int.reduceBEq, Int.reduceBNe, Nat.reduceLT, Nat.reduceBEq, Int.reduceEq, Nat.reduceEqDiff, Nat.reduceAdd, Nat.reduceSub, Nat.reduceMul, Nat.reduceLeDiff, reduceCtorEq, ↓reduceIte, eGTuple, eGBatch, eStorStore, eGObj, eGSub, c973]; done) | (simp -implicitDefEqProofs only [go_sem, Int.reduceToNat, Int.reduceLT, Int.reduceLE, Int.reduceBEq, Int.reduceBNe, Nat.reduceLT, Nat.reduceBEq, Int.reduceEq, Nat.reduceEqDiff, Nat.reduceAdd, Nat.reduceSub, Nat.reduceMul, Nat.reduceLeDiff, reduceCtorEq, ↓reduceIte, eGTuple, eGBatch, eStorStore, eGObj, eGSub, c973]; rfl)) rfl (by intro h; first | rfl | cases h)
                                  · try simp -implicitDefEqProofs only [go_sem, c973]
                                    refine runR_seq ?_
                                    refine runR_take tab_ok fol 1 ?_
                                    try simp -implicitDefEqProofs only [go_sem, Nat.reduceEqDiff, Nat.reduceAdd, reduceCtorEq, ↓reduceIte]
                                    obtain ⟨e_66, E975, H976⟩ := bind_inv H974
                                    refine runR_join (α := { y : Unit // e_66 = y } × Nat) (fun | ⟨⟨_, _⟩, g92⟩ => ⟨upd 0 (.d (.sl (List.map (eL eI) t0)) true) (upd 3 (.pt 0 0) (upd 4 (accV 2 g92 (List.map (eL eGTuple) t411)) (upd 5 (.v (.int .i64 t5)) (upd 8 (.v (.int .i64 t813)) noFr)))), upd 0 (some (.bx [.v (.int .i64 1000), .so 1 g67 0 (o012.length)])) (upd 1 (some (.rw (List.map (eL eGTuple) o012) 1 g67 false false)) (upd 2 (accO 1 g92 false (List.map (eL eGTuple) t411)) noHp)), 3⟩) ?_ ?_
                                    · refine runR_block ?_
                                      refine runR_loop (α := { q : (Nat × (List GTuple × Int)) × Nat // law4_StorPast_L7 n x38 q.1.1 q.1.2 = some e_66 }) (fun | ⟨⟨⟨c, ⟨t911, t8011⟩⟩, g90⟩, _⟩ => ⟨upd 0 (.d (.sl (List.map (eL eI) t0)) true) (upd 3 (.pt 0 0) (upd 4 (accV 2 g90 (List.map (eL eGTuple) t411)) (upd 5 (.v (.int .i64 t5)) (upd 8 (.v (.int .i64 t813)) (upd 9 (.so 3 1 0 (t911.length)) (upd 79 (.v (.int .i64 (x38.length : Int))) (upd 80 (.v (.int .i64 t8011)) noFr))))))), upd 0 (some (.bx [.v (.int .i64 1000), .so 1 g67 0 (o012.length)])) (upd 1 (some (.rw (List.map (eL eGTuple) o012) 1 g67 false false)) (upd 2 (accO 1 g90 false (List.map (eL eGTuple) t411)) (upd 3 (some (.rw (List.map eGTuple t911) 6 1 false false)) noHp))), 4⟩) (fun q => q.1.1.1) ⟨((n, (x38, 0)), g88), E975⟩ ?_ ?_
                                      · exact ren_mk [(0, 0), (1, 1), (2, 2), (3, 3)] (by rfl) (rf_upd (by rfl) (rf_upd (by rfl) (rf_upd (ren_acc (by rfl)) (rf_upd (by rfl) (rf_upd (by rfl) (rf_upd (by rfl) (rf_upd (by rfl) (rf_upd (by rfl) (rf_no _))))))))) (rh_upd (rh_one (by rfl) (by rfl) (by rfl)) (rh_upd (rh_one (by rfl) (by rfl) (by rfl)) (rh_upd (rh_acc (by rfl) (by rfl)) (rh_upd (rh_one (by rfl) (by rfl) (by rfl)) (rh_no _)))))
                                      · rintro ⟨⟨⟨c, ⟨t911, t8011⟩⟩, g90⟩, L977⟩
                                        rcases c with _ | c
                                        · exact nomatch (show none = some _ from L977)
                                        · unfold law4_StorPast_L7 at L977
                                          try dsimp only at L977
                                          refine runR_take tab_ok fol 1 ?_
                                          try simp -implicitDefEqProofs only [go_sem, Nat.reduceEqDiff, Nat.reduceAdd, reduceCtorEq, ↓reduceIte]
                                          rcases ite_inv L977 with ⟨c994, H995⟩ | ⟨c994, H995⟩
                                          · obtain ⟨x42, b996, H997⟩ := bind_inv H995
                                            obtain ⟨h998, h999⟩ := idx_inv b996
                                            try simp only [Int.reduceToNat, Int.toNat_natCast] at h999
                                            have h1000 := map_at eGTuple h999
                                            have h1001 := at_lt h999
                                            obtain ⟨l18, b1002, H1003⟩ := bind_inv H997
                                            have h1004 : List.set t911 (Int.toNat t8011) (⟨(⟨ByteArray.empty, ByteArray.empty⟩ : GObj), ByteArray.empty, (⟨ByteArray.empty, ByteArray.empty, ByteArray.empty⟩ : GSub)⟩ : GTuple) = l18 := Option.some.inj b1002
                                            have h1005 : List.set (List.map eGTuple t911) (Int.toNat t8011) [.v (.string ByteArray.empty), .v (.string ByteArray.empty), .v (.string ByteArray.empty), .v (.string ByteArray.empty), .v (.string ByteArray.empty), .v (.string ByteArray.empty)] = List.map eGTuple l18 := by rw [← h1004, List.map_set]
                                            have h1006 : t911.length = l18.length := by rw [← h1004, List.length_set]
                                            have h1007 : ∀ w, AV.so 3 w 0 t911.length = AV.so 3 w 0 l18.length := fun w => by rw [h1006]
                                            have h1008 : (Int.toNat t8011) < l18.length := by omega
                                            try simp -implicitDefEqProofs only [go_sem, Nat.reduceEqDiff, Nat.reduceAdd, reduceCtorEq, ↓reduceIte, eGTuple, c994, nat_of .i64 h998, h1000, h1005, h1007, h1008]
                                            exact ⟨⟨((c, (l18, (IntKind.i64.wrap (t8011 + 1)))), g90), H1003⟩, ren_mk [(0, 0), (1, 1), (2, 2), (3, 3)] (by rfl) (rf_upd (by rfl) (rf_upd (by rfl) (rf_upd (ren_acc (by rfl)) (rf_upd (by rfl) (rf_upd (by rfl) (rf_upd (by rfl) (rf_upd (by rfl) (rf_upd (by rfl) (rf_no _))))))))) (rh_upd (rh_one (by rfl) (by rfl) (by rfl)) (rh_upd (rh_one (by rfl) (by rfl) (by rfl)) (rh_upd (rh_acc (by rfl) (by rfl)) (rh_upd (rh_one (by rfl) (by rfl) (by rfl)) (rh_no _))))), Nat.lt_succ_self _⟩
                                          · try simp -implicitDefEqProofs only [go_sem, ↓reduceIte, c994]
                                            obtain rfl := Option.some.inj H995
                                            exact ⟨⟨⟨(), rfl⟩, g90⟩, ren_mk [(0, 0), (1, 1), (2, 2)] (by rfl) (rf_upd (by rfl) (rf_upd (by rfl) (rf_upd (ren_acc (by rfl)) (rf_upd (by rfl) (rf_upd (by rfl) (rf_no _)))))) (rh_upd (rh_one (by rfl) (by rfl) (by rfl)) (rh_upd (rh_one (by rfl) (by rfl) (by rfl)) (rh_upd (rh_acc (by rfl) (by rfl)) (rh_no _))))⟩
                                    · rintro ⟨⟨_, he1009⟩, g92⟩
                                      replace he1009 := he1009.symm
                                      subst he1009
                                      try dsimp only at H976
                                      try simp -implicitDefEqProofs only [go_sem]
                                      refine runR_take tab_ok fol 1 ?_
                                      try simp -implicitDefEqProofs only [go_sem, Nat.reduceEqDiff, Nat.reduceAdd, reduceCtorEq, ↓reduceIte]
                                      exact ⟨⟨((c, (IntKind.i64.wrap (t813 + 1))), g92), H976⟩, ren_mk [(0, 0), (1, 1), (2, 2)] (by rfl) (rf_upd (by rfl) (rf_upd (by rfl) (rf_upd (ren_acc (by rfl)) (rf_upd (by rfl) (rf_upd (by rfl) (rf_no _)))))) (rh_upd (rh_one (by rfl) (by rfl) (by rfl)) (rh_upd (rh_one (by rfl) (by rfl) (by rfl)) (rh_upd (rh_acc (by rfl) (by rfl)) (rh_no _)))), Nat.lt_succ_self _⟩
                        · try simp -implicitDefEqProofs only [go_sem, ↓reduceIte, c916]
                          obtain rfl := Option.some.inj H917
                          exact ⟨⟨⟨(), rfl⟩, g82⟩, ren_mk [(0, 0), (1, 1), (2, 2)] (by rfl) (rf_upd (by rfl) (rf_upd (by rfl) (rf_upd (ren_acc (by rfl)) (rf_upd (by rfl) (rf_no _))))) (rh_upd (rh_one (by rfl) (by rfl) (by rfl)) (rh_upd (rh_one (by rfl) (by rfl) (by rfl)) (rh_upd (rh_acc (by rfl) (by rfl)) (rh_no _))))⟩
                  · rintro ⟨⟨_, he1012⟩, g94⟩
                    replace he1012 := he1012.symm
                    subst he1012
                    try dsimp only at H820
                    try simp -implicitDefEqProofs only [go_sem]
                    refine runR_take tab_ok fol 1 ?_
                    try simp -implicitDefEqProofs only [go_sem, Nat.reduceEqDiff, Nat.reduceAdd, reduceCtorEq, ↓reduceIte]
                    exact ⟨⟨((c, (o012, t411, (IntKind.i64.wrap (t5 + 1)))), (g67, g94)), H820⟩, ren_mk [(0, 0), (1, 1), (2, 2)] (by rfl) (rf_upd (by rfl) (rf_upd (by rfl) (rf_upd (ren_acc (by rfl)) (rf_upd (by rfl) (rf_no _))))) (rh_upd (rh_one (by rfl) (by rfl) (by rfl)) (rh_upd (rh_one (by rfl) (by rfl) (by rfl)) (rh_upd (rh_acc (by rfl) (by rfl)) (rh_no _)))), Nat.lt_succ_self _⟩
              · obtain ⟨g1014, H1015⟩ := grd_inv H815
                have h1016 : t25.length ≤ 4294967296 := of_decide_eq_true g1014
                have q1017 : 0 < t25.length := by have := of_decide_eq_false c814; omega
                try simp -implicitDefEqProofs only [go_sem, Int.reduceToNat, Int.reduceLT, Int.reduceLE, Int.reduceBEq, Int.reduceBNe, Nat.reduceLT, Nat.reduceBEq, Int.reduceEq, Nat.reduceEqDiff, Nat.reduceAdd, Nat.reduceSub, Nat.reduceMul, Nat.reduceLeDiff, reduceCtorEq, ↓reduceIte, eGTuple, eGBatch, eStorStore, eGObj, eGSub, c814]
                refine onCall_inl (InlOK.mono (cl55_in t25 q1017 h1016) ?_)
                rintro v1018 hp1019 nx1020 ⟨rfl, rfl, rfl⟩
                try simp -implicitDefEqProofs only [go_sem, Nat.reduceAdd, ↓reduceIte]
                refine end_ret (v := .so 21 1 0 (t25.length)) (by first | ((simp -implicitDefEqProofs only [go_sem, ↓reduceIte, Try.f31]) <;> rfl) | rfl) ?_
                try simp -implicitDefEqProofs only [go_sem]
                refine runR_seq ?_
                refine runR_seq ?_
                refine runR_take tab_ok fol 1 ?_
                try simp -implicitDefEqProofs only [go_sem, Nat.reduceAdd, ↓reduceIte]
                obtain ⟨e_67, E1021, H1022⟩ := bind_inv H1015
                refine runR_join (α := { y : Unit // e_67 = y } × Nat) (fun | ⟨⟨_, _⟩, g98⟩ => ⟨upd 0 (.d (.sl (List.map (eL eI) t0)) true) (upd 3 (.pt 0 0) (upd 4 (accV 2 g98 (List.map (eL eGTuple) t411)) (upd 5 (.v (.int .i64 t5)) noFr))), upd 0 (some (.bx [.v (.int .i64 1000), .so 1 g67 0 (o012.length)])) (upd 1 (some (.rw (List.map (eL eGTuple) o012) 1 g67 false false)) (upd 2 (accO 1 g98 false (List.map (eL eGTuple) t411)) noHp)), 3⟩) ?_ ?_
                · refine runR_block ?_
                  refine runR_loop (α := { q : (Nat × (List GTuple × Int)) × Nat // law4_StorPast_L8 n t25 q.1.1 q.1.2 = some e_67 }) (fun | ⟨⟨⟨c, ⟨t67, t464⟩⟩, g96⟩, _⟩ => ⟨upd 0 (.d (.sl (List.map (eL eI) t0)) true) (upd 3 (.pt 0 0) (upd 4 (accV 2 g96 (List.map (eL eGTuple) t411)) (upd 5 (.v (.int .i64 t5)) (upd 6 (.so 3 1 0 (t67.length)) (upd 45 (.v (.int .i64 (t25.length : Int))) (upd 46 (.v (.int .i64 t464)) noFr)))))), upd 0 (some (.bx [.v (.int .i64 1000), .so 1 g67 0 (o012.length)])) (upd 1 (some (.rw (List.map (eL eGTuple) o012) 1 g67 false false)) (upd 2 (accO 1 g96 false (List.map (eL eGTuple) t411)) (upd 3 (some (.rw (List.map eGTuple t67) 6 1 false false)) noHp))), 4⟩) (fun q => q.1.1.1) ⟨((n, (t25, 0)), g66), E1021⟩ ?_ ?_
                  · exact ren_mk [(0, 0), (1, 1), (2, 2), (3, 21)] (by rfl) (rf_upd (by rfl) (rf_upd (by rfl) (rf_upd (ren_acc (by rfl)) (rf_upd (by rfl) (rf_upd (by rfl) (rf_upd (by rfl) (rf_upd (by rfl) (rf_no _)))))))) (rh_upd (rh_one (by rfl) (by rfl) (by rfl)) (rh_upd (rh_one (by rfl) (by rfl) (by rfl)) (rh_upd (rh_acc (by rfl) (by rfl)) (rh_upd (rh_one (by rfl) (by rfl) (by rfl)) (rh_no _)))))
                  · rintro ⟨⟨⟨c, ⟨t67, t464⟩⟩, g96⟩, L1023⟩
                    rcases c with _ | c
                    · exact nomatch (show none = some _ from L1023)
                    · unfold law4_StorPast_L8 at L1023
                      try dsimp only at L1023
                      refine runR_take tab_ok fol 1 ?_
                      try simp -implicitDefEqProofs only [go_sem, Nat.reduceEqDiff, Nat.reduceAdd, reduceCtorEq, ↓reduceIte]
                      rcases ite_inv L1023 with ⟨c1042, H1043⟩ | ⟨c1042, H1043⟩
                      · obtain ⟨t524, b1044, H1045⟩ := bind_inv H1043
                        try simp -implicitDefEqProofs only [go_sem, Nat.reduceEqDiff, Nat.reduceAdd, reduceCtorEq, ↓reduceIte, c1042]
                        refine onCall_pure (by first | rfl | (simp -implicitDefEqProofs only [go_sem, Int.reduceToNat, Int.reduceLT, Int.reduceLE, Int.reduceBEq, Int.reduceBNe, Nat.reduceLT, Nat.reduceBEq, Int.reduceEq, Nat.reduceEqDiff, Nat.reduceAdd, Nat.reduceSub, Nat.reduceMul, Nat.reduceLeDiff, reduceCtorEq, ↓reduceIte, eGTuple, eGBatch, eStorStore, eGObj, eGSub, c1042]; done) | (simp -implicitDefEqProofs only [go_sem, Int.reduceToNat, Int.reduceLT, Int.reduceLE, Int.reduceBEq, Int.reduceBNe, Nat.reduceLT, Nat.reduceBEq, Int.reduceEq, Nat.reduceEqDiff, Nat.reduceAdd, Nat.reduceSub, Nat.reduceMul, Nat.reduceLeDiff, reduceCtorEq, ↓reduceIte, eGTuple, eGBatch, eStorStore, eGObj, eGSub, c1042]; rfl)) (law2_Tame_ok b1044) (by first | exact .inr rfl | exact .inl rfl) ?_
                        obtain ⟨x44, b1046, H1047⟩ := bind_inv H1045
                        obtain ⟨h1048, h1049⟩ := idx_inv b1046
                        try simp only [Int.reduceToNat, Int.toNat_natCast] at h1049
                        have h1050 := map_at eGTuple h1049
                        have h1051 := at_lt h1049
                        obtain ⟨l20, b1052, H1053⟩ := bind_inv H1047
                        have h1054 : List.set t67 (Int.toNat t464) t524 = l20 := Option.some.inj b1052
                        have h1055 : List.set (List.map eGTuple t67) (Int.toNat t464) [.v (.string t524.obj.type_), .v (.string t524.obj.id_), .v (.string t524.rel), .v (.string t524.sub_.type_), .v (.string t524.sub_.id_), .v (.string t524.sub_.rel)] = List.map eGTuple l20 := by rw [← h1054, List.map_set]
                        have h1056 : t67.length = l20.length := by rw [← h1054, List.length_set]
                        have h1057 : ∀ w, AV.so 3 w 0 t67.length = AV.so 3 w 0 l20.length := fun w => by rw [h1056]
                        have h1058 : (Int.toNat t464) < l20.length := by omega
                        try simp -implicitDefEqProofs only [go_sem, Nat.reduceEqDiff, Nat.reduceAdd, reduceCtorEq, ↓reduceIte, eGTuple, nat_of .i64 h1048, h1050, h1055, h1057, h1058]
                        exact ⟨⟨((c, (l20, (IntKind.i64.wrap (t464 + 1)))), g96), H1053⟩, ren_mk [(0, 0), (1, 1), (2, 2), (3, 3)] (by rfl) (rf_upd (by rfl) (rf_upd (by rfl) (rf_upd (ren_acc (by rfl)) (rf_upd (by rfl) (rf_upd (by rfl) (rf_upd (by rfl) (rf_upd (by rfl) (rf_no _)))))))) (rh_upd (rh_one (by rfl) (by rfl) (by rfl)) (rh_upd (rh_one (by rfl) (by rfl) (by rfl)) (rh_upd (rh_acc (by rfl) (by rfl)) (rh_upd (rh_one (by rfl) (by rfl) (by rfl)) (rh_no _))))), Nat.lt_succ_self _⟩
                      · try simp -implicitDefEqProofs only [go_sem, ↓reduceIte, c1042]
                        obtain rfl := Option.some.inj H1043
                        exact ⟨⟨⟨(), rfl⟩, g96⟩, ren_mk [(0, 0), (1, 1), (2, 2)] (by rfl) (rf_upd (by rfl) (rf_upd (by rfl) (rf_upd (ren_acc (by rfl)) (rf_upd (by rfl) (rf_no _))))) (rh_upd (rh_one (by rfl) (by rfl) (by rfl)) (rh_upd (rh_one (by rfl) (by rfl) (by rfl)) (rh_upd (rh_acc (by rfl) (by rfl)) (rh_no _))))⟩
                · rintro ⟨⟨_, he1253⟩, g98⟩
                  replace he1253 := he1253.symm
                  subst he1253
                  try dsimp only at H1022
                  refine runR_seq ?_
                  refine runR_take tab_ok fol 1 ?_
                  try simp -implicitDefEqProofs only [go_sem, Nat.reduceAdd]
                  obtain ⟨e_68, E1059, H1060⟩ := bind_inv H1022
                  refine runR_join (α := { y : Unit // e_68 = .inl y } × Nat) (fun | ⟨⟨_, _⟩, g122⟩ => ⟨upd 0 (.d (.sl (List.map (eL eI) t0)) true) (upd 3 (.pt 0 0) (upd 4 (accV 2 g122 (List.map (eL eGTuple) t411)) (upd 5 (.v (.int .i64 t5)) noFr))), upd 0 (some (.bx [.v (.int .i64 1000), .so 1 g67 0 (o012.length)])) (upd 1 (some (.rw (List.map (eL eGTuple) o012) 1 g67 false false)) (upd 2 (accO 1 g122 false (List.map (eL eGTuple) t411)) noHp)), 3⟩) ?_ ?_
                  · refine runR_block ?_
                    refine runR_loop (α := { q : (Nat × Int) × Nat // law4_StorPast_L9 n t411 o012 q.1.1 q.1.2 = some e_68 }) (fun | ⟨⟨⟨c, t815⟩, g110⟩, _⟩ => ⟨upd 0 (.d (.sl (List.map (eL eI) t0)) true) (upd 3 (.pt 0 0) (upd 4 (accV 2 g110 (List.map (eL eGTuple) t411)) (upd 5 (.v (.int .i64 t5)) (upd 8 (.v (.int .i64 t815)) noFr)))), upd 0 (some (.bx [.v (.int .i64 1000), .so 1 g67 0 (o012.length)])) (upd 1 (some (.rw (List.map (eL eGTuple) o012) 1 g67 false false)) (upd 2 (accO 1 g110 false (List.map (eL eGTuple) t411)) noHp)), 3⟩) (fun q => q.1.1.1) ⟨((n, 0), g98), E1059⟩ ?_ ?_
                    · exact ren_mk [(0, 0), (1, 1), (2, 2)] (by rfl) (rf_upd (by rfl) (rf_upd (by rfl) (rf_upd (ren_acc (by rfl)) (rf_upd (by rfl) (rf_upd (by rfl) (rf_no _)))))) (rh_upd (rh_one (by rfl) (by rfl) (by rfl)) (rh_upd (rh_one (by rfl) (by rfl) (by rfl)) (rh_upd (rh_acc (by rfl) (by rfl)) (rh_no _))))
                    · rintro ⟨⟨⟨c, t815⟩, g110⟩, L1061⟩
                      rcases c with _ | c
                      · exact nomatch (show none = some _ from L1061)
                      · unfold law4_StorPast_L9 at L1061
                        try dsimp only at L1061
                        refine runR_seq ?_
                        refine runR_take tab_ok fol 1 ?_
                        try simp -implicitDefEqProofs only [go_sem, Nat.reduceEqDiff, Nat.reduceAdd, reduceCtorEq, ↓reduceIte]
                        rcases ite_inv L1061 with ⟨c1156, H1157⟩ | ⟨c1156, H1157⟩
                        · try simp -implicitDefEqProofs only [go_sem, c1156]
                          refine runR_seq ?_
                          refine runR_block ?_
                          refine runR_seq ?_
                          refine runR_take tab_ok fol 1 ?_
                          try simp -implicitDefEqProofs only [go_sem, Nat.reduceEqDiff, Nat.reduceAdd, reduceCtorEq, ↓reduceIte]
                          refine onCall_inl (inl_runR tab_ok Try.func34 rfl (by kernel_rfl) (by kernel_rfl) (by simp [Try.f34]) ?_)
                          refine runR_seq ?_
                          refine runR_take tab_ok fol 1 ?_
                          try simp -implicitDefEqProofs only [go_sem, Nat.reduceAdd, ↓reduceIte]
                          refine runR_seq ?_
                          refine runR_seq ?_
                          obtain ⟨e_75, E1158, H1159⟩ := bind_inv H1157
                          refine runR_join (α := { y : Bool // e_75 = y }) (fun | ⟨t138, _⟩ => ⟨upd 0 (.pt 0 0) (upd 1 (.v (.int .i64 t815)) (upd 13 (.v (.bool t138)) noFr)), upd 0 (some (.bx [.v (.int .i64 1000), .so 1 g67 0 (o012.length)])) (upd 1 (some (.rw (List.map (eL eGTuple) o012) 1 g67 false false)) (upd 2 (accO 1 g110 false (List.map (eL eGTuple) t411)) noHp)), 15⟩) ?_ ?_
                          · refine runR_take tab_ok fol 1 ?_
                            try simp -implicitDefEqProofs only [go_sem, Nat.reduceEqDiff, Nat.reduceAdd, ↓reduceIte]
                            rcases ite_inv E1158 with ⟨c1160, H1161⟩ | ⟨c1160, H1161⟩
                            · try simp -implicitDefEqProofs only [go_sem, Nat.reduceEqDiff, Nat.reduceAdd, ↓reduceIte, c1160]
                              obtain rfl := Option.some.inj H1161
                              exact ⟨⟨true, rfl⟩, ren_mk [] (by rfl) (rf_upd (by rfl) (rf_upd (by rfl) (rf_upd (by rfl) (rf_no _)))) (rh_upd (rh_one (by rfl) (by rfl) (by rfl)) (rh_upd (rh_one (by rfl) (by rfl) (by rfl)) (rh_upd (rh_acc (by rfl) (by rfl)) (rh_no _))))⟩
                            · obtain ⟨t118, b1162, H1163⟩ := bind_inv H1161
                              try simp -implicitDefEqProofs only [go_sem, Nat.reduceEqDiff, Nat.reduceAdd, reduceCtorEq, ↓reduceIte, c1160]
                              refine onCall_pureA (by first | rfl | (simp -implicitDefEqProofs only [go_sem, reduceCtorEq, ↓reduceIte, eStorStore]; done) | (simp -implicitDefEqProofs only [go_sem, reduceCtorEq, ↓reduceIte, eStorStore]; rfl)) (PureA.of_pure (stor_Store_Rev_ok b1162)) (by first | exact .inr rfl | exact .inl rfl) ?_
                              try simp -implicitDefEqProofs only [go_sem, Nat.reduceEqDiff, Nat.reduceAdd, ↓reduceIte]
                              obtain rfl := Option.some.inj H1163
                              exact ⟨⟨(decide (t118 < t815)), rfl⟩, ren_mk [] (by rfl) (rf_upd (by rfl) (rf_upd (by rfl) (rf_upd (by rfl) (rf_no _)))) (rh_upd (rh_one (by rfl) (by rfl) (by rfl)) (rh_upd (rh_one (by rfl) (by rfl) (by rfl)) (rh_upd (rh_acc (by rfl) (by rfl)) (rh_no _))))⟩
                          · rintro ⟨t138, he1251⟩
                            replace he1251 := he1251.symm
                            subst he1251
                            try dsimp only at H1159
                            refine runR_take tab_ok fol 2 ?_
                            try simp -implicitDefEqProofs only [go_sem, Nat.reduceEqDiff, reduceCtorEq, ↓reduceIte]
                            rcases ite_inv H1159 with ⟨c1164, H1165⟩ | ⟨c1164, H1165⟩
                            · try simp -implicitDefEqProofs only [go_sem, Nat.reduceAdd, c1164]
                              refine end_ret (v := .tu [.v (.slice none 0 0), .v (.bool false)]) (by first | ((simp -implicitDefEqProofs only [go_sem, Nat.reduceEqDiff, ↓reduceIte, Try.f34]) <;> rfl) | rfl) ?_
                              try simp -implicitDefEqProofs only [go_sem, Nat.reduceEqDiff, Nat.reduceAdd, ↓reduceIte]
                              refine runR_seq ?_
                              refine runR_seq ?_
                              obtain ⟨e_76, E1166, H1167⟩ := bind_inv H1165
                              refine runR_join (α := { y : Unit // e_76 = y } × Nat) (fun | ⟨⟨_, _⟩, g111⟩ => ⟨upd 0 (.d (.sl (List.map (eL eI) t0)) true) (upd 3 (.pt 0 0) (upd 4 (accV 2 g111 (List.map (eL eGTuple) t411)) (upd 5 (.v (.int .i64 t5)) (upd 8 (.v (.int .i64 t815)) (upd 9 (.v (.slice none 0 0)) (upd 77 (.v (.bool true)) noFr)))))), upd 0 (some (.bx [.v (.int .i64 1000), .so 1 g67 0 (o012.length)])) (upd 1 (some (.rw (List.map (eL eGTuple) o012) 1 g67 false false)) (upd 2 (accO 1 g111 false (List.map (eL eGTuple) t411)) noHp)), 3⟩) ?_ ?_
                              · refine runR_take tab_ok fol 1 ?_
                                try simp -implicitDefEqProofs only [go_sem, Nat.reduceEqDiff, Nat.reduceAdd, ↓reduceIte]
                                obtain rfl := Option.some.inj E1166
                                exact ⟨⟨⟨(), rfl⟩, g110⟩, ren_mk [(0, 0), (1, 1), (2, 2)] (by rfl) (rf_upd (by rfl) (rf_upd (by rfl) (rf_upd (ren_acc (by rfl)) (rf_upd (by rfl) (rf_upd (by rfl) (rf_upd (by rfl) (rf_upd (by rfl) (rf_no _)))))))) (rh_upd (rh_one (by rfl) (by rfl) (by rfl)) (rh_upd (rh_one (by rfl) (by rfl) (by rfl)) (rh_upd (rh_acc (by rfl) (by rfl)) (rh_no _))))⟩
                              · rintro ⟨⟨_, he1168⟩, g111⟩
                                replace he1168 := he1168.symm
                                subst he1168
                                try dsimp only at H1167
                                refine runR_take tab_ok fol 1 ?_
                                try simp -implicitDefEqProofs only [go_sem, Nat.reduceEqDiff, Nat.reduceAdd, reduceCtorEq, ↓reduceIte]
                                obtain rfl := Option.some.inj H1167
                                obtain rfl := Option.some.inj H1060
                                obtain rfl := Option.some.inj H8
                                exact end_pure (by first | (simp -implicitDefEqProofs only [go_sem, ↓reduceIte, Try.f7] <;> rfl) | rfl) (by first | rfl | (simp -implicitDefEqProofs only [go_sem, Int.reduceToNat, Int.reduceLT, Int.reduceLE, Int.reduceBEq, Int.reduceBNe, Nat.reduceLT, Nat.reduceBEq, Int.reduceEq, Nat.reduceEqDiff, Nat.reduceAdd, Nat.reduceSub, Nat.reduceMul, Nat.reduceLeDiff, reduceCtorEq, ↓reduceIte, eGTuple, eGBatch, eStorStore, eGObj, eGSub]; done) | (simp -implicitDefEqProofs only [go_sem, Int.reduceToNat, Int.reduceLT, Int.reduceLE, Int.reduceBEq, Int.reduceBNe, Nat.reduceLT, Nat.reduceBEq, Int.reduceEq, Nat.reduceEqDiff, Nat.reduceAdd, Nat.reduceSub, Nat.reduceMul, Nat.reduceLeDiff, reduceCtorEq, ↓reduceIte, eGTuple, eGBatch, eStorStore, eGObj, eGSub]; rfl)) rfl (by intro h; first | rfl | cases h)
                            · obtain ⟨x50, b1169, H1170⟩ := bind_inv H1165
                              obtain ⟨h1171, h1172⟩ := idx_inv b1169
                              try simp only [Int.reduceToNat, Int.toNat_natCast] at h1172
                              have h1173 := map_at (eL eGTuple) h1172
                              have h1174 := at_lt h1172
                              try simp -implicitDefEqProofs only [go_sem, Nat.reduceEqDiff, Nat.reduceAdd, reduceCtorEq, ↓reduceIte, c1164, nat_of .i64 h1171, h1173, h1174]
                              rcases ite_inv H1170 with ⟨c1175, H1176⟩ | ⟨c1175, H1176⟩
                              · try simp -implicitDefEqProofs only [go_sem, Int.reduceToNat, Int.reduceLT, Int.reduceLE, Int.reduceBEq, Int.reduceBNe, Nat.reduceLT, Nat.reduceBEq, Int.reduceEq, Nat.reduceEqDiff, Nat.reduceAdd, Nat.reduceSub, Nat.reduceMul, Nat.reduceLeDiff, reduceCtorEq, ↓reduceIte, eGTuple, eGBatch, eStorStore, eGObj, eGSub, c1164, nat_of .i64 h1171, h1173, h1174, c1175]
                                refine onCall_pure (by first | rfl | (simp -implicitDefEqProofs only [go_sem, Int.reduceToNat, Int.reduceLT, Int.reduceLE, Int.reduceBEq, Int.reduceBNe, Nat.reduceLT, Nat.reduceBEq, Int.reduceEq, Nat.reduceEqDiff, Nat.reduceAdd, Nat.reduceSub, Nat.reduceMul, Nat.reduceLeDiff, reduceCtorEq, ↓reduceIte, eGTuple, eGBatch, eStorStore, eGObj, eGSub, c1164, nat_of .i64 h1171, h1173, h1174, c1175]; done) | (simp -implicitDefEqProofs only [go_sem, Int.reduceToNat, Int.reduceLT, Int.reduceLE, Int.reduceBEq, Int.reduceBNe, Nat.reduceLT, Nat.reduceBEq, Int.reduceEq, Nat.reduceEqDiff, Nat.reduceAdd, Nat.reduceSub, Nat.reduceMul, Nat.reduceLeDiff, reduceCtorEq, ↓reduceIte, eGTuple, eGBatch, eStorStore, eGObj, eGSub, c1164, nat_of .i64 h1171, h1173, h1174, c1175]; rfl)) (cl55_0 x50 c1175) (.inr rfl) ?_
                                try simp -implicitDefEqProofs only [go_sem, Nat.reduceAdd, ↓reduceIte]
                                refine end_ret (v := .tu [.d (.sl (List.map eGTuple [])) false, .v (.bool true)]) (by first | ((simp -implicitDefEqProofs only [go_sem, Nat.reduceEqDiff, ↓reduceIte, Try.f34]) <;> rfl) | rfl) ?_
                                try simp -implicitDefEqProofs only [go_sem, Nat.reduceEqDiff, Nat.reduceAdd, ↓reduceIte]
                                refine runR_seq ?_
                                refine runR_seq ?_
                                obtain ⟨e_77, E1177, H1178⟩ := bind_inv H1176
                                refine runR_join (α := { y : Bool // e_77 = y } × Nat) (fun | ⟨⟨t7715, _⟩, g112⟩ => ⟨upd 0 (.d (.sl (List.map (eL eI) t0)) true) (upd 3 (.pt 0 0) (upd 4 (accV 2 g112 (List.map (eL eGTuple) t411)) (upd 5 (.v (.int .i64 t5)) (upd 8 (.v (.int .i64 t815)) (upd 9 (.d (.sl (List.map eGTuple [])) false) (upd 77 (.v (.bool t7715)) noFr)))))), upd 0 (some (.bx [.v (.int .i64 1000), .so 1 g67 0 (o012.length)])) (upd 1 (some (.rw (List.map (eL eGTuple) o012) 1 g67 false false)) (upd 2 (accO 1 g112 false (List.map (eL eGTuple) t411)) noHp)), 3⟩) ?_ ?_
                                · refine runR_take tab_ok fol 1 ?_
                                  obtain ⟨x51, b1179, H1180⟩ := bind_inv E1177
                                  obtain ⟨h1181, h1182⟩ := idx_inv b1179
                                  try simp only [Int.reduceToNat, Int.toNat_natCast] at h1182
                                  have h1183 := map_at (eL eGTuple) h1182
                                  have h1184 := at_lt h1182
                                  have q1185 : 0 < t411.length := by omega
                                  obtain ⟨t7515, b1186, H1187⟩ := bind_inv H1180
                                  try simp -implicitDefEqProofs only [go_sem, Nat.reduceEqDiff, Nat.reduceAdd, reduceCtorEq, ↓reduceIte, nat_of .i64 h1181, h1183, h1184, accV_pos (f := (eL eGTuple)) q1185, accO_pos (f := (eL eGTuple)) q1185]
                                  refine onCall_pure (by first | rfl | (simp -implicitDefEqProofs only [go_sem, Int.reduceToNat, Int.reduceLT, Int.reduceLE, Int.reduceBEq, Int.reduceBNe, Nat.reduceLT, Nat.reduceBEq, Int.reduceEq, Nat.reduceEqDiff, Nat.reduceAdd, Nat.reduceSub, Nat.reduceMul, Nat.reduceLeDiff, reduceCtorEq, ↓reduceIte, eGTuple, eGBatch, eStorStore, eGObj, eGSub, nat_of .i64 h1181, h1183, h1184, accV_pos (f := (eL eGTuple)) q1185, accO_pos (f := (eL eGTuple)) q1185]; done) | (simp -implicitDefEqProofs only [go_sem, Int.reduceToNat, Int.reduceLT, Int.reduceLE, Int.reduceBEq, Int.reduceBNe, Nat.reduceLT, Nat.reduceBEq, Int.reduceEq, Nat.reduceEqDiff, Nat.reduceAdd, Nat.reduceSub, Nat.reduceMul, Nat.reduceLeDiff, reduceCtorEq, ↓reduceIte, eGTuple, eGBatch, eStorStore, eGObj, eGSub, nat_of .i64 h1181, h1183, h1184, accV_pos (f := (eL eGTuple)) q1185, accO_pos (f := (eL eGTuple)) q1185]; rfl)) (ref1_Same_ok b1186) (by first | exact .inr rfl | exact .inl rfl) ?_
                                  try simp -implicitDefEqProofs only [go_sem, Nat.reduceEqDiff, Nat.reduceAdd, ↓reduceIte]
                                  obtain rfl := Option.some.inj H1187
                                  exact ⟨⟨⟨(!t7515), rfl⟩, g110⟩, ren_mk [(0, 0), (1, 1), (2, 2)] (by rfl) (rf_upd (by rfl) (rf_upd (by rfl) (rf_upd (by first | exact ren_accP (by rfl) q1185 | rfl) (rf_upd (by rfl) (rf_upd (by rfl) (rf_upd (by rfl) (rf_upd (by rfl) (rf_no _)))))))) (rh_upd (rh_one (by rfl) (by rfl) (by rfl)) (rh_upd (rh_one (by rfl) (by rfl) (by rfl)) (rh_upd (by first | exact rh_accP (by rfl) q1185 (by rfl) | exact rh_one (by rfl) (by rfl) (by rfl)) (rh_no _))))⟩
                                · rintro ⟨⟨t7715, he1194⟩, g112⟩
                                  replace he1194 := he1194.symm
                                  subst he1194
                                  try dsimp only at H1178
                                  refine runR_take tab_ok fol 1 ?_
                                  try simp -implicitDefEqProofs only [go_sem, Nat.reduceEqDiff, reduceCtorEq, ↓reduceIte]
                                  rcases ite_inv H1178 with ⟨c1188, H1189⟩ | ⟨c1188, H1189⟩
                                  · try simp -implicitDefEqProofs only [go_sem, Nat.reduceAdd, c1188]
                                    obtain rfl := Option.some.inj H1189
                                    obtain rfl := Option.some.inj H1060
                                    obtain rfl := Option.some.inj H8
                                    exact end_pure (by first | (simp -implicitDefEqProofs only [go_sem, ↓reduceIte, Try.f7] <;> rfl) | rfl) (by first | rfl | (simp -implicitDefEqProofs only [go_sem, Int.reduceToNat, Int.reduceLT, Int.reduceLE, Int.reduceBEq, Int.reduceBNe, Nat.reduceLT, Nat.reduceBEq, Int.reduceEq, Nat.reduceEqDiff, Nat.reduceAdd, Nat.reduceSub, Nat.reduceMul, Nat.reduceLeDiff, reduceCtorEq, ↓reduceIte, eGTuple, eGBatch, eStorStore, eGObj, eGSub, c1188]; done) | (simp -implicitDefEqProofs only [go_sem, Int.reduceToNat, Int.reduceLT, Int.reduceLE, Int.reduceBEq, Int.reduceBNe, Nat.reduceLT, Nat.reduceBEq, Int.reduceEq, Nat.reduceEqDiff, Nat.reduceAdd, Nat.reduceSub, Nat.reduceMul, Nat.reduceLeDiff, reduceCtorEq, ↓reduceIte, eGTuple, eGBatch, eStorStore, eGObj, eGSub, c1188]; rfl)) rfl (by intro h; first | rfl | cases h)
                                  · try simp -implicitDefEqProofs only [go_sem, c1188]
                                    refine runR_seq ?_
                                    refine runR_take tab_ok fol 1 ?_
                                    try simp -implicitDefEqProofs only [go_sem, Nat.reduceEqDiff, Nat.reduceAdd, reduceCtorEq, ↓reduceIte]
                                    obtain ⟨e_78, E1190, H1191⟩ := bind_inv H1189
                                    refine runR_join (α := { y : Unit // e_78 = y } × Nat) (fun | ⟨⟨_, _⟩, g115⟩ => ⟨upd 0 (.d (.sl (List.map (eL eI) t0)) true) (upd 3 (.pt 0 0) (upd 4 (accV 2 g115 (List.map (eL eGTuple) t411)) (upd 5 (.v (.int .i64 t5)) (upd 8 (.v (.int .i64 t815)) noFr)))), upd 0 (some (.bx [.v (.int .i64 1000), .so 1 g67 0 (o012.length)])) (upd 1 (some (.rw (List.map (eL eGTuple) o012) 1 g67 false false)) (upd 2 (accO 1 g115 false (List.map (eL eGTuple) t411)) noHp)), 3⟩) ?_ ?_
                                    · refine runR_block ?_
                                      refine runR_loop (α := { q : (Nat × Unit) × Nat // law4_StorPast_L10 n q.1.1 q.1.2 = some e_78 }) (fun | ⟨⟨⟨c, _⟩, g113⟩, _⟩ => ⟨upd 0 (.d (.sl (List.map (eL eI) t0)) true) (upd 3 (.pt 0 0) (upd 4 (accV 2 g113 (List.map (eL eGTuple) t411)) (upd 5 (.v (.int .i64 t5)) (upd 8 (.v (.int .i64 t815)) (upd 9 (.d (.sl (List.map eGTuple [])) false) (upd 79 (.v (.int .i64 0)) (upd 80 (.v (.int .i64 0)) noFr))))))), upd 0 (some (.bx [.v (.int .i64 1000), .so 1 g67 0 (o012.length)])) (upd 1 (some (.rw (List.map (eL eGTuple) o012) 1 g67 false false)) (upd 2 (accO 1 g113 false (List.map (eL eGTuple) t411)) noHp)), 3⟩) (fun q => q.1.1.1) ⟨((n, ()), g112), E1190⟩ ?_ ?_
                                      · exact ren_mk [(0, 0), (1, 1), (2, 2)] (by rfl) (rf_upd (by rfl) (rf_upd (by rfl) (rf_upd (ren_acc (by rfl)) (rf_upd (by rfl) (rf_upd (by rfl) (rf_upd (by rfl) (rf_upd (by rfl) (rf_upd (by rfl) (rf_no _))))))))) (rh_upd (rh_one (by rfl) (by rfl) (by rfl)) (rh_upd (rh_one (by rfl) (by rfl) (by rfl)) (rh_upd (rh_acc (by rfl) (by rfl)) (rh_no _))))
                                      · rintro ⟨⟨⟨c, _⟩, g113⟩, L1192⟩
                                        rcases c with _ | c
                                        · exact nomatch (show none = some _ from L1192)
                                        · unfold law4_StorPast_L10 at L1192
                                          try dsimp only at L1192
                                          refine runR_take tab_ok fol 1 ?_
                                          try simp -implicitDefEqProofs only [go_sem, Int.reduceLT, Nat.reduceEqDiff, Nat.reduceAdd, reduceCtorEq, ↓reduceIte]
                                          obtain rfl := Option.some.inj L1192
                                          exact ⟨⟨⟨(), rfl⟩, g113⟩, ren_mk [(0, 0), (1, 1), (2, 2)] (by rfl) (rf_upd (by rfl) (rf_upd (by rfl) (rf_upd (ren_acc (by rfl)) (rf_upd (by rfl) (rf_upd (by rfl) (rf_no _)))))) (rh_upd (rh_one (by rfl) (by rfl) (by rfl)) (rh_upd (rh_one (by rfl) (by rfl) (by rfl)) (rh_upd (rh_acc (by rfl) (by rfl)) (rh_no _))))⟩
                                    · rintro ⟨⟨_, he1193⟩, g115⟩
                                      replace he1193 := he1193.symm
                                      subst he1193
                                      try dsimp only at H1191
                                      try simp -implicitDefEqProofs only [go_sem]
                                      refine runR_take tab_ok fol 1 ?_
                                      try simp -implicitDefEqProofs only [go_sem, Nat.reduceEqDiff, Nat.reduceAdd, reduceCtorEq, ↓reduceIte]
                                      exact ⟨⟨((c, (IntKind.i64.wrap (t815 + 1))), g115), H1191⟩, ren_mk [(0, 0), (1, 1), (2, 2)] (by rfl) (rf_upd (by rfl) (rf_upd (by rfl) (rf_upd (ren_acc (by rfl)) (rf_upd (by rfl) (rf_upd (by rfl) (rf_no _)))))) (rh_upd (rh_one (by rfl) (by rfl) (by rfl)) (rh_upd (rh_one (by rfl) (by rfl) (by rfl)) (rh_upd (rh_acc (by rfl) (by rfl)) (rh_no _)))), Nat.lt_succ_self _⟩
                              · obtain ⟨g1195, H1196⟩ := grd_inv H1176
                                have h1197 : x50.length ≤ 4294967296 := of_decide_eq_true g1195
                                have q1198 : 0 < x50.length := by have := of_decide_eq_false c1175; omega
                                try simp -implicitDefEqProofs only [go_sem, Int.reduceToNat, Int.reduceLT, Int.reduceLE, Int.reduceBEq, Int.reduceBNe, Nat.reduceLT, Nat.reduceBEq, Int.reduceEq, Nat.reduceEqDiff, Nat.reduceAdd, Nat.reduceSub, Nat.reduceMul, Nat.reduceLeDiff, reduceCtorEq, ↓reduceIte, eGTuple, eGBatch, eStorStore, eGObj, eGSub, c1164, nat_of .i64 h1171, h1173, h1174, c1175]
                                refine onCall_inl (InlOK.mono (cl55_in x50 q1198 h1197) ?_)
                                rintro v1199 hp1200 nx1201 ⟨rfl, rfl, rfl⟩
                                try simp -implicitDefEqProofs only [go_sem, Nat.reduceAdd, ↓reduceIte]
                                refine end_ret (v := .tu [.so 28 1 0 (x50.length), .v (.bool true)]) (by first | ((simp -implicitDefEqProofs only [go_sem, Nat.reduceEqDiff, ↓reduceIte, Try.f34]) <;> rfl) | rfl) ?_
                                try simp -implicitDefEqProofs only [go_sem, Nat.reduceEqDiff, Nat.reduceAdd, ↓reduceIte]
                                refine runR_seq ?_
                                refine runR_seq ?_
                                obtain ⟨e_79, E1202, H1203⟩ := bind_inv H1196
                                refine runR_join (α := { y : Bool // e_79 = y } × Nat) (fun | ⟨⟨t7716, _⟩, g116⟩ => ⟨upd 0 (.d (.sl (List.map (eL eI) t0)) true) (upd 3 (.pt 0 0) (upd 4 (accV 2 g116 (List.map (eL eGTuple) t411)) (upd 5 (.v (.int .i64 t5)) (upd 8 (.v (.int .i64 t815)) (upd 9 (.so 3 1 0 (x50.length)) (upd 77 (.v (.bool t7716)) noFr)))))), upd 0 (some (.bx [.v (.int .i64 1000), .so 1 g67 0 (o012.length)])) (upd 1 (some (.rw (List.map (eL eGTuple) o012) 1 g67 false false)) (upd 2 (accO 1 g116 false (List.map (eL eGTuple) t411)) (upd 3 (some (.rw (List.map eGTuple x50) 6 1 false false)) noHp))), 4⟩) ?_ ?_
                                · refine runR_take tab_ok fol 1 ?_
                                  obtain ⟨x52, b1204, H1205⟩ := bind_inv E1202
                                  obtain ⟨h1206, h1207⟩ := idx_inv b1204
                                  try simp only [Int.reduceToNat, Int.toNat_natCast] at h1207
                                  have h1208 := map_at (eL eGTuple) h1207
                                  have h1209 := at_lt h1207
                                  have q1210 : 0 < t411.length := by omega
                                  obtain ⟨t7516, b1211, H1212⟩ := bind_inv H1205
                                  try simp -implicitDefEqProofs only [go_sem, Nat.reduceEqDiff, Nat.reduceAdd, reduceCtorEq, ↓reduceIte, nat_of .i64 h1206, h1208, h1209, accV_pos (f := (eL eGTuple)) q1210, accO_pos (f := (eL eGTuple)) q1210]
                                  refine onCall_pure (by first | rfl | (simp -implicitDefEqProofs only [go_sem, ↓reduceIte]; done) | (simp -implicitDefEqProofs only [go_sem, ↓reduceIte]; rfl)) (ref1_Same_ok b1211) (by first | exact .inr rfl | exact .inl rfl) ?_
                                  try simp -implicitDefEqProofs only [go_sem, Nat.reduceEqDiff, Nat.reduceAdd, ↓reduceIte]
                                  obtain rfl := Option.some.inj H1212
                                  exact ⟨⟨⟨(!t7516), rfl⟩, g110⟩, ren_mk [(0, 0), (1, 1), (2, 2), (3, 28)] (by rfl) (rf_upd (by rfl) (rf_upd (by rfl) (rf_upd (by first | exact ren_accP (by rfl) q1210 | rfl) (rf_upd (by rfl) (rf_upd (by rfl) (rf_upd (by rfl) (rf_upd (by rfl) (rf_no _)))))))) (rh_upd (rh_one (by rfl) (by rfl) (by rfl)) (rh_upd (rh_one (by rfl) (by rfl) (by rfl)) (rh_upd (by first | exact rh_accP (by rfl) q1210 (by rfl) | exact rh_one (by rfl) (by rfl) (by rfl)) (rh_upd (rh_one (by rfl) (by rfl) (by rfl)) (rh_no _)))))⟩
                                · rintro ⟨⟨t7716, he1250⟩, g116⟩
                                  replace he1250 := he1250.symm
                                  subst he1250
                                  try dsimp only at H1203
                                  refine runR_take tab_ok fol 1 ?_
                                  try simp -implicitDefEqProofs only [go_sem, Nat.reduceEqDiff, reduceCtorEq, ↓reduceIte]
                                  rcases ite_inv H1203 with ⟨c1213, H1214⟩ | ⟨c1213, H1214⟩
                                  · try simp -implicitDefEqProofs only [go_sem, Nat.reduceAdd, c1213]
                                    obtain rfl := Option.some.inj H1214
                                    obtain rfl := Option.some.inj H1060
                                    obtain rfl := Option.some.inj H8
                                    exact end_pure (by first | (simp -implicitDefEqProofs only [go_sem, ↓reduceIte, Try.f7] <;> rfl) | rfl) (by first | rfl | (simp -implicitDefEqProofs only [go_sem, Int.reduceToNat, Int.reduceLT, Int.reduceLE, Int.reduceBEq, Int.reduceBNe, Nat.reduceLT, Nat.reduceBEq, Int.reduceEq, Nat.reduceEqDiff, Nat.reduceAdd, Nat.reduceSub, Nat.reduceMul, Nat.reduceLeDiff, reduceCtorEq, ↓reduceIte, eGTuple, eGBatch, eStorStore, eGObj, eGSub, c1213]; done) | (simp -implicitDefEqProofs only [go_sem, Int.reduceToNat, Int.reduceLT, Int.reduceLE, Int.reduceBEq, Int.reduceBNe, Nat.reduceLT, Nat.reduceBEq, Int.reduceEq, Nat.reduceEqDiff, Nat.reduceAdd, Nat.reduceSub, Nat.reduceMul, Nat.reduceLeDiff, reduceCtorEq, ↓reduceIte, eGTuple, eGBatch, eStorStore, eGObj, eGSub, c1213]; rfl)) rfl (by intro h; first | rfl | cases h)
                                  · try simp -implicitDefEqProofs only [go_sem, c1213]
                                    refine runR_seq ?_
                                    refine runR_take tab_ok fol 1 ?_
                                    try simp -implicitDefEqProofs only [go_sem, Nat.reduceEqDiff, Nat.reduceAdd, reduceCtorEq, ↓reduceIte]
                                    obtain ⟨e_80, E1215, H1216⟩ := bind_inv H1214
                                    refine runR_join (α := { y : Unit // e_80 = y } × Nat) (fun | ⟨⟨_, _⟩, g120⟩ => ⟨upd 0 (.d (.sl (List.map (eL eI) t0)) true) (upd 3 (.pt 0 0) (upd 4 (accV 2 g120 (List.map (eL eGTuple) t411)) (upd 5 (.v (.int .i64 t5)) (upd 8 (.v (.int .i64 t815)) noFr)))), upd 0 (some (.bx [.v (.int .i64 1000), .so 1 g67 0 (o012.length)])) (upd 1 (some (.rw (List.map (eL eGTuple) o012) 1 g67 false false)) (upd 2 (accO 1 g120 false (List.map (eL eGTuple) t411)) noHp)), 3⟩) ?_ ?_
                                    · refine runR_block ?_
                                      refine runR_loop (α := { q : (Nat × (List GTuple × Int)) × Nat // law4_StorPast_L11 n x50 q.1.1 q.1.2 = some e_80 }) (fun | ⟨⟨⟨c, ⟨t915, t8015⟩⟩, g118⟩, _⟩ => ⟨upd 0 (.d (.sl (List.map (eL eI) t0)) true) (upd 3 (.pt 0 0) (upd 4 (accV 2 g118 (List.map (eL eGTuple) t411)) (upd 5 (.v (.int .i64 t5)) (upd 8 (.v (.int .i64 t815)) (upd 9 (.so 3 1 0 (t915.length)) (upd 79 (.v (.int .i64 (x50.length : Int))) (upd 80 (.v (.int .i64 t8015)) noFr))))))), upd 0 (some (.bx [.v (.int .i64 1000), .so 1 g67 0 (o012.length)])) (upd 1 (some (.rw (List.map (eL eGTuple) o012) 1 g67 false false)) (upd 2 (accO 1 g118 false (List.map (eL eGTuple) t411)) (upd 3 (some (.rw (List.map eGTuple t915) 6 1 false false)) noHp))), 4⟩) (fun q => q.1.1.1) ⟨((n, (x50, 0)), g116), E1215⟩ ?_ ?_
                                      · exact ren_mk [(0, 0), (1, 1), (2, 2), (3, 3)] (by rfl) (rf_upd (by rfl) (rf_upd (by rfl) (rf_upd (ren_acc (by rfl)) (rf_upd (by rfl) (rf_upd (by rfl) (rf_upd (by rfl) (rf_upd (by rfl) (rf_upd (by rfl) (rf_no _))))))))) (rh_upd (rh_one (by rfl) (by rfl) (by rfl)) (rh_upd (rh_one (by rfl) (by rfl) (by rfl)) (rh_upd (rh_acc (by rfl) (by rfl)) (rh_upd (rh_one (by rfl) (by rfl) (by rfl)) (rh_no _)))))
                                      · rintro ⟨⟨⟨c, ⟨t915, t8015⟩⟩, g118⟩, L1217⟩
                                        rcases c with _ | c
                                        · exact nomatch (show none = some _ from L1217)
                                        · unfold law4_StorPast_L11 at L1217
                                          try dsimp only at L1217
                                          refine runR_take tab_ok fol 1 ?_
                                          try simp -implicitDefEqProofs only [go_sem, Nat.reduceEqDiff, Nat.reduceAdd, reduceCtorEq, ↓reduceIte]
                                          rcases ite_inv L1217 with ⟨c1234, H1235⟩ | ⟨c1234, H1235⟩
                                          · obtain ⟨x54, b1236, H1237⟩ := bind_inv H1235
                                            obtain ⟨h1238, h1239⟩ := idx_inv b1236
                                            try simp only [Int.reduceToNat, Int.toNat_natCast] at h1239
                                            have h1240 := map_at eGTuple h1239
                                            have h1241 := at_lt h1239
                                            obtain ⟨l24, b1242, H1243⟩ := bind_inv H1237
                                            have h1244 : List.set t915 (Int.toNat t8015) (⟨(⟨ByteArray.empty, ByteArray.empty⟩ : GObj), ByteArray.empty, (⟨ByteArray.empty, ByteArray.empty, ByteArray.empty⟩ : GSub)⟩ : GTuple) = l24 := Option.some.inj b1242
                                            have h1245 : List.set (List.map eGTuple t915) (Int.toNat t8015) [.v (.string ByteArray.empty), .v (.string ByteArray.empty), .v (.string ByteArray.empty), .v (.string ByteArray.empty), .v (.string ByteArray.empty), .v (.string ByteArray.empty)] = List.map eGTuple l24 := by rw [← h1244, List.map_set]
                                            have h1246 : t915.length = l24.length := by rw [← h1244, List.length_set]
                                            have h1247 : ∀ w, AV.so 3 w 0 t915.length = AV.so 3 w 0 l24.length := fun w => by rw [h1246]
                                            have h1248 : (Int.toNat t8015) < l24.length := by omega
                                            try simp -implicitDefEqProofs only [go_sem, Nat.reduceEqDiff, Nat.reduceAdd, reduceCtorEq, ↓reduceIte, eGTuple, c1234, nat_of .i64 h1238, h1240, h1245, h1247, h1248]
                                            exact ⟨⟨((c, (l24, (IntKind.i64.wrap (t8015 + 1)))), g118), H1243⟩, ren_mk [(0, 0), (1, 1), (2, 2), (3, 3)] (by rfl) (rf_upd (by rfl) (rf_upd (by rfl) (rf_upd (ren_acc (by rfl)) (rf_upd (by rfl) (rf_upd (by rfl) (rf_upd (by rfl) (rf_upd (by rfl) (rf_upd (by rfl) (rf_no _))))))))) (rh_upd (rh_one (by rfl) (by rfl) (by rfl)) (rh_upd (rh_one (by rfl) (by rfl) (by rfl)) (rh_upd (rh_acc (by rfl) (by rfl)) (rh_upd (rh_one (by rfl) (by rfl) (by rfl)) (rh_no _))))), Nat.lt_succ_self _⟩
                                          · try simp -implicitDefEqProofs only [go_sem, ↓reduceIte, c1234]
                                            obtain rfl := Option.some.inj H1235
                                            exact ⟨⟨⟨(), rfl⟩, g118⟩, ren_mk [(0, 0), (1, 1), (2, 2)] (by rfl) (rf_upd (by rfl) (rf_upd (by rfl) (rf_upd (ren_acc (by rfl)) (rf_upd (by rfl) (rf_upd (by rfl) (rf_no _)))))) (rh_upd (rh_one (by rfl) (by rfl) (by rfl)) (rh_upd (rh_one (by rfl) (by rfl) (by rfl)) (rh_upd (rh_acc (by rfl) (by rfl)) (rh_no _))))⟩
                                    · rintro ⟨⟨_, he1249⟩, g120⟩
                                      replace he1249 := he1249.symm
                                      subst he1249
                                      try dsimp only at H1216
                                      try simp -implicitDefEqProofs only [go_sem]
                                      refine runR_take tab_ok fol 1 ?_
                                      try simp -implicitDefEqProofs only [go_sem, Nat.reduceEqDiff, Nat.reduceAdd, reduceCtorEq, ↓reduceIte]
                                      exact ⟨⟨((c, (IntKind.i64.wrap (t815 + 1))), g120), H1216⟩, ren_mk [(0, 0), (1, 1), (2, 2)] (by rfl) (rf_upd (by rfl) (rf_upd (by rfl) (rf_upd (ren_acc (by rfl)) (rf_upd (by rfl) (rf_upd (by rfl) (rf_no _)))))) (rh_upd (rh_one (by rfl) (by rfl) (by rfl)) (rh_upd (rh_one (by rfl) (by rfl) (by rfl)) (rh_upd (rh_acc (by rfl) (by rfl)) (rh_no _)))), Nat.lt_succ_self _⟩
                        · try simp -implicitDefEqProofs only [go_sem, ↓reduceIte, c1156]
                          obtain rfl := Option.some.inj H1157
                          exact ⟨⟨⟨(), rfl⟩, g110⟩, ren_mk [(0, 0), (1, 1), (2, 2)] (by rfl) (rf_upd (by rfl) (rf_upd (by rfl) (rf_upd (ren_acc (by rfl)) (rf_upd (by rfl) (rf_no _))))) (rh_upd (rh_one (by rfl) (by rfl) (by rfl)) (rh_upd (rh_one (by rfl) (by rfl) (by rfl)) (rh_upd (rh_acc (by rfl) (by rfl)) (rh_no _))))⟩
                  · rintro ⟨⟨_, he1252⟩, g122⟩
                    replace he1252 := he1252.symm
                    subst he1252
                    try dsimp only at H1060
                    try simp -implicitDefEqProofs only [go_sem]
                    refine runR_take tab_ok fol 1 ?_
                    try simp -implicitDefEqProofs only [go_sem, Nat.reduceEqDiff, Nat.reduceAdd, reduceCtorEq, ↓reduceIte]
                    exact ⟨⟨((c, (o012, t411, (IntKind.i64.wrap (t5 + 1)))), (g67, g122)), H1060⟩, ren_mk [(0, 0), (1, 1), (2, 2)] (by rfl) (rf_upd (by rfl) (rf_upd (by rfl) (rf_upd (ren_acc (by rfl)) (rf_upd (by rfl) (rf_no _))))) (rh_upd (rh_one (by rfl) (by rfl) (by rfl)) (rh_upd (rh_one (by rfl) (by rfl) (by rfl)) (rh_upd (rh_acc (by rfl) (by rfl)) (rh_no _)))), Nat.lt_succ_self _⟩
          · try simp -implicitDefEqProofs only [go_sem, ↓reduceIte, c629]
            obtain rfl := Option.some.inj H630
            exact ⟨⟨⟨t31, rfl⟩, g60⟩, ren_mk [(0, 0), (1, 1)] (by rfl) (rf_upd (by rfl) (rf_no _)) (rh_upd (rh_one (by rfl) (by rfl) (by rfl)) (rh_upd (rh_one (by rfl) (by rfl) (by rfl)) (rh_no _)))⟩
  · rintro ⟨⟨t313, he1264⟩, g125⟩
    replace he1264 := he1264.symm
    subst he1264
    try dsimp only at H8
    refine runR_take tab_ok fol 1 ?_
    obtain ⟨t892, b1256, H1257⟩ := bind_inv H8
    try simp -implicitDefEqProofs only [go_sem, Nat.reduceAdd, ↓reduceIte]
    refine onCall_pureA (by first | rfl | (simp -implicitDefEqProofs only [go_sem, reduceCtorEq, ↓reduceIte, eStorStore]; done) | (simp -implicitDefEqProofs only [go_sem, reduceCtorEq, ↓reduceIte, eStorStore]; rfl)) (PureA.of_pure (stor_Store_All_ok b1256)) (by first | exact .inr rfl | exact .inl rfl) ?_
    obtain ⟨t90, b1258, H1259⟩ := bind_inv H1257
    try simp -implicitDefEqProofs only [go_sem, Nat.reduceAdd, ↓reduceIte]
    refine onCall_pure (by first | rfl | (simp -implicitDefEqProofs only [go_sem, Int.reduceToNat, Int.reduceLT, Int.reduceLE, Int.reduceBEq, Int.reduceBNe, Nat.reduceLT, Nat.reduceBEq, Int.reduceEq, Nat.reduceEqDiff, Nat.reduceAdd, Nat.reduceSub, Nat.reduceMul, Nat.reduceLeDiff, reduceCtorEq, ↓reduceIte, eGTuple, eGBatch, eStorStore, eGObj, eGSub]; done) | (simp -implicitDefEqProofs only [go_sem, Int.reduceToNat, Int.reduceLT, Int.reduceLE, Int.reduceBEq, Int.reduceBNe, Nat.reduceLT, Nat.reduceBEq, Int.reduceEq, Nat.reduceEqDiff, Nat.reduceAdd, Nat.reduceSub, Nat.reduceMul, Nat.reduceLeDiff, reduceCtorEq, ↓reduceIte, eGTuple, eGBatch, eStorStore, eGObj, eGSub]; rfl)) (ref1_Is_ok b1258) (by first | exact .inr rfl | exact .inl rfl) ?_
    try simp -implicitDefEqProofs only [go_sem, Nat.reduceAdd, ↓reduceIte]
    rcases ite_inv H1259 with ⟨c1260, H1261⟩ | ⟨c1260, H1261⟩
    · obtain ⟨t922, b1262, H1263⟩ := bind_inv H1261
      try simp -implicitDefEqProofs only [go_sem, Nat.reduceAdd, ↓reduceIte, c1260]
      refine onCall_pure (by first | rfl | (simp -implicitDefEqProofs only [go_sem, Int.reduceToNat, Int.reduceLT, Int.reduceLE, Int.reduceBEq, Int.reduceBNe, Nat.reduceLT, Nat.reduceBEq, Int.reduceEq, Nat.reduceEqDiff, Nat.reduceAdd, Nat.reduceSub, Nat.reduceMul, Nat.reduceLeDiff, reduceCtorEq, ↓reduceIte, eGTuple, eGBatch, eStorStore, eGObj, eGSub, c1260]; done) | (simp -implicitDefEqProofs only [go_sem, Int.reduceToNat, Int.reduceLT, Int.reduceLE, Int.reduceBEq, Int.reduceBNe, Nat.reduceLT, Nat.reduceBEq, Int.reduceEq, Nat.reduceEqDiff, Nat.reduceAdd, Nat.reduceSub, Nat.reduceMul, Nat.reduceLeDiff, reduceCtorEq, ↓reduceIte, eGTuple, eGBatch, eStorStore, eGObj, eGSub, c1260]; rfl)) (law4_awake_ok b1262) (by first | exact .inr rfl | exact .inl rfl) ?_
      try simp -implicitDefEqProofs only [go_sem, Nat.reduceEqDiff, Nat.reduceAdd, ↓reduceIte]
      obtain rfl := Option.some.inj H1263
      exact end_pure (by first | (simp -implicitDefEqProofs only [go_sem, ↓reduceIte, Try.f7] <;> rfl) | rfl) (by first | rfl | (simp -implicitDefEqProofs only [go_sem, Int.reduceToNat, Int.reduceLT, Int.reduceLE, Int.reduceBEq, Int.reduceBNe, Nat.reduceLT, Nat.reduceBEq, Int.reduceEq, Nat.reduceEqDiff, Nat.reduceAdd, Nat.reduceSub, Nat.reduceMul, Nat.reduceLeDiff, reduceCtorEq, ↓reduceIte, eGTuple, eGBatch, eStorStore, eGObj, eGSub, c1260]; done) | (simp -implicitDefEqProofs only [go_sem, Int.reduceToNat, Int.reduceLT, Int.reduceLE, Int.reduceBEq, Int.reduceBNe, Nat.reduceLT, Nat.reduceBEq, Int.reduceEq, Nat.reduceEqDiff, Nat.reduceAdd, Nat.reduceSub, Nat.reduceMul, Nat.reduceLeDiff, reduceCtorEq, ↓reduceIte, eGTuple, eGBatch, eStorStore, eGObj, eGSub, c1260]; rfl)) rfl (by intro h; first | rfl | cases h)
    · try simp -implicitDefEqProofs only [go_sem, Nat.reduceEqDiff, Nat.reduceAdd, ↓reduceIte, c1260]
      obtain rfl := Option.some.inj H1261
      exact end_pure (by first | (simp -implicitDefEqProofs only [go_sem, ↓reduceIte, Try.f7] <;> rfl) | rfl) (by first | rfl | (simp -implicitDefEqProofs only [go_sem, Int.reduceToNat, Int.reduceLT, Int.reduceLE, Int.reduceBEq, Int.reduceBNe, Nat.reduceLT, Nat.reduceBEq, Int.reduceEq, Nat.reduceEqDiff, Nat.reduceAdd, Nat.reduceSub, Nat.reduceMul, Nat.reduceLeDiff, reduceCtorEq, ↓reduceIte, eGTuple, eGBatch, eStorStore, eGObj, eGSub, c1260]; done) | (simp -implicitDefEqProofs only [go_sem, Int.reduceToNat, Int.reduceLT, Int.reduceLE, Int.reduceBEq, Int.reduceBNe, Nat.reduceLT, Nat.reduceBEq, Int.reduceEq, Nat.reduceEqDiff, Nat.reduceAdd, Nat.reduceSub, Nat.reduceMul, Nat.reduceLeDiff, reduceCtorEq, ↓reduceIte, eGTuple, eGBatch, eStorStore, eGObj, eGSub, c1260]; rfl)) rfl (by intro h; first | rfl | cases h)
end Go.Proofs.Ytdckfddlcmkdlaa.Ab
