/-
  Functions, read off the code.
-/
import Derived.Test.YtdckfddlcmkdlaaRss
import Derived.Test.YtdckfddlcmkdlaaSta
namespace Go.Proofs.Ytdckfddlcmkdlaa.Ab
open Go.RowKit
def law4_StorWhole_C1_stor_New (_ : Nat) : Option Unit :=
  some ()

def law4_StorWhole_C3_stor_Store_now (n : Nat) (t2 : Int) : Option (List GTuple) :=
  (stor_Store_Rev n (⟨(if 1000000 < (if (IntKind.i64.wrap ((IntKind.i64.wrap (an t2 31 : Int)) + 5)) < 0 then 0 else (IntKind.i64.wrap ((IntKind.i64.wrap (an t2 31 : Int)) + 5))) then 1000000 else (if (IntKind.i64.wrap ((IntKind.i64.wrap (an t2 31 : Int)) + 5)) < 0 then 0 else (IntKind.i64.wrap ((IntKind.i64.wrap (an t2 31 : Int)) + 5)))), [[]]⟩ : StorStore)).bind fun t8 =>
  (idx [[]] t8).bind fun x =>
  some x

def law4_StorWhole_C6_stor_Store_Write_c2 (n : Nat) (t22 : List GTuple) (x3 : GTuple) : Option Bool :=
  (stor_Store_Write_c1 n x3 t22).bind fun t62 =>
  some (!t62)

def law4_StorWhole_L1 (n : Nat) (t24 : GBatch) (t22 : List GTuple) : Nat → Int → Option ((Unit) ⊕ Int)
  | 0, _ => none
  | c + 1, t82 =>
    (if (decide (t82 < (t24.must.length : Int))) then
      (idx t24.must t82).bind fun x3 =>
      (law4_StorWhole_C6_stor_Store_Write_c2 n t22 x3 : Option Bool).bind fun t32 =>
      (if t32 then
        some (.inr t82)
      else
        law4_StorWhole_L1 n t24 t22 c (IntKind.i64.wrap (t82 + 1)))
    else
      some (.inl ()))

def law4_StorWhole_C5_slices_IndexFunc_Tuple (n : Nat) (t24 : GBatch) (t22 : List GTuple) : Option Int :=
  (
    law4_StorWhole_L1 n t24 t22 n 0 : Option ((Unit) ⊕ Int)).bind fun
    | .inl _ =>
      some (-1)
    | .inr r => some r

def law4_StorWhole_C4_slices_ContainsFunc_Tuple (n : Nat) (t24 : GBatch) (t22 : List GTuple) : Option Bool :=
  (law4_StorWhole_C5_slices_IndexFunc_Tuple n t24 t22 : Option Int).bind fun t4 =>
  some (decide (0 ≤ t4))

def law4_StorWhole_C2_stor_Store_Write (n : Nat) (t2 : Int) (t24 : GBatch) : Option (Int × List (List GTuple)) :=
  (
    (stor_wrong n t24.add).bind fun t12 =>
    (if t12 then
      some true
    else
      (stor_wrong n t24.drop).bind fun t16 =>
      (if t16 then
        some true
      else
        (stor_wrong n t24.must).bind fun t21 =>
        (if t21 then
          some true
        else
          (stor_wrong n t24.not_).bind fun t26 =>
          some t26))) : Option (Bool)).bind fun t27 =>
  (if t27 then
    some (2, [[]])
  else
    (rows_Of n t24.add).bind fun t30 =>
    (rows_Of n t24.drop).bind fun t33 =>
    (law4_StorWhole_C3_stor_Store_now n t2 : Option (List GTuple)).bind fun t22 =>
    (rows_Minus n t22 t33).bind fun t39 =>
    (rows_Plus n t39 t30).bind fun t41 =>
    (rows_Minus n t30 t33).bind fun t45 =>
    (if (decide ((t45.length : Int) < (t30.length : Int))) then
      some (6, [[]])
    else
      (law4_StorWhole_C4_slices_ContainsFunc_Tuple n t24 t22 : Option Bool).bind fun t42 =>
      (if t42 then
        some (4, [[]])
      else
        (slices_ContainsFunc_Tuple__stor_Store_Write_c1 n t24.not_ t22).bind fun t59 =>
        (if t59 then
          some (3, [[]])
        else
          (if (decide ((if 1000000 < (if (IntKind.i64.wrap ((IntKind.i64.wrap (an t2 31 : Int)) + 5)) < 0 then 0 else (IntKind.i64.wrap ((IntKind.i64.wrap (an t2 31 : Int)) + 5))) then 1000000 else (if (IntKind.i64.wrap ((IntKind.i64.wrap (an t2 31 : Int)) + 5)) < 0 then 0 else (IntKind.i64.wrap ((IntKind.i64.wrap (an t2 31 : Int)) + 5)))) < (t41.length : Int))) then
            some (5, [[]])
          else
            (slices_Equal_Tuple n t41 t22).bind fun t70 =>
            (if t70 then
              some (0, [[]])
            else
              some (0, [[], t41])))))))

def law4_StorWhole_C8_stor_Store_now (n : Nat) (t2 : Int) (o61 : List (List GTuple)) : Option (List GTuple) :=
  (stor_Store_Rev n (⟨(if 1000000 < (if (IntKind.i64.wrap ((IntKind.i64.wrap (an t2 31 : Int)) + 5)) < 0 then 0 else (IntKind.i64.wrap ((IntKind.i64.wrap (an t2 31 : Int)) + 5))) then 1000000 else (if (IntKind.i64.wrap ((IntKind.i64.wrap (an t2 31 : Int)) + 5)) < 0 then 0 else (IntKind.i64.wrap ((IntKind.i64.wrap (an t2 31 : Int)) + 5)))), o61⟩ : StorStore)).bind fun t84 =>
  (idx o61 t84).bind fun x4 =>
  some x4

def law4_StorWhole_C11_stor_Store_Write_c2 (n : Nat) (t23 : List GTuple) (x6 : GTuple) : Option Bool :=
  (stor_Store_Write_c1 n x6 t23).bind fun t64 =>
  some (!t64)

def law4_StorWhole_L2 (n : Nat) (t31 : GBatch) (t23 : List GTuple) : Nat → Int → Option ((Unit) ⊕ Int)
  | 0, _ => none
  | c + 1, t85 =>
    (if (decide (t85 < (t31.must.length : Int))) then
      (idx t31.must t85).bind fun x6 =>
      (law4_StorWhole_C11_stor_Store_Write_c2 n t23 x6 : Option Bool).bind fun t35 =>
      (if t35 then
        some (.inr t85)
      else
        law4_StorWhole_L2 n t31 t23 c (IntKind.i64.wrap (t85 + 1)))
    else
      some (.inl ()))

def law4_StorWhole_C10_slices_IndexFunc_Tuple (n : Nat) (t31 : GBatch) (t23 : List GTuple) : Option Int :=
  (
    law4_StorWhole_L2 n t31 t23 n 0 : Option ((Unit) ⊕ Int)).bind fun
    | .inl _ =>
      some (-1)
    | .inr r => some r

def law4_StorWhole_C9_slices_ContainsFunc_Tuple (n : Nat) (t31 : GBatch) (t23 : List GTuple) : Option Bool :=
  (law4_StorWhole_C10_slices_IndexFunc_Tuple n t31 t23 : Option Int).bind fun t44 =>
  some (decide (0 ≤ t44))

def law4_StorWhole_C7_stor_Store_Write (n : Nat) (t2 : Int) (o61 : List (List GTuple)) (t31 : GBatch) : Option (Int × List (List GTuple)) :=
  (
    (stor_wrong n t31.add).bind fun t122 =>
    (if t122 then
      some true
    else
      (stor_wrong n t31.drop).bind fun t162 =>
      (if t162 then
        some true
      else
        (stor_wrong n t31.must).bind fun t212 =>
        (if t212 then
          some true
        else
          (stor_wrong n t31.not_).bind fun t262 =>
          some t262))) : Option (Bool)).bind fun t273 =>
  (if t273 then
    some (2, o61)
  else
    (rows_Of n t31.add).bind fun t302 =>
    (rows_Of n t31.drop).bind fun t332 =>
    (law4_StorWhole_C8_stor_Store_now n t2 o61 : Option (List GTuple)).bind fun t23 =>
    (rows_Minus n t23 t332).bind fun t392 =>
    (rows_Plus n t392 t302).bind fun t412 =>
    (rows_Minus n t302 t332).bind fun t452 =>
    (if (decide ((t452.length : Int) < (t302.length : Int))) then
      some (6, o61)
    else
      (law4_StorWhole_C9_slices_ContainsFunc_Tuple n t31 t23 : Option Bool).bind fun t46 =>
      (if t46 then
        some (4, o61)
      else
        (slices_ContainsFunc_Tuple__stor_Store_Write_c1 n t31.not_ t23).bind fun t592 =>
        (if t592 then
          some (3, o61)
        else
          (if (decide ((if 1000000 < (if (IntKind.i64.wrap ((IntKind.i64.wrap (an t2 31 : Int)) + 5)) < 0 then 0 else (IntKind.i64.wrap ((IntKind.i64.wrap (an t2 31 : Int)) + 5))) then 1000000 else (if (IntKind.i64.wrap ((IntKind.i64.wrap (an t2 31 : Int)) + 5)) < 0 then 0 else (IntKind.i64.wrap ((IntKind.i64.wrap (an t2 31 : Int)) + 5)))) < (t412.length : Int))) then
            some (5, o61)
          else
            (slices_Equal_Tuple n t412 t23).bind fun t702 =>
            (if t702 then
              some (0, o61)
            else
              (app o61 [t412]).bind fun l =>
              some (0, l)))))))

def law4_StorWhole (n : Nat) (t0 : List Int) (t1 : List Int) (t2 : Int) : Option Bool :=
  (law4_StorWhole_C1_stor_New n : Option Unit).bind fun _ =>
  (law4_Batch n t0).bind fun t24 =>
  (law4_StorWhole_C2_stor_Store_Write n t2 t24 : Option (Int × List (List GTuple))).bind fun (_, o61) =>
  (stor_Store_All n (⟨(if 1000000 < (if (IntKind.i64.wrap ((IntKind.i64.wrap (an t2 31 : Int)) + 5)) < 0 then 0 else (IntKind.i64.wrap ((IntKind.i64.wrap (an t2 31 : Int)) + 5))) then 1000000 else (if (IntKind.i64.wrap ((IntKind.i64.wrap (an t2 31 : Int)) + 5)) < 0 then 0 else (IntKind.i64.wrap ((IntKind.i64.wrap (an t2 31 : Int)) + 5)))), o61⟩ : StorStore)).bind fun t272 =>
  (stor_Store_Rev n (⟨(if 1000000 < (if (IntKind.i64.wrap ((IntKind.i64.wrap (an t2 31 : Int)) + 5)) < 0 then 0 else (IntKind.i64.wrap ((IntKind.i64.wrap (an t2 31 : Int)) + 5))) then 1000000 else (if (IntKind.i64.wrap ((IntKind.i64.wrap (an t2 31 : Int)) + 5)) < 0 then 0 else (IntKind.i64.wrap ((IntKind.i64.wrap (an t2 31 : Int)) + 5)))), o61⟩ : StorStore)).bind fun t29 =>
  (law4_Batch n t1).bind fun t31 =>
  (law4_StorWhole_C7_stor_Store_Write n t2 o61 t31 : Option (Int × List (List GTuple))).bind fun (t47, o612) =>
  (stor_Store_All n (⟨(if 1000000 < (if (IntKind.i64.wrap ((IntKind.i64.wrap (an t2 31 : Int)) + 5)) < 0 then 0 else (IntKind.i64.wrap ((IntKind.i64.wrap (an t2 31 : Int)) + 5))) then 1000000 else (if (IntKind.i64.wrap ((IntKind.i64.wrap (an t2 31 : Int)) + 5)) < 0 then 0 else (IntKind.i64.wrap ((IntKind.i64.wrap (an t2 31 : Int)) + 5)))), o612⟩ : StorStore)).bind fun t36 =>
  (stor_Store_At n (⟨(if 1000000 < (if (IntKind.i64.wrap ((IntKind.i64.wrap (an t2 31 : Int)) + 5)) < 0 then 0 else (IntKind.i64.wrap ((IntKind.i64.wrap (an t2 31 : Int)) + 5))) then 1000000 else (if (IntKind.i64.wrap ((IntKind.i64.wrap (an t2 31 : Int)) + 5)) < 0 then 0 else (IntKind.i64.wrap ((IntKind.i64.wrap (an t2 31 : Int)) + 5)))), o612⟩ : StorStore) t29).bind fun t40 =>
  (
    (if t40.2 then
      (ref1_Same n t40.1 t272).bind fun t48 =>
      some (!t48)
    else
      some true) : Option (Bool)).bind fun t50 =>
  (if t50 then
    some false
  else
    (if (t47 != 0) then
      (
        (ref1_Same n t36 t272).bind fun t55 =>
        (if t55 then
          (stor_Store_Rev n (⟨(if 1000000 < (if (IntKind.i64.wrap ((IntKind.i64.wrap (an t2 31 : Int)) + 5)) < 0 then 0 else (IntKind.i64.wrap ((IntKind.i64.wrap (an t2 31 : Int)) + 5))) then 1000000 else (if (IntKind.i64.wrap ((IntKind.i64.wrap (an t2 31 : Int)) + 5)) < 0 then 0 else (IntKind.i64.wrap ((IntKind.i64.wrap (an t2 31 : Int)) + 5)))), o612⟩ : StorStore)).bind fun t58 =>
          (if (t58 == t29) then
            (law4_awake n).bind fun t632 =>
            some t632
          else
            some false)
        else
          some false) : Option (Bool)).bind fun t65 =>
      some t65
    else
      (ref1_Same n t36 t272).bind fun t67 =>
      (ref1_Minus n t272 t31.drop).bind fun t72 =>
      (ref1_Plus n t72 t31.add).bind fun t75 =>
      (ref1_Same n t36 t75).bind fun t76 =>
      (if t76 then
        (stor_Store_Rev n (⟨(if 1000000 < (if (IntKind.i64.wrap ((IntKind.i64.wrap (an t2 31 : Int)) + 5)) < 0 then 0 else (IntKind.i64.wrap ((IntKind.i64.wrap (an t2 31 : Int)) + 5))) then 1000000 else (if (IntKind.i64.wrap ((IntKind.i64.wrap (an t2 31 : Int)) + 5)) < 0 then 0 else (IntKind.i64.wrap ((IntKind.i64.wrap (an t2 31 : Int)) + 5)))), o612⟩ : StorStore)).bind fun t79 =>
        (if ((t79 == t29) == t67) then
          (if t67 then
            (stor_Store_Len n (⟨(if 1000000 < (if (IntKind.i64.wrap ((IntKind.i64.wrap (an t2 31 : Int)) + 5)) < 0 then 0 else (IntKind.i64.wrap ((IntKind.i64.wrap (an t2 31 : Int)) + 5))) then 1000000 else (if (IntKind.i64.wrap ((IntKind.i64.wrap (an t2 31 : Int)) + 5)) < 0 then 0 else (IntKind.i64.wrap ((IntKind.i64.wrap (an t2 31 : Int)) + 5)))), o612⟩ : StorStore)).bind fun t97 =>
            (if (t97 == (t36.length : Int)) then
              (stor_Store_Len n (⟨(if 1000000 < (if (IntKind.i64.wrap ((IntKind.i64.wrap (an t2 31 : Int)) + 5)) < 0 then 0 else (IntKind.i64.wrap ((IntKind.i64.wrap (an t2 31 : Int)) + 5))) then 1000000 else (if (IntKind.i64.wrap ((IntKind.i64.wrap (an t2 31 : Int)) + 5)) < 0 then 0 else (IntKind.i64.wrap ((IntKind.i64.wrap (an t2 31 : Int)) + 5)))), o612⟩ : StorStore)).bind fun t104 =>
              (if (decide (t104 ≤ (IntKind.i64.wrap ((IntKind.i64.wrap (an t2 31 : Int)) + 5)))) then
                (law4_awake n).bind fun t111 =>
                some t111
              else
                some false)
            else
              some false)
          else
            (stor_Store_Rev n (⟨(if 1000000 < (if (IntKind.i64.wrap ((IntKind.i64.wrap (an t2 31 : Int)) + 5)) < 0 then 0 else (IntKind.i64.wrap ((IntKind.i64.wrap (an t2 31 : Int)) + 5))) then 1000000 else (if (IntKind.i64.wrap ((IntKind.i64.wrap (an t2 31 : Int)) + 5)) < 0 then 0 else (IntKind.i64.wrap ((IntKind.i64.wrap (an t2 31 : Int)) + 5)))), o612⟩ : StorStore)).bind fun t89 =>
            (if (t89 == (IntKind.i64.wrap (t29 + 1))) then
              (stor_Store_Len n (⟨(if 1000000 < (if (IntKind.i64.wrap ((IntKind.i64.wrap (an t2 31 : Int)) + 5)) < 0 then 0 else (IntKind.i64.wrap ((IntKind.i64.wrap (an t2 31 : Int)) + 5))) then 1000000 else (if (IntKind.i64.wrap ((IntKind.i64.wrap (an t2 31 : Int)) + 5)) < 0 then 0 else (IntKind.i64.wrap ((IntKind.i64.wrap (an t2 31 : Int)) + 5)))), o612⟩ : StorStore)).bind fun t972 =>
              (if (t972 == (t36.length : Int)) then
                (stor_Store_Len n (⟨(if 1000000 < (if (IntKind.i64.wrap ((IntKind.i64.wrap (an t2 31 : Int)) + 5)) < 0 then 0 else (IntKind.i64.wrap ((IntKind.i64.wrap (an t2 31 : Int)) + 5))) then 1000000 else (if (IntKind.i64.wrap ((IntKind.i64.wrap (an t2 31 : Int)) + 5)) < 0 then 0 else (IntKind.i64.wrap ((IntKind.i64.wrap (an t2 31 : Int)) + 5)))), o612⟩ : StorStore)).bind fun t1042 =>
                (if (decide (t1042 ≤ (IntKind.i64.wrap ((IntKind.i64.wrap (an t2 31 : Int)) + 5)))) then
                  (law4_awake n).bind fun t1112 =>
                  some t1112
                else
                  some false)
              else
                some false)
            else
              some false))
        else
          some false)
      else
        some false)))
set_option maxHeartbeats 8000000 in
theorem law4_StorWhole_ok {n : Nat} {t0 : List Int} {t1 : List Int} {t2 : Int} {r : Bool} (H : law4_StorWhole n t0 t1 t2 = some r) : PureOK Try.prog 9 [D.sl (List.map eI t0), D.sl (List.map eI t1), D.v (.int .i64 t2)] (D.v (.bool r)) true := by
  unfold law4_StorWhole at H
  refine pure_runR (tab := tab) tab_ok Try.func9 rfl (by kernel_rfl) (by kernel_rfl) (by simp [Try.f9]) ?_
  refine runR_seq ?_
  refine runR_take tab_ok fol 1 ?_
  try simp -implicitDefEqProofs only [go_sem]
  refine runR_seq ?_
  refine runR_take tab_ok fol 1 ?_
  try simp -implicitDefEqProofs only [go_sem, Nat.reduceEqDiff, Nat.reduceAdd, ↓reduceIte]
  obtain ⟨e_, E1, H2⟩ := bind_inv H
  refine onCall_inl (InlOK.mono (inl_runRJ (α := { y : Unit // e_ = y }) tab_ok Try.func29 rfl (by kernel_rfl) (by kernel_rfl) (by simp [Try.f29]) (fun | ⟨_, _⟩ => ⟨upd 2 (.pt 6 0) noFr, upd 6 (some (.bx [.v (.int .i64 (if 1000000 < (if (IntKind.i64.wrap ((IntKind.i64.wrap (an t2 31 : Int)) + 5)) < 0 then 0 else (IntKind.i64.wrap ((IntKind.i64.wrap (an t2 31 : Int)) + 5))) then 1000000 else (if (IntKind.i64.wrap ((IntKind.i64.wrap (an t2 31 : Int)) + 5)) < 0 then 0 else (IntKind.i64.wrap ((IntKind.i64.wrap (an t2 31 : Int)) + 5))))), .so 7 0 0 1])) (upd 7 (some (.rw [[.sl []]] 1 0 false false)) noHp), 8⟩) (fun | ⟨_, _⟩ => .pt 6 0) (by rintro ⟨_, he3⟩; first | ((simp -implicitDefEqProofs only [go_sem, ↓reduceIte, Try.f29]) <;> rfl) | rfl) ?_) ?_)
  · unfold law4_StorWhole_C1_stor_New at E1
    try dsimp only at E1
    refine runR_take tab_ok fol 1 ?_
    try simp -implicitDefEqProofs only [go_sem, Nat.reduceLT, Nat.reduceEqDiff, Nat.reduceAdd, Nat.reduceLeDiff, reduceCtorEq, ↓reduceIte]
    obtain rfl := Option.some.inj E1
    exact endJ_ret ⟨(), rfl⟩ (ren_mk [(6, 12), (7, 10)] (by rfl) (rf_upd (by rfl) (rf_no _)) (rh_upd (rh_one (by rfl) (by rfl) (by rfl)) (rh_upd (rh_one (by rfl) (by rfl) (by rfl)) (rh_no _))))
  rintro v4 hp5 nx6 ⟨⟨_, he3⟩, rfl, rfl, rfl⟩
  replace he3 := he3.symm
  subst he3
  try dsimp only at H2
  dsimp only
  try simp -implicitDefEqProofs only [go_sem, Nat.reduceAdd, ↓reduceIte]
  refine runR_seq ?_
  refine runR_take tab_ok fol 1 ?_
  try simp -implicitDefEqProofs only [go_sem, Nat.reduceAdd, ↓reduceIte]
  refine runR_seq ?_
  refine runR_take tab_ok fol 1 ?_
  obtain ⟨t24, b7, H8⟩ := bind_inv H2
  try simp -implicitDefEqProofs only [go_sem, Nat.reduceEqDiff, Nat.reduceAdd, reduceCtorEq, ↓reduceIte]
  refine onCall_pure (by first | rfl | (simp -implicitDefEqProofs only [go_sem, Int.reduceToNat, Int.reduceLT, Int.reduceLE, Int.reduceBEq, Int.reduceBNe, Nat.reduceLT, Nat.reduceBEq, Int.reduceEq, Nat.reduceEqDiff, Nat.reduceAdd, Nat.reduceSub, Nat.reduceMul, Nat.reduceLeDiff, reduceCtorEq, ↓reduceIte, eGTuple, eGBatch, eStorStore]; done) | (simp -implicitDefEqProofs only [go_sem, Int.reduceToNat, Int.reduceLT, Int.reduceLE, Int.reduceBEq, Int.reduceBNe, Nat.reduceLT, Nat.reduceBEq, Int.reduceEq, Nat.reduceEqDiff, Nat.reduceAdd, Nat.reduceSub, Nat.reduceMul, Nat.reduceLeDiff, reduceCtorEq, ↓reduceIte, eGTuple, eGBatch, eStorStore]; rfl)) (law4_Batch_ok b7) (by first | exact .inr rfl | exact .inl rfl) ?_
  try simp -implicitDefEqProofs only [go_sem, Nat.reduceEqDiff, Nat.reduceAdd, ↓reduceIte, eGBatch]
  obtain ⟨e_2, E9, H10⟩ := bind_inv H8
  refine onCall_inl (InlOK.mono (inl_runRJ (α := { y : Int × List (List GTuple) // e_2 = y } × Nat) tab_ok Try.func32 rfl (by kernel_rfl) (by kernel_rfl) (by simp [Try.f32]) (fun | ⟨⟨⟨t43, o61⟩, _⟩, g⟩ => ⟨upd 4 (.v (.int .i64 t43)) noFr, upd 6 (some (.bx [.v (.int .i64 (if 1000000 < (if (IntKind.i64.wrap ((IntKind.i64.wrap (an t2 31 : Int)) + 5)) < 0 then 0 else (IntKind.i64.wrap ((IntKind.i64.wrap (an t2 31 : Int)) + 5))) then 1000000 else (if (IntKind.i64.wrap ((IntKind.i64.wrap (an t2 31 : Int)) + 5)) < 0 then 0 else (IntKind.i64.wrap ((IntKind.i64.wrap (an t2 31 : Int)) + 5))))), .so 7 g 0 (o61.length)])) (upd 7 (some (.rw (List.map (eL eGTuple) o61) 1 g false false)) noHp), 14⟩) (fun | ⟨⟨⟨t43, o61⟩, _⟩, g⟩ => .v (.int .i64 t43)) (by rintro ⟨⟨⟨t43, o61⟩, he125⟩, g⟩; first | ((simp -implicitDefEqProofs only [go_sem, ↓reduceIte, Try.f32]) <;> rfl) | rfl) ?_) ?_)
  · unfold law4_StorWhole_C2_stor_Store_Write at E9
    try dsimp only at E9
    refine runR_seq ?_
    refine runR_take tab_ok fol 1 ?_
    try simp -implicitDefEqProofs only [go_sem, Nat.reduceAdd]
    refine runR_seq ?_
    refine runR_seq ?_
    obtain ⟨e_3, E11, H12⟩ := bind_inv E9
    refine runR_join (α := { y : Bool // e_3 = y }) (fun | ⟨t27, _⟩ => ⟨upd 0 (.pt 6 0) (upd 3 (.pt 14 0) (upd 27 (.v (.bool t27)) noFr)), upd 6 (some (.bx [.v (.int .i64 (if 1000000 < (if (IntKind.i64.wrap ((IntKind.i64.wrap (an t2 31 : Int)) + 5)) < 0 then 0 else (IntKind.i64.wrap ((IntKind.i64.wrap (an t2 31 : Int)) + 5))) then 1000000 else (if (IntKind.i64.wrap ((IntKind.i64.wrap (an t2 31 : Int)) + 5)) < 0 then 0 else (IntKind.i64.wrap ((IntKind.i64.wrap (an t2 31 : Int)) + 5))))), .so 7 0 0 1])) (upd 7 (some (.rw [[.sl []]] 1 0 false false)) (upd 14 (some (.bx [.d (.sl (List.map eGTuple t24.add)) false, .d (.sl (List.map eGTuple t24.drop)) false, .d (.sl (List.map eGTuple t24.must)) false, .d (.sl (List.map eGTuple t24.not_)) false])) noHp)), 15⟩) ?_ ?_
    · refine runR_take tab_ok fol 1 ?_
      obtain ⟨t12, b13, H14⟩ := bind_inv E11
      try simp -implicitDefEqProofs only [go_sem, Nat.reduceEqDiff, Nat.reduceAdd, reduceCtorEq, ↓reduceIte]
      refine onCall_pure (by first | rfl | (simp -implicitDefEqProofs only [go_sem, Int.reduceToNat, Int.reduceLT, Int.reduceLE, Int.reduceBEq, Int.reduceBNe, Nat.reduceLT, Nat.reduceBEq, Int.reduceEq, Nat.reduceEqDiff, Nat.reduceAdd, Nat.reduceSub, Nat.reduceMul, Nat.reduceLeDiff, reduceCtorEq, ↓reduceIte, eGTuple, eGBatch, eStorStore]; done) | (simp -implicitDefEqProofs only [go_sem, Int.reduceToNat, Int.reduceLT, Int.reduceLE, Int.reduceBEq, Int.reduceBNe, Nat.reduceLT, Nat.reduceBEq, Int.reduceEq, Nat.reduceEqDiff, Nat.reduceAdd, Nat.reduceSub, Nat.reduceMul, Nat.reduceLeDiff, reduceCtorEq, ↓reduceIte, eGTuple, eGBatch, eStorStore]; rfl)) (stor_wrong_ok b13) (by first | exact .inr rfl | exact .inl rfl) ?_
      try simp -implicitDefEqProofs only [go_sem, Nat.reduceAdd, ↓reduceIte]
      rcases ite_inv H14 with ⟨c15, H16⟩ | ⟨c15, H16⟩
      · try simp -implicitDefEqProofs only [go_sem, Nat.reduceEqDiff, Nat.reduceAdd, ↓reduceIte, c15]
        obtain rfl := Option.some.inj H16
        exact ⟨⟨true, rfl⟩, ren_mk [(14, 14)] (by rfl) (rf_upd (by rfl) (rf_upd (by rfl) (rf_upd (by rfl) (rf_no _)))) (rh_upd (rh_one (by rfl) (by rfl) (by rfl)) (rh_upd (rh_one (by rfl) (by rfl) (by rfl)) (rh_upd (rh_one (by rfl) (by rfl) (by rfl)) (rh_no _))))⟩
      · obtain ⟨t16, b17, H18⟩ := bind_inv H16
        try simp -implicitDefEqProofs only [go_sem, Nat.reduceEqDiff, Nat.reduceAdd, reduceCtorEq, ↓reduceIte, c15]
        refine onCall_pure (by first | rfl | (simp -implicitDefEqProofs only [go_sem, Int.reduceToNat, Int.reduceLT, Int.reduceLE, Int.reduceBEq, Int.reduceBNe, Nat.reduceLT, Nat.reduceBEq, Int.reduceEq, Nat.reduceEqDiff, Nat.reduceAdd, Nat.reduceSub, Nat.reduceMul, Nat.reduceLeDiff, reduceCtorEq, ↓reduceIte, eGTuple, eGBatch, eStorStore, c15]; done) | (simp -implicitDefEqProofs only [go_sem, Int.reduceToNat, Int.reduceLT, Int.reduceLE, Int.reduceBEq, Int.reduceBNe, Nat.reduceLT, Nat.reduceBEq, Int.reduceEq, Nat.reduceEqDiff, Nat.reduceAdd, Nat.reduceSub, Nat.reduceMul, Nat.reduceLeDiff, reduceCtorEq, ↓reduceIte, eGTuple, eGBatch, eStorStore, c15]; rfl)) (stor_wrong_ok b17) (by first | exact .inr rfl | exact .inl rfl) ?_
        try simp -implicitDefEqProofs only [go_sem, Nat.reduceEqDiff, Nat.reduceAdd, ↓reduceIte]
        rcases ite_inv H18 with ⟨c19, H20⟩ | ⟨c19, H20⟩
        · try simp -implicitDefEqProofs only [go_sem, Nat.reduceEqDiff, Nat.reduceAdd, ↓reduceIte, c19]
          obtain rfl := Option.some.inj H20
          exact ⟨⟨true, rfl⟩, ren_mk [(14, 14)] (by rfl) (rf_upd (by rfl) (rf_upd (by rfl) (rf_upd (by rfl) (rf_no _)))) (rh_upd (rh_one (by rfl) (by rfl) (by rfl)) (rh_upd (rh_one (by rfl) (by rfl) (by rfl)) (rh_upd (rh_one (by rfl) (by rfl) (by rfl)) (rh_no _))))⟩
        · obtain ⟨t21, b21, H22⟩ := bind_inv H20
          try simp -implicitDefEqProofs only [go_sem, Nat.reduceEqDiff, Nat.reduceAdd, reduceCtorEq, ↓reduceIte, c19]
          refine onCall_pure (by first | rfl | (simp -implicitDefEqProofs only [go_sem, Int.reduceToNat, Int.reduceLT, Int.reduceLE, Int.reduceBEq, Int.reduceBNe, Nat.reduceLT, Nat.reduceBEq, Int.reduceEq, Nat.reduceEqDiff, Nat.reduceAdd, Nat.reduceSub, Nat.reduceMul, Nat.reduceLeDiff, reduceCtorEq, ↓reduceIte, eGTuple, eGBatch, eStorStore, c15, c19]; done) | (simp -implicitDefEqProofs only [go_sem, Int.reduceToNat, Int.reduceLT, Int.reduceLE, Int.reduceBEq, Int.reduceBNe, Nat.reduceLT, Nat.reduceBEq, Int.reduceEq, Nat.reduceEqDiff, Nat.reduceAdd, Nat.reduceSub, Nat.reduceMul, Nat.reduceLeDiff, reduceCtorEq, ↓reduceIte, eGTuple, eGBatch, eStorStore, c15, c19]; rfl)) (stor_wrong_ok b21) (by first | exact .inr rfl | exact .inl rfl) ?_
          try simp -implicitDefEqProofs only [go_sem, Nat.reduceEqDiff, Nat.reduceAdd, ↓reduceIte]
          rcases ite_inv H22 with ⟨c23, H24⟩ | ⟨c23, H24⟩
          · try simp -implicitDefEqProofs only [go_sem, Nat.reduceEqDiff, Nat.reduceAdd, ↓reduceIte, c23]
            obtain rfl := Option.some.inj H24
            exact ⟨⟨true, rfl⟩, ren_mk [(14, 14)] (by rfl) (rf_upd (by rfl) (rf_upd (by rfl) (rf_upd (by rfl) (rf_no _)))) (rh_upd (rh_one (by rfl) (by rfl) (by rfl)) (rh_upd (rh_one (by rfl) (by rfl) (by rfl)) (rh_upd (rh_one (by rfl) (by rfl) (by rfl)) (rh_no _))))⟩
          · obtain ⟨t26, b25, H26⟩ := bind_inv H24
            try simp -implicitDefEqProofs only [go_sem, Nat.reduceEqDiff, Nat.reduceAdd, reduceCtorEq, ↓reduceIte, c23]
            refine onCall_pure (by first | rfl | (simp -implicitDefEqProofs only [go_sem, Int.reduceToNat, Int.reduceLT, Int.reduceLE, Int.reduceBEq, Int.reduceBNe, Nat.reduceLT, Nat.reduceBEq, Int.reduceEq, Nat.reduceEqDiff, Nat.reduceAdd, Nat.reduceSub, Nat.reduceMul, Nat.reduceLeDiff, reduceCtorEq, ↓reduceIte, eGTuple, eGBatch, eStorStore, c15, c19, c23]; done) | (simp -implicitDefEqProofs only [go_sem, Int.reduceToNat, Int.reduceLT, Int.reduceLE, Int.reduceBEq, Int.reduceBNe, Nat.reduceLT, Nat.reduceBEq, Int.reduceEq, Nat.reduceEqDiff, Nat.reduceAdd, Nat.reduceSub, Nat.reduceMul, Nat.reduceLeDiff, reduceCtorEq, ↓reduceIte, eGTuple, eGBatch, eStorStore, c15, c19, c23]; rfl)) (stor_wrong_ok b25) (by first | exact .inr rfl | exact .inl rfl) ?_
            try simp -implicitDefEqProofs only [go_sem, Nat.reduceEqDiff, Nat.reduceAdd, ↓reduceIte]
            obtain rfl := Option.some.inj H26
            exact ⟨⟨t26, rfl⟩, ren_mk [(14, 14)] (by rfl) (rf_upd (by rfl) (rf_upd (by rfl) (rf_upd (by rfl) (rf_no _)))) (rh_upd (rh_one (by rfl) (by rfl) (by rfl)) (rh_upd (rh_one (by rfl) (by rfl) (by rfl)) (rh_upd (rh_one (by rfl) (by rfl) (by rfl)) (rh_no _))))⟩
    · rintro ⟨t27, he124⟩
      replace he124 := he124.symm
      subst he124
      try dsimp only at H12
      refine runR_take tab_ok fol 2 ?_
      try simp -implicitDefEqProofs only [go_sem, Nat.reduceEqDiff, reduceCtorEq, ↓reduceIte]
      rcases ite_inv H12 with ⟨c27, H28⟩ | ⟨c27, H28⟩
      · try simp -implicitDefEqProofs only [go_sem, Nat.reduceAdd, c27]
        obtain rfl := Option.some.inj H28
        exact endJ_ret ⟨⟨(2, [[]]), rfl⟩, 0⟩ (ren_mk [] (by rfl) (rf_upd (by rfl) (rf_no _)) (rh_upd (rh_one (by rfl) (by rfl) (by rfl)) (rh_upd (rh_one (by rfl) (by rfl) (by rfl)) (rh_no _))))
      · obtain ⟨t30, b29, H30⟩ := bind_inv H28
        try simp -implicitDefEqProofs only [go_sem, Nat.reduceEqDiff, Nat.reduceAdd, reduceCtorEq, ↓reduceIte, c27]
        refine onCallD_pure (by first | rfl | (simp -implicitDefEqProofs only [go_sem, Int.reduceToNat, Int.reduceLT, Int.reduceLE, Int.reduceBEq, Int.reduceBNe, Nat.reduceLT, Nat.reduceBEq, Int.reduceEq, Nat.reduceEqDiff, Nat.reduceAdd, Nat.reduceSub, Nat.reduceMul, Nat.reduceLeDiff, reduceCtorEq, ↓reduceIte, eGTuple, eGBatch, eStorStore, c27]; done) | (simp -implicitDefEqProofs only [go_sem, Int.reduceToNat, Int.reduceLT, Int.reduceLE, Int.reduceBEq, Int.reduceBNe, Nat.reduceLT, Nat.reduceBEq, Int.reduceEq, Nat.reduceEqDiff, Nat.reduceAdd, Nat.reduceSub, Nat.reduceMul, Nat.reduceLeDiff, reduceCtorEq, ↓reduceIte, eGTuple, eGBatch, eStorStore, c27]; rfl)) (rows_Of_ok b29) (by first | exact .inr rfl | exact .inl rfl) ?_
        obtain ⟨t33, b31, H32⟩ := bind_inv H30
        try simp -implicitDefEqProofs only [go_sem, Nat.reduceEqDiff, Nat.reduceAdd, reduceCtorEq, ↓reduceIte]
        refine onCallD_pure (by first | rfl | (simp -implicitDefEqProofs only [go_sem, Int.reduceToNat, Int.reduceLT, Int.reduceLE, Int.reduceBEq, Int.reduceBNe, Nat.reduceLT, Nat.reduceBEq, Int.reduceEq, Nat.reduceEqDiff, Nat.reduceAdd, Nat.reduceSub, Nat.reduceMul, Nat.reduceLeDiff, reduceCtorEq, ↓reduceIte, eGTuple, eGBatch, eStorStore, c27]; done) | (simp -implicitDefEqProofs only [go_sem, Int.reduceToNat, Int.reduceLT, Int.reduceLE, Int.reduceBEq, Int.reduceBNe, Nat.reduceLT, Nat.reduceBEq, Int.reduceEq, Nat.reduceEqDiff, Nat.reduceAdd, Nat.reduceSub, Nat.reduceMul, Nat.reduceLeDiff, reduceCtorEq, ↓reduceIte, eGTuple, eGBatch, eStorStore, c27]; rfl)) (rows_Of_ok b31) (by first | exact .inr rfl | exact .inl rfl) ?_
        try simp -implicitDefEqProofs only [go_sem, Nat.reduceAdd, reduceCtorEq, ↓reduceIte]
        obtain ⟨t22, E33, H34⟩ := bind_inv H32
        refine onCallD_det (ids' := [6, 7]) (v := .d (.sl (List.map eGTuple t22)) false) (δ := []) (nx' := 37) (fun hp1 h1 => ?_) ?_
        · have e49 : hp1 6 = some (.bx [.v (.int .i64 (if 1000000 < (if (IntKind.i64.wrap ((IntKind.i64.wrap (an t2 31 : Int)) + 5)) < 0 then 0 else (IntKind.i64.wrap ((IntKind.i64.wrap (an t2 31 : Int)) + 5))) then 1000000 else (if (IntKind.i64.wrap ((IntKind.i64.wrap (an t2 31 : Int)) + 5)) < 0 then 0 else (IntKind.i64.wrap ((IntKind.i64.wrap (an t2 31 : Int)) + 5))))), .so 7 0 0 1]) := (h1.1 6 (by simp)).trans (by first | rfl | (simp -implicitDefEqProofs only [go_sem, Int.reduceToNat, Int.reduceLT, Int.reduceLE, Int.reduceBEq, Int.reduceBNe, Nat.reduceLT, Nat.reduceBEq, Int.reduceEq, Nat.reduceEqDiff, Nat.reduceAdd, Nat.reduceSub, Nat.reduceMul, Nat.reduceLeDiff, reduceCtorEq, ↓reduceIte, eGTuple, eGBatch, eStorStore]; done) | (simp -implicitDefEqProofs only [go_sem, Int.reduceToNat, Int.reduceLT, Int.reduceLE, Int.reduceBEq, Int.reduceBNe, Nat.reduceLT, Nat.reduceBEq, Int.reduceEq, Nat.reduceEqDiff, Nat.reduceAdd, Nat.reduceSub, Nat.reduceMul, Nat.reduceLeDiff, reduceCtorEq, ↓reduceIte, eGTuple, eGBatch, eStorStore]; rfl))
          have e50 : hp1 7 = some (.rw [[.sl []]] 1 0 false false) := (h1.1 7 (by simp)).trans (by first | rfl | (simp -implicitDefEqProofs only [go_sem, Int.reduceToNat, Int.reduceLT, Int.reduceLE, Int.reduceBEq, Int.reduceBNe, Nat.reduceLT, Nat.reduceBEq, Int.reduceEq, Nat.reduceEqDiff, Nat.reduceAdd, Nat.reduceSub, Nat.reduceMul, Nat.reduceLeDiff, reduceCtorEq, ↓reduceIte, eGTuple, eGBatch, eStorStore]; done) | (simp -implicitDefEqProofs only [go_sem, Int.reduceToNat, Int.reduceLT, Int.reduceLE, Int.reduceBEq, Int.reduceBNe, Nat.reduceLT, Nat.reduceBEq, Int.reduceEq, Nat.reduceEqDiff, Nat.reduceAdd, Nat.reduceSub, Nat.reduceMul, Nat.reduceLeDiff, reduceCtorEq, ↓reduceIte, eGTuple, eGBatch, eStorStore]; rfl))
          have e51 : upd 6 (some (.bx [.v (.int .i64 (if 1000000 < (if (IntKind.i64.wrap ((IntKind.i64.wrap (an t2 31 : Int)) + 5)) < 0 then 0 else (IntKind.i64.wrap ((IntKind.i64.wrap (an t2 31 : Int)) + 5))) then 1000000 else (if (IntKind.i64.wrap ((IntKind.i64.wrap (an t2 31 : Int)) + 5)) < 0 then 0 else (IntKind.i64.wrap ((IntKind.i64.wrap (an t2 31 : Int)) + 5))))), .so 7 0 0 1])) (upd 7 (some (.rw [[.sl []]] 1 0 false false)) (hp1)) = hp1 := by rw [upd_self e50, upd_self e49]
          rw [← e51]
          refine inl_runR tab_ok Try.func64 rfl (by kernel_rfl) (by kernel_rfl) (by simp [Try.f64]) ?_
          unfold law4_StorWhole_C3_stor_Store_now at E33
          try dsimp only at E33
          refine runR_take tab_ok fol 1 ?_
          obtain ⟨t8, b35, H36⟩ := bind_inv E33
          try simp -implicitDefEqProofs only [go_sem, Nat.reduceAdd, reduceCtorEq, ↓reduceIte]
          refine onCallD_pureA [6, 7] (by intro hp1 h1; have h37 := h1 6 (by simp); have h38 := h1 7 (by simp); (try simp -implicitDefEqProofs only [go_sem, ↓reduceIte] at h37); (try simp -implicitDefEqProofs only [go_sem, Nat.reduceEqDiff, ↓reduceIte] at h38); first | (simp -implicitDefEqProofs only [go_sem, ↓reduceIte, eStorStore, h37, h38]; done) | (simp -implicitDefEqProofs only [go_sem, ↓reduceIte, eStorStore, h37, h38]; rfl)) (PureA.of_pure (stor_Store_Rev_ok b35)) (by first | exact .inr rfl | exact .inl rfl) ?_
          obtain ⟨x, b39, H40⟩ := bind_inv H36
          obtain ⟨h41, h42⟩ := idx_inv b39
          try simp only [Int.reduceToNat, Int.toNat_natCast] at h42
          have h43 := map_at (eL eGTuple) h42
          simp only [List.map_cons, List.map_nil, eL] at h43
          have h44 := at_lt h42
          simp only [List.length_cons, List.length_nil, Nat.reduceAdd] at h44
          try simp -implicitDefEqProofs only [go_sem, Nat.reduceEqDiff, Nat.reduceAdd, ↓reduceIte, nat_of .i64 h41, h43, h44]
          refine Rd_endF (by rfl) ?_
          try simp -implicitDefEqProofs only [go_sem]
          obtain rfl := Option.some.inj H40
          exact end_ret (by first | ((simp -implicitDefEqProofs only [go_sem, ↓reduceIte, Try.f64]) <;> rfl) | rfl) ⟨rfl, rfl, rfl⟩
        try dsimp only at H34
        try simp -implicitDefEqProofs only [go_sem, Nat.reduceEqDiff, Nat.reduceAdd, ↓reduceIte]
        refine Rd_endF (by rfl) ?_
        obtain ⟨t39, b52, H53⟩ := bind_inv H34
        try simp -implicitDefEqProofs only [go_sem, Nat.reduceEqDiff, Nat.reduceAdd, ↓reduceIte]
        refine onCall_pure (by first | rfl | (simp -implicitDefEqProofs only [go_sem, Int.reduceToNat, Int.reduceLT, Int.reduceLE, Int.reduceBEq, Int.reduceBNe, Nat.reduceLT, Nat.reduceBEq, Int.reduceEq, Nat.reduceEqDiff, Nat.reduceAdd, Nat.reduceSub, Nat.reduceMul, Nat.reduceLeDiff, reduceCtorEq, ↓reduceIte, eGTuple, eGBatch, eStorStore]; done) | (simp -implicitDefEqProofs only [go_sem, Int.reduceToNat, Int.reduceLT, Int.reduceLE, Int.reduceBEq, Int.reduceBNe, Nat.reduceLT, Nat.reduceBEq, Int.reduceEq, Nat.reduceEqDiff, Nat.reduceAdd, Nat.reduceSub, Nat.reduceMul, Nat.reduceLeDiff, reduceCtorEq, ↓reduceIte, eGTuple, eGBatch, eStorStore]; rfl)) (rows_Minus_ok b52) (by first | exact .inr rfl | exact .inl rfl) ?_
        obtain ⟨t41, b54, H55⟩ := bind_inv H53
        try simp -implicitDefEqProofs only [go_sem, Nat.reduceEqDiff, Nat.reduceAdd, ↓reduceIte]
        refine onCall_pure (by first | rfl | (simp -implicitDefEqProofs only [go_sem, Int.reduceToNat, Int.reduceLT, Int.reduceLE, Int.reduceBEq, Int.reduceBNe, Nat.reduceLT, Nat.reduceBEq, Int.reduceEq, Nat.reduceEqDiff, Nat.reduceAdd, Nat.reduceSub, Nat.reduceMul, Nat.reduceLeDiff, reduceCtorEq, ↓reduceIte, eGTuple, eGBatch, eStorStore]; done) | (simp -implicitDefEqProofs only [go_sem, Int.reduceToNat, Int.reduceLT, Int.reduceLE, Int.reduceBEq, Int.reduceBNe, Nat.reduceLT, Nat.reduceBEq, Int.reduceEq, Nat.reduceEqDiff, Nat.reduceAdd, Nat.reduceSub, Nat.reduceMul, Nat.reduceLeDiff, reduceCtorEq, ↓reduceIte, eGTuple, eGBatch, eStorStore]; rfl)) (rows_Plus_ok b54) (by first | exact .inr rfl | exact .inl rfl) ?_
        obtain ⟨t45, b56, H57⟩ := bind_inv H55
        try simp -implicitDefEqProofs only [go_sem, Nat.reduceEqDiff, Nat.reduceAdd, ↓reduceIte]
        refine onCall_pure (by first | rfl | (simp -implicitDefEqProofs only [go_sem, Int.reduceToNat, Int.reduceLT, Int.reduceLE, Int.reduceBEq, Int.reduceBNe, Nat.reduceLT, Nat.reduceBEq, Int.reduceEq, Nat.reduceEqDiff, Nat.reduceAdd, Nat.reduceSub, Nat.reduceMul, Nat.reduceLeDiff, reduceCtorEq, ↓reduceIte, eGTuple, eGBatch, eStorStore]; done) | (simp -implicitDefEqProofs only [go_sem, Int.reduceToNat, Int.reduceLT, Int.reduceLE, Int.reduceBEq, Int.reduceBNe, Nat.reduceLT, Nat.reduceBEq, Int.reduceEq, Nat.reduceEqDiff, Nat.reduceAdd, Nat.reduceSub, Nat.reduceMul, Nat.reduceLeDiff, reduceCtorEq, ↓reduceIte, eGTuple, eGBatch, eStorStore]; rfl)) (rows_Minus_ok b56) (by first | exact .inr rfl | exact .inl rfl) ?_
        try simp -implicitDefEqProofs only [go_sem, Nat.reduceEqDiff, Nat.reduceAdd, ↓reduceIte]
        rcases ite_inv H57 with ⟨c58, H59⟩ | ⟨c58, H59⟩
        · try simp -implicitDefEqProofs only [go_sem, Nat.reduceAdd, c58]
          obtain rfl := Option.some.inj H59
          exact endJ_ret ⟨⟨(6, [[]]), rfl⟩, 0⟩ (ren_mk [] (by rfl) (rf_upd (by rfl) (rf_no _)) (rh_upd (rh_one (by rfl) (by rfl) (by rfl)) (rh_upd (rh_one (by rfl) (by rfl) (by rfl)) (rh_no _))))
        · try simp -implicitDefEqProofs only [go_sem, Nat.reduceEqDiff, Nat.reduceAdd, reduceCtorEq, ↓reduceIte, c58]
          obtain ⟨e_5, E60, H61⟩ := bind_inv H59
          refine onCall_inl (InlOK.mono (inl_runRJ (α := { y : Bool // e_5 = y }) tab_ok Try.func67 rfl (by kernel_rfl) (by kernel_rfl) (by simp [Try.f67]) (fun | ⟨t42, _⟩ => ⟨upd 4 (.v (.bool t42)) noFr, upd 6 (some (.bx [.v (.int .i64 (if 1000000 < (if (IntKind.i64.wrap ((IntKind.i64.wrap (an t2 31 : Int)) + 5)) < 0 then 0 else (IntKind.i64.wrap ((IntKind.i64.wrap (an t2 31 : Int)) + 5))) then 1000000 else (if (IntKind.i64.wrap ((IntKind.i64.wrap (an t2 31 : Int)) + 5)) < 0 then 0 else (IntKind.i64.wrap ((IntKind.i64.wrap (an t2 31 : Int)) + 5))))), .so 7 0 0 1])) (upd 7 (some (.rw [[.sl []]] 1 0 false false)) (upd 14 (some (.bx [.d (.sl (List.map eGTuple t24.add)) false, .d (.sl (List.map eGTuple t24.drop)) false, .d (.sl (List.map eGTuple t24.must)) false, .d (.sl (List.map eGTuple t24.not_)) false])) (upd 23 (some (.bx [.d (.sl (List.map eGTuple t22)) false])) (upd 38 (some (.bx [.fn 66 [.pt 23 0]])) noHp)))), 59⟩) (fun | ⟨t42, _⟩ => .v (.bool t42)) (by rintro ⟨t42, he108⟩; first | ((simp -implicitDefEqProofs only [go_sem, ↓reduceIte, Try.f67]) <;> rfl) | rfl) ?_) ?_)
          · unfold law4_StorWhole_C4_slices_ContainsFunc_Tuple at E60
            try dsimp only at E60
            refine runR_take tab_ok fol 1 ?_
            try simp -implicitDefEqProofs only [go_sem, Nat.reduceEqDiff, Nat.reduceAdd, reduceCtorEq, ↓reduceIte]
            obtain ⟨e_6, E62, H63⟩ := bind_inv E60
            refine onCall_inl (InlOK.mono (inl_runRJ (α := { y : Int // e_6 = y }) tab_ok Try.func81 rfl (by kernel_rfl) (by kernel_rfl) (by simp [Try.f81]) (fun | ⟨t4, _⟩ => ⟨upd 4 (.v (.int .i64 t4)) noFr, upd 6 (some (.bx [.v (.int .i64 (if 1000000 < (if (IntKind.i64.wrap ((IntKind.i64.wrap (an t2 31 : Int)) + 5)) < 0 then 0 else (IntKind.i64.wrap ((IntKind.i64.wrap (an t2 31 : Int)) + 5))) then 1000000 else (if (IntKind.i64.wrap ((IntKind.i64.wrap (an t2 31 : Int)) + 5)) < 0 then 0 else (IntKind.i64.wrap ((IntKind.i64.wrap (an t2 31 : Int)) + 5))))), .so 7 0 0 1])) (upd 7 (some (.rw [[.sl []]] 1 0 false false)) (upd 14 (some (.bx [.d (.sl (List.map eGTuple t24.add)) false, .d (.sl (List.map eGTuple t24.drop)) false, .d (.sl (List.map eGTuple t24.must)) false, .d (.sl (List.map eGTuple t24.not_)) false])) (upd 23 (some (.bx [.d (.sl (List.map eGTuple t22)) false])) (upd 38 (some (.bx [.fn 66 [.pt 23 0]])) noHp)))), 65⟩) (fun | ⟨t4, _⟩ => .v (.int .i64 t4)) (by rintro ⟨t4, he104⟩; first | ((simp -implicitDefEqProofs only [go_sem, ↓reduceIte, Try.f81]) <;> rfl) | rfl) ?_) ?_)
            · unfold law4_StorWhole_C5_slices_IndexFunc_Tuple at E62
              try dsimp only at E62
              refine runR_seq ?_
              refine runR_take tab_ok fol 1 ?_
              try simp -implicitDefEqProofs only [go_sem, Nat.reduceAdd]
              refine runR_seq ?_
              refine runR_seq ?_
              refine runR_take tab_ok fol 1 ?_
              try simp -implicitDefEqProofs only [go_sem, Nat.reduceAdd, reduceCtorEq, ↓reduceIte]
              obtain ⟨e_7, E64, H65⟩ := bind_inv E62
              refine runR_join (α := { y : Unit // e_7 = .inl y }) (fun | ⟨_, _⟩ => ⟨noFr, upd 6 (some (.bx [.v (.int .i64 (if 1000000 < (if (IntKind.i64.wrap ((IntKind.i64.wrap (an t2 31 : Int)) + 5)) < 0 then 0 else (IntKind.i64.wrap ((IntKind.i64.wrap (an t2 31 : Int)) + 5))) then 1000000 else (if (IntKind.i64.wrap ((IntKind.i64.wrap (an t2 31 : Int)) + 5)) < 0 then 0 else (IntKind.i64.wrap ((IntKind.i64.wrap (an t2 31 : Int)) + 5))))), .so 7 0 0 1])) (upd 7 (some (.rw [[.sl []]] 1 0 false false)) (upd 14 (some (.bx [.d (.sl (List.map eGTuple t24.add)) false, .d (.sl (List.map eGTuple t24.drop)) false, .d (.sl (List.map eGTuple t24.must)) false, .d (.sl (List.map eGTuple t24.not_)) false])) (upd 23 (some (.bx [.d (.sl (List.map eGTuple t22)) false])) (upd 38 (some (.bx [.fn 66 [.pt 23 0]])) noHp)))), 65⟩) ?_ ?_
              · refine runR_block ?_
                refine runR_loop (α := { q : Nat × Int // law4_StorWhole_L1 n t24 t22 q.1 q.2 = some e_7 }) (fun | ⟨⟨c, t82⟩, _⟩ => ⟨upd 0 (.d (.sl (List.map eGTuple t24.must)) false) (upd 1 (.fn 68 [.pt 38 0]) (upd 7 (.v (.int .i64 (t24.must.length : Int))) (upd 8 (.v (.int .i64 t82)) noFr))), upd 6 (some (.bx [.v (.int .i64 (if 1000000 < (if (IntKind.i64.wrap ((IntKind.i64.wrap (an t2 31 : Int)) + 5)) < 0 then 0 else (IntKind.i64.wrap ((IntKind.i64.wrap (an t2 31 : Int)) + 5))) then 1000000 else (if (IntKind.i64.wrap ((IntKind.i64.wrap (an t2 31 : Int)) + 5)) < 0 then 0 else (IntKind.i64.wrap ((IntKind.i64.wrap (an t2 31 : Int)) + 5))))), .so 7 0 0 1])) (upd 7 (some (.rw [[.sl []]] 1 0 false false)) (upd 14 (some (.bx [.d (.sl (List.map eGTuple t24.add)) false, .d (.sl (List.map eGTuple t24.drop)) false, .d (.sl (List.map eGTuple t24.must)) false, .d (.sl (List.map eGTuple t24.not_)) false])) (upd 23 (some (.bx [.d (.sl (List.map eGTuple t22)) false])) (upd 38 (some (.bx [.fn 66 [.pt 23 0]])) noHp)))), 65⟩) (fun q => q.1.1) ⟨(n, 0), E64⟩ ?_ ?_
                · exact ren_mk [] (by rfl) (rf_upd (by rfl) (rf_upd (by rfl) (rf_upd (by rfl) (rf_upd (by rfl) (rf_no _))))) (rh_upd (rh_one (by rfl) (by rfl) (by rfl)) (rh_upd (rh_one (by rfl) (by rfl) (by rfl)) (rh_upd (rh_one (by rfl) (by rfl) (by rfl)) (rh_upd (rh_one (by rfl) (by rfl) (by rfl)) (rh_upd (rh_one (by rfl) (by rfl) (by rfl)) (rh_no _))))))
                · rintro ⟨⟨c, t82⟩, L66⟩
                  rcases c with _ | c
                  · exact nomatch (show none = some _ from L66)
                  · unfold law4_StorWhole_L1 at L66
                    try dsimp only at L66
                    refine runR_take tab_ok fol 1 ?_
                    try simp -implicitDefEqProofs only [go_sem, Nat.reduceEqDiff, Nat.reduceAdd, reduceCtorEq, ↓reduceIte]
                    rcases ite_inv L66 with ⟨c85, H86⟩ | ⟨c85, H86⟩
                    · obtain ⟨x3, b87, H88⟩ := bind_inv H86
                      obtain ⟨h89, h90⟩ := idx_inv b87
                      try simp only [Int.reduceToNat, Int.toNat_natCast] at h90
                      have h91 := map_at eGTuple h90
                      try simp -implicitDefEqProofs only [go_sem, Nat.reduceEqDiff, Nat.reduceAdd, reduceCtorEq, ↓reduceIte, eGTuple, c85, nat_of .i64 h89, h91]
                      obtain ⟨e_9, E93, H94⟩ := bind_inv H88
                      refine onCall_inl (InlOK.mono (inl_runRJ (α := { y : Bool // e_9 = y }) tab_ok Try.func68 rfl (by kernel_rfl) (by kernel_rfl) (by simp [Try.f68]) (fun | ⟨t32, _⟩ => ⟨upd 3 (.v (.bool t32)) noFr, upd 6 (some (.bx [.v (.int .i64 (if 1000000 < (if (IntKind.i64.wrap ((IntKind.i64.wrap (an t2 31 : Int)) + 5)) < 0 then 0 else (IntKind.i64.wrap ((IntKind.i64.wrap (an t2 31 : Int)) + 5))) then 1000000 else (if (IntKind.i64.wrap ((IntKind.i64.wrap (an t2 31 : Int)) + 5)) < 0 then 0 else (IntKind.i64.wrap ((IntKind.i64.wrap (an t2 31 : Int)) + 5))))), .so 7 0 0 1])) (upd 7 (some (.rw [[.sl []]] 1 0 false false)) (upd 14 (some (.bx [.d (.sl (List.map eGTuple t24.add)) false, .d (.sl (List.map eGTuple t24.drop)) false, .d (.sl (List.map eGTuple t24.must)) false, .d (.sl (List.map eGTuple t24.not_)) false])) (upd 23 (some (.bx [.d (.sl (List.map eGTuple t22)) false])) (upd 38 (some (.bx [.fn 66 [.pt 23 0]])) noHp)))), 74⟩) (fun | ⟨t32, _⟩ => .v (.bool t32)) (by rintro ⟨t32, he97⟩; first | ((simp -implicitDefEqProofs only [go_sem, ↓reduceIte, Try.f68]) <;> rfl) | rfl) ?_) ?_)
                      · unfold law4_StorWhole_C6_stor_Store_Write_c2 at E93
                        try dsimp only at E93
                        refine runR_take tab_ok fol 1 ?_
                        obtain ⟨t62, b95, H96⟩ := bind_inv E93
                        try simp -implicitDefEqProofs only [go_sem, Nat.reduceEqDiff, Nat.reduceAdd, ↓reduceIte]
                        refine onCall_pureA (by first | rfl | (simp -implicitDefEqProofs only [go_sem, Int.reduceToNat, Int.reduceLT, Int.reduceLE, Int.reduceBEq, Int.reduceBNe, Nat.reduceLT, Nat.reduceBEq, Int.reduceEq, Nat.reduceEqDiff, Nat.reduceAdd, Nat.reduceSub, Nat.reduceMul, Nat.reduceLeDiff, reduceCtorEq, ↓reduceIte, eGTuple, eGBatch, eStorStore]; done) | (simp -implicitDefEqProofs only [go_sem, Int.reduceToNat, Int.reduceLT, Int.reduceLE, Int.reduceBEq, Int.reduceBNe, Nat.reduceLT, Nat.reduceBEq, Int.reduceEq, Nat.reduceEqDiff, Nat.reduceAdd, Nat.reduceSub, Nat.reduceMul, Nat.reduceLeDiff, reduceCtorEq, ↓reduceIte, eGTuple, eGBatch, eStorStore]; rfl)) (PureA.of_pure (stor_Store_Write_c1_ok b95)) (by first | exact .inr rfl | exact .inl rfl) ?_
                        try simp -implicitDefEqProofs only [go_sem, Nat.reduceAdd, ↓reduceIte]
                        obtain rfl := Option.some.inj H96
                        exact endJ_ret ⟨(!t62), rfl⟩ (ren_mk [] (by rfl) (rf_upd (by rfl) (rf_no _)) (rh_upd (rh_one (by rfl) (by rfl) (by rfl)) (rh_upd (rh_one (by rfl) (by rfl) (by rfl)) (rh_upd (rh_one (by rfl) (by rfl) (by rfl)) (rh_upd (rh_one (by rfl) (by rfl) (by rfl)) (rh_upd (rh_one (by rfl) (by rfl) (by rfl)) (rh_no _)))))))
                      rintro v98 hp99 nx100 ⟨⟨t32, he97⟩, rfl, rfl, rfl⟩
                      replace he97 := he97.symm
                      subst he97
                      try dsimp only at H94
                      dsimp only
                      try simp -implicitDefEqProofs only [go_sem, ↓reduceIte]
                      rcases ite_inv H94 with ⟨c101, H102⟩ | ⟨c101, H102⟩
                      · try simp -implicitDefEqProofs only [go_sem, Nat.reduceEqDiff, Nat.reduceAdd, ↓reduceIte, c101]
                        obtain rfl := Option.some.inj H102
                        obtain rfl := Option.some.inj H65
                        exact endJ_ret ⟨t82, rfl⟩ (ren_mk [] (by rfl) (rf_upd (by rfl) (rf_no _)) (rh_upd (rh_one (by rfl) (by rfl) (by rfl)) (rh_upd (rh_one (by rfl) (by rfl) (by rfl)) (rh_upd (rh_one (by rfl) (by rfl) (by rfl)) (rh_upd (rh_one (by rfl) (by rfl) (by rfl)) (rh_upd (rh_one (by rfl) (by rfl) (by rfl)) (rh_no _)))))))
                      · try simp -implicitDefEqProofs only [go_sem, Nat.reduceEqDiff, Nat.reduceAdd, reduceCtorEq, ↓reduceIte, c101]
                        exact ⟨⟨(c, (IntKind.i64.wrap (t82 + 1))), H102⟩, ren_mk [] (by rfl) (rf_upd (by rfl) (rf_upd (by rfl) (rf_upd (by rfl) (rf_upd (by rfl) (rf_no _))))) (rh_upd (rh_one (by rfl) (by rfl) (by rfl)) (rh_upd (rh_one (by rfl) (by rfl) (by rfl)) (rh_upd (rh_one (by rfl) (by rfl) (by rfl)) (rh_upd (rh_one (by rfl) (by rfl) (by rfl)) (rh_upd (rh_one (by rfl) (by rfl) (by rfl)) (rh_no _)))))), Nat.lt_succ_self _⟩
                    · try simp -implicitDefEqProofs only [go_sem, ↓reduceIte, c85]
                      obtain rfl := Option.some.inj H86
                      exact ⟨⟨(), rfl⟩, ren_mk [] (by rfl) (rf_no _) (rh_upd (rh_one (by rfl) (by rfl) (by rfl)) (rh_upd (rh_one (by rfl) (by rfl) (by rfl)) (rh_upd (rh_one (by rfl) (by rfl) (by rfl)) (rh_upd (rh_one (by rfl) (by rfl) (by rfl)) (rh_upd (rh_one (by rfl) (by rfl) (by rfl)) (rh_no _))))))⟩
              · rintro ⟨_, he103⟩
                replace he103 := he103.symm
                subst he103
                try dsimp only at H65
                refine runR_take tab_ok fol 1 ?_
                try simp -implicitDefEqProofs only [go_sem, Nat.reduceAdd]
                obtain rfl := Option.some.inj H65
                exact endJ_ret ⟨(-1), rfl⟩ (ren_mk [] (by rfl) (rf_upd (by rfl) (rf_no _)) (rh_upd (rh_one (by rfl) (by rfl) (by rfl)) (rh_upd (rh_one (by rfl) (by rfl) (by rfl)) (rh_upd (rh_one (by rfl) (by rfl) (by rfl)) (rh_upd (rh_one (by rfl) (by rfl) (by rfl)) (rh_upd (rh_one (by rfl) (by rfl) (by rfl)) (rh_no _)))))))
            rintro v105 hp106 nx107 ⟨⟨t4, he104⟩, rfl, rfl, rfl⟩
            replace he104 := he104.symm
            subst he104
            try dsimp only at H63
            dsimp only
            try simp -implicitDefEqProofs only [go_sem, Nat.reduceAdd, ↓reduceIte]
            obtain rfl := Option.some.inj H63
            exact endJ_ret ⟨(decide (0 ≤ t4)), rfl⟩ (ren_mk [] (by rfl) (rf_upd (by rfl) (rf_no _)) (rh_upd (rh_one (by rfl) (by rfl) (by rfl)) (rh_upd (rh_one (by rfl) (by rfl) (by rfl)) (rh_upd (rh_one (by rfl) (by rfl) (by rfl)) (rh_upd (rh_one (by rfl) (by rfl) (by rfl)) (rh_upd (rh_one (by rfl) (by rfl) (by rfl)) (rh_no _)))))))
          rintro v109 hp110 nx111 ⟨⟨t42, he108⟩, rfl, rfl, rfl⟩
          replace he108 := he108.symm
          subst he108
          try dsimp only at H61
          dsimp only
          try simp -implicitDefEqProofs only [go_sem, Nat.reduceAdd, ↓reduceIte]
          rcases ite_inv H61 with ⟨c112, H113⟩ | ⟨c112, H113⟩
          · try simp -implicitDefEqProofs only [go_sem, Nat.reduceAdd, c112]
            obtain rfl := Option.some.inj H113
            exact endJ_ret ⟨⟨(4, [[]]), rfl⟩, 0⟩ (ren_mk [] (by rfl) (rf_upd (by rfl) (rf_no _)) (rh_upd (rh_one (by rfl) (by rfl) (by rfl)) (rh_upd (rh_one (by rfl) (by rfl) (by rfl)) (rh_no _))))
          · obtain ⟨t59, b114, H115⟩ := bind_inv H113
            try simp -implicitDefEqProofs only [go_sem, Nat.reduceEqDiff, Nat.reduceAdd, reduceCtorEq, ↓reduceIte, c112]
            refine onCall_pureA (by first | rfl | (simp -implicitDefEqProofs only [go_sem, Int.reduceToNat, Int.reduceLT, Int.reduceLE, Int.reduceBEq, Int.reduceBNe, Nat.reduceLT, Nat.reduceBEq, Int.reduceEq, Nat.reduceEqDiff, Nat.reduceAdd, Nat.reduceSub, Nat.reduceMul, Nat.reduceLeDiff, reduceCtorEq, ↓reduceIte, eGTuple, eGBatch, eStorStore, c112]; done) | (simp -implicitDefEqProofs only [go_sem, Int.reduceToNat, Int.reduceLT, Int.reduceLE, Int.reduceBEq, Int.reduceBNe, Nat.reduceLT, Nat.reduceBEq, Int.reduceEq, Nat.reduceEqDiff, Nat.reduceAdd, Nat.reduceSub, Nat.reduceMul, Nat.reduceLeDiff, reduceCtorEq, ↓reduceIte, eGTuple, eGBatch, eStorStore, c112]; rfl)) (slices_ContainsFunc_Tuple__stor_Store_Write_c1_ok b114) (by first | exact .inr rfl | exact .inl rfl) ?_
            try simp -implicitDefEqProofs only [go_sem, Nat.reduceAdd, ↓reduceIte]
            rcases ite_inv H115 with ⟨c116, H117⟩ | ⟨c116, H117⟩
            · try simp -implicitDefEqProofs only [go_sem, Nat.reduceAdd, c116]
              obtain rfl := Option.some.inj H117
              exact endJ_ret ⟨⟨(3, [[]]), rfl⟩, 0⟩ (ren_mk [] (by rfl) (rf_upd (by rfl) (rf_no _)) (rh_upd (rh_one (by rfl) (by rfl) (by rfl)) (rh_upd (rh_one (by rfl) (by rfl) (by rfl)) (rh_no _))))
            · try simp -implicitDefEqProofs only [go_sem, Nat.reduceEqDiff, Nat.reduceAdd, reduceCtorEq, ↓reduceIte, c116]
              rcases ite_inv H117 with ⟨c118, H119⟩ | ⟨c118, H119⟩
              · try simp -implicitDefEqProofs only [go_sem, Nat.reduceAdd, c118]
                obtain rfl := Option.some.inj H119
                exact endJ_ret ⟨⟨(5, [[]]), rfl⟩, 0⟩ (ren_mk [] (by rfl) (rf_upd (by rfl) (rf_no _)) (rh_upd (rh_one (by rfl) (by rfl) (by rfl)) (rh_upd (rh_one (by rfl) (by rfl) (by rfl)) (rh_no _))))
              · obtain ⟨t70, b120, H121⟩ := bind_inv H119
                try simp -implicitDefEqProofs only [go_sem, Nat.reduceEqDiff, Nat.reduceAdd, ↓reduceIte, c118]
                refine onCall_pure (by first | rfl | (simp -implicitDefEqProofs only [go_sem, Int.reduceToNat, Int.reduceLT, Int.reduceLE, Int.reduceBEq, Int.reduceBNe, Nat.reduceLT, Nat.reduceBEq, Int.reduceEq, Nat.reduceEqDiff, Nat.reduceAdd, Nat.reduceSub, Nat.reduceMul, Nat.reduceLeDiff, reduceCtorEq, ↓reduceIte, eGTuple, eGBatch, eStorStore, c112, c116, c118]; done) | (simp -implicitDefEqProofs only [go_sem, Int.reduceToNat, Int.reduceLT, Int.reduceLE, Int.reduceBEq, Int.reduceBNe, Nat.reduceLT, Nat.reduceBEq, Int.reduceEq, Nat.reduceEqDiff, Nat.reduceAdd, Nat.reduceSub, Nat.reduceMul, Nat.reduceLeDiff, reduceCtorEq, ↓reduceIte, eGTuple, eGBatch, eStorStore, c112, c116, c118]; rfl)) (slices_Equal_Tuple_ok b120) (by first | exact .inr rfl | exact .inl rfl) ?_
                try simp -implicitDefEqProofs only [go_sem, Nat.reduceAdd, ↓reduceIte]
                rcases ite_inv H121 with ⟨c122, H123⟩ | ⟨c122, H123⟩
                · try simp -implicitDefEqProofs only [go_sem, Nat.reduceAdd, c122]
                  obtain rfl := Option.some.inj H123
                  exact endJ_ret ⟨⟨(0, [[]]), rfl⟩, 0⟩ (ren_mk [] (by rfl) (rf_upd (by rfl) (rf_no _)) (rh_upd (rh_one (by rfl) (by rfl) (by rfl)) (rh_upd (rh_one (by rfl) (by rfl) (by rfl)) (rh_no _))))
                · try simp -implicitDefEqProofs only [go_sem, Nat.reduceLT, Nat.reduceEqDiff, Nat.reduceAdd, Nat.reduceLeDiff, reduceCtorEq, ↓reduceIte, c122]
                  obtain rfl := Option.some.inj H123
                  exact endJ_ret ⟨⟨(0, [[], t41]), rfl⟩, 1⟩ (ren_mk [] (by rfl) (rf_upd (by rfl) (rf_no _)) (rh_upd (rh_one (by rfl) (by rfl) (by rfl)) (rh_upd (rh_one (by rfl) (by rfl) (by rfl)) (rh_no _))))
  rintro v126 hp127 nx128 ⟨⟨⟨⟨t43, o61⟩, he125⟩, g⟩, rfl, rfl, rfl⟩
  replace he125 := he125.symm
  subst he125
  try dsimp only at H10
  dsimp only
  try simp -implicitDefEqProofs only [go_sem]
  refine runR_seq ?_
  refine runR_take tab_ok fol 1 ?_
  obtain ⟨t272, b129, H130⟩ := bind_inv H10
  try simp -implicitDefEqProofs only [go_sem, Nat.reduceEqDiff, Nat.reduceAdd, ↓reduceIte]
  refine onCall_pureA (by first | rfl | (simp -implicitDefEqProofs only [go_sem, Nat.reduceEqDiff, ↓reduceIte, eStorStore]; done) | (simp -implicitDefEqProofs only [go_sem, Nat.reduceEqDiff, ↓reduceIte, eStorStore]; rfl)) (PureA.of_pure (stor_Store_All_ok b129)) (by first | exact .inr rfl | exact .inl rfl) ?_
  obtain ⟨t29, b131, H132⟩ := bind_inv H130
  try simp -implicitDefEqProofs only [go_sem, Nat.reduceEqDiff, Nat.reduceAdd, ↓reduceIte]
  refine onCall_pureA (by first | rfl | (simp -implicitDefEqProofs only [go_sem, Nat.reduceEqDiff, ↓reduceIte, eStorStore]; done) | (simp -implicitDefEqProofs only [go_sem, Nat.reduceEqDiff, ↓reduceIte, eStorStore]; rfl)) (PureA.of_pure (stor_Store_Rev_ok b131)) (by first | exact .inr rfl | exact .inl rfl) ?_
  try simp -implicitDefEqProofs only [go_sem, Nat.reduceEqDiff, Nat.reduceAdd, ↓reduceIte]
  refine runR_seq ?_
  refine runR_take tab_ok fol 1 ?_
  obtain ⟨t31, b133, H134⟩ := bind_inv H132
  try simp -implicitDefEqProofs only [go_sem, Nat.reduceEqDiff, Nat.reduceAdd, ↓reduceIte]
  refine onCall_pure (by first | rfl | (simp -implicitDefEqProofs only [go_sem, Int.reduceToNat, Int.reduceLT, Int.reduceLE, Int.reduceBEq, Int.reduceBNe, Nat.reduceLT, Nat.reduceBEq, Int.reduceEq, Nat.reduceEqDiff, Nat.reduceAdd, Nat.reduceSub, Nat.reduceMul, Nat.reduceLeDiff, reduceCtorEq, ↓reduceIte, eGTuple, eGBatch, eStorStore]; done) | (simp -implicitDefEqProofs only [go_sem, Int.reduceToNat, Int.reduceLT, Int.reduceLE, Int.reduceBEq, Int.reduceBNe, Nat.reduceLT, Nat.reduceBEq, Int.reduceEq, Nat.reduceEqDiff, Nat.reduceAdd, Nat.reduceSub, Nat.reduceMul, Nat.reduceLeDiff, reduceCtorEq, ↓reduceIte, eGTuple, eGBatch, eStorStore]; rfl)) (law4_Batch_ok b133) (by first | exact .inr rfl | exact .inl rfl) ?_
  try simp -implicitDefEqProofs only [go_sem, Nat.reduceEqDiff, Nat.reduceAdd, ↓reduceIte, eGBatch]
  refine runR_seq ?_
  refine runR_take tab_ok fol 1 ?_
  try simp -implicitDefEqProofs only [go_sem, Nat.reduceEqDiff, Nat.reduceAdd, ↓reduceIte]
  obtain ⟨e_10, E135, H136⟩ := bind_inv H134
  refine onCall_inl (InlOK.mono (inl_runRJ (α := { y : Int × List (List GTuple) // e_10 = y } × Nat) tab_ok Try.func32 rfl (by kernel_rfl) (by kernel_rfl) (by simp [Try.f32]) (fun | ⟨⟨⟨t47, o612⟩, _⟩, g2⟩ => ⟨upd 4 (.v (.int .i64 t47)) noFr, upd 6 (some (.bx [.v (.int .i64 (if 1000000 < (if (IntKind.i64.wrap ((IntKind.i64.wrap (an t2 31 : Int)) + 5)) < 0 then 0 else (IntKind.i64.wrap ((IntKind.i64.wrap (an t2 31 : Int)) + 5))) then 1000000 else (if (IntKind.i64.wrap ((IntKind.i64.wrap (an t2 31 : Int)) + 5)) < 0 then 0 else (IntKind.i64.wrap ((IntKind.i64.wrap (an t2 31 : Int)) + 5))))), .so 7 g2 0 (o612.length)])) (upd 7 (some (.rw (List.map (eL eGTuple) o612) 1 g2 false false)) (upd 22 (some (.bx [.d (.sl (List.map eGTuple t31.add)) false, .d (.sl (List.map eGTuple t31.drop)) false, .d (.sl (List.map eGTuple t31.must)) false, .d (.sl (List.map eGTuple t31.not_)) false])) noHp)), 28⟩) (fun | ⟨⟨⟨t47, o612⟩, _⟩, g2⟩ => .v (.int .i64 t47)) (by rintro ⟨⟨⟨t47, o612⟩, he259⟩, g2⟩; first | ((simp -implicitDefEqProofs only [go_sem, ↓reduceIte, Try.f32]) <;> rfl) | rfl) ?_) ?_)
  · unfold law4_StorWhole_C7_stor_Store_Write at E135
    try dsimp only at E135
    refine runR_seq ?_
    refine runR_take tab_ok fol 1 ?_
    try simp -implicitDefEqProofs only [go_sem, Nat.reduceAdd]
    refine runR_seq ?_
    refine runR_seq ?_
    obtain ⟨e_11, E137, H138⟩ := bind_inv E135
    refine runR_join (α := { y : Bool // e_11 = y }) (fun | ⟨t273, _⟩ => ⟨upd 0 (.pt 6 0) (upd 3 (.pt 28 0) (upd 27 (.v (.bool t273)) noFr)), upd 6 (some (.bx [.v (.int .i64 (if 1000000 < (if (IntKind.i64.wrap ((IntKind.i64.wrap (an t2 31 : Int)) + 5)) < 0 then 0 else (IntKind.i64.wrap ((IntKind.i64.wrap (an t2 31 : Int)) + 5))) then 1000000 else (if (IntKind.i64.wrap ((IntKind.i64.wrap (an t2 31 : Int)) + 5)) < 0 then 0 else (IntKind.i64.wrap ((IntKind.i64.wrap (an t2 31 : Int)) + 5))))), .so 7 g 0 (o61.length)])) (upd 7 (some (.rw (List.map (eL eGTuple) o61) 1 g false false)) (upd 22 (some (.bx [.d (.sl (List.map eGTuple t31.add)) false, .d (.sl (List.map eGTuple t31.drop)) false, .d (.sl (List.map eGTuple t31.must)) false, .d (.sl (List.map eGTuple t31.not_)) false])) (upd 28 (some (.bx [.d (.sl (List.map eGTuple t31.add)) false, .d (.sl (List.map eGTuple t31.drop)) false, .d (.sl (List.map eGTuple t31.must)) false, .d (.sl (List.map eGTuple t31.not_)) false])) noHp))), 29⟩) ?_ ?_
    · refine runR_take tab_ok fol 1 ?_
      obtain ⟨t122, b139, H140⟩ := bind_inv E137
      try simp -implicitDefEqProofs only [go_sem, Nat.reduceEqDiff, Nat.reduceAdd, reduceCtorEq, ↓reduceIte]
      refine onCall_pure (by first | rfl | (simp -implicitDefEqProofs only [go_sem, Int.reduceToNat, Int.reduceLT, Int.reduceLE, Int.reduceBEq, Int.reduceBNe, Nat.reduceLT, Nat.reduceBEq, Int.reduceEq, Nat.reduceEqDiff, Nat.reduceAdd, Nat.reduceSub, Nat.reduceMul, Nat.reduceLeDiff, reduceCtorEq, ↓reduceIte, eGTuple, eGBatch, eStorStore]; done) | (simp -implicitDefEqProofs only [go_sem, Int.reduceToNat, Int.reduceLT, Int.reduceLE, Int.reduceBEq, Int.reduceBNe, Nat.reduceLT, Nat.reduceBEq, Int.reduceEq, Nat.reduceEqDiff, Nat.reduceAdd, Nat.reduceSub, Nat.reduceMul, Nat.reduceLeDiff, reduceCtorEq, ↓reduceIte, eGTuple, eGBatch, eStorStore]; rfl)) (stor_wrong_ok b139) (by first | exact .inr rfl | exact .inl rfl) ?_
      try simp -implicitDefEqProofs only [go_sem, Nat.reduceAdd, ↓reduceIte]
      rcases ite_inv H140 with ⟨c141, H142⟩ | ⟨c141, H142⟩
      · try simp -implicitDefEqProofs only [go_sem, Nat.reduceEqDiff, Nat.reduceAdd, ↓reduceIte, c141]
        obtain rfl := Option.some.inj H142
        exact ⟨⟨true, rfl⟩, ren_mk [(28, 28)] (by rfl) (rf_upd (by rfl) (rf_upd (by rfl) (rf_upd (by rfl) (rf_no _)))) (rh_upd (rh_one (by rfl) (by rfl) (by rfl)) (rh_upd (rh_one (by rfl) (by rfl) (by rfl)) (rh_upd (rh_one (by rfl) (by rfl) (by rfl)) (rh_upd (rh_one (by rfl) (by rfl) (by rfl)) (rh_no _)))))⟩
      · obtain ⟨t162, b143, H144⟩ := bind_inv H142
        try simp -implicitDefEqProofs only [go_sem, Nat.reduceEqDiff, Nat.reduceAdd, reduceCtorEq, ↓reduceIte, c141]
        refine onCall_pure (by first | rfl | (simp -implicitDefEqProofs only [go_sem, Int.reduceToNat, Int.reduceLT, Int.reduceLE, Int.reduceBEq, Int.reduceBNe, Nat.reduceLT, Nat.reduceBEq, Int.reduceEq, Nat.reduceEqDiff, Nat.reduceAdd, Nat.reduceSub, Nat.reduceMul, Nat.reduceLeDiff, reduceCtorEq, ↓reduceIte, eGTuple, eGBatch, eStorStore, c141]; done) | (simp -implicitDefEqProofs only [go_sem, Int.reduceToNat, Int.reduceLT, Int.reduceLE, Int.reduceBEq, Int.reduceBNe, Nat.reduceLT, Nat.reduceBEq, Int.reduceEq, Nat.reduceEqDiff, Nat.reduceAdd, Nat.reduceSub, Nat.reduceMul, Nat.reduceLeDiff, reduceCtorEq, ↓reduceIte, eGTuple, eGBatch, eStorStore, c141]; rfl)) (stor_wrong_ok b143) (by first | exact .inr rfl | exact .inl rfl) ?_
        try simp -implicitDefEqProofs only [go_sem, Nat.reduceEqDiff, Nat.reduceAdd, ↓reduceIte]
        rcases ite_inv H144 with ⟨c145, H146⟩ | ⟨c145, H146⟩
        · try simp -implicitDefEqProofs only [go_sem, Nat.reduceEqDiff, Nat.reduceAdd, ↓reduceIte, c145]
          obtain rfl := Option.some.inj H146
          exact ⟨⟨true, rfl⟩, ren_mk [(28, 28)] (by rfl) (rf_upd (by rfl) (rf_upd (by rfl) (rf_upd (by rfl) (rf_no _)))) (rh_upd (rh_one (by rfl) (by rfl) (by rfl)) (rh_upd (rh_one (by rfl) (by rfl) (by rfl)) (rh_upd (rh_one (by rfl) (by rfl) (by rfl)) (rh_upd (rh_one (by rfl) (by rfl) (by rfl)) (rh_no _)))))⟩
        · obtain ⟨t212, b147, H148⟩ := bind_inv H146
          try simp -implicitDefEqProofs only [go_sem, Nat.reduceEqDiff, Nat.reduceAdd, reduceCtorEq, ↓reduceIte, c145]
          refine onCall_pure (by first | rfl | (simp -implicitDefEqProofs only [go_sem, Int.reduceToNat, Int.reduceLT, Int.reduceLE, Int.reduceBEq, Int.reduceBNe, Nat.reduceLT, Nat.reduceBEq, Int.reduceEq, Nat.reduceEqDiff, Nat.reduceAdd, Nat.reduceSub, Nat.reduceMul, Nat.reduceLeDiff, reduceCtorEq, ↓reduceIte, eGTuple, eGBatch, eStorStore, c141, c145]; done) | (simp -implicitDefEqProofs only [go_sem, Int.reduceToNat, Int.reduceLT, Int.reduceLE, Int.reduceBEq, Int.reduceBNe, Nat.reduceLT, Nat.reduceBEq, Int.reduceEq, Nat.reduceEqDiff, Nat.reduceAdd, Nat.reduceSub, Nat.reduceMul, Nat.reduceLeDiff, reduceCtorEq, ↓reduceIte, eGTuple, eGBatch, eStorStore, c141, c145]; rfl)) (stor_wrong_ok b147) (by first | exact .inr rfl | exact .inl rfl) ?_
          try simp -implicitDefEqProofs only [go_sem, Nat.reduceEqDiff, Nat.reduceAdd, ↓reduceIte]
          rcases ite_inv H148 with ⟨c149, H150⟩ | ⟨c149, H150⟩
          · try simp -implicitDefEqProofs only [go_sem, Nat.reduceEqDiff, Nat.reduceAdd, ↓reduceIte, c149]
            obtain rfl := Option.some.inj H150
            exact ⟨⟨true, rfl⟩, ren_mk [(28, 28)] (by rfl) (rf_upd (by rfl) (rf_upd (by rfl) (rf_upd (by rfl) (rf_no _)))) (rh_upd (rh_one (by rfl) (by rfl) (by rfl)) (rh_upd (rh_one (by rfl) (by rfl) (by rfl)) (rh_upd (rh_one (by rfl) (by rfl) (by rfl)) (rh_upd (rh_one (by rfl) (by rfl) (by rfl)) (rh_no _)))))⟩
          · obtain ⟨t262, b151, H152⟩ := bind_inv H150
            try simp -implicitDefEqProofs only [go_sem, Nat.reduceEqDiff, Nat.reduceAdd, reduceCtorEq, ↓reduceIte, c149]
            refine onCall_pure (by first | rfl | (simp -implicitDefEqProofs only [go_sem, Int.reduceToNat, Int.reduceLT, Int.reduceLE, Int.reduceBEq, Int.reduceBNe, Nat.reduceLT, Nat.reduceBEq, Int.reduceEq, Nat.reduceEqDiff, Nat.reduceAdd, Nat.reduceSub, Nat.reduceMul, Nat.reduceLeDiff, reduceCtorEq, ↓reduceIte, eGTuple, eGBatch, eStorStore, c141, c145, c149]; done) | (simp -implicitDefEqProofs only [go_sem, Int.reduceToNat, Int.reduceLT, Int.reduceLE, Int.reduceBEq, Int.reduceBNe, Nat.reduceLT, Nat.reduceBEq, Int.reduceEq, Nat.reduceEqDiff, Nat.reduceAdd, Nat.reduceSub, Nat.reduceMul, Nat.reduceLeDiff, reduceCtorEq, ↓reduceIte, eGTuple, eGBatch, eStorStore, c141, c145, c149]; rfl)) (stor_wrong_ok b151) (by first | exact .inr rfl | exact .inl rfl) ?_
            try simp -implicitDefEqProofs only [go_sem, Nat.reduceEqDiff, Nat.reduceAdd, ↓reduceIte]
            obtain rfl := Option.some.inj H152
            exact ⟨⟨t262, rfl⟩, ren_mk [(28, 28)] (by rfl) (rf_upd (by rfl) (rf_upd (by rfl) (rf_upd (by rfl) (rf_no _)))) (rh_upd (rh_one (by rfl) (by rfl) (by rfl)) (rh_upd (rh_one (by rfl) (by rfl) (by rfl)) (rh_upd (rh_one (by rfl) (by rfl) (by rfl)) (rh_upd (rh_one (by rfl) (by rfl) (by rfl)) (rh_no _)))))⟩
    · rintro ⟨t273, he258⟩
      replace he258 := he258.symm
      subst he258
      try dsimp only at H138
      refine runR_take tab_ok fol 2 ?_
      try simp -implicitDefEqProofs only [go_sem, Nat.reduceEqDiff, reduceCtorEq, ↓reduceIte]
      rcases ite_inv H138 with ⟨c153, H154⟩ | ⟨c153, H154⟩
      · try simp -implicitDefEqProofs only [go_sem, Nat.reduceAdd, c153]
        obtain rfl := Option.some.inj H154
        exact endJ_ret ⟨⟨(2, o61), rfl⟩, g⟩ (ren_mk [] (by rfl) (rf_upd (by rfl) (rf_no _)) (rh_upd (rh_one (by rfl) (by rfl) (by rfl)) (rh_upd (rh_one (by rfl) (by rfl) (by rfl)) (rh_upd (rh_one (by rfl) (by rfl) (by rfl)) (rh_no _)))))
      · obtain ⟨t302, b155, H156⟩ := bind_inv H154
        try simp -implicitDefEqProofs only [go_sem, Nat.reduceEqDiff, Nat.reduceAdd, reduceCtorEq, ↓reduceIte, c153]
        refine onCallD_pure (by first | rfl | (simp -implicitDefEqProofs only [go_sem, Int.reduceToNat, Int.reduceLT, Int.reduceLE, Int.reduceBEq, Int.reduceBNe, Nat.reduceLT, Nat.reduceBEq, Int.reduceEq, Nat.reduceEqDiff, Nat.reduceAdd, Nat.reduceSub, Nat.reduceMul, Nat.reduceLeDiff, reduceCtorEq, ↓reduceIte, eGTuple, eGBatch, eStorStore, c153]; done) | (simp -implicitDefEqProofs only [go_sem, Int.reduceToNat, Int.reduceLT, Int.reduceLE, Int.reduceBEq, Int.reduceBNe, Nat.reduceLT, Nat.reduceBEq, Int.reduceEq, Nat.reduceEqDiff, Nat.reduceAdd, Nat.reduceSub, Nat.reduceMul, Nat.reduceLeDiff, reduceCtorEq, ↓reduceIte, eGTuple, eGBatch, eStorStore, c153]; rfl)) (rows_Of_ok b155) (by first | exact .inr rfl | exact .inl rfl) ?_
        obtain ⟨t332, b157, H158⟩ := bind_inv H156
        try simp -implicitDefEqProofs only [go_sem, Nat.reduceEqDiff, Nat.reduceAdd, reduceCtorEq, ↓reduceIte]
        refine onCallD_pure (by first | rfl | (simp -implicitDefEqProofs only [go_sem, Int.reduceToNat, Int.reduceLT, Int.reduceLE, Int.reduceBEq, Int.reduceBNe, Nat.reduceLT, Nat.reduceBEq, Int.reduceEq, Nat.reduceEqDiff, Nat.reduceAdd, Nat.reduceSub, Nat.reduceMul, Nat.reduceLeDiff, reduceCtorEq, ↓reduceIte, eGTuple, eGBatch, eStorStore, c153]; done) | (simp -implicitDefEqProofs only [go_sem, Int.reduceToNat, Int.reduceLT, Int.reduceLE, Int.reduceBEq, Int.reduceBNe, Nat.reduceLT, Nat.reduceBEq, Int.reduceEq, Nat.reduceEqDiff, Nat.reduceAdd, Nat.reduceSub, Nat.reduceMul, Nat.reduceLeDiff, reduceCtorEq, ↓reduceIte, eGTuple, eGBatch, eStorStore, c153]; rfl)) (rows_Of_ok b157) (by first | exact .inr rfl | exact .inl rfl) ?_
        try simp -implicitDefEqProofs only [go_sem, Nat.reduceAdd, reduceCtorEq, ↓reduceIte]
        obtain ⟨t23, E159, H160⟩ := bind_inv H158
        refine onCallD_det (ids' := [6, 7]) (v := .d (.sl (List.map eGTuple t23)) false) (δ := []) (nx' := 51) (fun hp1 h1 => ?_) ?_
        · have e175 : hp1 6 = some (.bx [.v (.int .i64 (if 1000000 < (if (IntKind.i64.wrap ((IntKind.i64.wrap (an t2 31 : Int)) + 5)) < 0 then 0 else (IntKind.i64.wrap ((IntKind.i64.wrap (an t2 31 : Int)) + 5))) then 1000000 else (if (IntKind.i64.wrap ((IntKind.i64.wrap (an t2 31 : Int)) + 5)) < 0 then 0 else (IntKind.i64.wrap ((IntKind.i64.wrap (an t2 31 : Int)) + 5))))), .so 7 g 0 (o61.length)]) := (h1.1 6 (by simp)).trans (by first | rfl | (simp -implicitDefEqProofs only [go_sem, Int.reduceToNat, Int.reduceLT, Int.reduceLE, Int.reduceBEq, Int.reduceBNe, Nat.reduceLT, Nat.reduceBEq, Int.reduceEq, Nat.reduceEqDiff, Nat.reduceAdd, Nat.reduceSub, Nat.reduceMul, Nat.reduceLeDiff, reduceCtorEq, ↓reduceIte, eGTuple, eGBatch, eStorStore]; done) | (simp -implicitDefEqProofs only [go_sem, Int.reduceToNat, Int.reduceLT, Int.reduceLE, Int.reduceBEq, Int.reduceBNe, Nat.reduceLT, Nat.reduceBEq, Int.reduceEq, Nat.reduceEqDiff, Nat.reduceAdd, Nat.reduceSub, Nat.reduceMul, Nat.reduceLeDiff, reduceCtorEq, ↓reduceIte, eGTuple, eGBatch, eStorStore]; rfl))
          have e176 : hp1 7 = some (.rw (List.map (eL eGTuple) o61) 1 g false false) := (h1.1 7 (by simp)).trans (by first | rfl | (simp -implicitDefEqProofs only [go_sem, Int.reduceToNat, Int.reduceLT, Int.reduceLE, Int.reduceBEq, Int.reduceBNe, Nat.reduceLT, Nat.reduceBEq, Int.reduceEq, Nat.reduceEqDiff, Nat.reduceAdd, Nat.reduceSub, Nat.reduceMul, Nat.reduceLeDiff, reduceCtorEq, ↓reduceIte, eGTuple, eGBatch, eStorStore]; done) | (simp -implicitDefEqProofs only [go_sem, Int.reduceToNat, Int.reduceLT, Int.reduceLE, Int.reduceBEq, Int.reduceBNe, Nat.reduceLT, Nat.reduceBEq, Int.reduceEq, Nat.reduceEqDiff, Nat.reduceAdd, Nat.reduceSub, Nat.reduceMul, Nat.reduceLeDiff, reduceCtorEq, ↓reduceIte, eGTuple, eGBatch, eStorStore]; rfl))
          have e177 : upd 6 (some (.bx [.v (.int .i64 (if 1000000 < (if (IntKind.i64.wrap ((IntKind.i64.wrap (an t2 31 : Int)) + 5)) < 0 then 0 else (IntKind.i64.wrap ((IntKind.i64.wrap (an t2 31 : Int)) + 5))) then 1000000 else (if (IntKind.i64.wrap ((IntKind.i64.wrap (an t2 31 : Int)) + 5)) < 0 then 0 else (IntKind.i64.wrap ((IntKind.i64.wrap (an t2 31 : Int)) + 5))))), .so 7 g 0 (o61.length)])) (upd 7 (some (.rw (List.map (eL eGTuple) o61) 1 g false false)) (hp1)) = hp1 := by rw [upd_self e176, upd_self e175]
          rw [← e177]
          refine inl_runR tab_ok Try.func64 rfl (by kernel_rfl) (by kernel_rfl) (by simp [Try.f64]) ?_
          unfold law4_StorWhole_C8_stor_Store_now at E159
          try dsimp only at E159
          refine runR_take tab_ok fol 1 ?_
          obtain ⟨t84, b161, H162⟩ := bind_inv E159
          try simp -implicitDefEqProofs only [go_sem, Nat.reduceAdd, reduceCtorEq, ↓reduceIte]
          refine onCallD_pureA [6, 7] (by intro hp1 h1; have h163 := h1 6 (by simp); have h164 := h1 7 (by simp); (try simp -implicitDefEqProofs only [go_sem, ↓reduceIte] at h163); (try simp -implicitDefEqProofs only [go_sem, Nat.reduceEqDiff, ↓reduceIte] at h164); first | (simp -implicitDefEqProofs only [go_sem, ↓reduceIte, eStorStore, h163, h164]; done) | (simp -implicitDefEqProofs only [go_sem, ↓reduceIte, eStorStore, h163, h164]; rfl)) (PureA.of_pure (stor_Store_Rev_ok b161)) (by first | exact .inr rfl | exact .inl rfl) ?_
          obtain ⟨x4, b165, H166⟩ := bind_inv H162
          obtain ⟨h167, h168⟩ := idx_inv b165
          try simp only [Int.reduceToNat, Int.toNat_natCast] at h168
          have h169 := map_at (eL eGTuple) h168
          have h170 := at_lt h168
          try simp -implicitDefEqProofs only [go_sem, Nat.reduceEqDiff, Nat.reduceAdd, ↓reduceIte, nat_of .i64 h167, h169, h170]
          refine Rd_endF (by rfl) ?_
          try simp -implicitDefEqProofs only [go_sem]
          obtain rfl := Option.some.inj H166
          exact end_ret (by first | ((simp -implicitDefEqProofs only [go_sem, ↓reduceIte, Try.f64]) <;> rfl) | rfl) ⟨rfl, rfl, rfl⟩
        try dsimp only at H160
        try simp -implicitDefEqProofs only [go_sem, Nat.reduceEqDiff, Nat.reduceAdd, ↓reduceIte]
        refine Rd_endF (by rfl) ?_
        obtain ⟨t392, b178, H179⟩ := bind_inv H160
        try simp -implicitDefEqProofs only [go_sem, Nat.reduceEqDiff, Nat.reduceAdd, ↓reduceIte]
        refine onCall_pure (by first | rfl | (simp -implicitDefEqProofs only [go_sem, Int.reduceToNat, Int.reduceLT, Int.reduceLE, Int.reduceBEq, Int.reduceBNe, Nat.reduceLT, Nat.reduceBEq, Int.reduceEq, Nat.reduceEqDiff, Nat.reduceAdd, Nat.reduceSub, Nat.reduceMul, Nat.reduceLeDiff, reduceCtorEq, ↓reduceIte, eGTuple, eGBatch, eStorStore]; done) | (simp -implicitDefEqProofs only [go_sem, Int.reduceToNat, Int.reduceLT, Int.reduceLE, Int.reduceBEq, Int.reduceBNe, Nat.reduceLT, Nat.reduceBEq, Int.reduceEq, Nat.reduceEqDiff, Nat.reduceAdd, Nat.reduceSub, Nat.reduceMul, Nat.reduceLeDiff, reduceCtorEq, ↓reduceIte, eGTuple, eGBatch, eStorStore]; rfl)) (rows_Minus_ok b178) (by first | exact .inr rfl | exact .inl rfl) ?_
        obtain ⟨t412, b180, H181⟩ := bind_inv H179
        try simp -implicitDefEqProofs only [go_sem, Nat.reduceEqDiff, Nat.reduceAdd, ↓reduceIte]
        refine onCall_pure (by first | rfl | (simp -implicitDefEqProofs only [go_sem, Int.reduceToNat, Int.reduceLT, Int.reduceLE, Int.reduceBEq, Int.reduceBNe, Nat.reduceLT, Nat.reduceBEq, Int.reduceEq, Nat.reduceEqDiff, Nat.reduceAdd, Nat.reduceSub, Nat.reduceMul, Nat.reduceLeDiff, reduceCtorEq, ↓reduceIte, eGTuple, eGBatch, eStorStore]; done) | (simp -implicitDefEqProofs only [go_sem, Int.reduceToNat, Int.reduceLT, Int.reduceLE, Int.reduceBEq, Int.reduceBNe, Nat.reduceLT, Nat.reduceBEq, Int.reduceEq, Nat.reduceEqDiff, Nat.reduceAdd, Nat.reduceSub, Nat.reduceMul, Nat.reduceLeDiff, reduceCtorEq, ↓reduceIte, eGTuple, eGBatch, eStorStore]; rfl)) (rows_Plus_ok b180) (by first | exact .inr rfl | exact .inl rfl) ?_
        obtain ⟨t452, b182, H183⟩ := bind_inv H181
        try simp -implicitDefEqProofs only [go_sem, Nat.reduceEqDiff, Nat.reduceAdd, ↓reduceIte]
        refine onCall_pure (by first | rfl | (simp -implicitDefEqProofs only [go_sem, Int.reduceToNat, Int.reduceLT, Int.reduceLE, Int.reduceBEq, Int.reduceBNe, Nat.reduceLT, Nat.reduceBEq, Int.reduceEq, Nat.reduceEqDiff, Nat.reduceAdd, Nat.reduceSub, Nat.reduceMul, Nat.reduceLeDiff, reduceCtorEq, ↓reduceIte, eGTuple, eGBatch, eStorStore]; done) | (simp -implicitDefEqProofs only [go_sem, Int.reduceToNat, Int.reduceLT, Int.reduceLE, Int.reduceBEq, Int.reduceBNe, Nat.reduceLT, Nat.reduceBEq, Int.reduceEq, Nat.reduceEqDiff, Nat.reduceAdd, Nat.reduceSub, Nat.reduceMul, Nat.reduceLeDiff, reduceCtorEq, ↓reduceIte, eGTuple, eGBatch, eStorStore]; rfl)) (rows_Minus_ok b182) (by first | exact .inr rfl | exact .inl rfl) ?_
        try simp -implicitDefEqProofs only [go_sem, Nat.reduceEqDiff, Nat.reduceAdd, ↓reduceIte]
        rcases ite_inv H183 with ⟨c184, H185⟩ | ⟨c184, H185⟩
        · try simp -implicitDefEqProofs only [go_sem, Nat.reduceAdd, c184]
          obtain rfl := Option.some.inj H185
          exact endJ_ret ⟨⟨(6, o61), rfl⟩, g⟩ (ren_mk [] (by rfl) (rf_upd (by rfl) (rf_no _)) (rh_upd (rh_one (by rfl) (by rfl) (by rfl)) (rh_upd (rh_one (by rfl) (by rfl) (by rfl)) (rh_upd (rh_one (by rfl) (by rfl) (by rfl)) (rh_no _)))))
        · try simp -implicitDefEqProofs only [go_sem, Nat.reduceEqDiff, Nat.reduceAdd, reduceCtorEq, ↓reduceIte, c184]
          obtain ⟨e_13, E186, H187⟩ := bind_inv H185
          refine onCall_inl (InlOK.mono (inl_runRJ (α := { y : Bool // e_13 = y }) tab_ok Try.func67 rfl (by kernel_rfl) (by kernel_rfl) (by simp [Try.f67]) (fun | ⟨t46, _⟩ => ⟨upd 4 (.v (.bool t46)) noFr, upd 6 (some (.bx [.v (.int .i64 (if 1000000 < (if (IntKind.i64.wrap ((IntKind.i64.wrap (an t2 31 : Int)) + 5)) < 0 then 0 else (IntKind.i64.wrap ((IntKind.i64.wrap (an t2 31 : Int)) + 5))) then 1000000 else (if (IntKind.i64.wrap ((IntKind.i64.wrap (an t2 31 : Int)) + 5)) < 0 then 0 else (IntKind.i64.wrap ((IntKind.i64.wrap (an t2 31 : Int)) + 5))))), .so 7 g 0 (o61.length)])) (upd 7 (some (.rw (List.map (eL eGTuple) o61) 1 g false false)) (upd 22 (some (.bx [.d (.sl (List.map eGTuple t31.add)) false, .d (.sl (List.map eGTuple t31.drop)) false, .d (.sl (List.map eGTuple t31.must)) false, .d (.sl (List.map eGTuple t31.not_)) false])) (upd 28 (some (.bx [.d (.sl (List.map eGTuple t31.add)) false, .d (.sl (List.map eGTuple t31.drop)) false, .d (.sl (List.map eGTuple t31.must)) false, .d (.sl (List.map eGTuple t31.not_)) false])) (upd 37 (some (.bx [.d (.sl (List.map eGTuple t23)) false])) (upd 52 (some (.bx [.fn 66 [.pt 37 0]])) noHp))))), 73⟩) (fun | ⟨t46, _⟩ => .v (.bool t46)) (by rintro ⟨t46, he234⟩; first | ((simp -implicitDefEqProofs only [go_sem, ↓reduceIte, Try.f67]) <;> rfl) | rfl) ?_) ?_)
          · unfold law4_StorWhole_C9_slices_ContainsFunc_Tuple at E186
            try dsimp only at E186
            refine runR_take tab_ok fol 1 ?_
            try simp -implicitDefEqProofs only [go_sem, Nat.reduceEqDiff, Nat.reduceAdd, reduceCtorEq, ↓reduceIte]
            obtain ⟨e_14, E188, H189⟩ := bind_inv E186
            refine onCall_inl (InlOK.mono (inl_runRJ (α := { y : Int // e_14 = y }) tab_ok Try.func81 rfl (by kernel_rfl) (by kernel_rfl) (by simp [Try.f81]) (fun | ⟨t44, _⟩ => ⟨upd 4 (.v (.int .i64 t44)) noFr, upd 6 (some (.bx [.v (.int .i64 (if 1000000 < (if (IntKind.i64.wrap ((IntKind.i64.wrap (an t2 31 : Int)) + 5)) < 0 then 0 else (IntKind.i64.wrap ((IntKind.i64.wrap (an t2 31 : Int)) + 5))) then 1000000 else (if (IntKind.i64.wrap ((IntKind.i64.wrap (an t2 31 : Int)) + 5)) < 0 then 0 else (IntKind.i64.wrap ((IntKind.i64.wrap (an t2 31 : Int)) + 5))))), .so 7 g 0 (o61.length)])) (upd 7 (some (.rw (List.map (eL eGTuple) o61) 1 g false false)) (upd 22 (some (.bx [.d (.sl (List.map eGTuple t31.add)) false, .d (.sl (List.map eGTuple t31.drop)) false, .d (.sl (List.map eGTuple t31.must)) false, .d (.sl (List.map eGTuple t31.not_)) false])) (upd 28 (some (.bx [.d (.sl (List.map eGTuple t31.add)) false, .d (.sl (List.map eGTuple t31.drop)) false, .d (.sl (List.map eGTuple t31.must)) false, .d (.sl (List.map eGTuple t31.not_)) false])) (upd 37 (some (.bx [.d (.sl (List.map eGTuple t23)) false])) (upd 52 (some (.bx [.fn 66 [.pt 37 0]])) noHp))))), 79⟩) (fun | ⟨t44, _⟩ => .v (.int .i64 t44)) (by rintro ⟨t44, he230⟩; first | ((simp -implicitDefEqProofs only [go_sem, ↓reduceIte, Try.f81]) <;> rfl) | rfl) ?_) ?_)
            · unfold law4_StorWhole_C10_slices_IndexFunc_Tuple at E188
              try dsimp only at E188
              refine runR_seq ?_
              refine runR_take tab_ok fol 1 ?_
              try simp -implicitDefEqProofs only [go_sem, Nat.reduceAdd]
              refine runR_seq ?_
              refine runR_seq ?_
              refine runR_take tab_ok fol 1 ?_
              try simp -implicitDefEqProofs only [go_sem, Nat.reduceAdd, reduceCtorEq, ↓reduceIte]
              obtain ⟨e_15, E190, H191⟩ := bind_inv E188
              refine runR_join (α := { y : Unit // e_15 = .inl y }) (fun | ⟨_, _⟩ => ⟨noFr, upd 6 (some (.bx [.v (.int .i64 (if 1000000 < (if (IntKind.i64.wrap ((IntKind.i64.wrap (an t2 31 : Int)) + 5)) < 0 then 0 else (IntKind.i64.wrap ((IntKind.i64.wrap (an t2 31 : Int)) + 5))) then 1000000 else (if (IntKind.i64.wrap ((IntKind.i64.wrap (an t2 31 : Int)) + 5)) < 0 then 0 else (IntKind.i64.wrap ((IntKind.i64.wrap (an t2 31 : Int)) + 5))))), .so 7 g 0 (o61.length)])) (upd 7 (some (.rw (List.map (eL eGTuple) o61) 1 g false false)) (upd 22 (some (.bx [.d (.sl (List.map eGTuple t31.add)) false, .d (.sl (List.map eGTuple t31.drop)) false, .d (.sl (List.map eGTuple t31.must)) false, .d (.sl (List.map eGTuple t31.not_)) false])) (upd 28 (some (.bx [.d (.sl (List.map eGTuple t31.add)) false, .d (.sl (List.map eGTuple t31.drop)) false, .d (.sl (List.map eGTuple t31.must)) false, .d (.sl (List.map eGTuple t31.not_)) false])) (upd 37 (some (.bx [.d (.sl (List.map eGTuple t23)) false])) (upd 52 (some (.bx [.fn 66 [.pt 37 0]])) noHp))))), 79⟩) ?_ ?_
              · refine runR_block ?_
                refine runR_loop (α := { q : Nat × Int // law4_StorWhole_L2 n t31 t23 q.1 q.2 = some e_15 }) (fun | ⟨⟨c, t85⟩, _⟩ => ⟨upd 0 (.d (.sl (List.map eGTuple t31.must)) false) (upd 1 (.fn 68 [.pt 52 0]) (upd 7 (.v (.int .i64 (t31.must.length : Int))) (upd 8 (.v (.int .i64 t85)) noFr))), upd 6 (some (.bx [.v (.int .i64 (if 1000000 < (if (IntKind.i64.wrap ((IntKind.i64.wrap (an t2 31 : Int)) + 5)) < 0 then 0 else (IntKind.i64.wrap ((IntKind.i64.wrap (an t2 31 : Int)) + 5))) then 1000000 else (if (IntKind.i64.wrap ((IntKind.i64.wrap (an t2 31 : Int)) + 5)) < 0 then 0 else (IntKind.i64.wrap ((IntKind.i64.wrap (an t2 31 : Int)) + 5))))), .so 7 g 0 (o61.length)])) (upd 7 (some (.rw (List.map (eL eGTuple) o61) 1 g false false)) (upd 22 (some (.bx [.d (.sl (List.map eGTuple t31.add)) false, .d (.sl (List.map eGTuple t31.drop)) false, .d (.sl (List.map eGTuple t31.must)) false, .d (.sl (List.map eGTuple t31.not_)) false])) (upd 28 (some (.bx [.d (.sl (List.map eGTuple t31.add)) false, .d (.sl (List.map eGTuple t31.drop)) false, .d (.sl (List.map eGTuple t31.must)) false, .d (.sl (List.map eGTuple t31.not_)) false])) (upd 37 (some (.bx [.d (.sl (List.map eGTuple t23)) false])) (upd 52 (some (.bx [.fn 66 [.pt 37 0]])) noHp))))), 79⟩) (fun q => q.1.1) ⟨(n, 0), E190⟩ ?_ ?_
                · exact ren_mk [] (by rfl) (rf_upd (by rfl) (rf_upd (by rfl) (rf_upd (by rfl) (rf_upd (by rfl) (rf_no _))))) (rh_upd (rh_one (by rfl) (by rfl) (by rfl)) (rh_upd (rh_one (by rfl) (by rfl) (by rfl)) (rh_upd (rh_one (by rfl) (by rfl) (by rfl)) (rh_upd (rh_one (by rfl) (by rfl) (by rfl)) (rh_upd (rh_one (by rfl) (by rfl) (by rfl)) (rh_upd (rh_one (by rfl) (by rfl) (by rfl)) (rh_no _)))))))
                · rintro ⟨⟨c, t85⟩, L192⟩
                  rcases c with _ | c
                  · exact nomatch (show none = some _ from L192)
                  · unfold law4_StorWhole_L2 at L192
                    try dsimp only at L192
                    refine runR_take tab_ok fol 1 ?_
                    try simp -implicitDefEqProofs only [go_sem, Nat.reduceEqDiff, Nat.reduceAdd, reduceCtorEq, ↓reduceIte]
                    rcases ite_inv L192 with ⟨c211, H212⟩ | ⟨c211, H212⟩
                    · obtain ⟨x6, b213, H214⟩ := bind_inv H212
                      obtain ⟨h215, h216⟩ := idx_inv b213
                      try simp only [Int.reduceToNat, Int.toNat_natCast] at h216
                      have h217 := map_at eGTuple h216
                      try simp -implicitDefEqProofs only [go_sem, Nat.reduceEqDiff, Nat.reduceAdd, reduceCtorEq, ↓reduceIte, eGTuple, c211, nat_of .i64 h215, h217]
                      obtain ⟨e_17, E219, H220⟩ := bind_inv H214
                      refine onCall_inl (InlOK.mono (inl_runRJ (α := { y : Bool // e_17 = y }) tab_ok Try.func68 rfl (by kernel_rfl) (by kernel_rfl) (by simp [Try.f68]) (fun | ⟨t35, _⟩ => ⟨upd 3 (.v (.bool t35)) noFr, upd 6 (some (.bx [.v (.int .i64 (if 1000000 < (if (IntKind.i64.wrap ((IntKind.i64.wrap (an t2 31 : Int)) + 5)) < 0 then 0 else (IntKind.i64.wrap ((IntKind.i64.wrap (an t2 31 : Int)) + 5))) then 1000000 else (if (IntKind.i64.wrap ((IntKind.i64.wrap (an t2 31 : Int)) + 5)) < 0 then 0 else (IntKind.i64.wrap ((IntKind.i64.wrap (an t2 31 : Int)) + 5))))), .so 7 g 0 (o61.length)])) (upd 7 (some (.rw (List.map (eL eGTuple) o61) 1 g false false)) (upd 22 (some (.bx [.d (.sl (List.map eGTuple t31.add)) false, .d (.sl (List.map eGTuple t31.drop)) false, .d (.sl (List.map eGTuple t31.must)) false, .d (.sl (List.map eGTuple t31.not_)) false])) (upd 28 (some (.bx [.d (.sl (List.map eGTuple t31.add)) false, .d (.sl (List.map eGTuple t31.drop)) false, .d (.sl (List.map eGTuple t31.must)) false, .d (.sl (List.map eGTuple t31.not_)) false])) (upd 37 (some (.bx [.d (.sl (List.map eGTuple t23)) false])) (upd 52 (some (.bx [.fn 66 [.pt 37 0]])) noHp))))), 88⟩) (fun | ⟨t35, _⟩ => .v (.bool t35)) (by rintro ⟨t35, he223⟩; first | ((simp -implicitDefEqProofs only [go_sem, ↓reduceIte, Try.f68]) <;> rfl) | rfl) ?_) ?_)
                      · unfold law4_StorWhole_C11_stor_Store_Write_c2 at E219
                        try dsimp only at E219
                        refine runR_take tab_ok fol 1 ?_
                        obtain ⟨t64, b221, H222⟩ := bind_inv E219
                        try simp -implicitDefEqProofs only [go_sem, Nat.reduceEqDiff, Nat.reduceAdd, ↓reduceIte]
                        refine onCall_pureA (by first | rfl | (simp -implicitDefEqProofs only [go_sem, Int.reduceToNat, Int.reduceLT, Int.reduceLE, Int.reduceBEq, Int.reduceBNe, Nat.reduceLT, Nat.reduceBEq, Int.reduceEq, Nat.reduceEqDiff, Nat.reduceAdd, Nat.reduceSub, Nat.reduceMul, Nat.reduceLeDiff, reduceCtorEq, ↓reduceIte, eGTuple, eGBatch, eStorStore]; done) | (simp -implicitDefEqProofs only [go_sem, Int.reduceToNat, Int.reduceLT, Int.reduceLE, Int.reduceBEq, Int.reduceBNe, Nat.reduceLT, Nat.reduceBEq, Int.reduceEq, Nat.reduceEqDiff, Nat.reduceAdd, Nat.reduceSub, Nat.reduceMul, Nat.reduceLeDiff, reduceCtorEq, ↓reduceIte, eGTuple, eGBatch, eStorStore]; rfl)) (PureA.of_pure (stor_Store_Write_c1_ok b221)) (by first | exact .inr rfl | exact .inl rfl) ?_
                        try simp -implicitDefEqProofs only [go_sem, Nat.reduceAdd, ↓reduceIte]
                        obtain rfl := Option.some.inj H222
                        exact endJ_ret ⟨(!t64), rfl⟩ (ren_mk [] (by rfl) (rf_upd (by rfl) (rf_no _)) (rh_upd (rh_one (by rfl) (by rfl) (by rfl)) (rh_upd (rh_one (by rfl) (by rfl) (by rfl)) (rh_upd (rh_one (by rfl) (by rfl) (by rfl)) (rh_upd (rh_one (by rfl) (by rfl) (by rfl)) (rh_upd (rh_one (by rfl) (by rfl) (by rfl)) (rh_upd (rh_one (by rfl) (by rfl) (by rfl)) (rh_no _))))))))
                      rintro v224 hp225 nx226 ⟨⟨t35, he223⟩, rfl, rfl, rfl⟩
                      replace he223 := he223.symm
                      subst he223
                      try dsimp only at H220
                      dsimp only
                      try simp -implicitDefEqProofs only [go_sem, ↓reduceIte]
                      rcases ite_inv H220 with ⟨c227, H228⟩ | ⟨c227, H228⟩
                      · try simp -implicitDefEqProofs only [go_sem, Nat.reduceEqDiff, Nat.reduceAdd, ↓reduceIte, c227]
                        obtain rfl := Option.some.inj H228
                        obtain rfl := Option.some.inj H191
                        exact endJ_ret ⟨t85, rfl⟩ (ren_mk [] (by rfl) (rf_upd (by rfl) (rf_no _)) (rh_upd (rh_one (by rfl) (by rfl) (by rfl)) (rh_upd (rh_one (by rfl) (by rfl) (by rfl)) (rh_upd (rh_one (by rfl) (by rfl) (by rfl)) (rh_upd (rh_one (by rfl) (by rfl) (by rfl)) (rh_upd (rh_one (by rfl) (by rfl) (by rfl)) (rh_upd (rh_one (by rfl) (by rfl) (by rfl)) (rh_no _))))))))
                      · try simp -implicitDefEqProofs only [go_sem, Nat.reduceEqDiff, Nat.reduceAdd, reduceCtorEq, ↓reduceIte, c227]
                        exact ⟨⟨(c, (IntKind.i64.wrap (t85 + 1))), H228⟩, ren_mk [] (by rfl) (rf_upd (by rfl) (rf_upd (by rfl) (rf_upd (by rfl) (rf_upd (by rfl) (rf_no _))))) (rh_upd (rh_one (by rfl) (by rfl) (by rfl)) (rh_upd (rh_one (by rfl) (by rfl) (by rfl)) (rh_upd (rh_one (by rfl) (by rfl) (by rfl)) (rh_upd (rh_one (by rfl) (by rfl) (by rfl)) (rh_upd (rh_one (by rfl) (by rfl) (by rfl)) (rh_upd (rh_one (by rfl) (by rfl) (by rfl)) (rh_no _))))))), Nat.lt_succ_self _⟩
                    · try simp -implicitDefEqProofs only [go_sem, ↓reduceIte, c211]
                      obtain rfl := Option.some.inj H212
                      exact ⟨⟨(), rfl⟩, ren_mk [] (by rfl) (rf_no _) (rh_upd (rh_one (by rfl) (by rfl) (by rfl)) (rh_upd (rh_one (by rfl) (by rfl) (by rfl)) (rh_upd (rh_one (by rfl) (by rfl) (by rfl)) (rh_upd (rh_one (by rfl) (by rfl) (by rfl)) (rh_upd (rh_one (by rfl) (by rfl) (by rfl)) (rh_upd (rh_one (by rfl) (by rfl) (by rfl)) (rh_no _)))))))⟩
              · rintro ⟨_, he229⟩
                replace he229 := he229.symm
                subst he229
                try dsimp only at H191
                refine runR_take tab_ok fol 1 ?_
                try simp -implicitDefEqProofs only [go_sem, Nat.reduceAdd]
                obtain rfl := Option.some.inj H191
                exact endJ_ret ⟨(-1), rfl⟩ (ren_mk [] (by rfl) (rf_upd (by rfl) (rf_no _)) (rh_upd (rh_one (by rfl) (by rfl) (by rfl)) (rh_upd (rh_one (by rfl) (by rfl) (by rfl)) (rh_upd (rh_one (by rfl) (by rfl) (by rfl)) (rh_upd (rh_one (by rfl) (by rfl) (by rfl)) (rh_upd (rh_one (by rfl) (by rfl) (by rfl)) (rh_upd (rh_one (by rfl) (by rfl) (by rfl)) (rh_no _))))))))
            rintro v231 hp232 nx233 ⟨⟨t44, he230⟩, rfl, rfl, rfl⟩
            replace he230 := he230.symm
            subst he230
            try dsimp only at H189
            dsimp only
            try simp -implicitDefEqProofs only [go_sem, Nat.reduceAdd, ↓reduceIte]
            obtain rfl := Option.some.inj H189
            exact endJ_ret ⟨(decide (0 ≤ t44)), rfl⟩ (ren_mk [] (by rfl) (rf_upd (by rfl) (rf_no _)) (rh_upd (rh_one (by rfl) (by rfl) (by rfl)) (rh_upd (rh_one (by rfl) (by rfl) (by rfl)) (rh_upd (rh_one (by rfl) (by rfl) (by rfl)) (rh_upd (rh_one (by rfl) (by rfl) (by rfl)) (rh_upd (rh_one (by rfl) (by rfl) (by rfl)) (rh_upd (rh_one (by rfl) (by rfl) (by rfl)) (rh_no _))))))))
          rintro v235 hp236 nx237 ⟨⟨t46, he234⟩, rfl, rfl, rfl⟩
          replace he234 := he234.symm
          subst he234
          try dsimp only at H187
          dsimp only
          try simp -implicitDefEqProofs only [go_sem, Nat.reduceAdd, ↓reduceIte]
          rcases ite_inv H187 with ⟨c238, H239⟩ | ⟨c238, H239⟩
          · try simp -implicitDefEqProofs only [go_sem, Nat.reduceAdd, c238]
            obtain rfl := Option.some.inj H239
            exact endJ_ret ⟨⟨(4, o61), rfl⟩, g⟩ (ren_mk [] (by rfl) (rf_upd (by rfl) (rf_no _)) (rh_upd (rh_one (by rfl) (by rfl) (by rfl)) (rh_upd (rh_one (by rfl) (by rfl) (by rfl)) (rh_upd (rh_one (by rfl) (by rfl) (by rfl)) (rh_no _)))))
          · obtain ⟨t592, b240, H241⟩ := bind_inv H239
            try simp -implicitDefEqProofs only [go_sem, Nat.reduceEqDiff, Nat.reduceAdd, reduceCtorEq, ↓reduceIte, c238]
            refine onCall_pureA (by first | rfl | (simp -implicitDefEqProofs only [go_sem, Int.reduceToNat, Int.reduceLT, Int.reduceLE, Int.reduceBEq, Int.reduceBNe, Nat.reduceLT, Nat.reduceBEq, Int.reduceEq, Nat.reduceEqDiff, Nat.reduceAdd, Nat.reduceSub, Nat.reduceMul, Nat.reduceLeDiff, reduceCtorEq, ↓reduceIte, eGTuple, eGBatch, eStorStore, c238]; done) | (simp -implicitDefEqProofs only [go_sem, Int.reduceToNat, Int.reduceLT, Int.reduceLE, Int.reduceBEq, Int.reduceBNe, Nat.reduceLT, Nat.reduceBEq, Int.reduceEq, Nat.reduceEqDiff, Nat.reduceAdd, Nat.reduceSub, Nat.reduceMul, Nat.reduceLeDiff, reduceCtorEq, ↓reduceIte, eGTuple, eGBatch, eStorStore, c238]; rfl)) (slices_ContainsFunc_Tuple__stor_Store_Write_c1_ok b240) (by first | exact .inr rfl | exact .inl rfl) ?_
            try simp -implicitDefEqProofs only [go_sem, Nat.reduceAdd, ↓reduceIte]
            rcases ite_inv H241 with ⟨c242, H243⟩ | ⟨c242, H243⟩
            · try simp -implicitDefEqProofs only [go_sem, Nat.reduceAdd, c242]
              obtain rfl := Option.some.inj H243
              exact endJ_ret ⟨⟨(3, o61), rfl⟩, g⟩ (ren_mk [] (by rfl) (rf_upd (by rfl) (rf_no _)) (rh_upd (rh_one (by rfl) (by rfl) (by rfl)) (rh_upd (rh_one (by rfl) (by rfl) (by rfl)) (rh_upd (rh_one (by rfl) (by rfl) (by rfl)) (rh_no _)))))
            · try simp -implicitDefEqProofs only [go_sem, Nat.reduceEqDiff, Nat.reduceAdd, reduceCtorEq, ↓reduceIte, c242]
              rcases ite_inv H243 with ⟨c244, H245⟩ | ⟨c244, H245⟩
              · try simp -implicitDefEqProofs only [go_sem, Nat.reduceAdd, c244]
                obtain rfl := Option.some.inj H245
                exact endJ_ret ⟨⟨(5, o61), rfl⟩, g⟩ (ren_mk [] (by rfl) (rf_upd (by rfl) (rf_no _)) (rh_upd (rh_one (by rfl) (by rfl) (by rfl)) (rh_upd (rh_one (by rfl) (by rfl) (by rfl)) (rh_upd (rh_one (by rfl) (by rfl) (by rfl)) (rh_no _)))))
              · obtain ⟨t702, b246, H247⟩ := bind_inv H245
                try simp -implicitDefEqProofs only [go_sem, Nat.reduceEqDiff, Nat.reduceAdd, ↓reduceIte, c244]
                refine onCall_pure (by first | rfl | (simp -implicitDefEqProofs only [go_sem, Int.reduceToNat, Int.reduceLT, Int.reduceLE, Int.reduceBEq, Int.reduceBNe, Nat.reduceLT, Nat.reduceBEq, Int.reduceEq, Nat.reduceEqDiff, Nat.reduceAdd, Nat.reduceSub, Nat.reduceMul, Nat.reduceLeDiff, reduceCtorEq, ↓reduceIte, eGTuple, eGBatch, eStorStore, c238, c242, c244]; done) | (simp -implicitDefEqProofs only [go_sem, Int.reduceToNat, Int.reduceLT, Int.reduceLE, Int.reduceBEq, Int.reduceBNe, Nat.reduceLT, Nat.reduceBEq, Int.reduceEq, Nat.reduceEqDiff, Nat.reduceAdd, Nat.reduceSub, Nat.reduceMul, Nat.reduceLeDiff, reduceCtorEq, ↓reduceIte, eGTuple, eGBatch, eStorStore, c238, c242, c244]; rfl)) (slices_Equal_Tuple_ok b246) (by first | exact .inr rfl | exact .inl rfl) ?_
                try simp -implicitDefEqProofs only [go_sem, Nat.reduceAdd, ↓reduceIte]
                rcases ite_inv H247 with ⟨c248, H249⟩ | ⟨c248, H249⟩
                · try simp -implicitDefEqProofs only [go_sem, Nat.reduceAdd, c248]
                  obtain rfl := Option.some.inj H249
                  exact endJ_ret ⟨⟨(0, o61), rfl⟩, g⟩ (ren_mk [] (by rfl) (rf_upd (by rfl) (rf_no _)) (rh_upd (rh_one (by rfl) (by rfl) (by rfl)) (rh_upd (rh_one (by rfl) (by rfl) (by rfl)) (rh_upd (rh_one (by rfl) (by rfl) (by rfl)) (rh_no _)))))
                · obtain ⟨l, b250, H251⟩ := bind_inv H249
                  obtain ⟨h252, h253⟩ := app_inv b250
                  have h252 : o61.length + 1 ≤ 4294967296 := h252
                  have h254 : List.map (eL eGTuple) o61 ++ [[.sl (List.map eGTuple t412)]] = List.map (eL eGTuple) l := app_map (eL eGTuple) h253
                  have h255 : o61.length + 1 = l.length := app_len h253
                  have h256 : l.length ≤ 4294967296 := by omega
                  have q257 : 0 < l.length := by omega
                  try simp -implicitDefEqProofs only [go_sem, Nat.reduceLT, Nat.reduceEqDiff, Nat.reduceAdd, Nat.reduceLeDiff, reduceCtorEq, ↓reduceIte, c248, h254, h255, h256]
                  obtain rfl := Option.some.inj H251
                  exact endJ_ret ⟨⟨(0, l), rfl⟩, (g + 1)⟩ (ren_mk [] (by rfl) (rf_upd (by rfl) (rf_no _)) (rh_upd (rh_one (by rfl) (by rfl) (by rfl)) (rh_upd (rh_one (by rfl) (by rfl) (by rfl)) (rh_upd (rh_one (by rfl) (by rfl) (by rfl)) (rh_no _)))))
  rintro v260 hp261 nx262 ⟨⟨⟨⟨t47, o612⟩, he259⟩, g2⟩, rfl, rfl, rfl⟩
  replace he259 := he259.symm
  subst he259
  try dsimp only at H136
  dsimp only
  try simp -implicitDefEqProofs only [go_sem, Nat.reduceAdd, ↓reduceIte]
  refine runR_seq ?_
  refine runR_take tab_ok fol 1 ?_
  obtain ⟨t36, b263, H264⟩ := bind_inv H136
  try simp -implicitDefEqProofs only [go_sem, Nat.reduceEqDiff, Nat.reduceAdd, ↓reduceIte]
  refine onCall_pureA (by first | rfl | (simp -implicitDefEqProofs only [go_sem, Nat.reduceEqDiff, ↓reduceIte, eStorStore]; done) | (simp -implicitDefEqProofs only [go_sem, Nat.reduceEqDiff, ↓reduceIte, eStorStore]; rfl)) (PureA.of_pure (stor_Store_All_ok b263)) (by first | exact .inr rfl | exact .inl rfl) ?_
  try simp -implicitDefEqProofs only [go_sem, Nat.reduceAdd, ↓reduceIte]
  refine runR_seq ?_
  refine runR_take tab_ok fol 1 ?_
  obtain ⟨t40, b265, H266⟩ := bind_inv H264
  try simp -implicitDefEqProofs only [go_sem, Nat.reduceEqDiff, Nat.reduceAdd, ↓reduceIte]
  refine onCall_pureA (by first | rfl | (simp -implicitDefEqProofs only [go_sem, Nat.reduceEqDiff, ↓reduceIte, eStorStore]; done) | (simp -implicitDefEqProofs only [go_sem, Nat.reduceEqDiff, ↓reduceIte, eStorStore]; rfl)) (PureA.of_pure (stor_Store_At_ok b265)) (by first | exact .inr rfl | exact .inl rfl) ?_
  try simp -implicitDefEqProofs only [go_sem, Nat.reduceEqDiff, Nat.reduceAdd, ↓reduceIte]
  refine runR_seq ?_
  refine runR_seq ?_
  obtain ⟨e_18, E267, H268⟩ := bind_inv H266
  refine runR_join (α := { y : Bool // e_18 = y }) (fun | ⟨t50, _⟩ => ⟨upd 2 (.v (.int .i64 t2)) (upd 7 (.pt 0 0) (upd 8 (.d (.sl (List.map eGTuple t272)) false) (upd 9 (.v (.int .i64 t29)) (upd 10 (.pt 2 0) (upd 11 (.v (.int .i64 t47)) (upd 12 (.d (.sl (List.map eGTuple t36)) false) (upd 50 (.v (.bool t50)) noFr))))))), upd 0 (some (.bx [.v (.int .i64 (if 1000000 < (if (IntKind.i64.wrap ((IntKind.i64.wrap (an t2 31 : Int)) + 5)) < 0 then 0 else (IntKind.i64.wrap ((IntKind.i64.wrap (an t2 31 : Int)) + 5))) then 1000000 else (if (IntKind.i64.wrap ((IntKind.i64.wrap (an t2 31 : Int)) + 5)) < 0 then 0 else (IntKind.i64.wrap ((IntKind.i64.wrap (an t2 31 : Int)) + 5))))), .so 1 g2 0 (o612.length)])) (upd 1 (some (.rw (List.map (eL eGTuple) o612) 1 g2 false false)) (upd 2 (some (.bx [.d (.sl (List.map eGTuple t31.add)) false, .d (.sl (List.map eGTuple t31.drop)) false, .d (.sl (List.map eGTuple t31.must)) false, .d (.sl (List.map eGTuple t31.not_)) false])) noHp)), 3⟩) ?_ ?_
  · refine runR_take tab_ok fol 1 ?_
    try simp -implicitDefEqProofs only [go_sem, Nat.reduceAdd, ↓reduceIte]
    rcases ite_inv E267 with ⟨c269, H270⟩ | ⟨c269, H270⟩
    · obtain ⟨t48, b271, H272⟩ := bind_inv H270
      try simp -implicitDefEqProofs only [go_sem, Nat.reduceEqDiff, Nat.reduceAdd, ↓reduceIte, c269]
      refine onCall_pure (by first | rfl | (simp -implicitDefEqProofs only [go_sem, Int.reduceToNat, Int.reduceLT, Int.reduceLE, Int.reduceBEq, Int.reduceBNe, Nat.reduceLT, Nat.reduceBEq, Int.reduceEq, Nat.reduceEqDiff, Nat.reduceAdd, Nat.reduceSub, Nat.reduceMul, Nat.reduceLeDiff, reduceCtorEq, ↓reduceIte, eGTuple, eGBatch, eStorStore, c269]; done) | (simp -implicitDefEqProofs only [go_sem, Int.reduceToNat, Int.reduceLT, Int.reduceLE, Int.reduceBEq, Int.reduceBNe, Nat.reduceLT, Nat.reduceBEq, Int.reduceEq, Nat.reduceEqDiff, Nat.reduceAdd, Nat.reduceSub, Nat.reduceMul, Nat.reduceLeDiff, reduceCtorEq, ↓reduceIte, eGTuple, eGBatch, eStorStore, c269]; rfl)) (ref1_Same_ok b271) (by first | exact .inr rfl | exact .inl rfl) ?_
      try simp -implicitDefEqProofs only [go_sem, Nat.reduceEqDiff, Nat.reduceAdd, ↓reduceIte]
      obtain rfl := Option.some.inj H272
      exact ⟨⟨(!t48), rfl⟩, ren_mk [(0, 6), (1, 7), (2, 22)] (by rfl) (rf_upd (by rfl) (rf_upd (by rfl) (rf_upd (by rfl) (rf_upd (by rfl) (rf_upd (by rfl) (rf_upd (by rfl) (rf_upd (by rfl) (rf_upd (by rfl) (rf_no _))))))))) (rh_upd (rh_one (by rfl) (by rfl) (by rfl)) (rh_upd (rh_one (by rfl) (by rfl) (by rfl)) (rh_upd (rh_one (by rfl) (by rfl) (by rfl)) (rh_no _))))⟩
    · try simp -implicitDefEqProofs only [go_sem, Nat.reduceEqDiff, Nat.reduceAdd, ↓reduceIte, c269]
      obtain rfl := Option.some.inj H270
      exact ⟨⟨true, rfl⟩, ren_mk [(0, 6), (1, 7), (2, 22)] (by rfl) (rf_upd (by rfl) (rf_upd (by rfl) (rf_upd (by rfl) (rf_upd (by rfl) (rf_upd (by rfl) (rf_upd (by rfl) (rf_upd (by rfl) (rf_upd (by rfl) (rf_no _))))))))) (rh_upd (rh_one (by rfl) (by rfl) (by rfl)) (rh_upd (rh_one (by rfl) (by rfl) (by rfl)) (rh_upd (rh_one (by rfl) (by rfl) (by rfl)) (rh_no _))))⟩
  · rintro ⟨t50, he342⟩
    replace he342 := he342.symm
    subst he342
    try dsimp only at H268
    refine runR_take tab_ok fol 1 ?_
    try simp -implicitDefEqProofs only [go_sem, Nat.reduceEqDiff, ↓reduceIte]
    rcases ite_inv H268 with ⟨c273, H274⟩ | ⟨c273, H274⟩
    · try simp -implicitDefEqProofs only [go_sem, Nat.reduceAdd, c273]
      obtain rfl := Option.some.inj H274
      exact end_pure (by first | (simp -implicitDefEqProofs only [go_sem, ↓reduceIte, Try.f9] <;> rfl) | rfl) (by first | rfl | (simp -implicitDefEqProofs only [go_sem, Int.reduceToNat, Int.reduceLT, Int.reduceLE, Int.reduceBEq, Int.reduceBNe, Nat.reduceLT, Nat.reduceBEq, Int.reduceEq, Nat.reduceEqDiff, Nat.reduceAdd, Nat.reduceSub, Nat.reduceMul, Nat.reduceLeDiff, reduceCtorEq, ↓reduceIte, eGTuple, eGBatch, eStorStore, c273]; done) | (simp -implicitDefEqProofs only [go_sem, Int.reduceToNat, Int.reduceLT, Int.reduceLE, Int.reduceBEq, Int.reduceBNe, Nat.reduceLT, Nat.reduceBEq, Int.reduceEq, Nat.reduceEqDiff, Nat.reduceAdd, Nat.reduceSub, Nat.reduceMul, Nat.reduceLeDiff, reduceCtorEq, ↓reduceIte, eGTuple, eGBatch, eStorStore, c273]; rfl)) rfl (by intro h; first | rfl | cases h)
    · try simp -implicitDefEqProofs only [go_sem, c273]
      refine runR_seq ?_
      refine runR_seq ?_
      refine runR_take tab_ok fol 1 ?_
      try simp -implicitDefEqProofs only [go_sem, Nat.reduceEqDiff, Nat.reduceAdd, ↓reduceIte]
      rcases ite_inv H274 with ⟨c275, H276⟩ | ⟨c275, H276⟩
      · refine runR_condT (by rfl) c275 ?_
        try simp -implicitDefEqProofs only [go_sem, c275]
        refine runR_seq ?_
        obtain ⟨e_19, E277, H278⟩ := bind_inv H276
        refine runR_join (α := { y : Bool // e_19 = y }) (fun | ⟨t65, _⟩ => ⟨upd 6 (.v (.bool t65)) noFr, noHp, 0⟩) ?_ ?_
        · refine runR_take tab_ok fol 1 ?_
          obtain ⟨t55, b279, H280⟩ := bind_inv E277
          try simp -implicitDefEqProofs only [go_sem, Nat.reduceEqDiff, Nat.reduceAdd, ↓reduceIte]
          refine onCall_pure (by first | rfl | (simp -implicitDefEqProofs only [go_sem, Int.reduceToNat, Int.reduceLT, Int.reduceLE, Int.reduceBEq, Int.reduceBNe, Nat.reduceLT, Nat.reduceBEq, Int.reduceEq, Nat.reduceEqDiff, Nat.reduceAdd, Nat.reduceSub, Nat.reduceMul, Nat.reduceLeDiff, reduceCtorEq, ↓reduceIte, eGTuple, eGBatch, eStorStore]; done) | (simp -implicitDefEqProofs only [go_sem, Int.reduceToNat, Int.reduceLT, Int.reduceLE, Int.reduceBEq, Int.reduceBNe, Nat.reduceLT, Nat.reduceBEq, Int.reduceEq, Nat.reduceEqDiff, Nat.reduceAdd, Nat.reduceSub, Nat.reduceMul, Nat.reduceLeDiff, reduceCtorEq, ↓reduceIte, eGTuple, eGBatch, eStorStore]; rfl)) (ref1_Same_ok b279) (by first | exact .inr rfl | exact .inl rfl) ?_
          try simp -implicitDefEqProofs only [go_sem, Nat.reduceAdd, ↓reduceIte]
          rcases ite_inv H280 with ⟨c281, H282⟩ | ⟨c281, H282⟩
          · obtain ⟨t58, b283, H284⟩ := bind_inv H282
            try simp -implicitDefEqProofs only [go_sem, Nat.reduceEqDiff, Nat.reduceAdd, ↓reduceIte, c281]
            refine onCall_pureA (by first | rfl | (simp -implicitDefEqProofs only [go_sem, reduceCtorEq, ↓reduceIte, eStorStore]; done) | (simp -implicitDefEqProofs only [go_sem, reduceCtorEq, ↓reduceIte, eStorStore]; rfl)) (PureA.of_pure (stor_Store_Rev_ok b283)) (by first | exact .inr rfl | exact .inl rfl) ?_
            try simp -implicitDefEqProofs only [go_sem, Nat.reduceEqDiff, Nat.reduceAdd, ↓reduceIte]
            rcases ite_inv H284 with ⟨c285, H286⟩ | ⟨c285, H286⟩
            · obtain ⟨t632, b287, H288⟩ := bind_inv H286
              try simp -implicitDefEqProofs only [go_sem, Nat.reduceAdd, ↓reduceIte, c285]
              refine onCall_pure (by first | rfl | (simp -implicitDefEqProofs only [go_sem, Int.reduceToNat, Int.reduceLT, Int.reduceLE, Int.reduceBEq, Int.reduceBNe, Nat.reduceLT, Nat.reduceBEq, Int.reduceEq, Nat.reduceEqDiff, Nat.reduceAdd, Nat.reduceSub, Nat.reduceMul, Nat.reduceLeDiff, reduceCtorEq, ↓reduceIte, eGTuple, eGBatch, eStorStore, c281, c285]; done) | (simp -implicitDefEqProofs only [go_sem, Int.reduceToNat, Int.reduceLT, Int.reduceLE, Int.reduceBEq, Int.reduceBNe, Nat.reduceLT, Nat.reduceBEq, Int.reduceEq, Nat.reduceEqDiff, Nat.reduceAdd, Nat.reduceSub, Nat.reduceMul, Nat.reduceLeDiff, reduceCtorEq, ↓reduceIte, eGTuple, eGBatch, eStorStore, c281, c285]; rfl)) (law4_awake_ok b287) (by first | exact .inr rfl | exact .inl rfl) ?_
              try simp -implicitDefEqProofs only [go_sem, Nat.reduceEqDiff, Nat.reduceAdd, ↓reduceIte]
              obtain rfl := Option.some.inj H288
              exact ⟨⟨t632, rfl⟩, ren_mk [] (by rfl) (rf_upd (by rfl) (rf_no _)) (rh_no _)⟩
            · try simp -implicitDefEqProofs only [go_sem, Nat.reduceEqDiff, Nat.reduceAdd, ↓reduceIte, c285]
              obtain rfl := Option.some.inj H286
              exact ⟨⟨false, rfl⟩, ren_mk [] (by rfl) (rf_upd (by rfl) (rf_no _)) (rh_no _)⟩
          · try simp -implicitDefEqProofs only [go_sem, Nat.reduceEqDiff, Nat.reduceAdd, ↓reduceIte, c281]
            obtain rfl := Option.some.inj H282
            exact ⟨⟨false, rfl⟩, ren_mk [] (by rfl) (rf_upd (by rfl) (rf_no _)) (rh_no _)⟩
        · rintro ⟨t65, he289⟩
          replace he289 := he289.symm
          subst he289
          try dsimp only at H278
          refine runR_take tab_ok fol 1 ?_
          try simp -implicitDefEqProofs only [go_sem]
          obtain rfl := Option.some.inj H278
          exact end_pure (by first | (simp -implicitDefEqProofs only [go_sem, ↓reduceIte, Try.f9] <;> rfl) | rfl) (by first | rfl | (simp -implicitDefEqProofs only [go_sem, Int.reduceToNat, Int.reduceLT, Int.reduceLE, Int.reduceBEq, Int.reduceBNe, Nat.reduceLT, Nat.reduceBEq, Int.reduceEq, Nat.reduceEqDiff, Nat.reduceAdd, Nat.reduceSub, Nat.reduceMul, Nat.reduceLeDiff, reduceCtorEq, ↓reduceIte, eGTuple, eGBatch, eStorStore]; done) | (simp -implicitDefEqProofs only [go_sem, Int.reduceToNat, Int.reduceLT, Int.reduceLE, Int.reduceBEq, Int.reduceBNe, Nat.reduceLT, Nat.reduceBEq, Int.reduceEq, Nat.reduceEqDiff, Nat.reduceAdd, Nat.reduceSub, Nat.reduceMul, Nat.reduceLeDiff, reduceCtorEq, ↓reduceIte, eGTuple, eGBatch, eStorStore]; rfl)) rfl (by intro h; first | rfl | cases h)
      · refine runR_condF (by rfl) c275 ?_
        try simp -implicitDefEqProofs only [go_sem, c275]
        refine runR_take tab_ok fol 2 ?_
        obtain ⟨t67, b290, H291⟩ := bind_inv H276
        try simp -implicitDefEqProofs only [go_sem, Nat.reduceEqDiff, Nat.reduceAdd, ↓reduceIte]
        refine onCall_pure (by first | rfl | (simp -implicitDefEqProofs only [go_sem, Int.reduceToNat, Int.reduceLT, Int.reduceLE, Int.reduceBEq, Int.reduceBNe, Nat.reduceLT, Nat.reduceBEq, Int.reduceEq, Nat.reduceEqDiff, Nat.reduceAdd, Nat.reduceSub, Nat.reduceMul, Nat.reduceLeDiff, reduceCtorEq, ↓reduceIte, eGTuple, eGBatch, eStorStore, c273, c275]; done) | (simp -implicitDefEqProofs only [go_sem, Int.reduceToNat, Int.reduceLT, Int.reduceLE, Int.reduceBEq, Int.reduceBNe, Nat.reduceLT, Nat.reduceBEq, Int.reduceEq, Nat.reduceEqDiff, Nat.reduceAdd, Nat.reduceSub, Nat.reduceMul, Nat.reduceLeDiff, reduceCtorEq, ↓reduceIte, eGTuple, eGBatch, eStorStore, c273, c275]; rfl)) (ref1_Same_ok b290) (by first | exact .inr rfl | exact .inl rfl) ?_
        obtain ⟨t72, b292, H293⟩ := bind_inv H291
        try simp -implicitDefEqProofs only [go_sem, Nat.reduceEqDiff, Nat.reduceAdd, reduceCtorEq, ↓reduceIte]
        refine onCallD_pure (by first | rfl | (simp -implicitDefEqProofs only [go_sem, Int.reduceToNat, Int.reduceLT, Int.reduceLE, Int.reduceBEq, Int.reduceBNe, Nat.reduceLT, Nat.reduceBEq, Int.reduceEq, Nat.reduceEqDiff, Nat.reduceAdd, Nat.reduceSub, Nat.reduceMul, Nat.reduceLeDiff, reduceCtorEq, ↓reduceIte, eGTuple, eGBatch, eStorStore, c273, c275]; done) | (simp -implicitDefEqProofs only [go_sem, Int.reduceToNat, Int.reduceLT, Int.reduceLE, Int.reduceBEq, Int.reduceBNe, Nat.reduceLT, Nat.reduceBEq, Int.reduceEq, Nat.reduceEqDiff, Nat.reduceAdd, Nat.reduceSub, Nat.reduceMul, Nat.reduceLeDiff, reduceCtorEq, ↓reduceIte, eGTuple, eGBatch, eStorStore, c273, c275]; rfl)) (ref1_Minus_ok b292) (by first | exact .inr rfl | exact .inl rfl) ?_
        obtain ⟨t75, b294, H295⟩ := bind_inv H293
        try simp -implicitDefEqProofs only [go_sem, Nat.reduceEqDiff, Nat.reduceAdd, reduceCtorEq, ↓reduceIte]
        refine onCallD_pure (by first | rfl | (simp -implicitDefEqProofs only [go_sem, Int.reduceToNat, Int.reduceLT, Int.reduceLE, Int.reduceBEq, Int.reduceBNe, Nat.reduceLT, Nat.reduceBEq, Int.reduceEq, Nat.reduceEqDiff, Nat.reduceAdd, Nat.reduceSub, Nat.reduceMul, Nat.reduceLeDiff, reduceCtorEq, ↓reduceIte, eGTuple, eGBatch, eStorStore, c273, c275]; done) | (simp -implicitDefEqProofs only [go_sem, Int.reduceToNat, Int.reduceLT, Int.reduceLE, Int.reduceBEq, Int.reduceBNe, Nat.reduceLT, Nat.reduceBEq, Int.reduceEq, Nat.reduceEqDiff, Nat.reduceAdd, Nat.reduceSub, Nat.reduceMul, Nat.reduceLeDiff, reduceCtorEq, ↓reduceIte, eGTuple, eGBatch, eStorStore, c273, c275]; rfl)) (ref1_Plus_ok b294) (by first | exact .inr rfl | exact .inl rfl) ?_
        obtain ⟨t76, b296, H297⟩ := bind_inv H295
        try simp -implicitDefEqProofs only [go_sem, Nat.reduceEqDiff, Nat.reduceAdd, ↓reduceIte]
        refine onCallD_pure (by first | rfl | (simp -implicitDefEqProofs only [go_sem, Int.reduceToNat, Int.reduceLT, Int.reduceLE, Int.reduceBEq, Int.reduceBNe, Nat.reduceLT, Nat.reduceBEq, Int.reduceEq, Nat.reduceEqDiff, Nat.reduceAdd, Nat.reduceSub, Nat.reduceMul, Nat.reduceLeDiff, reduceCtorEq, ↓reduceIte, eGTuple, eGBatch, eStorStore, c273, c275]; done) | (simp -implicitDefEqProofs only [go_sem, Int.reduceToNat, Int.reduceLT, Int.reduceLE, Int.reduceBEq, Int.reduceBNe, Nat.reduceLT, Nat.reduceBEq, Int.reduceEq, Nat.reduceEqDiff, Nat.reduceAdd, Nat.reduceSub, Nat.reduceMul, Nat.reduceLeDiff, reduceCtorEq, ↓reduceIte, eGTuple, eGBatch, eStorStore, c273, c275]; rfl)) (ref1_Same_ok b296) (by first | exact .inr rfl | exact .inl rfl) ?_
        try simp -implicitDefEqProofs only [go_sem, Nat.reduceAdd, ↓reduceIte]
        rcases ite_inv H297 with ⟨c298, H299⟩ | ⟨c298, H299⟩
        · obtain ⟨t79, b300, H301⟩ := bind_inv H299
          try simp -implicitDefEqProofs only [go_sem, Nat.reduceEqDiff, Nat.reduceAdd, ↓reduceIte, c298]
          refine onCallD_pureA [0, 1] (by intro hp1 h1; have h302 := h1 0 (by simp); have h303 := h1 1 (by simp); (try simp -implicitDefEqProofs only [go_sem, ↓reduceIte] at h302); (try simp -implicitDefEqProofs only [go_sem, reduceCtorEq, ↓reduceIte] at h303); first | (simp -implicitDefEqProofs only [go_sem, ↓reduceIte, eStorStore, h302, h303]; done) | (simp -implicitDefEqProofs only [go_sem, ↓reduceIte, eStorStore, h302, h303]; rfl)) (PureA.of_pure (stor_Store_Rev_ok b300)) (by first | exact .inr rfl | exact .inl rfl) ?_
          try simp -implicitDefEqProofs only [go_sem, Nat.reduceEqDiff, Nat.reduceAdd, ↓reduceIte]
          rcases ite_inv H301 with ⟨c304, H305⟩ | ⟨c304, H305⟩
          · try simp -implicitDefEqProofs only [go_sem, Nat.reduceEqDiff, Nat.reduceAdd, ↓reduceIte, c304]
            rcases ite_inv H305 with ⟨c306, H307⟩ | ⟨c306, H307⟩
            · obtain ⟨t97, b308, H309⟩ := bind_inv H307
              try simp -implicitDefEqProofs only [go_sem, Nat.reduceEqDiff, Nat.reduceAdd, ↓reduceIte, c306]
              refine onCallD_pureA [0, 1] (by intro hp1 h1; have h310 := h1 0 (by simp); have h311 := h1 1 (by simp); (try simp -implicitDefEqProofs only [go_sem, ↓reduceIte] at h310); (try simp -implicitDefEqProofs only [go_sem, reduceCtorEq, ↓reduceIte] at h311); first | (simp -implicitDefEqProofs only [go_sem, ↓reduceIte, eStorStore, h310, h311]; done) | (simp -implicitDefEqProofs only [go_sem, ↓reduceIte, eStorStore, h310, h311]; rfl)) (PureA.of_pure (stor_Store_Len_ok b308)) (by first | exact .inr rfl | exact .inl rfl) ?_
              try simp -implicitDefEqProofs only [go_sem, Nat.reduceEqDiff, Nat.reduceAdd, ↓reduceIte]
              rcases ite_inv H309 with ⟨c312, H313⟩ | ⟨c312, H313⟩
              · obtain ⟨t104, b314, H315⟩ := bind_inv H313
                try simp -implicitDefEqProofs only [go_sem, Nat.reduceEqDiff, Nat.reduceAdd, ↓reduceIte, c312]
                refine onCallD_pureA [0, 1] (by intro hp1 h1; have h316 := h1 0 (by simp); have h317 := h1 1 (by simp); (try simp -implicitDefEqProofs only [go_sem, ↓reduceIte] at h316); (try simp -implicitDefEqProofs only [go_sem, reduceCtorEq, ↓reduceIte] at h317); first | (simp -implicitDefEqProofs only [go_sem, ↓reduceIte, eStorStore, h316, h317]; done) | (simp -implicitDefEqProofs only [go_sem, ↓reduceIte, eStorStore, h316, h317]; rfl)) (PureA.of_pure (stor_Store_Len_ok b314)) (by first | exact .inr rfl | exact .inl rfl) ?_
                try simp -implicitDefEqProofs only [go_sem, Nat.reduceEqDiff, Nat.reduceAdd, ↓reduceIte]
                rcases ite_inv H315 with ⟨c318, H319⟩ | ⟨c318, H319⟩
                · obtain ⟨t111, b320, H321⟩ := bind_inv H319
                  try simp -implicitDefEqProofs only [go_sem, Nat.reduceAdd, ↓reduceIte, c318]
                  refine onCallD_pure (by first | rfl | (simp -implicitDefEqProofs only [go_sem, Int.reduceToNat, Int.reduceLT, Int.reduceLE, Int.reduceBEq, Int.reduceBNe, Nat.reduceLT, Nat.reduceBEq, Int.reduceEq, Nat.reduceEqDiff, Nat.reduceAdd, Nat.reduceSub, Nat.reduceMul, Nat.reduceLeDiff, reduceCtorEq, ↓reduceIte, eGTuple, eGBatch, eStorStore, c273, c275, c298, c304, c306, c312, c318]; done) | (simp -implicitDefEqProofs only [go_sem, Int.reduceToNat, Int.reduceLT, Int.reduceLE, Int.reduceBEq, Int.reduceBNe, Nat.reduceLT, Nat.reduceBEq, Int.reduceEq, Nat.reduceEqDiff, Nat.reduceAdd, Nat.reduceSub, Nat.reduceMul, Nat.reduceLeDiff, reduceCtorEq, ↓reduceIte, eGTuple, eGBatch, eStorStore, c273, c275, c298, c304, c306, c312, c318]; rfl)) (law4_awake_ok b320) (by first | exact .inr rfl | exact .inl rfl) ?_
                  try simp -implicitDefEqProofs only [go_sem, Nat.reduceEqDiff, Nat.reduceAdd, ↓reduceIte]
                  refine Rd_endF (by kernel_rfl) ?_
                  try simp -implicitDefEqProofs only [go_sem]
                  obtain rfl := Option.some.inj H321
                  exact end_pure (by first | (simp -implicitDefEqProofs only [go_sem, ↓reduceIte, Try.f9] <;> rfl) | rfl) (by first | rfl | (simp -implicitDefEqProofs only [go_sem, Int.reduceToNat, Int.reduceLT, Int.reduceLE, Int.reduceBEq, Int.reduceBNe, Nat.reduceLT, Nat.reduceBEq, Int.reduceEq, Nat.reduceEqDiff, Nat.reduceAdd, Nat.reduceSub, Nat.reduceMul, Nat.reduceLeDiff, reduceCtorEq, ↓reduceIte, eGTuple, eGBatch, eStorStore, c273, c275, c298, c304, c306, c312, c318]; done) | (simp -implicitDefEqProofs only [go_sem, Int.reduceToNat, Int.reduceLT, Int.reduceLE, Int.reduceBEq, Int.reduceBNe, Nat.reduceLT, Nat.reduceBEq, Int.reduceEq, Nat.reduceEqDiff, Nat.reduceAdd, Nat.reduceSub, Nat.reduceMul, Nat.reduceLeDiff, reduceCtorEq, ↓reduceIte, eGTuple, eGBatch, eStorStore, c273, c275, c298, c304, c306, c312, c318]; rfl)) rfl (by intro h; first | rfl | cases h)
                · try simp -implicitDefEqProofs only [go_sem, Nat.reduceEqDiff, Nat.reduceAdd, ↓reduceIte, c318]
                  refine Rd_endF (by kernel_rfl) ?_
                  try simp -implicitDefEqProofs only [go_sem]
                  obtain rfl := Option.some.inj H319
                  exact end_pure (by first | (simp -implicitDefEqProofs only [go_sem, ↓reduceIte, Try.f9] <;> rfl) | rfl) (by first | rfl | (simp -implicitDefEqProofs only [go_sem, Int.reduceToNat, Int.reduceLT, Int.reduceLE, Int.reduceBEq, Int.reduceBNe, Nat.reduceLT, Nat.reduceBEq, Int.reduceEq, Nat.reduceEqDiff, Nat.reduceAdd, Nat.reduceSub, Nat.reduceMul, Nat.reduceLeDiff, reduceCtorEq, ↓reduceIte, eGTuple, eGBatch, eStorStore, c273, c275, c298, c304, c306, c312, c318]; done) | (simp -implicitDefEqProofs only [go_sem, Int.reduceToNat, Int.reduceLT, Int.reduceLE, Int.reduceBEq, Int.reduceBNe, Nat.reduceLT, Nat.reduceBEq, Int.reduceEq, Nat.reduceEqDiff, Nat.reduceAdd, Nat.reduceSub, Nat.reduceMul, Nat.reduceLeDiff, reduceCtorEq, ↓reduceIte, eGTuple, eGBatch, eStorStore, c273, c275, c298, c304, c306, c312, c318]; rfl)) rfl (by intro h; first | rfl | cases h)
              · try simp -implicitDefEqProofs only [go_sem, Nat.reduceEqDiff, Nat.reduceAdd, ↓reduceIte, c312]
                refine Rd_endF (by kernel_rfl) ?_
                try simp -implicitDefEqProofs only [go_sem]
                obtain rfl := Option.some.inj H313
                exact end_pure (by first | (simp -implicitDefEqProofs only [go_sem, ↓reduceIte, Try.f9] <;> rfl) | rfl) (by first | rfl | (simp -implicitDefEqProofs only [go_sem, Int.reduceToNat, Int.reduceLT, Int.reduceLE, Int.reduceBEq, Int.reduceBNe, Nat.reduceLT, Nat.reduceBEq, Int.reduceEq, Nat.reduceEqDiff, Nat.reduceAdd, Nat.reduceSub, Nat.reduceMul, Nat.reduceLeDiff, reduceCtorEq, ↓reduceIte, eGTuple, eGBatch, eStorStore, c273, c275, c298, c304, c306, c312]; done) | (simp -implicitDefEqProofs only [go_sem, Int.reduceToNat, Int.reduceLT, Int.reduceLE, Int.reduceBEq, Int.reduceBNe, Nat.reduceLT, Nat.reduceBEq, Int.reduceEq, Nat.reduceEqDiff, Nat.reduceAdd, Nat.reduceSub, Nat.reduceMul, Nat.reduceLeDiff, reduceCtorEq, ↓reduceIte, eGTuple, eGBatch, eStorStore, c273, c275, c298, c304, c306, c312]; rfl)) rfl (by intro h; first | rfl | cases h)
            · obtain ⟨t89, b322, H323⟩ := bind_inv H307
              try simp -implicitDefEqProofs only [go_sem, Nat.reduceEqDiff, Nat.reduceAdd, ↓reduceIte, c306]
              refine onCallD_pureA [0, 1] (by intro hp1 h1; have h324 := h1 0 (by simp); have h325 := h1 1 (by simp); (try simp -implicitDefEqProofs only [go_sem, ↓reduceIte] at h324); (try simp -implicitDefEqProofs only [go_sem, reduceCtorEq, ↓reduceIte] at h325); first | (simp -implicitDefEqProofs only [go_sem, ↓reduceIte, eStorStore, h324, h325]; done) | (simp -implicitDefEqProofs only [go_sem, ↓reduceIte, eStorStore, h324, h325]; rfl)) (PureA.of_pure (stor_Store_Rev_ok b322)) (by first | exact .inr rfl | exact .inl rfl) ?_
              try simp -implicitDefEqProofs only [go_sem, Nat.reduceEqDiff, Nat.reduceAdd, ↓reduceIte]
              rcases ite_inv H323 with ⟨c326, H327⟩ | ⟨c326, H327⟩
              · obtain ⟨t972, b328, H329⟩ := bind_inv H327
                try simp -implicitDefEqProofs only [go_sem, Nat.reduceEqDiff, Nat.reduceAdd, ↓reduceIte, c326]
                refine onCallD_pureA [0, 1] (by intro hp1 h1; have h330 := h1 0 (by simp); have h331 := h1 1 (by simp); (try simp -implicitDefEqProofs only [go_sem, ↓reduceIte] at h330); (try simp -implicitDefEqProofs only [go_sem, reduceCtorEq, ↓reduceIte] at h331); first | (simp -implicitDefEqProofs only [go_sem, ↓reduceIte, eStorStore, h330, h331]; done) | (simp -implicitDefEqProofs only [go_sem, ↓reduceIte, eStorStore, h330, h331]; rfl)) (PureA.of_pure (stor_Store_Len_ok b328)) (by first | exact .inr rfl | exact .inl rfl) ?_
                try simp -implicitDefEqProofs only [go_sem, Nat.reduceEqDiff, Nat.reduceAdd, ↓reduceIte]
                rcases ite_inv H329 with ⟨c332, H333⟩ | ⟨c332, H333⟩
                · obtain ⟨t1042, b334, H335⟩ := bind_inv H333
                  try simp -implicitDefEqProofs only [go_sem, Nat.reduceEqDiff, Nat.reduceAdd, ↓reduceIte, c332]
                  refine onCallD_pureA [0, 1] (by intro hp1 h1; have h336 := h1 0 (by simp); have h337 := h1 1 (by simp); (try simp -implicitDefEqProofs only [go_sem, ↓reduceIte] at h336); (try simp -implicitDefEqProofs only [go_sem, reduceCtorEq, ↓reduceIte] at h337); first | (simp -implicitDefEqProofs only [go_sem, ↓reduceIte, eStorStore, h336, h337]; done) | (simp -implicitDefEqProofs only [go_sem, ↓reduceIte, eStorStore, h336, h337]; rfl)) (PureA.of_pure (stor_Store_Len_ok b334)) (by first | exact .inr rfl | exact .inl rfl) ?_
                  try simp -implicitDefEqProofs only [go_sem, Nat.reduceEqDiff, Nat.reduceAdd, ↓reduceIte]
                  rcases ite_inv H335 with ⟨c338, H339⟩ | ⟨c338, H339⟩
                  · obtain ⟨t1112, b340, H341⟩ := bind_inv H339
                    try simp -implicitDefEqProofs only [go_sem, Nat.reduceAdd, ↓reduceIte, c338]
                    refine onCallD_pure (by first | rfl | (simp -implicitDefEqProofs only [go_sem, Int.reduceToNat, Int.reduceLT, Int.reduceLE, Int.reduceBEq, Int.reduceBNe, Nat.reduceLT, Nat.reduceBEq, Int.reduceEq, Nat.reduceEqDiff, Nat.reduceAdd, Nat.reduceSub, Nat.reduceMul, Nat.reduceLeDiff, reduceCtorEq, ↓reduceIte, eGTuple, eGBatch, eStorStore, c273, c275, c298, c304, c306, c326, c332, c338]; done) | (simp -implicitDefEqProofs only [go_sem, Int.reduceToNat, Int.reduceLT, Int.reduceLE, Int.reduceBEq, Int.reduceBNe, Nat.reduceLT, Nat.reduceBEq, Int.reduceEq, Nat.reduceEqDiff, Nat.reduceAdd, Nat.reduceSub, Nat.reduceMul, Nat.reduceLeDiff, reduceCtorEq, ↓reduceIte, eGTuple, eGBatch, eStorStore, c273, c275, c298, c304, c306, c326, c332, c338]; rfl)) (law4_awake_ok b340) (by first | exact .inr rfl | exact .inl rfl) ?_
                    try simp -implicitDefEqProofs only [go_sem, Nat.reduceEqDiff, Nat.reduceAdd, ↓reduceIte]
                    refine Rd_endF (by kernel_rfl) ?_
                    try simp -implicitDefEqProofs only [go_sem]
                    obtain rfl := Option.some.inj H341
                    exact end_pure (by first | (simp -implicitDefEqProofs only [go_sem, ↓reduceIte, Try.f9] <;> rfl) | rfl) (by first | rfl | (simp -implicitDefEqProofs only [go_sem, Int.reduceToNat, Int.reduceLT, Int.reduceLE, Int.reduceBEq, Int.reduceBNe, Nat.reduceLT, Nat.reduceBEq, Int.reduceEq, Nat.reduceEqDiff, Nat.reduceAdd, Nat.reduceSub, Nat.reduceMul, Nat.reduceLeDiff, reduceCtorEq, ↓reduceIte, eGTuple, eGBatch, eStorStore, c273, c275, c298, c304, c306, c326, c332, c338]; done) | (simp -implicitDefEqProofs only [go_sem, Int.reduceToNat, Int.reduceLT, Int.reduceLE, Int.reduceBEq, Int.reduceBNe, Nat.reduceLT, Nat.reduceBEq, Int.reduceEq, Nat.reduceEqDiff, Nat.reduceAdd, Nat.reduceSub, Nat.reduceMul, Nat.reduceLeDiff, reduceCtorEq, ↓reduceIte, eGTuple, eGBatch, eStorStore, c273, c275, c298, c304, c306, c326, c332, c338]; rfl)) rfl (by intro h; first | rfl | cases h)
                  · try simp -implicitDefEqProofs only [go_sem, Nat.reduceEqDiff, Nat.reduceAdd, ↓reduceIte, c338]
                    refine Rd_endF (by kernel_rfl) ?_
                    try simp -implicitDefEqProofs only [go_sem]
                    obtain rfl := Option.some.inj H339
                    exact end_pure (by first | (simp -implicitDefEqProofs only [go_sem, ↓reduceIte, Try.f9] <;> rfl) | rfl) (by first | rfl | (simp -implicitDefEqProofs only [go_sem, Int.reduceToNat, Int.reduceLT, Int.reduceLE, Int.reduceBEq, Int.reduceBNe, Nat.reduceLT, Nat.reduceBEq, Int.reduceEq, Nat.reduceEqDiff, Nat.reduceAdd, Nat.reduceSub, Nat.reduceMul, Nat.reduceLeDiff, reduceCtorEq, ↓reduceIte, eGTuple, eGBatch, eStorStore, c273, c275, c298, c304, c306, c326, c332, c338]; done) | (simp -implicitDefEqProofs only [go_sem, Int.reduceToNat, Int.reduceLT, Int.reduceLE, Int.reduceBEq, Int.reduceBNe, Nat.reduceLT, Nat.reduceBEq, Int.reduceEq, Nat.reduceEqDiff, Nat.reduceAdd, Nat.reduceSub, Nat.reduceMul, Nat.reduceLeDiff, reduceCtorEq, ↓reduceIte, eGTuple, eGBatch, eStorStore, c273, c275, c298, c304, c306, c326, c332, c338]; rfl)) rfl (by intro h; first | rfl | cases h)
                · try simp -implicitDefEqProofs only [go_sem, Nat.reduceEqDiff, Nat.reduceAdd, ↓reduceIte, c332]
                  refine Rd_endF (by kernel_rfl) ?_
                  try simp -implicitDefEqProofs only [go_sem]
                  obtain rfl := Option.some.inj H333
                  exact end_pure (by first | (simp -implicitDefEqProofs only [go_sem, ↓reduceIte, Try.f9] <;> rfl) | rfl) (by first | rfl | (simp -implicitDefEqProofs only [go_sem, Int.reduceToNat, Int.reduceLT, Int.reduceLE, Int.reduceBEq, Int.reduceBNe, Nat.reduceLT, Nat.reduceBEq, Int.reduceEq, Nat.reduceEqDiff, Nat.reduceAdd, Nat.reduceSub, Nat.reduceMul, Nat.reduceLeDiff, reduceCtorEq, ↓reduceIte, eGTuple, eGBatch, eStorStore, c273, c275, c298, c304, c306, c326, c332]; done) | (simp -implicitDefEqProofs only [go_sem, Int.reduceToNat, Int.reduceLT, Int.reduceLE, Int.reduceBEq, Int.reduceBNe, Nat.reduceLT, Nat.reduceBEq, Int.reduceEq, Nat.reduceEqDiff, Nat.reduceAdd, Nat.reduceSub, Nat.reduceMul, Nat.reduceLeDiff, reduceCtorEq, ↓reduceIte, eGTuple, eGBatch, eStorStore, c273, c275, c298, c304, c306, c326, c332]; rfl)) rfl (by intro h; first | rfl | cases h)
              · try simp -implicitDefEqProofs only [go_sem, Nat.reduceEqDiff, Nat.reduceAdd, ↓reduceIte, c326]
                refine Rd_endF (by kernel_rfl) ?_
                try simp -implicitDefEqProofs only [go_sem]
                obtain rfl := Option.some.inj H327
                exact end_pure (by first | (simp -implicitDefEqProofs only [go_sem, ↓reduceIte, Try.f9] <;> rfl) | rfl) (by first | rfl | (simp -implicitDefEqProofs only [go_sem, Int.reduceToNat, Int.reduceLT, Int.reduceLE, Int.reduceBEq, Int.reduceBNe, Nat.reduceLT, Nat.reduceBEq, Int.reduceEq, Nat.reduceEqDiff, Nat.reduceAdd, Nat.reduceSub, Nat.reduceMul, Nat.reduceLeDiff, reduceCtorEq, ↓reduceIte, eGTuple, eGBatch, eStorStore, c273, c275, c298, c304, c306, c326]; done) | (simp -implicitDefEqProofs only [go_sem, Int.reduceToNat, Int.reduceLT, Int.reduceLE, Int.reduceBEq, Int.reduceBNe, Nat.reduceLT, Nat.reduceBEq, Int.reduceEq, Nat.reduceEqDiff, Nat.reduceAdd, Nat.reduceSub, Nat.reduceMul, Nat.reduceLeDiff, reduceCtorEq, ↓reduceIte, eGTuple, eGBatch, eStorStore, c273, c275, c298, c304, c306, c326]; rfl)) rfl (by intro h; first | rfl | cases h)
          · try simp -implicitDefEqProofs only [go_sem, Nat.reduceEqDiff, Nat.reduceAdd, ↓reduceIte, c304]
            refine Rd_endF (by kernel_rfl) ?_
            try simp -implicitDefEqProofs only [go_sem]
            obtain rfl := Option.some.inj H305
            exact end_pure (by first | (simp -implicitDefEqProofs only [go_sem, ↓reduceIte, Try.f9] <;> rfl) | rfl) (by first | rfl | (simp -implicitDefEqProofs only [go_sem, Int.reduceToNat, Int.reduceLT, Int.reduceLE, Int.reduceBEq, Int.reduceBNe, Nat.reduceLT, Nat.reduceBEq, Int.reduceEq, Nat.reduceEqDiff, Nat.reduceAdd, Nat.reduceSub, Nat.reduceMul, Nat.reduceLeDiff, reduceCtorEq, ↓reduceIte, eGTuple, eGBatch, eStorStore, c273, c275, c298, c304]; done) | (simp -implicitDefEqProofs only [go_sem, Int.reduceToNat, Int.reduceLT, Int.reduceLE, Int.reduceBEq, Int.reduceBNe, Nat.reduceLT, Nat.reduceBEq, Int.reduceEq, Nat.reduceEqDiff, Nat.reduceAdd, Nat.reduceSub, Nat.reduceMul, Nat.reduceLeDiff, reduceCtorEq, ↓reduceIte, eGTuple, eGBatch, eStorStore, c273, c275, c298, c304]; rfl)) rfl (by intro h; first | rfl | cases h)
        · try simp -implicitDefEqProofs only [go_sem, Nat.reduceEqDiff, Nat.reduceAdd, ↓reduceIte, c298]
          refine Rd_endF (by kernel_rfl) ?_
          try simp -implicitDefEqProofs only [go_sem]
          obtain rfl := Option.some.inj H299
          exact end_pure (by first | (simp -implicitDefEqProofs only [go_sem, ↓reduceIte, Try.f9] <;> rfl) | rfl) (by first | rfl | (simp -implicitDefEqProofs only [go_sem, Int.reduceToNat, Int.reduceLT, Int.reduceLE, Int.reduceBEq, Int.reduceBNe, Nat.reduceLT, Nat.reduceBEq, Int.reduceEq, Nat.reduceEqDiff, Nat.reduceAdd, Nat.reduceSub, Nat.reduceMul, Nat.reduceLeDiff, reduceCtorEq, ↓reduceIte, eGTuple, eGBatch, eStorStore, c273, c275, c298]; done) | (simp -implicitDefEqProofs only [go_sem, Int.reduceToNat, Int.reduceLT, Int.reduceLE, Int.reduceBEq, Int.reduceBNe, Nat.reduceLT, Nat.reduceBEq, Int.reduceEq, Nat.reduceEqDiff, Nat.reduceAdd, Nat.reduceSub, Nat.reduceMul, Nat.reduceLeDiff, reduceCtorEq, ↓reduceIte, eGTuple, eGBatch, eStorStore, c273, c275, c298]; rfl)) rfl (by intro h; first | rfl | cases h)
end Go.Proofs.Ytdckfddlcmkdlaa.Ab
