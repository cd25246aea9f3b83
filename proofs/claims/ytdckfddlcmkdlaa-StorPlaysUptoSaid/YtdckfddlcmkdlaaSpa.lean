/-
  Functions, read off the code.
-/
import Derived.Test.YtdckfddlcmkdlaaSxs
import Derived.Test.YtdckfddlcmkdlaaSba
import Derived.Test.YtdckfddlcmkdlaaNl
namespace Go.Proofs.Ytdckfddlcmkdlaa.Ab
open Go.RowKit
def law4_StorPlays_C1_stor_New (_ : Nat) : Option Unit :=
  some ()

def law4_StorPlays_C2_ref1_NewStore (_ : Nat) : Option Unit :=
  some ()

def law4_StorPlays_C4_stor_Store_now (n : Nat) (t02 : Int) : Option (List GTuple) :=
  (stor_Store_Rev n (⟨(if 1000000 < (if t02 < 0 then 0 else t02) then 1000000 else (if t02 < 0 then 0 else t02)), [[]]⟩ : StorStore)).bind fun t812 =>
  (idx [[]] t812).bind fun x44 =>
  some x44

def law4_StorPlays_C7_stor_Store_Write_c2 (n : Nat) (t216 : List GTuple) (x46 : GTuple) : Option Bool :=
  (stor_Store_Write_c1 n x46 t216).bind fun t68 =>
  some (!t68)

def law4_StorPlays_L2 (n : Nat) (t1 : GBatch) (t02 : Int) (t216 : List GTuple) : Nat → Int → Option ((Unit) ⊕ Int)
  | 0, _ => none
  | c + 1, t813 =>
    (if (decide (t813 < (t1.must.length : Int))) then
      (idx t1.must t813).bind fun x46 =>
      (law4_StorPlays_C7_stor_Store_Write_c2 n t216 x46 : Option Bool).bind fun t313 =>
      (if t313 then
        some (.inr t813)
      else
        law4_StorPlays_L2 n t1 t02 t216 c (IntKind.i64.wrap (t813 + 1)))
    else
      some (.inl ()))

def law4_StorPlays_C6_slices_IndexFunc_Tuple (n : Nat) (t1 : GBatch) (t02 : Int) (t216 : List GTuple) : Option Int :=
  (
    law4_StorPlays_L2 n t1 t02 t216 n 0 : Option ((Unit) ⊕ Int)).bind fun
    | .inl _ =>
      some (-1)
    | .inr r => some r

def law4_StorPlays_C5_slices_ContainsFunc_Tuple (n : Nat) (t1 : GBatch) (t02 : Int) (t216 : List GTuple) : Option Bool :=
  (law4_StorPlays_C6_slices_IndexFunc_Tuple n t1 t02 t216 : Option Int).bind fun t417 =>
  some (decide (0 ≤ t417))

def law4_StorPlays_C3_stor_Store_Write (n : Nat) (t1 : GBatch) (t02 : Int) : Option (Int × Nat × List (List GTuple)) :=
  (
    (stor_wrong n t1.add).bind fun t126 =>
    (if t126 then
      some true
    else
      (stor_wrong n t1.drop).bind fun t164 =>
      (if t164 then
        some true
      else
        (stor_wrong n t1.must).bind fun t215 =>
        (if t215 then
          some true
        else
          (stor_wrong n t1.not_).bind fun t264 =>
          some t264))) : Option (Bool)).bind fun t274 =>
  (if t274 then
    some (2, 0, [[]])
  else
    (rows_Of n t1.add).bind fun t304 =>
    (rows_Of n t1.drop).bind fun t334 =>
    (law4_StorPlays_C4_stor_Store_now n t02 : Option (List GTuple)).bind fun t216 =>
    (rows_Minus n t216 t334).bind fun t394 =>
    (rows_Plus n t394 t304).bind fun t416 =>
    (rows_Minus n t304 t334).bind fun t454 =>
    (if (decide ((t454.length : Int) < (t304.length : Int))) then
      some (6, 0, [[]])
    else
      (law4_StorPlays_C5_slices_ContainsFunc_Tuple n t1 t02 t216 : Option Bool).bind fun t418 =>
      (if t418 then
        some (4, 0, [[]])
      else
        (slices_ContainsFunc_Tuple__stor_Store_Write_c1 n t1.not_ t216).bind fun t594 =>
        (if t594 then
          some (3, 0, [[]])
        else
          (if (decide ((if 1000000 < (if t02 < 0 then 0 else t02) then 1000000 else (if t02 < 0 then 0 else t02)) < (t416.length : Int))) then
            some (5, 0, [[]])
          else
            (slices_Equal_Tuple n t416 t216).bind fun t7010 =>
            (if t7010 then
              some (0, 0, [[]])
            else
              some (0, 1, [[], t416])))))))

def law4_StorPlays_C9_ref1_Store_All (_ : Nat) : Option Unit :=
  some ()

def law4_StorPlays_L3 (n : Nat) (t1 : GBatch) (t02 : Int) (g15 : Nat) (o912 : List (List GTuple)) (l20 : List GTuple) : Nat → Int → Option ((Unit) ⊕ (Int × Nat × List (List GTuple)))
  | 0, _ => none
  | c + 1, t77 =>
    (if (decide (t77 < (l20.length : Int))) then
      (idx l20 t77).bind fun x48 =>
      (ref1_Ok n x48).bind fun t388 =>
      (if t388 then
        law4_StorPlays_L3 n t1 t02 g15 o912 l20 c (IntKind.i64.wrap (t77 + 1))
      else
        some (.inr (2, 0, [[]])))
    else
      some (.inl ()))

def law4_StorPlays_L4 (n : Nat) (t1 : GBatch) (t02 : Int) (g15 : Nat) (o912 : List (List GTuple)) (t425 : List GTuple) : Nat → Int → Option ((Unit) ⊕ (Int × Nat × List (List GTuple)))
  | 0, _ => none
  | c + 1, t99 =>
    (if (decide (t99 < (t1.add.length : Int))) then
      (idx t1.add t99).bind fun x50 =>
      (ref1_Has n t425 x50).bind fun t568 =>
      (if t568 then
        some (.inr (6, 0, [[]]))
      else
        law4_StorPlays_L4 n t1 t02 g15 o912 t425 c (IntKind.i64.wrap (t99 + 1)))
    else
      some (.inl ()))

def law4_StorPlays_L5 (n : Nat) (t1 : GBatch) (t02 : Int) (g15 : Nat) (o912 : List (List GTuple)) : Nat → Int → Option ((Unit) ⊕ (Int × Nat × List (List GTuple)))
  | 0, _ => none
  | c + 1, t107 =>
    (if (decide (t107 < (t1.must.length : Int))) then
      (idx t1.must t107).bind fun x52 =>
      (ref1_Has n [] x52).bind fun t7012 =>
      (if t7012 then
        law4_StorPlays_L5 n t1 t02 g15 o912 c (IntKind.i64.wrap (t107 + 1))
      else
        some (.inr (4, 0, [[]])))
    else
      some (.inl ()))

def law4_StorPlays_L6 (n : Nat) (t1 : GBatch) (t02 : Int) (g15 : Nat) (o912 : List (List GTuple)) : Nat → Int → Option ((Unit) ⊕ (Int × Nat × List (List GTuple)))
  | 0, _ => none
  | c + 1, t117 =>
    (if (decide (t117 < (t1.not_.length : Int))) then
      (idx t1.not_ t117).bind fun x54 =>
      (ref1_Has n [] x54).bind fun t858 =>
      (if t858 then
        some (.inr (3, 0, [[]]))
      else
        law4_StorPlays_L6 n t1 t02 g15 o912 c (IntKind.i64.wrap (t117 + 1)))
    else
      some (.inl ()))

def law4_StorPlays_C8_ref1_Store_Write (n : Nat) (t1 : GBatch) (t02 : Int) (g15 : Nat) (o912 : List (List GTuple)) : Option (Int × Nat × List (List GTuple)) :=
  (law4_StorPlays_C9_ref1_Store_All n : Option Unit).bind fun _ =>
  (app [] t1.add).bind fun _ =>
  (app t1.add t1.drop).bind fun l18 =>
  (app l18 t1.must).bind fun l19 =>
  (app l19 t1.not_).bind fun l20 =>
  (
    law4_StorPlays_L3 n t1 t02 g15 o912 l20 n 0 : Option ((Unit) ⊕ (Int × Nat × List (List GTuple)))).bind fun
    | .inl _ =>
      (ref1_Of n t1.drop).bind fun t425 =>
      (
        law4_StorPlays_L4 n t1 t02 g15 o912 t425 n 0 : Option ((Unit) ⊕ (Int × Nat × List (List GTuple)))).bind fun
        | .inl _ =>
          (
            law4_StorPlays_L5 n t1 t02 g15 o912 n 0 : Option ((Unit) ⊕ (Int × Nat × List (List GTuple)))).bind fun
            | .inl _ =>
              (
                law4_StorPlays_L6 n t1 t02 g15 o912 n 0 : Option ((Unit) ⊕ (Int × Nat × List (List GTuple)))).bind fun
                | .inl _ =>
                  (ref1_Minus n [] t1.drop).bind fun t894 =>
                  (ref1_Plus n t894 t1.add).bind fun t925 =>
                  (if (decide ((if 1000000 < (if t02 < 0 then 0 else t02) then 1000000 else (if t02 < 0 then 0 else t02)) < (t925.length : Int))) then
                    some (5, 0, [[]])
                  else
                    (ref1_Same n t925 []).bind fun t1025 =>
                    (if t1025 then
                      some (0, 0, [[]])
                    else
                      some (0, 1, [[], t925])))
                | .inr r => some r
            | .inr r => some r
        | .inr r => some r
    | .inr r => some r

def law4_StorPlays_C11_stor_Store_now (n : Nat) (t02 : Int) (t1019 : List (List GTuple)) : Option (List GTuple) :=
  (stor_Store_Rev n (⟨(if 1000000 < (if t02 < 0 then 0 else t02) then 1000000 else (if t02 < 0 then 0 else t02)), t1019⟩ : StorStore)).bind fun t818 =>
  (idx t1019 t818).bind fun x71 =>
  some x71

def law4_StorPlays_C14_stor_Store_Write_c2 (n : Nat) (t222 : List GTuple) (x73 : GTuple) : Option Bool :=
  (stor_Store_Write_c1 n x73 t222).bind fun t613 =>
  some (!t613)

def law4_StorPlays_L8 (n : Nat) (t1 : GBatch) (t02 : Int) (g21 : Nat) (t1019 : List (List GTuple)) (g22 : Nat) (t1116 : List (List GTuple)) (t694 : GBatch) (t222 : List GTuple) : Nat → Int → Option ((Unit) ⊕ Int)
  | 0, _ => none
  | c + 1, t819 =>
    (if (decide (t819 < (t694.must.length : Int))) then
      (idx t694.must t819).bind fun x73 =>
      (law4_StorPlays_C14_stor_Store_Write_c2 n t222 x73 : Option Bool).bind fun t317 =>
      (if t317 then
        some (.inr t819)
      else
        law4_StorPlays_L8 n t1 t02 g21 t1019 g22 t1116 t694 t222 c (IntKind.i64.wrap (t819 + 1)))
    else
      some (.inl ()))

def law4_StorPlays_C13_slices_IndexFunc_Tuple (n : Nat) (t1 : GBatch) (t02 : Int) (g21 : Nat) (t1019 : List (List GTuple)) (g22 : Nat) (t1116 : List (List GTuple)) (t694 : GBatch) (t222 : List GTuple) : Option Int :=
  (
    law4_StorPlays_L8 n t1 t02 g21 t1019 g22 t1116 t694 t222 n 0 : Option ((Unit) ⊕ Int)).bind fun
    | .inl _ =>
      some (-1)
    | .inr r => some r

def law4_StorPlays_C12_slices_ContainsFunc_Tuple (n : Nat) (t1 : GBatch) (t02 : Int) (g21 : Nat) (t1019 : List (List GTuple)) (g22 : Nat) (t1116 : List (List GTuple)) (t694 : GBatch) (t222 : List GTuple) : Option Bool :=
  (law4_StorPlays_C13_slices_IndexFunc_Tuple n t1 t02 g21 t1019 g22 t1116 t694 t222 : Option Int).bind fun t430 =>
  some (decide (0 ≤ t430))

def law4_StorPlays_C10_stor_Store_Write (n : Nat) (t1 : GBatch) (t02 : Int) (g21 : Nat) (t1019 : List (List GTuple)) (g22 : Nat) (t1116 : List (List GTuple)) (t694 : GBatch) : Option (Int × Nat × List (List GTuple)) :=
  (
    (stor_wrong n t694.add).bind fun t129 =>
    (if t129 then
      some true
    else
      (stor_wrong n t694.drop).bind fun t166 =>
      (if t166 then
        some true
      else
        (stor_wrong n t694.must).bind fun t2110 =>
        (if t2110 then
          some true
        else
          (stor_wrong n t694.not_).bind fun t266 =>
          some t266))) : Option (Bool)).bind fun t276 =>
  (if t276 then
    some (2, g21, t1019)
  else
    (rows_Of n t694.add).bind fun t306 =>
    (rows_Of n t694.drop).bind fun t336 =>
    (law4_StorPlays_C11_stor_Store_now n t02 t1019 : Option (List GTuple)).bind fun t222 =>
    (rows_Minus n t222 t336).bind fun t396 =>
    (rows_Plus n t396 t306).bind fun t4111 =>
    (rows_Minus n t306 t336).bind fun t456 =>
    (if (decide ((t456.length : Int) < (t306.length : Int))) then
      some (6, g21, t1019)
    else
      (law4_StorPlays_C12_slices_ContainsFunc_Tuple n t1 t02 g21 t1019 g22 t1116 t694 t222 : Option Bool).bind fun t431 =>
      (if t431 then
        some (4, g21, t1019)
      else
        (slices_ContainsFunc_Tuple__stor_Store_Write_c1 n t694.not_ t222).bind fun t596 =>
        (if t596 then
          some (3, g21, t1019)
        else
          (if (decide ((if 1000000 < (if t02 < 0 then 0 else t02) then 1000000 else (if t02 < 0 then 0 else t02)) < (t4111.length : Int))) then
            some (5, g21, t1019)
          else
            (slices_Equal_Tuple n t4111 t222).bind fun t7016 =>
            (if t7016 then
              some (0, g21, t1019)
            else
              (app t1019 [t4111]).bind fun l27 =>
              some (0, (g21 + 1), l27)))))))

def law4_StorPlays_C16_ref1_Store_All (_ : Nat) (t1116 : List (List GTuple)) : Option (List GTuple) :=
  (idx t1116 (IntKind.i64.wrap ((t1116.length : Int) - 1))).bind fun x74 =>
  some x74

def law4_StorPlays_L9 (n : Nat) (t1 : GBatch) (t02 : Int) (g22 : Nat) (t1116 : List (List GTuple)) (t694 : GBatch) (g23 : Nat) (o114 : List (List GTuple)) (l31 : List GTuple) : Nat → Int → Option ((Unit) ⊕ (Int × Nat × List (List GTuple)))
  | 0, _ => none
  | c + 1, t712 =>
    (if (decide (t712 < (l31.length : Int))) then
      (idx l31 t712).bind fun x76 =>
      (ref1_Ok n x76).bind fun t3812 =>
      (if t3812 then
        law4_StorPlays_L9 n t1 t02 g22 t1116 t694 g23 o114 l31 c (IntKind.i64.wrap (t712 + 1))
      else
        some (.inr (2, g22, t1116)))
    else
      some (.inl ()))

def law4_StorPlays_L10 (n : Nat) (t1 : GBatch) (t02 : Int) (g22 : Nat) (t1116 : List (List GTuple)) (t694 : GBatch) (g23 : Nat) (o114 : List (List GTuple)) (t4210 : List GTuple) : Nat → Int → Option ((Unit) ⊕ (Int × Nat × List (List GTuple)))
  | 0, _ => none
  | c + 1, t913 =>
    (if (decide (t913 < (t694.add.length : Int))) then
      (idx t694.add t913).bind fun x78 =>
      (ref1_Has n t4210 x78).bind fun t5612 =>
      (if t5612 then
        some (.inr (6, g22, t1116))
      else
        law4_StorPlays_L10 n t1 t02 g22 t1116 t694 g23 o114 t4210 c (IntKind.i64.wrap (t913 + 1)))
    else
      some (.inl ()))

def law4_StorPlays_L11 (n : Nat) (t1 : GBatch) (t02 : Int) (g22 : Nat) (t1116 : List (List GTuple)) (t694 : GBatch) (g23 : Nat) (o114 : List (List GTuple)) (t223 : List GTuple) : Nat → Int → Option ((Unit) ⊕ (Int × Nat × List (List GTuple)))
  | 0, _ => none
  | c + 1, t1011 =>
    (if (decide (t1011 < (t694.must.length : Int))) then
      (idx t694.must t1011).bind fun x80 =>
      (ref1_Has n t223 x80).bind fun t7018 =>
      (if t7018 then
        law4_StorPlays_L11 n t1 t02 g22 t1116 t694 g23 o114 t223 c (IntKind.i64.wrap (t1011 + 1))
      else
        some (.inr (4, g22, t1116)))
    else
      some (.inl ()))

def law4_StorPlays_L12 (n : Nat) (t1 : GBatch) (t02 : Int) (g22 : Nat) (t1116 : List (List GTuple)) (t694 : GBatch) (g23 : Nat) (o114 : List (List GTuple)) (t223 : List GTuple) : Nat → Int → Option ((Unit) ⊕ (Int × Nat × List (List GTuple)))
  | 0, _ => none
  | c + 1, t1111 =>
    (if (decide (t1111 < (t694.not_.length : Int))) then
      (idx t694.not_ t1111).bind fun x82 =>
      (ref1_Has n t223 x82).bind fun t8512 =>
      (if t8512 then
        some (.inr (3, g22, t1116))
      else
        law4_StorPlays_L12 n t1 t02 g22 t1116 t694 g23 o114 t223 c (IntKind.i64.wrap (t1111 + 1)))
    else
      some (.inl ()))

def law4_StorPlays_C15_ref1_Store_Write (n : Nat) (t1 : GBatch) (t02 : Int) (g22 : Nat) (t1116 : List (List GTuple)) (t694 : GBatch) (g23 : Nat) (o114 : List (List GTuple)) : Option (Int × Nat × List (List GTuple)) :=
  (law4_StorPlays_C16_ref1_Store_All n t1116 : Option (List GTuple)).bind fun t223 =>
  (app [] t694.add).bind fun _ =>
  (app t694.add t694.drop).bind fun l29 =>
  (app l29 t694.must).bind fun l30 =>
  (app l30 t694.not_).bind fun l31 =>
  (
    law4_StorPlays_L9 n t1 t02 g22 t1116 t694 g23 o114 l31 n 0 : Option ((Unit) ⊕ (Int × Nat × List (List GTuple)))).bind fun
    | .inl _ =>
      (ref1_Of n t694.drop).bind fun t4210 =>
      (
        law4_StorPlays_L10 n t1 t02 g22 t1116 t694 g23 o114 t4210 n 0 : Option ((Unit) ⊕ (Int × Nat × List (List GTuple)))).bind fun
        | .inl _ =>
          (
            law4_StorPlays_L11 n t1 t02 g22 t1116 t694 g23 o114 t223 n 0 : Option ((Unit) ⊕ (Int × Nat × List (List GTuple)))).bind fun
            | .inl _ =>
              (
                law4_StorPlays_L12 n t1 t02 g22 t1116 t694 g23 o114 t223 n 0 : Option ((Unit) ⊕ (Int × Nat × List (List GTuple)))).bind fun
                | .inl _ =>
                  (ref1_Minus n t223 t694.drop).bind fun t896 =>
                  (ref1_Plus n t896 t694.add).bind fun t927 =>
                  (if (decide ((if 1000000 < (if t02 < 0 then 0 else t02) then 1000000 else (if t02 < 0 then 0 else t02)) < (t927.length : Int))) then
                    some (5, g22, t1116)
                  else
                    (ref1_Same n t927 t223).bind fun t1027 =>
                    (if t1027 then
                      some (0, g22, t1116)
                    else
                      (app t1116 [t927]).bind fun l32 =>
                      some (0, (g22 + 1), l32)))
                | .inr r => some r
            | .inr r => some r
        | .inr r => some r
    | .inr r => some r

def law4_StorPlays_C17_ref1_Store_All (_ : Nat) (o314 : List (List GTuple)) : Option (List GTuple) :=
  (idx o314 (IntKind.i64.wrap ((o314.length : Int) - 1))).bind fun x83 =>
  some x83

def law4_StorPlays_C18_ref1_Store_All (_ : Nat) (o314 : List (List GTuple)) : Option (List GTuple) :=
  (idx o314 (IntKind.i64.wrap ((o314.length : Int) - 1))).bind fun x84 =>
  some x84

def law4_StorPlays_L7 (n : Nat) (t1 : GBatch) (t2 : List (List Int)) (t02 : Int) : Nat → (Nat × List (List GTuple) × Nat × List (List GTuple) × Int) → Option ((Nat × List (List GTuple) × Nat × List (List GTuple)) ⊕ Bool)
  | 0, _ => none
  | c + 1, (g21, t1019, g22, t1116, t128) =>
    (
      (if (decide (t128 < (t2.length : Int))) then
        some (decide (t128 < 30))
      else
        some false) : Option (Bool)).bind fun t625 =>
    (if t625 then
      (idx t2 t128).bind fun x70 =>
      (law4_Batch n x70).bind fun t694 =>
      (law4_StorPlays_C10_stor_Store_Write n t1 t02 g21 t1019 g22 t1116 t694 : Option (Int × Nat × List (List GTuple))).bind fun (t432, g23, o114) =>
      (law4_StorPlays_C15_ref1_Store_Write n t1 t02 g22 t1116 t694 g23 o114 : Option (Int × Nat × List (List GTuple))).bind fun (t433, g24, o314) =>
      (if (t432 != t433) then
        some (.inr false)
      else
        (stor_Store_Rev n (⟨(if 1000000 < (if t02 < 0 then 0 else t02) then 1000000 else (if t02 < 0 then 0 else t02)), o114⟩ : StorStore)).bind fun t794 =>
        (if (t794 != (IntKind.i64.wrap ((o314.length : Int) - 1))) then
          some (.inr false)
        else
          (stor_Store_Len n (⟨(if 1000000 < (if t02 < 0 then 0 else t02) then 1000000 else (if t02 < 0 then 0 else t02)), o114⟩ : StorStore)).bind fun t904 =>
          (law4_StorPlays_C17_ref1_Store_All n o314 : Option (List GTuple)).bind fun t224 =>
          (if (t904 != (t224.length : Int)) then
            some (.inr false)
          else
            (stor_Store_All n (⟨(if 1000000 < (if t02 < 0 then 0 else t02) then 1000000 else (if t02 < 0 then 0 else t02)), o114⟩ : StorStore)).bind fun t984 =>
            (law4_StorPlays_C18_ref1_Store_All n o314 : Option (List GTuple)).bind fun t225 =>
            (ref1_Same n t984 t225).bind fun t10110 =>
            (if t10110 then
              law4_StorPlays_L7 n t1 t2 t02 c (g23, o114, g24, o314, (IntKind.i64.wrap (t128 + 1)))
            else
              some (.inr false)))))
    else
      some (.inl (g21, t1019, g22, t1116)))

def law4_StorPlays_L13 (n : Nat) (t3 : Int) (t02 : Int) (t10112 : List (List GTuple)) (t1119 : List (List GTuple)) : Nat → Int → Option ((Unit) ⊕ Bool)
  | 0, _ => none
  | c + 1, t144 =>
    (if (decide (t144 < 40)) then
      (
        (if (decide (t144 < 0)) then
          some t3
        else
          some t144) : Option (Int)).bind fun t152 =>
      (stor_Store_At n (⟨(if 1000000 < (if t02 < 0 then 0 else t02) then 1000000 else (if t02 < 0 then 0 else t02)), t10112⟩ : StorStore) t152).bind fun t1155 =>
      (
        (if (decide (0 ≤ t152)) then
          some (decide (t152 < (t1119.length : Int)))
        else
          some false) : Option (Bool)).bind fun t184 =>
      (if (t1155.2 == t184) then
        (if t184 then
          (idx t1119 t152).bind fun x86 =>
          (ref1_Same n t1155.1 x86).bind fun t1434 =>
          (if t1434 then
            law4_StorPlays_L13 n t3 t02 t10112 t1119 c (IntKind.i64.wrap (t144 + 1))
          else
            some (.inr false))
        else
          (if (decide (0 < (t1155.1.length : Int))) then
            some (.inr false)
          else
            law4_StorPlays_L13 n t3 t02 t10112 t1119 c (IntKind.i64.wrap (t144 + 1))))
      else
        some (.inr false))
    else
      some (.inl ()))

def law4_StorPlays_L1 (n : Nat) (t1 : GBatch) (t2 : List (List Int)) (t3 : Int) : Nat → (Int × Int) → Option ((Unit) ⊕ Bool)
  | 0, _ => none
  | c + 1, (t02, t97) =>
    (if (decide (t97 < 2)) then
      (law4_StorPlays_C1_stor_New n : Option Unit).bind fun _ =>
      (law4_StorPlays_C2_ref1_NewStore n : Option Unit).bind fun _ =>
      (
        (law4_StorPlays_C3_stor_Store_Write n t1 t02 : Option (Int × Nat × List (List GTuple))).bind fun (t419, g15, o912) =>
        (law4_StorPlays_C8_ref1_Store_Write n t1 t02 g15 o912 : Option (Int × Nat × List (List GTuple))).bind fun (t420, g16, o1112) =>
        some (g15, o912, g16, o1112, (t419 != t420)) : Option (Nat × List (List GTuple) × Nat × List (List GTuple) × Bool)).bind fun (g17, t1017, g18, t1115, t542) =>
      (if t542 then
        some (.inr false)
      else
        (
          law4_StorPlays_L7 n t1 t2 t02 n (g17, t1017, g18, t1115, 0) : Option ((Nat × List (List GTuple) × Nat × List (List GTuple)) ⊕ Bool)).bind fun
          | .inl (_, t10112, _, t1119) =>
            (
              law4_StorPlays_L13 n t3 t02 t10112 t1119 n (-1) : Option ((Unit) ⊕ Bool)).bind fun
              | .inl _ =>
                law4_StorPlays_L1 n t1 t2 t3 c ((IntKind.i64.wrap (an t02 31 : Int)), (IntKind.i64.wrap (t97 + 1)))
              | .inr r => some (.inr r)
          | .inr r => some (.inr r))
    else
      some (.inl ()))

def law4_StorPlays (n : Nat) (t0 : Int) (t1 : GBatch) (t2 : List (List Int)) (t3 : Int) : Option Bool :=
  (if (decide (60 < (IntKind.i64.wrap ((IntKind.i64.wrap ((IntKind.i64.wrap ((t1.add.length : Int) + (t1.drop.length : Int))) + (t1.must.length : Int))) + (t1.not_.length : Int))))) then
    (law4_awake n).bind fun t35 =>
    some t35
  else
    (
      law4_StorPlays_L1 n t1 t2 t3 n (t0, 0) : Option ((Unit) ⊕ Bool)).bind fun
      | .inl _ =>
        (law4_awake n).bind fun t158 =>
        some t158
      | .inr r => some r)
set_option maxHeartbeats 8000000 in
theorem law4_StorPlays_ok {n : Nat} {t0 : Int} {t1 : GBatch} {t2 : List (List Int)} {t3 : Int} {r : Bool} (H : law4_StorPlays n t0 t1 t2 t3 = some r) : PureOK Try.prog 8 [D.v (.int .i64 t0), D.ag (eGBatch t1), D.sl (List.map (eL eI) t2), D.v (.int .i64 t3)] (D.v (.bool r)) true := by
  unfold law4_StorPlays at H
  refine pure_runR (tab := tab) tab_ok Try.func8 rfl (by kernel_rfl) (by kernel_rfl) (by simp [Try.f8]) ?_
  refine runR_seq ?_
  refine runR_take tab_ok fol 1 ?_
  try simp -implicitDefEqProofs only [go_sem, Nat.reduceAdd, eGBatch]
  refine runR_seq ?_
  refine runR_take tab_ok fol 1 ?_
  try simp -implicitDefEqProofs only [go_sem, Nat.reduceEqDiff, Nat.reduceAdd, reduceCtorEq, ↓reduceIte]
  rcases ite_inv H with ⟨c1, H2⟩ | ⟨c1, H2⟩
  · obtain ⟨t35, b3, H4⟩ := bind_inv H2
    try simp -implicitDefEqProofs only [go_sem, Nat.reduceAdd, c1]
    refine onCall_pure (by first | rfl | (simp -implicitDefEqProofs only [go_sem, Int.reduceToNat, Int.reduceLT, Int.reduceLE, Int.reduceBEq, Int.reduceBNe, Nat.reduceLT, Nat.reduceBEq, Int.reduceEq, Nat.reduceEqDiff, Nat.reduceAdd, Nat.reduceSub, Nat.reduceMul, Nat.reduceLeDiff, reduceCtorEq, ↓reduceIte, eGTuple, eGBatch, eStorStore, eRef1Store, c1]; done) | (simp -implicitDefEqProofs only [go_sem, Int.reduceToNat, Int.reduceLT, Int.reduceLE, Int.reduceBEq, Int.reduceBNe, Nat.reduceLT, Nat.reduceBEq, Int.reduceEq, Nat.reduceEqDiff, Nat.reduceAdd, Nat.reduceSub, Nat.reduceMul, Nat.reduceLeDiff, reduceCtorEq, ↓reduceIte, eGTuple, eGBatch, eStorStore, eRef1Store, c1]; rfl)) (law4_awake_ok b3) (by first | exact .inr rfl | exact .inl rfl) ?_
    try simp -implicitDefEqProofs only [go_sem, Nat.reduceAdd, ↓reduceIte]
    obtain rfl := Option.some.inj H4
    exact end_pure (by first | (simp -implicitDefEqProofs only [go_sem, ↓reduceIte, Try.f8] <;> rfl) | rfl) (by first | rfl | (simp -implicitDefEqProofs only [go_sem, Int.reduceToNat, Int.reduceLT, Int.reduceLE, Int.reduceBEq, Int.reduceBNe, Nat.reduceLT, Nat.reduceBEq, Int.reduceEq, Nat.reduceEqDiff, Nat.reduceAdd, Nat.reduceSub, Nat.reduceMul, Nat.reduceLeDiff, reduceCtorEq, ↓reduceIte, eGTuple, eGBatch, eStorStore, eRef1Store, c1]; done) | (simp -implicitDefEqProofs only [go_sem, Int.reduceToNat, Int.reduceLT, Int.reduceLE, Int.reduceBEq, Int.reduceBNe, Nat.reduceLT, Nat.reduceBEq, Int.reduceEq, Nat.reduceEqDiff, Nat.reduceAdd, Nat.reduceSub, Nat.reduceMul, Nat.reduceLeDiff, reduceCtorEq, ↓reduceIte, eGTuple, eGBatch, eStorStore, eRef1Store, c1]; rfl)) rfl (by intro h; first | rfl | cases h)
  · try simp -implicitDefEqProofs only [go_sem, c1]
    refine runR_seq ?_
    refine runR_seq ?_
    refine runR_take tab_ok fol 1 ?_
    try simp -implicitDefEqProofs only [go_sem, Nat.reduceAdd]
    obtain ⟨e_, E5, H6⟩ := bind_inv H2
    refine runR_join (α := { y : Unit // e_ = .inl y }) (fun | ⟨_, _⟩ => ⟨noFr, noHp, 0⟩) ?_ ?_
    · refine runR_block ?_
      refine runR_loop (α := { q : Nat × (Int × Int) // law4_StorPlays_L1 n t1 t2 t3 q.1 q.2 = some e_ }) (fun | ⟨⟨c, ⟨t02, t97⟩⟩, _⟩ => ⟨upd 0 (.v (.int .i64 t02)) (upd 2 (.d (.sl (List.map (eL eI) t2)) true) (upd 3 (.v (.int .i64 t3)) (upd 5 (.pt 0 0) (upd 9 (.v (.int .i64 t97)) noFr)))), upd 0 (some (.bx [.d (.sl (List.map eGTuple t1.add)) true, .d (.sl (List.map eGTuple t1.drop)) true, .d (.sl (List.map eGTuple t1.must)) true, .d (.sl (List.map eGTuple t1.not_)) true])) noHp, 1⟩) (fun q => q.1.1) ⟨(n, (t0, 0)), E5⟩ ?_ ?_
      · exact ren_mk [(0, 0)] (by rfl) (rf_upd (by rfl) (rf_upd (by rfl) (rf_upd (by rfl) (rf_upd (by rfl) (rf_upd (by rfl) (rf_no _)))))) (rh_upd (rh_one (by rfl) (by rfl) (by rfl)) (rh_no _))
      · rintro ⟨⟨c, ⟨t02, t97⟩⟩, L7⟩
        rcases c with _ | c
        · exact nomatch (show none = some _ from L7)
        · unfold law4_StorPlays_L1 at L7
          try dsimp only at L7
          refine runR_seq ?_
          refine runR_take tab_ok fol 1 ?_
          try simp -implicitDefEqProofs only [go_sem, Nat.reduceEqDiff, Nat.reduceAdd, reduceCtorEq, ↓reduceIte]
          rcases ite_inv L7 with ⟨c1254, H1255⟩ | ⟨c1254, H1255⟩
          · try simp -implicitDefEqProofs only [go_sem, c1254]
            refine runR_seq ?_
            refine runR_block ?_
            refine runR_seq ?_
            refine runR_take tab_ok fol 1 ?_
            try simp -implicitDefEqProofs only [go_sem, Nat.reduceAdd, reduceCtorEq, ↓reduceIte]
            obtain ⟨e_59, E1256, H1257⟩ := bind_inv H1255
            refine onCall_inl (InlOK.mono (inl_runRJ (α := { y : Unit // e_59 = y }) tab_ok Try.func29 rfl (by kernel_rfl) (by kernel_rfl) (by simp [Try.f29]) (fun | ⟨_, _⟩ => ⟨upd 2 (.pt 9 0) noFr, upd 0 (some (.bx [.d (.sl (List.map eGTuple t1.add)) true, .d (.sl (List.map eGTuple t1.drop)) true, .d (.sl (List.map eGTuple t1.must)) true, .d (.sl (List.map eGTuple t1.not_)) true])) (upd 9 (some (.bx [.v (.int .i64 (if 1000000 < (if t02 < 0 then 0 else t02) then 1000000 else (if t02 < 0 then 0 else t02))), .so 10 0 0 1])) (upd 10 (some (.rw [[.sl []]] 1 0 false false)) noHp)), 11⟩) (fun | ⟨_, _⟩ => .pt 9 0) (by rintro ⟨_, he1258⟩; first | ((simp -implicitDefEqProofs only [go_sem, ↓reduceIte, Try.f29]) <;> rfl) | rfl) ?_) ?_)
            · unfold law4_StorPlays_C1_stor_New at E1256
              try dsimp only at E1256
              refine runR_take tab_ok fol 1 ?_
              try simp -implicitDefEqProofs only [go_sem, Nat.reduceLT, Nat.reduceEqDiff, Nat.reduceAdd, Nat.reduceLeDiff, reduceCtorEq, ↓reduceIte]
              obtain rfl := Option.some.inj E1256
              exact endJ_ret ⟨(), rfl⟩ (ren_mk [(9, 15), (10, 13)] (by rfl) (rf_upd (by rfl) (rf_no _)) (rh_upd (rh_one (by rfl) (by rfl) (by rfl)) (rh_upd (rh_one (by rfl) (by rfl) (by rfl)) (rh_upd (rh_one (by rfl) (by rfl) (by rfl)) (rh_no _)))))
            rintro v1259 hp1260 nx1261 ⟨⟨_, he1258⟩, rfl, rfl, rfl⟩
            replace he1258 := he1258.symm
            subst he1258
            try dsimp only at H1257
            dsimp only
            try simp -implicitDefEqProofs only [go_sem, Nat.reduceAdd, reduceCtorEq, ↓reduceIte]
            obtain ⟨e_60, E1262, H1263⟩ := bind_inv H1257
            refine onCall_inl (InlOK.mono (inl_runRJ (α := { y : Unit // e_60 = y }) tab_ok Try.func36 rfl (by kernel_rfl) (by kernel_rfl) (by simp [Try.f36]) (fun | ⟨_, _⟩ => ⟨upd 2 (.pt 11 0) noFr, upd 0 (some (.bx [.d (.sl (List.map eGTuple t1.add)) true, .d (.sl (List.map eGTuple t1.drop)) true, .d (.sl (List.map eGTuple t1.must)) true, .d (.sl (List.map eGTuple t1.not_)) true])) (upd 9 (some (.bx [.v (.int .i64 (if 1000000 < (if t02 < 0 then 0 else t02) then 1000000 else (if t02 < 0 then 0 else t02))), .so 10 0 0 1])) (upd 10 (some (.rw [[.sl []]] 1 0 false false)) (upd 11 (some (.bx [.v (.int .i64 (if 1000000 < (if t02 < 0 then 0 else t02) then 1000000 else (if t02 < 0 then 0 else t02))), .so 12 0 0 1])) (upd 12 (some (.rw [[.sl []]] 1 0 false false)) noHp)))), 13⟩) (fun | ⟨_, _⟩ => .pt 11 0) (by rintro ⟨_, he1264⟩; first | ((simp -implicitDefEqProofs only [go_sem, ↓reduceIte, Try.f36]) <;> rfl) | rfl) ?_) ?_)
            · unfold law4_StorPlays_C2_ref1_NewStore at E1262
              try dsimp only at E1262
              refine runR_take tab_ok fol 1 ?_
              try simp -implicitDefEqProofs only [go_sem, Nat.reduceLT, Nat.reduceEqDiff, Nat.reduceAdd, Nat.reduceLeDiff, reduceCtorEq, ↓reduceIte]
              obtain rfl := Option.some.inj E1262
              exact endJ_ret ⟨(), rfl⟩ (ren_mk [(11, 17), (12, 15)] (by rfl) (rf_upd (by rfl) (rf_no _)) (rh_upd (rh_one (by rfl) (by rfl) (by rfl)) (rh_upd (rh_one (by rfl) (by rfl) (by rfl)) (rh_upd (rh_one (by rfl) (by rfl) (by rfl)) (rh_upd (rh_one (by rfl) (by rfl) (by rfl)) (rh_upd (rh_one (by rfl) (by rfl) (by rfl)) (rh_no _)))))))
            rintro v1265 hp1266 nx1267 ⟨⟨_, he1264⟩, rfl, rfl, rfl⟩
            replace he1264 := he1264.symm
            subst he1264
            try dsimp only at H1263
            dsimp only
            try simp -implicitDefEqProofs only [go_sem, Nat.reduceEqDiff, Nat.reduceAdd, ↓reduceIte]
            refine runR_seq ?_
            refine runR_seq ?_
            obtain ⟨e_61, E1268, H1269⟩ := bind_inv H1263
            refine runR_join (α := { y : Nat × List (List GTuple) × Nat × List (List GTuple) × Bool // e_61 = y }) (fun | ⟨⟨g17, t1017, g18, t1115, t542⟩, _⟩ => ⟨upd 0 (.v (.int .i64 t02)) (upd 2 (.d (.sl (List.map (eL eI) t2)) true) (upd 3 (.v (.int .i64 t3)) (upd 5 (.pt 0 0) (upd 9 (.v (.int .i64 t97)) (upd 10 (.pt 1 0) (upd 11 (.pt 3 0) (upd 54 (.v (.bool t542)) noFr))))))), upd 0 (some (.bx [.d (.sl (List.map eGTuple t1.add)) true, .d (.sl (List.map eGTuple t1.drop)) true, .d (.sl (List.map eGTuple t1.must)) true, .d (.sl (List.map eGTuple t1.not_)) true])) (upd 1 (some (.bx [.v (.int .i64 (if 1000000 < (if t02 < 0 then 0 else t02) then 1000000 else (if t02 < 0 then 0 else t02))), .so 2 g17 0 (t1017.length)])) (upd 2 (some (.rw (List.map (eL eGTuple) t1017) 1 g17 false false)) (upd 3 (some (.bx [.v (.int .i64 (if 1000000 < (if t02 < 0 then 0 else t02) then 1000000 else (if t02 < 0 then 0 else t02))), .so 4 g18 0 (t1115.length)])) (upd 4 (some (.rw (List.map (eL eGTuple) t1115) 1 g18 false false)) noHp)))), 5⟩) ?_ ?_
            · refine runR_take tab_ok fol 1 ?_
              try simp -implicitDefEqProofs only [go_sem, Nat.reduceEqDiff, Nat.reduceAdd, reduceCtorEq, ↓reduceIte]
              obtain ⟨e_62, E1270, H1271⟩ := bind_inv E1268
              obtain ⟨t419, g15, o912⟩ := e_62
              refine onCallD_one (v := .v (.int .i64 t419)) (δ := [(9, (.bx [.v (.int .i64 (if 1000000 < (if t02 < 0 then 0 else t02) then 1000000 else (if t02 < 0 then 0 else t02))), .so 10 g15 0 (o912.length)])), (10, (.rw (List.map (eL eGTuple) o912) 1 g15 false false))]) (nx' := 24) (InlOK.mono (inl_runRJ (α := { y : Int × Nat × List (List GTuple) // (t419, g15, o912) = y }) tab_ok Try.func32 rfl (by kernel_rfl) (by kernel_rfl) (by simp [Try.f32]) (fun | ⟨⟨t419, g15, o912⟩, _⟩ => ⟨upd 4 (.v (.int .i64 t419)) noFr, upd 0 (some (.bx [.d (.sl (List.map eGTuple t1.add)) true, .d (.sl (List.map eGTuple t1.drop)) true, .d (.sl (List.map eGTuple t1.must)) true, .d (.sl (List.map eGTuple t1.not_)) true])) (upd 9 (some (.bx [.v (.int .i64 (if 1000000 < (if t02 < 0 then 0 else t02) then 1000000 else (if t02 < 0 then 0 else t02))), .so 10 g15 0 (o912.length)])) (upd 10 (some (.rw (List.map (eL eGTuple) o912) 1 g15 false false)) (upd 11 (some (.bx [.v (.int .i64 (if 1000000 < (if t02 < 0 then 0 else t02) then 1000000 else (if t02 < 0 then 0 else t02))), .so 12 0 0 1])) (upd 12 (some (.rw [[.sl []]] 1 0 false false)) noHp)))), 24⟩) (fun | ⟨⟨t419, g15, o912⟩, _⟩ => .v (.int .i64 t419)) (by rintro ⟨⟨t419, g15, o912⟩, he1386⟩; first | ((simp -implicitDefEqProofs only [go_sem, ↓reduceIte, Try.f32]) <;> rfl) | rfl) ?_) ?_) ?_
              · unfold law4_StorPlays_C3_stor_Store_Write at E1270
                try dsimp only at E1270
                refine runR_seq ?_
                refine runR_take tab_ok fol 1 ?_
                try simp -implicitDefEqProofs only [go_sem, Nat.reduceAdd]
                refine runR_seq ?_
                refine runR_seq ?_
                obtain ⟨e_63, E1272, H1273⟩ := bind_inv E1270
                refine runR_join (α := { y : Bool // e_63 = y }) (fun | ⟨t274, _⟩ => ⟨upd 0 (.pt 9 0) (upd 3 (.pt 24 0) (upd 27 (.v (.bool t274)) noFr)), upd 0 (some (.bx [.d (.sl (List.map eGTuple t1.add)) true, .d (.sl (List.map eGTuple t1.drop)) true, .d (.sl (List.map eGTuple t1.must)) true, .d (.sl (List.map eGTuple t1.not_)) true])) (upd 9 (some (.bx [.v (.int .i64 (if 1000000 < (if t02 < 0 then 0 else t02) then 1000000 else (if t02 < 0 then 0 else t02))), .so 10 0 0 1])) (upd 10 (some (.rw [[.sl []]] 1 0 false false)) (upd 11 (some (.bx [.v (.int .i64 (if 1000000 < (if t02 < 0 then 0 else t02) then 1000000 else (if t02 < 0 then 0 else t02))), .so 12 0 0 1])) (upd 12 (some (.rw [[.sl []]] 1 0 false false)) (upd 24 (some (.bx [.d (.sl (List.map eGTuple t1.add)) true, .d (.sl (List.map eGTuple t1.drop)) true, .d (.sl (List.map eGTuple t1.must)) true, .d (.sl (List.map eGTuple t1.not_)) true])) noHp))))), 25⟩) ?_ ?_
                · refine runR_take tab_ok fol 1 ?_
                  obtain ⟨t126, b1274, H1275⟩ := bind_inv E1272
                  try simp -implicitDefEqProofs only [go_sem, Nat.reduceEqDiff, Nat.reduceAdd, reduceCtorEq, ↓reduceIte]
                  refine onCall_pure (by first | rfl | (simp -implicitDefEqProofs only [go_sem, Int.reduceToNat, Int.reduceLT, Int.reduceLE, Int.reduceBEq, Int.reduceBNe, Nat.reduceLT, Nat.reduceBEq, Int.reduceEq, Nat.reduceEqDiff, Nat.reduceAdd, Nat.reduceSub, Nat.reduceMul, Nat.reduceLeDiff, reduceCtorEq, ↓reduceIte, eGTuple, eGBatch, eStorStore, eRef1Store]; done) | (simp -implicitDefEqProofs only [go_sem, Int.reduceToNat, Int.reduceLT, Int.reduceLE, Int.reduceBEq, Int.reduceBNe, Nat.reduceLT, Nat.reduceBEq, Int.reduceEq, Nat.reduceEqDiff, Nat.reduceAdd, Nat.reduceSub, Nat.reduceMul, Nat.reduceLeDiff, reduceCtorEq, ↓reduceIte, eGTuple, eGBatch, eStorStore, eRef1Store]; rfl)) (stor_wrong_ok b1274) (by first | exact .inr rfl | exact .inl rfl) ?_
                  try simp -implicitDefEqProofs only [go_sem, Nat.reduceAdd, ↓reduceIte]
                  rcases ite_inv H1275 with ⟨c1276, H1277⟩ | ⟨c1276, H1277⟩
                  · try simp -implicitDefEqProofs only [go_sem, Nat.reduceEqDiff, Nat.reduceAdd, ↓reduceIte, c1276]
                    obtain rfl := Option.some.inj H1277
                    exact ⟨⟨true, rfl⟩, ren_mk [(24, 24)] (by rfl) (rf_upd (by rfl) (rf_upd (by rfl) (rf_upd (by rfl) (rf_no _)))) (rh_upd (rh_one (by rfl) (by rfl) (by rfl)) (rh_upd (rh_one (by rfl) (by rfl) (by rfl)) (rh_upd (rh_one (by rfl) (by rfl) (by rfl)) (rh_upd (rh_one (by rfl) (by rfl) (by rfl)) (rh_upd (rh_one (by rfl) (by rfl) (by rfl)) (rh_upd (rh_one (by rfl) (by rfl) (by rfl)) (rh_no _)))))))⟩
                  · obtain ⟨t164, b1278, H1279⟩ := bind_inv H1277
                    try simp -implicitDefEqProofs only [go_sem, Nat.reduceEqDiff, Nat.reduceAdd, reduceCtorEq, ↓reduceIte, c1276]
                    refine onCall_pure (by first | rfl | (simp -implicitDefEqProofs only [go_sem, Int.reduceToNat, Int.reduceLT, Int.reduceLE, Int.reduceBEq, Int.reduceBNe, Nat.reduceLT, Nat.reduceBEq, Int.reduceEq, Nat.reduceEqDiff, Nat.reduceAdd, Nat.reduceSub, Nat.reduceMul, Nat.reduceLeDiff, reduceCtorEq, ↓reduceIte, eGTuple, eGBatch, eStorStore, eRef1Store, c1276]; done) | (simp -implicitDefEqProofs only [go_sem, Int.reduceToNat, Int.reduceLT, Int.reduceLE, Int.reduceBEq, Int.reduceBNe, Nat.reduceLT, Nat.reduceBEq, Int.reduceEq, Nat.reduceEqDiff, Nat.reduceAdd, Nat.reduceSub, Nat.reduceMul, Nat.reduceLeDiff, reduceCtorEq, ↓reduceIte, eGTuple, eGBatch, eStorStore, eRef1Store, c1276]; rfl)) (stor_wrong_ok b1278) (by first | exact .inr rfl | exact .inl rfl) ?_
                    try simp -implicitDefEqProofs only [go_sem, Nat.reduceEqDiff, Nat.reduceAdd, ↓reduceIte]
                    rcases ite_inv H1279 with ⟨c1280, H1281⟩ | ⟨c1280, H1281⟩
                    · try simp -implicitDefEqProofs only [go_sem, Nat.reduceEqDiff, Nat.reduceAdd, ↓reduceIte, c1280]
                      obtain rfl := Option.some.inj H1281
                      exact ⟨⟨true, rfl⟩, ren_mk [(24, 24)] (by rfl) (rf_upd (by rfl) (rf_upd (by rfl) (rf_upd (by rfl) (rf_no _)))) (rh_upd (rh_one (by rfl) (by rfl) (by rfl)) (rh_upd (rh_one (by rfl) (by rfl) (by rfl)) (rh_upd (rh_one (by rfl) (by rfl) (by rfl)) (rh_upd (rh_one (by rfl) (by rfl) (by rfl)) (rh_upd (rh_one (by rfl) (by rfl) (by rfl)) (rh_upd (rh_one (by rfl) (by rfl) (by rfl)) (rh_no _)))))))⟩
                    · obtain ⟨t215, b1282, H1283⟩ := bind_inv H1281
                      try simp -implicitDefEqProofs only [go_sem, Nat.reduceEqDiff, Nat.reduceAdd, reduceCtorEq, ↓reduceIte, c1280]
                      refine onCall_pure (by first | rfl | (simp -implicitDefEqProofs only [go_sem, Int.reduceToNat, Int.reduceLT, Int.reduceLE, Int.reduceBEq, Int.reduceBNe, Nat.reduceLT, Nat.reduceBEq, Int.reduceEq, Nat.reduceEqDiff, Nat.reduceAdd, Nat.reduceSub, Nat.reduceMul, Nat.reduceLeDiff, reduceCtorEq, ↓reduceIte, eGTuple, eGBatch, eStorStore, eRef1Store, c1276, c1280]; done) | (simp -implicitDefEqProofs only [go_sem, Int.reduceToNat, Int.reduceLT, Int.reduceLE, Int.reduceBEq, Int.reduceBNe, Nat.reduceLT, Nat.reduceBEq, Int.reduceEq, Nat.reduceEqDiff, Nat.reduceAdd, Nat.reduceSub, Nat.reduceMul, Nat.reduceLeDiff, reduceCtorEq, ↓reduceIte, eGTuple, eGBatch, eStorStore, eRef1Store, c1276, c1280]; rfl)) (stor_wrong_ok b1282) (by first | exact .inr rfl | exact .inl rfl) ?_
                      try simp -implicitDefEqProofs only [go_sem, Nat.reduceEqDiff, Nat.reduceAdd, ↓reduceIte]
                      rcases ite_inv H1283 with ⟨c1284, H1285⟩ | ⟨c1284, H1285⟩
                      · try simp -implicitDefEqProofs only [go_sem, Nat.reduceEqDiff, Nat.reduceAdd, ↓reduceIte, c1284]
                        obtain rfl := Option.some.inj H1285
                        exact ⟨⟨true, rfl⟩, ren_mk [(24, 24)] (by rfl) (rf_upd (by rfl) (rf_upd (by rfl) (rf_upd (by rfl) (rf_no _)))) (rh_upd (rh_one (by rfl) (by rfl) (by rfl)) (rh_upd (rh_one (by rfl) (by rfl) (by rfl)) (rh_upd (rh_one (by rfl) (by rfl) (by rfl)) (rh_upd (rh_one (by rfl) (by rfl) (by rfl)) (rh_upd (rh_one (by rfl) (by rfl) (by rfl)) (rh_upd (rh_one (by rfl) (by rfl) (by rfl)) (rh_no _)))))))⟩
                      · obtain ⟨t264, b1286, H1287⟩ := bind_inv H1285
                        try simp -implicitDefEqProofs only [go_sem, Nat.reduceEqDiff, Nat.reduceAdd, reduceCtorEq, ↓reduceIte, c1284]
                        refine onCall_pure (by first | rfl | (simp -implicitDefEqProofs only [go_sem, Int.reduceToNat, Int.reduceLT, Int.reduceLE, Int.reduceBEq, Int.reduceBNe, Nat.reduceLT, Nat.reduceBEq, Int.reduceEq, Nat.reduceEqDiff, Nat.reduceAdd, Nat.reduceSub, Nat.reduceMul, Nat.reduceLeDiff, reduceCtorEq, ↓reduceIte, eGTuple, eGBatch, eStorStore, eRef1Store, c1276, c1280, c1284]; done) | (simp -implicitDefEqProofs only [go_sem, Int.reduceToNat, Int.reduceLT, Int.reduceLE, Int.reduceBEq, Int.reduceBNe, Nat.reduceLT, Nat.reduceBEq, Int.reduceEq, Nat.reduceEqDiff, Nat.reduceAdd, Nat.reduceSub, Nat.reduceMul, Nat.reduceLeDiff, reduceCtorEq, ↓reduceIte, eGTuple, eGBatch, eStorStore, eRef1Store, c1276, c1280, c1284]; rfl)) (stor_wrong_ok b1286) (by first | exact .inr rfl | exact .inl rfl) ?_
                        try simp -implicitDefEqProofs only [go_sem, Nat.reduceEqDiff, Nat.reduceAdd, ↓reduceIte]
                        obtain rfl := Option.some.inj H1287
                        exact ⟨⟨t264, rfl⟩, ren_mk [(24, 24)] (by rfl) (rf_upd (by rfl) (rf_upd (by rfl) (rf_upd (by rfl) (rf_no _)))) (rh_upd (rh_one (by rfl) (by rfl) (by rfl)) (rh_upd (rh_one (by rfl) (by rfl) (by rfl)) (rh_upd (rh_one (by rfl) (by rfl) (by rfl)) (rh_upd (rh_one (by rfl) (by rfl) (by rfl)) (rh_upd (rh_one (by rfl) (by rfl) (by rfl)) (rh_upd (rh_one (by rfl) (by rfl) (by rfl)) (rh_no _)))))))⟩
                · rintro ⟨t274, he1385⟩
                  replace he1385 := he1385.symm
                  subst he1385
                  try dsimp only at H1273
                  refine runR_take tab_ok fol 2 ?_
                  try simp -implicitDefEqProofs only [go_sem, Nat.reduceEqDiff, reduceCtorEq, ↓reduceIte]
                  rcases ite_inv H1273 with ⟨c1288, H1289⟩ | ⟨c1288, H1289⟩
                  · try simp -implicitDefEqProofs only [go_sem, Nat.reduceAdd, c1288]
                    obtain ⟨k1387, k1388⟩ := Prod.mk.inj (Option.some.inj H1289)
                    obtain ⟨k1388, k1389⟩ := Prod.mk.inj k1388
                    subst k1387
                    subst k1388
                    subst k1389
                    exact endJ_ret ⟨(2, 0, [[]]), rfl⟩ (ren_mk [] (by rfl) (rf_upd (by rfl) (rf_no _)) (rh_upd (rh_one (by rfl) (by rfl) (by rfl)) (rh_upd (rh_one (by rfl) (by rfl) (by rfl)) (rh_upd (rh_one (by rfl) (by rfl) (by rfl)) (rh_upd (rh_one (by rfl) (by rfl) (by rfl)) (rh_upd (rh_one (by rfl) (by rfl) (by rfl)) (rh_no _)))))))
                  · obtain ⟨t304, b1290, H1291⟩ := bind_inv H1289
                    try simp -implicitDefEqProofs only [go_sem, Nat.reduceEqDiff, Nat.reduceAdd, reduceCtorEq, ↓reduceIte, c1288]
                    refine onCallD_pure (by first | rfl | (simp -implicitDefEqProofs only [go_sem, Int.reduceToNat, Int.reduceLT, Int.reduceLE, Int.reduceBEq, Int.reduceBNe, Nat.reduceLT, Nat.reduceBEq, Int.reduceEq, Nat.reduceEqDiff, Nat.reduceAdd, Nat.reduceSub, Nat.reduceMul, Nat.reduceLeDiff, reduceCtorEq, ↓reduceIte, eGTuple, eGBatch, eStorStore, eRef1Store, c1288]; done) | (simp -implicitDefEqProofs only [go_sem, Int.reduceToNat, Int.reduceLT, Int.reduceLE, Int.reduceBEq, Int.reduceBNe, Nat.reduceLT, Nat.reduceBEq, Int.reduceEq, Nat.reduceEqDiff, Nat.reduceAdd, Nat.reduceSub, Nat.reduceMul, Nat.reduceLeDiff, reduceCtorEq, ↓reduceIte, eGTuple, eGBatch, eStorStore, eRef1Store, c1288]; rfl)) (rows_Of_ok b1290) (by first | exact .inr rfl | exact .inl rfl) ?_
                    obtain ⟨t334, b1292, H1293⟩ := bind_inv H1291
                    try simp -implicitDefEqProofs only [go_sem, Nat.reduceEqDiff, Nat.reduceAdd, reduceCtorEq, ↓reduceIte]
                    refine onCallD_pure (by first | rfl | (simp -implicitDefEqProofs only [go_sem, Int.reduceToNat, Int.reduceLT, Int.reduceLE, Int.reduceBEq, Int.reduceBNe, Nat.reduceLT, Nat.reduceBEq, Int.reduceEq, Nat.reduceEqDiff, Nat.reduceAdd, Nat.reduceSub, Nat.reduceMul, Nat.reduceLeDiff, reduceCtorEq, ↓reduceIte, eGTuple, eGBatch, eStorStore, eRef1Store, c1288]; done) | (simp -implicitDefEqProofs only [go_sem, Int.reduceToNat, Int.reduceLT, Int.reduceLE, Int.reduceBEq, Int.reduceBNe, Nat.reduceLT, Nat.reduceBEq, Int.reduceEq, Nat.reduceEqDiff, Nat.reduceAdd, Nat.reduceSub, Nat.reduceMul, Nat.reduceLeDiff, reduceCtorEq, ↓reduceIte, eGTuple, eGBatch, eStorStore, eRef1Store, c1288]; rfl)) (rows_Of_ok b1292) (by first | exact .inr rfl | exact .inl rfl) ?_
                    try simp -implicitDefEqProofs only [go_sem, Nat.reduceAdd, reduceCtorEq, ↓reduceIte]
                    obtain ⟨t216, E1294, H1295⟩ := bind_inv H1293
                    refine onCallD_det (ids' := [9, 10]) (v := .d (.sl (List.map eGTuple t216)) false) (δ := []) (nx' := 47) (fun hp1 h1 => ?_) ?_
                    · have e1310 : hp1 9 = some (.bx [.v (.int .i64 (if 1000000 < (if t02 < 0 then 0 else t02) then 1000000 else (if t02 < 0 then 0 else t02))), .so 10 0 0 1]) := (h1.1 9 (by simp)).trans (by first | rfl | (simp -implicitDefEqProofs only [go_sem, Int.reduceToNat, Int.reduceLT, Int.reduceLE, Int.reduceBEq, Int.reduceBNe, Nat.reduceLT, Nat.reduceBEq, Int.reduceEq, Nat.reduceEqDiff, Nat.reduceAdd, Nat.reduceSub, Nat.reduceMul, Nat.reduceLeDiff, reduceCtorEq, ↓reduceIte, eGTuple, eGBatch, eStorStore, eRef1Store]; done) | (simp -implicitDefEqProofs only [go_sem, Int.reduceToNat, Int.reduceLT, Int.reduceLE, Int.reduceBEq, Int.reduceBNe, Nat.reduceLT, Nat.reduceBEq, Int.reduceEq, Nat.reduceEqDiff, Nat.reduceAdd, Nat.reduceSub, Nat.reduceMul, Nat.reduceLeDiff, reduceCtorEq, ↓reduceIte, eGTuple, eGBatch, eStorStore, eRef1Store]; rfl))
                      have e1311 : hp1 10 = some (.rw [[.sl []]] 1 0 false false) := (h1.1 10 (by simp)).trans (by first | rfl | (simp -implicitDefEqProofs only [go_sem, Int.reduceToNat, Int.reduceLT, Int.reduceLE, Int.reduceBEq, Int.reduceBNe, Nat.reduceLT, Nat.reduceBEq, Int.reduceEq, Nat.reduceEqDiff, Nat.reduceAdd, Nat.reduceSub, Nat.reduceMul, Nat.reduceLeDiff, reduceCtorEq, ↓reduceIte, eGTuple, eGBatch, eStorStore, eRef1Store]; done) | (simp -implicitDefEqProofs only [go_sem, Int.reduceToNat, Int.reduceLT, Int.reduceLE, Int.reduceBEq, Int.reduceBNe, Nat.reduceLT, Nat.reduceBEq, Int.reduceEq, Nat.reduceEqDiff, Nat.reduceAdd, Nat.reduceSub, Nat.reduceMul, Nat.reduceLeDiff, reduceCtorEq, ↓reduceIte, eGTuple, eGBatch, eStorStore, eRef1Store]; rfl))
                      have e1312 : upd 9 (some (.bx [.v (.int .i64 (if 1000000 < (if t02 < 0 then 0 else t02) then 1000000 else (if t02 < 0 then 0 else t02))), .so 10 0 0 1])) (upd 10 (some (.rw [[.sl []]] 1 0 false false)) (hp1)) = hp1 := by rw [upd_self e1311, upd_self e1310]
                      rw [← e1312]
                      refine inl_runR tab_ok Try.func64 rfl (by kernel_rfl) (by kernel_rfl) (by simp [Try.f64]) ?_
                      unfold law4_StorPlays_C4_stor_Store_now at E1294
                      try dsimp only at E1294
                      refine runR_take tab_ok fol 1 ?_
                      obtain ⟨t812, b1296, H1297⟩ := bind_inv E1294
                      try simp -implicitDefEqProofs only [go_sem, Nat.reduceAdd, reduceCtorEq, ↓reduceIte]
                      refine onCallD_pureA [9, 10] (by intro hp1 h1; have h1298 := h1 9 (by simp); have h1299 := h1 10 (by simp); (try simp -implicitDefEqProofs only [go_sem, ↓reduceIte] at h1298); (try simp -implicitDefEqProofs only [go_sem, Nat.reduceEqDiff, ↓reduceIte] at h1299); first | (simp -implicitDefEqProofs only [go_sem, ↓reduceIte, eStorStore, h1298, h1299]; done) | (simp -implicitDefEqProofs only [go_sem, ↓reduceIte, eStorStore, h1298, h1299]; rfl)) (PureA.of_pure (stor_Store_Rev_ok b1296)) (by first | exact .inr rfl | exact .inl rfl) ?_
                      obtain ⟨x44, b1300, H1301⟩ := bind_inv H1297
                      obtain ⟨h1302, h1303⟩ := idx_inv b1300
                      try simp only [Int.reduceToNat, Int.toNat_natCast] at h1303
                      have h1304 := map_at (eL eGTuple) h1303
                      simp only [List.map_cons, List.map_nil, eL] at h1304
                      have h1305 := at_lt h1303
                      simp only [List.length_cons, List.length_nil, Nat.reduceAdd] at h1305
                      try simp -implicitDefEqProofs only [go_sem, Nat.reduceEqDiff, Nat.reduceAdd, ↓reduceIte, nat_of .i64 h1302, h1304, h1305]
                      refine Rd_endF (by rfl) ?_
                      try simp -implicitDefEqProofs only [go_sem]
                      obtain rfl := Option.some.inj H1301
                      exact end_ret (by first | ((simp -implicitDefEqProofs only [go_sem, ↓reduceIte, Try.f64]) <;> rfl) | rfl) ⟨rfl, rfl, rfl⟩
                    try dsimp only at H1295
                    try simp -implicitDefEqProofs only [go_sem, Nat.reduceEqDiff, Nat.reduceAdd, ↓reduceIte]
                    refine Rd_endF (by rfl) ?_
                    obtain ⟨t394, b1313, H1314⟩ := bind_inv H1295
                    try simp -implicitDefEqProofs only [go_sem, Nat.reduceEqDiff, Nat.reduceAdd, ↓reduceIte]
                    refine onCall_pure (by first | rfl | (simp -implicitDefEqProofs only [go_sem, Int.reduceToNat, Int.reduceLT, Int.reduceLE, Int.reduceBEq, Int.reduceBNe, Nat.reduceLT, Nat.reduceBEq, Int.reduceEq, Nat.reduceEqDiff, Nat.reduceAdd, Nat.reduceSub, Nat.reduceMul, Nat.reduceLeDiff, reduceCtorEq, ↓reduceIte, eGTuple, eGBatch, eStorStore, eRef1Store]; done) | (simp -implicitDefEqProofs only [go_sem, Int.reduceToNat, Int.reduceLT, Int.reduceLE, Int.reduceBEq, Int.reduceBNe, Nat.reduceLT, Nat.reduceBEq, Int.reduceEq, Nat.reduceEqDiff, Nat.reduceAdd, Nat.reduceSub, Nat.reduceMul, Nat.reduceLeDiff, reduceCtorEq, ↓reduceIte, eGTuple, eGBatch, eStorStore, eRef1Store]; rfl)) (rows_Minus_ok b1313) (by first | exact .inr rfl | exact .inl rfl) ?_
                    obtain ⟨t416, b1315, H1316⟩ := bind_inv H1314
                    try simp -implicitDefEqProofs only [go_sem, Nat.reduceEqDiff, Nat.reduceAdd, ↓reduceIte]
                    refine onCall_pure (by first | rfl | (simp -implicitDefEqProofs only [go_sem, Int.reduceToNat, Int.reduceLT, Int.reduceLE, Int.reduceBEq, Int.reduceBNe, Nat.reduceLT, Nat.reduceBEq, Int.reduceEq, Nat.reduceEqDiff, Nat.reduceAdd, Nat.reduceSub, Nat.reduceMul, Nat.reduceLeDiff, reduceCtorEq, ↓reduceIte, eGTuple, eGBatch, eStorStore, eRef1Store]; done) | (simp -implicitDefEqProofs only [go_sem, Int.reduceToNat, Int.reduceLT, Int.reduceLE, Int.reduceBEq, Int.reduceBNe, Nat.reduceLT, Nat.reduceBEq, Int.reduceEq, Nat.reduceEqDiff, Nat.reduceAdd, Nat.reduceSub, Nat.reduceMul, Nat.reduceLeDiff, reduceCtorEq, ↓reduceIte, eGTuple, eGBatch, eStorStore, eRef1Store]; rfl)) (rows_Plus_ok b1315) (by first | exact .inr rfl | exact .inl rfl) ?_
                    obtain ⟨t454, b1317, H1318⟩ := bind_inv H1316
                    try simp -implicitDefEqProofs only [go_sem, Nat.reduceEqDiff, Nat.reduceAdd, ↓reduceIte]
                    refine onCall_pure (by first | rfl | (simp -implicitDefEqProofs only [go_sem, Int.reduceToNat, Int.reduceLT, Int.reduceLE, Int.reduceBEq, Int.reduceBNe, Nat.reduceLT, Nat.reduceBEq, Int.reduceEq, Nat.reduceEqDiff, Nat.reduceAdd, Nat.reduceSub, Nat.reduceMul, Nat.reduceLeDiff, reduceCtorEq, ↓reduceIte, eGTuple, eGBatch, eStorStore, eRef1Store]; done) | (simp -implicitDefEqProofs only [go_sem, Int.reduceToNat, Int.reduceLT, Int.reduceLE, Int.reduceBEq, Int.reduceBNe, Nat.reduceLT, Nat.reduceBEq, Int.reduceEq, Nat.reduceEqDiff, Nat.reduceAdd, Nat.reduceSub, Nat.reduceMul, Nat.reduceLeDiff, reduceCtorEq, ↓reduceIte, eGTuple, eGBatch, eStorStore, eRef1Store]; rfl)) (rows_Minus_ok b1317) (by first | exact .inr rfl | exact .inl rfl) ?_
                    try simp -implicitDefEqProofs only [go_sem, Nat.reduceEqDiff, Nat.reduceAdd, ↓reduceIte]
                    rcases ite_inv H1318 with ⟨c1319, H1320⟩ | ⟨c1319, H1320⟩
                    · try simp -implicitDefEqProofs only [go_sem, Nat.reduceAdd, c1319]
                      obtain ⟨k1390, k1391⟩ := Prod.mk.inj (Option.some.inj H1320)
                      obtain ⟨k1391, k1392⟩ := Prod.mk.inj k1391
                      subst k1390
                      subst k1391
                      subst k1392
                      exact endJ_ret ⟨(6, 0, [[]]), rfl⟩ (ren_mk [] (by rfl) (rf_upd (by rfl) (rf_no _)) (rh_upd (rh_one (by rfl) (by rfl) (by rfl)) (rh_upd (rh_one (by rfl) (by rfl) (by rfl)) (rh_upd (rh_one (by rfl) (by rfl) (by rfl)) (rh_upd (rh_one (by rfl) (by rfl) (by rfl)) (rh_upd (rh_one (by rfl) (by rfl) (by rfl)) (rh_no _)))))))
                    · try simp -implicitDefEqProofs only [go_sem, Nat.reduceEqDiff, Nat.reduceAdd, reduceCtorEq, ↓reduceIte, c1319]
                      obtain ⟨e_65, E1321, H1322⟩ := bind_inv H1320
                      refine onCall_inl (InlOK.mono (inl_runRJ (α := { y : Bool // e_65 = y }) tab_ok Try.func67 rfl (by kernel_rfl) (by kernel_rfl) (by simp [Try.f67]) (fun | ⟨t418, _⟩ => ⟨upd 4 (.v (.bool t418)) noFr, upd 0 (some (.bx [.d (.sl (List.map eGTuple t1.add)) true, .d (.sl (List.map eGTuple t1.drop)) true, .d (.sl (List.map eGTuple t1.must)) true, .d (.sl (List.map eGTuple t1.not_)) true])) (upd 9 (some (.bx [.v (.int .i64 (if 1000000 < (if t02 < 0 then 0 else t02) then 1000000 else (if t02 < 0 then 0 else t02))), .so 10 0 0 1])) (upd 10 (some (.rw [[.sl []]] 1 0 false false)) (upd 11 (some (.bx [.v (.int .i64 (if 1000000 < (if t02 < 0 then 0 else t02) then 1000000 else (if t02 < 0 then 0 else t02))), .so 12 0 0 1])) (upd 12 (some (.rw [[.sl []]] 1 0 false false)) (upd 24 (some (.bx [.d (.sl (List.map eGTuple t1.add)) true, .d (.sl (List.map eGTuple t1.drop)) true, .d (.sl (List.map eGTuple t1.must)) true, .d (.sl (List.map eGTuple t1.not_)) true])) (upd 33 (some (.bx [.d (.sl (List.map eGTuple t216)) false])) (upd 48 (some (.bx [.fn 66 [.pt 33 0]])) noHp))))))), 69⟩) (fun | ⟨t418, _⟩ => .v (.bool t418)) (by rintro ⟨t418, he1369⟩; first | ((simp -implicitDefEqProofs only [go_sem, ↓reduceIte, Try.f67]) <;> rfl) | rfl) ?_) ?_)
                      · unfold law4_StorPlays_C5_slices_ContainsFunc_Tuple at E1321
                        try dsimp only at E1321
                        refine runR_take tab_ok fol 1 ?_
                        try simp -implicitDefEqProofs only [go_sem, Nat.reduceEqDiff, Nat.reduceAdd, reduceCtorEq, ↓reduceIte]
                        obtain ⟨e_66, E1323, H1324⟩ := bind_inv E1321
                        refine onCall_inl (InlOK.mono (inl_runRJ (α := { y : Int // e_66 = y }) tab_ok Try.func81 rfl (by kernel_rfl) (by kernel_rfl) (by simp [Try.f81]) (fun | ⟨t417, _⟩ => ⟨upd 4 (.v (.int .i64 t417)) noFr, upd 0 (some (.bx [.d (.sl (List.map eGTuple t1.add)) true, .d (.sl (List.map eGTuple t1.drop)) true, .d (.sl (List.map eGTuple t1.must)) true, .d (.sl (List.map eGTuple t1.not_)) true])) (upd 9 (some (.bx [.v (.int .i64 (if 1000000 < (if t02 < 0 then 0 else t02) then 1000000 else (if t02 < 0 then 0 else t02))), .so 10 0 0 1])) (upd 10 (some (.rw [[.sl []]] 1 0 false false)) (upd 11 (some (.bx [.v (.int .i64 (if 1000000 < (if t02 < 0 then 0 else t02) then 1000000 else (if t02 < 0 then 0 else t02))), .so 12 0 0 1])) (upd 12 (some (.rw [[.sl []]] 1 0 false false)) (upd 24 (some (.bx [.d (.sl (List.map eGTuple t1.add)) true, .d (.sl (List.map eGTuple t1.drop)) true, .d (.sl (List.map eGTuple t1.must)) true, .d (.sl (List.map eGTuple t1.not_)) true])) (upd 33 (some (.bx [.d (.sl (List.map eGTuple t216)) false])) (upd 48 (some (.bx [.fn 66 [.pt 33 0]])) noHp))))))), 75⟩) (fun | ⟨t417, _⟩ => .v (.int .i64 t417)) (by rintro ⟨t417, he1365⟩; first | ((simp -implicitDefEqProofs only [go_sem, ↓reduceIte, Try.f81]) <;> rfl) | rfl) ?_) ?_)
                        · unfold law4_StorPlays_C6_slices_IndexFunc_Tuple at E1323
                          try dsimp only at E1323
                          refine runR_seq ?_
                          refine runR_take tab_ok fol 1 ?_
                          try simp -implicitDefEqProofs only [go_sem, Nat.reduceAdd]
                          refine runR_seq ?_
                          refine runR_seq ?_
                          refine runR_take tab_ok fol 1 ?_
                          try simp -implicitDefEqProofs only [go_sem, Nat.reduceAdd, reduceCtorEq, ↓reduceIte]
                          obtain ⟨e_67, E1325, H1326⟩ := bind_inv E1323
                          refine runR_join (α := { y : Unit // e_67 = .inl y }) (fun | ⟨_, _⟩ => ⟨noFr, upd 0 (some (.bx [.d (.sl (List.map eGTuple t1.add)) true, .d (.sl (List.map eGTuple t1.drop)) true, .d (.sl (List.map eGTuple t1.must)) true, .d (.sl (List.map eGTuple t1.not_)) true])) (upd 9 (some (.bx [.v (.int .i64 (if 1000000 < (if t02 < 0 then 0 else t02) then 1000000 else (if t02 < 0 then 0 else t02))), .so 10 0 0 1])) (upd 10 (some (.rw [[.sl []]] 1 0 false false)) (upd 11 (some (.bx [.v (.int .i64 (if 1000000 < (if t02 < 0 then 0 else t02) then 1000000 else (if t02 < 0 then 0 else t02))), .so 12 0 0 1])) (upd 12 (some (.rw [[.sl []]] 1 0 false false)) (upd 24 (some (.bx [.d (.sl (List.map eGTuple t1.add)) true, .d (.sl (List.map eGTuple t1.drop)) true, .d (.sl (List.map eGTuple t1.must)) true, .d (.sl (List.map eGTuple t1.not_)) true])) (upd 33 (some (.bx [.d (.sl (List.map eGTuple t216)) false])) (upd 48 (some (.bx [.fn 66 [.pt 33 0]])) noHp))))))), 75⟩) ?_ ?_
                          · refine runR_block ?_
                            refine runR_loop (α := { q : Nat × Int // law4_StorPlays_L2 n t1 t02 t216 q.1 q.2 = some e_67 }) (fun | ⟨⟨c, t813⟩, _⟩ => ⟨upd 0 (.d (.sl (List.map eGTuple t1.must)) true) (upd 1 (.fn 68 [.pt 48 0]) (upd 7 (.v (.int .i64 (t1.must.length : Int))) (upd 8 (.v (.int .i64 t813)) noFr))), upd 0 (some (.bx [.d (.sl (List.map eGTuple t1.add)) true, .d (.sl (List.map eGTuple t1.drop)) true, .d (.sl (List.map eGTuple t1.must)) true, .d (.sl (List.map eGTuple t1.not_)) true])) (upd 9 (some (.bx [.v (.int .i64 (if 1000000 < (if t02 < 0 then 0 else t02) then 1000000 else (if t02 < 0 then 0 else t02))), .so 10 0 0 1])) (upd 10 (some (.rw [[.sl []]] 1 0 false false)) (upd 11 (some (.bx [.v (.int .i64 (if 1000000 < (if t02 < 0 then 0 else t02) then 1000000 else (if t02 < 0 then 0 else t02))), .so 12 0 0 1])) (upd 12 (some (.rw [[.sl []]] 1 0 false false)) (upd 24 (some (.bx [.d (.sl (List.map eGTuple t1.add)) true, .d (.sl (List.map eGTuple t1.drop)) true, .d (.sl (List.map eGTuple t1.must)) true, .d (.sl (List.map eGTuple t1.not_)) true])) (upd 33 (some (.bx [.d (.sl (List.map eGTuple t216)) false])) (upd 48 (some (.bx [.fn 66 [.pt 33 0]])) noHp))))))), 75⟩) (fun q => q.1.1) ⟨(n, 0), E1325⟩ ?_ ?_
                            · exact ren_mk [] (by rfl) (rf_upd (by rfl) (rf_upd (by rfl) (rf_upd (by rfl) (rf_upd (by rfl) (rf_no _))))) (rh_upd (rh_one (by rfl) (by rfl) (by rfl)) (rh_upd (rh_one (by rfl) (by rfl) (by rfl)) (rh_upd (rh_one (by rfl) (by rfl) (by rfl)) (rh_upd (rh_one (by rfl) (by rfl) (by rfl)) (rh_upd (rh_one (by rfl) (by rfl) (by rfl)) (rh_upd (rh_one (by rfl) (by rfl) (by rfl)) (rh_upd (rh_one (by rfl) (by rfl) (by rfl)) (rh_upd (rh_one (by rfl) (by rfl) (by rfl)) (rh_no _)))))))))
                            · rintro ⟨⟨c, t813⟩, L1327⟩
                              rcases c with _ | c
                              · exact nomatch (show none = some _ from L1327)
                              · unfold law4_StorPlays_L2 at L1327
                                try dsimp only at L1327
                                refine runR_take tab_ok fol 1 ?_
                                try simp -implicitDefEqProofs only [go_sem, Nat.reduceEqDiff, Nat.reduceAdd, reduceCtorEq, ↓reduceIte]
                                rcases ite_inv L1327 with ⟨c1346, H1347⟩ | ⟨c1346, H1347⟩
                                · obtain ⟨x46, b1348, H1349⟩ := bind_inv H1347
                                  obtain ⟨h1350, h1351⟩ := idx_inv b1348
                                  try simp only [Int.reduceToNat, Int.toNat_natCast] at h1351
                                  have h1352 := map_at eGTuple h1351
                                  try simp -implicitDefEqProofs only [go_sem, Nat.reduceEqDiff, Nat.reduceAdd, reduceCtorEq, ↓reduceIte, eGTuple, c1346, nat_of .i64 h1350, h1352]
                                  obtain ⟨e_69, E1354, H1355⟩ := bind_inv H1349
                                  refine onCall_inl (InlOK.mono (inl_runRJ (α := { y : Bool // e_69 = y }) tab_ok Try.func68 rfl (by kernel_rfl) (by kernel_rfl) (by simp [Try.f68]) (fun | ⟨t313, _⟩ => ⟨upd 3 (.v (.bool t313)) noFr, upd 0 (some (.bx [.d (.sl (List.map eGTuple t1.add)) true, .d (.sl (List.map eGTuple t1.drop)) true, .d (.sl (List.map eGTuple t1.must)) true, .d (.sl (List.map eGTuple t1.not_)) true])) (upd 9 (some (.bx [.v (.int .i64 (if 1000000 < (if t02 < 0 then 0 else t02) then 1000000 else (if t02 < 0 then 0 else t02))), .so 10 0 0 1])) (upd 10 (some (.rw [[.sl []]] 1 0 false false)) (upd 11 (some (.bx [.v (.int .i64 (if 1000000 < (if t02 < 0 then 0 else t02) then 1000000 else (if t02 < 0 then 0 else t02))), .so 12 0 0 1])) (upd 12 (some (.rw [[.sl []]] 1 0 false false)) (upd 24 (some (.bx [.d (.sl (List.map eGTuple t1.add)) true, .d (.sl (List.map eGTuple t1.drop)) true, .d (.sl (List.map eGTuple t1.must)) true, .d (.sl (List.map eGTuple t1.not_)) true])) (upd 33 (some (.bx [.d (.sl (List.map eGTuple t216)) false])) (upd 48 (some (.bx [.fn 66 [.pt 33 0]])) noHp))))))), 84⟩) (fun | ⟨t313, _⟩ => .v (.bool t313)) (by rintro ⟨t313, he1358⟩; first | ((simp -implicitDefEqProofs only [go_sem, ↓reduceIte, Try.f68]) <;> rfl) | rfl) ?_) ?_)
                                  · unfold law4_StorPlays_C7_stor_Store_Write_c2 at E1354
                                    try dsimp only at E1354
                                    refine runR_take tab_ok fol 1 ?_
                                    obtain ⟨t68, b1356, H1357⟩ := bind_inv E1354
                                    try simp -implicitDefEqProofs only [go_sem, Nat.reduceEqDiff, Nat.reduceAdd, reduceCtorEq, ↓reduceIte]
                                    refine onCall_pureA (by first | rfl | (simp -implicitDefEqProofs only [go_sem, Int.reduceToNat, Int.reduceLT, Int.reduceLE, Int.reduceBEq, Int.reduceBNe, Nat.reduceLT, Nat.reduceBEq, Int.reduceEq, Nat.reduceEqDiff, Nat.reduceAdd, Nat.reduceSub, Nat.reduceMul, Nat.reduceLeDiff, reduceCtorEq, ↓reduceIte, eGTuple, eGBatch, eStorStore, eRef1Store]; done) | (simp -implicitDefEqProofs only [go_sem, Int.reduceToNat, Int.reduceLT, Int.reduceLE, Int.reduceBEq, Int.reduceBNe, Nat.reduceLT, Nat.reduceBEq, Int.reduceEq, Nat.reduceEqDiff, Nat.reduceAdd, Nat.reduceSub, Nat.reduceMul, Nat.reduceLeDiff, reduceCtorEq, ↓reduceIte, eGTuple, eGBatch, eStorStore, eRef1Store]; rfl)) (PureA.of_pure (stor_Store_Write_c1_ok b1356)) (by first | exact .inr rfl | exact .inl rfl) ?_
                                    try simp -implicitDefEqProofs only [go_sem, Nat.reduceAdd, ↓reduceIte]
                                    obtain rfl := Option.some.inj H1357
                                    exact endJ_ret ⟨(!t68), rfl⟩ (ren_mk [] (by rfl) (rf_upd (by rfl) (rf_no _)) (rh_upd (rh_one (by rfl) (by rfl) (by rfl)) (rh_upd (rh_one (by rfl) (by rfl) (by rfl)) (rh_upd (rh_one (by rfl) (by rfl) (by rfl)) (rh_upd (rh_one (by rfl) (by rfl) (by rfl)) (rh_upd (rh_one (by rfl) (by rfl) (by rfl)) (rh_upd (rh_one (by rfl) (by rfl) (by rfl)) (rh_upd (rh_one (by rfl) (by rfl) (by rfl)) (rh_upd (rh_one (by rfl) (by rfl) (by rfl)) (rh_no _))))))))))
                                  rintro v1359 hp1360 nx1361 ⟨⟨t313, he1358⟩, rfl, rfl, rfl⟩
                                  replace he1358 := he1358.symm
                                  subst he1358
                                  try dsimp only at H1355
                                  dsimp only
                                  try simp -implicitDefEqProofs only [go_sem, ↓reduceIte]
                                  rcases ite_inv H1355 with ⟨c1362, H1363⟩ | ⟨c1362, H1363⟩
                                  · try simp -implicitDefEqProofs only [go_sem, Nat.reduceEqDiff, Nat.reduceAdd, ↓reduceIte, c1362]
                                    obtain rfl := Option.some.inj H1363
                                    obtain rfl := Option.some.inj H1326
                                    exact endJ_ret ⟨t813, rfl⟩ (ren_mk [] (by rfl) (rf_upd (by rfl) (rf_no _)) (rh_upd (rh_one (by rfl) (by rfl) (by rfl)) (rh_upd (rh_one (by rfl) (by rfl) (by rfl)) (rh_upd (rh_one (by rfl) (by rfl) (by rfl)) (rh_upd (rh_one (by rfl) (by rfl) (by rfl)) (rh_upd (rh_one (by rfl) (by rfl) (by rfl)) (rh_upd (rh_one (by rfl) (by rfl) (by rfl)) (rh_upd (rh_one (by rfl) (by rfl) (by rfl)) (rh_upd (rh_one (by rfl) (by rfl) (by rfl)) (rh_no _))))))))))
                                  · try simp -implicitDefEqProofs only [go_sem, Nat.reduceEqDiff, Nat.reduceAdd, reduceCtorEq, ↓reduceIte, c1362]
                                    exact ⟨⟨(c, (IntKind.i64.wrap (t813 + 1))), H1363⟩, ren_mk [] (by rfl) (rf_upd (by rfl) (rf_upd (by rfl) (rf_upd (by rfl) (rf_upd (by rfl) (rf_no _))))) (rh_upd (rh_one (by rfl) (by rfl) (by rfl)) (rh_upd (rh_one (by rfl) (by rfl) (by rfl)) (rh_upd (rh_one (by rfl) (by rfl) (by rfl)) (rh_upd (rh_one (by rfl) (by rfl) (by rfl)) (rh_upd (rh_one (by rfl) (by rfl) (by rfl)) (rh_upd (rh_one (by rfl) (by rfl) (by rfl)) (rh_upd (rh_one (by rfl) (by rfl) (by rfl)) (rh_upd (rh_one (by rfl) (by rfl) (by rfl)) (rh_no _))))))))), Nat.lt_succ_self _⟩
                                · try simp -implicitDefEqProofs only [go_sem, ↓reduceIte, c1346]
                                  obtain rfl := Option.some.inj H1347
                                  exact ⟨⟨(), rfl⟩, ren_mk [] (by rfl) (rf_no _) (rh_upd (rh_one (by rfl) (by rfl) (by rfl)) (rh_upd (rh_one (by rfl) (by rfl) (by rfl)) (rh_upd (rh_one (by rfl) (by rfl) (by rfl)) (rh_upd (rh_one (by rfl) (by rfl) (by rfl)) (rh_upd (rh_one (by rfl) (by rfl) (by rfl)) (rh_upd (rh_one (by rfl) (by rfl) (by rfl)) (rh_upd (rh_one (by rfl) (by rfl) (by rfl)) (rh_upd (rh_one (by rfl) (by rfl) (by rfl)) (rh_no _)))))))))⟩
                          · rintro ⟨_, he1364⟩
                            replace he1364 := he1364.symm
                            subst he1364
                            try dsimp only at H1326
                            refine runR_take tab_ok fol 1 ?_
                            try simp -implicitDefEqProofs only [go_sem, Nat.reduceAdd]
                            obtain rfl := Option.some.inj H1326
                            exact endJ_ret ⟨(-1), rfl⟩ (ren_mk [] (by rfl) (rf_upd (by rfl) (rf_no _)) (rh_upd (rh_one (by rfl) (by rfl) (by rfl)) (rh_upd (rh_one (by rfl) (by rfl) (by rfl)) (rh_upd (rh_one (by rfl) (by rfl) (by rfl)) (rh_upd (rh_one (by rfl) (by rfl) (by rfl)) (rh_upd (rh_one (by rfl) (by rfl) (by rfl)) (rh_upd (rh_one (by rfl) (by rfl) (by rfl)) (rh_upd (rh_one (by rfl) (by rfl) (by rfl)) (rh_upd (rh_one (by rfl) (by rfl) (by rfl)) (rh_no _))))))))))
                        rintro v1366 hp1367 nx1368 ⟨⟨t417, he1365⟩, rfl, rfl, rfl⟩
                        replace he1365 := he1365.symm
                        subst he1365
                        try dsimp only at H1324
                        dsimp only
                        try simp -implicitDefEqProofs only [go_sem, Nat.reduceAdd, ↓reduceIte]
                        obtain rfl := Option.some.inj H1324
                        exact endJ_ret ⟨(decide (0 ≤ t417)), rfl⟩ (ren_mk [] (by rfl) (rf_upd (by rfl) (rf_no _)) (rh_upd (rh_one (by rfl) (by rfl) (by rfl)) (rh_upd (rh_one (by rfl) (by rfl) (by rfl)) (rh_upd (rh_one (by rfl) (by rfl) (by rfl)) (rh_upd (rh_one (by rfl) (by rfl) (by rfl)) (rh_upd (rh_one (by rfl) (by rfl) (by rfl)) (rh_upd (rh_one (by rfl) (by rfl) (by rfl)) (rh_upd (rh_one (by rfl) (by rfl) (by rfl)) (rh_upd (rh_one (by rfl) (by rfl) (by rfl)) (rh_no _))))))))))
                      rintro v1370 hp1371 nx1372 ⟨⟨t418, he1369⟩, rfl, rfl, rfl⟩
                      replace he1369 := he1369.symm
                      subst he1369
                      try dsimp only at H1322
                      dsimp only
                      try simp -implicitDefEqProofs only [go_sem, Nat.reduceAdd, ↓reduceIte]
                      rcases ite_inv H1322 with ⟨c1373, H1374⟩ | ⟨c1373, H1374⟩
                      · try simp -implicitDefEqProofs only [go_sem, Nat.reduceAdd, c1373]
                        obtain ⟨k1393, k1394⟩ := Prod.mk.inj (Option.some.inj H1374)
                        obtain ⟨k1394, k1395⟩ := Prod.mk.inj k1394
                        subst k1393
                        subst k1394
                        subst k1395
                        exact endJ_ret ⟨(4, 0, [[]]), rfl⟩ (ren_mk [] (by rfl) (rf_upd (by rfl) (rf_no _)) (rh_upd (rh_one (by rfl) (by rfl) (by rfl)) (rh_upd (rh_one (by rfl) (by rfl) (by rfl)) (rh_upd (rh_one (by rfl) (by rfl) (by rfl)) (rh_upd (rh_one (by rfl) (by rfl) (by rfl)) (rh_upd (rh_one (by rfl) (by rfl) (by rfl)) (rh_no _)))))))
                      · obtain ⟨t594, b1375, H1376⟩ := bind_inv H1374
                        try simp -implicitDefEqProofs only [go_sem, Nat.reduceEqDiff, Nat.reduceAdd, reduceCtorEq, ↓reduceIte, c1373]
                        refine onCall_pureA (by first | rfl | (simp -implicitDefEqProofs only [go_sem, Int.reduceToNat, Int.reduceLT, Int.reduceLE, Int.reduceBEq, Int.reduceBNe, Nat.reduceLT, Nat.reduceBEq, Int.reduceEq, Nat.reduceEqDiff, Nat.reduceAdd, Nat.reduceSub, Nat.reduceMul, Nat.reduceLeDiff, reduceCtorEq, ↓reduceIte, eGTuple, eGBatch, eStorStore, eRef1Store, c1373]; done) | (simp -implicitDefEqProofs only [go_sem, Int.reduceToNat, Int.reduceLT, Int.reduceLE, Int.reduceBEq, Int.reduceBNe, Nat.reduceLT, Nat.reduceBEq, Int.reduceEq, Nat.reduceEqDiff, Nat.reduceAdd, Nat.reduceSub, Nat.reduceMul, Nat.reduceLeDiff, reduceCtorEq, ↓reduceIte, eGTuple, eGBatch, eStorStore, eRef1Store, c1373]; rfl)) (slices_ContainsFunc_Tuple__stor_Store_Write_c1_ok b1375) (by first | exact .inr rfl | exact .inl rfl) ?_
                        try simp -implicitDefEqProofs only [go_sem, Nat.reduceAdd, ↓reduceIte]
                        rcases ite_inv H1376 with ⟨c1377, H1378⟩ | ⟨c1377, H1378⟩
                        · try simp -implicitDefEqProofs only [go_sem, Nat.reduceAdd, c1377]
                          obtain ⟨k1396, k1397⟩ := Prod.mk.inj (Option.some.inj H1378)
                          obtain ⟨k1397, k1398⟩ := Prod.mk.inj k1397
                          subst k1396
                          subst k1397
                          subst k1398
                          exact endJ_ret ⟨(3, 0, [[]]), rfl⟩ (ren_mk [] (by rfl) (rf_upd (by rfl) (rf_no _)) (rh_upd (rh_one (by rfl) (by rfl) (by rfl)) (rh_upd (rh_one (by rfl) (by rfl) (by rfl)) (rh_upd (rh_one (by rfl) (by rfl) (by rfl)) (rh_upd (rh_one (by rfl) (by rfl) (by rfl)) (rh_upd (rh_one (by rfl) (by rfl) (by rfl)) (rh_no _)))))))
                        · try simp -implicitDefEqProofs only [go_sem, Nat.reduceEqDiff, Nat.reduceAdd, reduceCtorEq, ↓reduceIte, c1377]
                          rcases ite_inv H1378 with ⟨c1379, H1380⟩ | ⟨c1379, H1380⟩
                          · try simp -implicitDefEqProofs only [go_sem, Nat.reduceAdd, c1379]
                            obtain ⟨k1399, k1400⟩ := Prod.mk.inj (Option.some.inj H1380)
                            obtain ⟨k1400, k1401⟩ := Prod.mk.inj k1400
                            subst k1399
                            subst k1400
                            subst k1401
                            exact endJ_ret ⟨(5, 0, [[]]), rfl⟩ (ren_mk [] (by rfl) (rf_upd (by rfl) (rf_no _)) (rh_upd (rh_one (by rfl) (by rfl) (by rfl)) (rh_upd (rh_one (by rfl) (by rfl) (by rfl)) (rh_upd (rh_one (by rfl) (by rfl) (by rfl)) (rh_upd (rh_one (by rfl) (by rfl) (by rfl)) (rh_upd (rh_one (by rfl) (by rfl) (by rfl)) (rh_no _)))))))
                          · obtain ⟨t7010, b1381, H1382⟩ := bind_inv H1380
                            try simp -implicitDefEqProofs only [go_sem, Nat.reduceEqDiff, Nat.reduceAdd, reduceCtorEq, ↓reduceIte, c1379]
                            refine onCall_pure (by first | rfl | (simp -implicitDefEqProofs only [go_sem, Int.reduceToNat, Int.reduceLT, Int.reduceLE, Int.reduceBEq, Int.reduceBNe, Nat.reduceLT, Nat.reduceBEq, Int.reduceEq, Nat.reduceEqDiff, Nat.reduceAdd, Nat.reduceSub, Nat.reduceMul, Nat.reduceLeDiff, reduceCtorEq, ↓reduceIte, eGTuple, eGBatch, eStorStore, eRef1Store, c1373, c1377, c1379]; done) | (simp -implicitDefEqProofs only [go_sem, Int.reduceToNat, Int.reduceLT, Int.reduceLE, Int.reduceBEq, Int.reduceBNe, Nat.reduceLT, Nat.reduceBEq, Int.reduceEq, Nat.reduceEqDiff, Nat.reduceAdd, Nat.reduceSub, Nat.reduceMul, Nat.reduceLeDiff, reduceCtorEq, ↓reduceIte, eGTuple, eGBatch, eStorStore, eRef1Store, c1373, c1377, c1379]; rfl)) (slices_Equal_Tuple_ok b1381) (by first | exact .inr rfl | exact .inl rfl) ?_
                            try simp -implicitDefEqProofs only [go_sem, Nat.reduceAdd, ↓reduceIte]
                            rcases ite_inv H1382 with ⟨c1383, H1384⟩ | ⟨c1383, H1384⟩
                            · try simp -implicitDefEqProofs only [go_sem, Nat.reduceAdd, c1383]
                              obtain ⟨k1402, k1403⟩ := Prod.mk.inj (Option.some.inj H1384)
                              obtain ⟨k1403, k1404⟩ := Prod.mk.inj k1403
                              subst k1402
                              subst k1403
                              subst k1404
                              exact endJ_ret ⟨(0, 0, [[]]), rfl⟩ (ren_mk [] (by rfl) (rf_upd (by rfl) (rf_no _)) (rh_upd (rh_one (by rfl) (by rfl) (by rfl)) (rh_upd (rh_one (by rfl) (by rfl) (by rfl)) (rh_upd (rh_one (by rfl) (by rfl) (by rfl)) (rh_upd (rh_one (by rfl) (by rfl) (by rfl)) (rh_upd (rh_one (by rfl) (by rfl) (by rfl)) (rh_no _)))))))
                            · try simp -implicitDefEqProofs only [go_sem, Nat.reduceLT, Nat.reduceEqDiff, Nat.reduceAdd, Nat.reduceLeDiff, reduceCtorEq, ↓reduceIte, c1383]
                              obtain ⟨k1405, k1406⟩ := Prod.mk.inj (Option.some.inj H1384)
                              obtain ⟨k1406, k1407⟩ := Prod.mk.inj k1406
                              subst k1405
                              subst k1406
                              subst k1407
                              exact endJ_ret ⟨(0, 1, [[], t416]), rfl⟩ (ren_mk [] (by rfl) (rf_upd (by rfl) (rf_no _)) (rh_upd (rh_one (by rfl) (by rfl) (by rfl)) (rh_upd (rh_one (by rfl) (by rfl) (by rfl)) (rh_upd (rh_one (by rfl) (by rfl) (by rfl)) (rh_upd (rh_one (by rfl) (by rfl) (by rfl)) (rh_upd (rh_one (by rfl) (by rfl) (by rfl)) (rh_no _)))))))
              · rintro v1408 hp1409 nx1410 ⟨⟨w1412, he1411⟩, rfl, rfl, rfl⟩
                subst he1411
                refine ⟨rfl, ?_, rfl⟩
                funext j
                by_cases j0 : j = 0
                · subst j0; rfl
                by_cases j9 : j = 9
                · subst j9; rfl
                by_cases j10 : j = 10
                · subst j10; rfl
                by_cases j11 : j = 11
                · subst j11; rfl
                by_cases j12 : j = 12
                · subst j12; rfl
                first | rfl | simp only [upds, upd_ne _ _ j0, upd_ne _ _ j9, upd_ne _ _ j10, upd_ne _ _ j11, upd_ne _ _ j12]
              try dsimp only at H1271
              try simp -implicitDefEqProofs only [go_sem, Nat.reduceEqDiff, Nat.reduceAdd, reduceCtorEq, ↓reduceIte]
              obtain ⟨e_70, E1413, H1414⟩ := bind_inv H1271
              obtain ⟨t420, g16, o1112⟩ := e_70
              refine onCallD_one (v := .v (.int .i64 t420)) (δ := [(11, (.bx [.v (.int .i64 (if 1000000 < (if t02 < 0 then 0 else t02) then 1000000 else (if t02 < 0 then 0 else t02))), .so 12 g16 0 (o1112.length)])), (12, (.rw (List.map (eL eGTuple) o1112) 1 g16 false false))]) (nx' := 24) (InlOK.mono (inl_runRJ (α := { y : Int × Nat × List (List GTuple) // (t420, g16, o1112) = y }) tab_ok Try.func37 rfl (by kernel_rfl) (by kernel_rfl) (by simp [Try.f37]) (fun | ⟨⟨t420, g16, o1112⟩, _⟩ => ⟨upd 4 (.v (.int .i64 t420)) noFr, upd 0 (some (.bx [.d (.sl (List.map eGTuple t1.add)) true, .d (.sl (List.map eGTuple t1.drop)) true, .d (.sl (List.map eGTuple t1.must)) true, .d (.sl (List.map eGTuple t1.not_)) true])) (upd 9 (some (.bx [.v (.int .i64 (if 1000000 < (if t02 < 0 then 0 else t02) then 1000000 else (if t02 < 0 then 0 else t02))), .so 10 g15 0 (o912.length)])) (upd 10 (some (.rw (List.map (eL eGTuple) o912) 1 g15 false false)) (upd 11 (some (.bx [.v (.int .i64 (if 1000000 < (if t02 < 0 then 0 else t02) then 1000000 else (if t02 < 0 then 0 else t02))), .so 12 g16 0 (o1112.length)])) (upd 12 (some (.rw (List.map (eL eGTuple) o1112) 1 g16 false false)) noHp)))), 24⟩) (fun | ⟨⟨t420, g16, o1112⟩, _⟩ => .v (.int .i64 t420)) (by rintro ⟨⟨t420, g16, o1112⟩, he1572⟩; first | ((simp -implicitDefEqProofs only [go_sem, ↓reduceIte, Try.f37]) <;> rfl) | rfl) ?_) ?_) ?_
              · unfold law4_StorPlays_C8_ref1_Store_Write at E1413
                try dsimp only at E1413
                refine runR_seq ?_
                refine runR_take tab_ok fol 1 ?_
                try simp -implicitDefEqProofs only [go_sem, Nat.reduceAdd]
                refine runR_seq ?_
                refine runR_take tab_ok fol 1 ?_
                try simp -implicitDefEqProofs only [go_sem, Nat.reduceAdd, reduceCtorEq, ↓reduceIte]
                obtain ⟨e_71, E1415, H1416⟩ := bind_inv E1413
                refine onCall_inl (InlOK.mono (inl_runRJ (α := { y : Unit // e_71 = y }) tab_ok Try.func39 rfl (by kernel_rfl) (by kernel_rfl) (by simp [Try.f39]) (fun | ⟨_, _⟩ => ⟨upd 2 (.d (.sl (List.map eGTuple [])) false) noFr, upd 0 (some (.bx [.d (.sl (List.map eGTuple t1.add)) true, .d (.sl (List.map eGTuple t1.drop)) true, .d (.sl (List.map eGTuple t1.must)) true, .d (.sl (List.map eGTuple t1.not_)) true])) (upd 9 (some (.bx [.v (.int .i64 (if 1000000 < (if t02 < 0 then 0 else t02) then 1000000 else (if t02 < 0 then 0 else t02))), .so 10 g15 0 (o912.length)])) (upd 10 (some (.rw (List.map (eL eGTuple) o912) 1 g15 false false)) (upd 11 (some (.bx [.v (.int .i64 (if 1000000 < (if t02 < 0 then 0 else t02) then 1000000 else (if t02 < 0 then 0 else t02))), .so 12 0 0 1])) (upd 12 (some (.rw [[.sl []]] 1 0 false false)) (upd 24 (some (.bx [.d (.sl (List.map eGTuple t1.add)) true, .d (.sl (List.map eGTuple t1.drop)) true, .d (.sl (List.map eGTuple t1.must)) true, .d (.sl (List.map eGTuple t1.not_)) true])) noHp))))), 29⟩) (fun | ⟨_, _⟩ => .d (.sl (List.map eGTuple [])) false) (by rintro ⟨_, he1417⟩; first | ((simp -implicitDefEqProofs only [go_sem, ↓reduceIte, Try.f39]) <;> rfl) | rfl) ?_) ?_)
                · unfold law4_StorPlays_C9_ref1_Store_All at E1415
                  try dsimp only at E1415
                  refine runR_take tab_ok fol 1 ?_
                  try simp -implicitDefEqProofs only [go_sem, Nat.reduceLT, Nat.reduceEqDiff, Nat.reduceAdd, reduceCtorEq, ↓reduceIte, (show IntKind.i64.wrap (1 - 1) = 0 from rfl)]
                  refine Rd_endF (by rfl) ?_
                  try simp -implicitDefEqProofs only [go_sem]
                  obtain rfl := Option.some.inj E1415
                  exact endJ_ret ⟨(), rfl⟩ (ren_mk [] (by rfl) (rf_upd (by rfl) (rf_no _)) (rh_upd (rh_one (by rfl) (by rfl) (by rfl)) (rh_upd (rh_one (by rfl) (by rfl) (by rfl)) (rh_upd (rh_one (by rfl) (by rfl) (by rfl)) (rh_upd (rh_one (by rfl) (by rfl) (by rfl)) (rh_upd (rh_one (by rfl) (by rfl) (by rfl)) (rh_upd (rh_one (by rfl) (by rfl) (by rfl)) (rh_no _))))))))
                rintro v1418 hp1419 nx1420 ⟨⟨_, he1417⟩, rfl, rfl, rfl⟩
                replace he1417 := he1417.symm
                subst he1417
                try dsimp only at H1416
                dsimp only
                try simp -implicitDefEqProofs only [go_sem, Nat.reduceAdd, ↓reduceIte]
                refine runR_seq ?_
                refine runR_take tab_ok fol 1 ?_
                obtain ⟨l17, b1421, H1422⟩ := bind_inv H1416
                obtain ⟨h1423, h1424⟩ := app_inv b1421
                have h1424 : t1.add = l17 := h1424
                subst h1424
                have h1423 : t1.add.length ≤ 4294967296 := by have := h1423; simpa using this
                obtain ⟨l18, b1427, H1428⟩ := bind_inv H1422
                obtain ⟨h1429, h1430⟩ := app_inv b1427
                have h1429 : t1.add.length + t1.drop.length ≤ 4294967296 := h1429
                have h1431 : List.map eGTuple t1.add ++ List.map eGTuple t1.drop = List.map eGTuple l18 := app_map eGTuple h1430
                have h1432 : t1.add.length + t1.drop.length = l18.length := app_len h1430
                have h1433 : l18.length ≤ 4294967296 := by omega
                obtain ⟨l19, b1434, H1435⟩ := bind_inv H1428
                obtain ⟨h1436, h1437⟩ := app_inv b1434
                have h1436 : l18.length + t1.must.length ≤ 4294967296 := h1436
                have h1438 : List.map eGTuple l18 ++ List.map eGTuple t1.must = List.map eGTuple l19 := app_map eGTuple h1437
                have h1439 : l18.length + t1.must.length = l19.length := app_len h1437
                have h1440 : l19.length ≤ 4294967296 := by omega
                obtain ⟨l20, b1441, H1442⟩ := bind_inv H1435
                obtain ⟨h1443, h1444⟩ := app_inv b1441
                have h1443 : l19.length + t1.not_.length ≤ 4294967296 := h1443
                have h1445 : List.map eGTuple l19 ++ List.map eGTuple t1.not_ = List.map eGTuple l20 := app_map eGTuple h1444
                have h1446 : l19.length + t1.not_.length = l20.length := app_len h1444
                have h1447 : l20.length ≤ 4294967296 := by omega
                try simp -implicitDefEqProofs only [go_sem, Nat.reduceLT, Nat.reduceEqDiff, Nat.reduceAdd, Nat.reduceMul, Nat.reduceLeDiff, reduceCtorEq, ↓reduceIte, plainR_map (f := eGTuple) (fun _ => rfl) t1.add, chk_map (n := 6) (f := eGTuple) (fun _ => rfl) t1.add, h1423, List.take_succ_cons, List.take_zero, plainR_map (f := eGTuple) (fun _ => rfl) t1.drop, chk_map (n := 6) (f := eGTuple) (fun _ => rfl) t1.drop, h1431, h1432, h1433, plainR_map (f := eGTuple) (fun _ => rfl) t1.must, chk_map (n := 6) (f := eGTuple) (fun _ => rfl) t1.must, h1438, h1439, h1440, plainR_map (f := eGTuple) (fun _ => rfl) t1.not_, chk_map (n := 6) (f := eGTuple) (fun _ => rfl) t1.not_, h1445, h1446, h1447]
                refine Rd_endF (by rfl) ?_
                try simp -implicitDefEqProofs only [go_sem]
                refine runR_seq ?_
                refine runR_seq ?_
                refine runR_take tab_ok fol 1 ?_
                try simp -implicitDefEqProofs only [go_sem, Nat.reduceAdd, List.take_succ_cons, List.take_zero]
                obtain ⟨e_72, E1448, H1449⟩ := bind_inv H1442
                refine runR_join (α := { y : Unit // e_72 = .inl y }) (fun | ⟨_, _⟩ => ⟨upd 0 (.pt 11 0) (upd 3 (.pt 24 0) (upd 5 (.d (.sl (List.map eGTuple [])) false) noFr)), upd 0 (some (.bx [.d (.sl (List.map eGTuple t1.add)) true, .d (.sl (List.map eGTuple t1.drop)) true, .d (.sl (List.map eGTuple t1.must)) true, .d (.sl (List.map eGTuple t1.not_)) true])) (upd 9 (some (.bx [.v (.int .i64 (if 1000000 < (if t02 < 0 then 0 else t02) then 1000000 else (if t02 < 0 then 0 else t02))), .so 10 g15 0 (o912.length)])) (upd 10 (some (.rw (List.map (eL eGTuple) o912) 1 g15 false false)) (upd 11 (some (.bx [.v (.int .i64 (if 1000000 < (if t02 < 0 then 0 else t02) then 1000000 else (if t02 < 0 then 0 else t02))), .so 12 0 0 1])) (upd 12 (some (.rw [[.sl []]] 1 0 false false)) (upd 24 (some (.bx [.d (.sl (List.map eGTuple t1.add)) true, .d (.sl (List.map eGTuple t1.drop)) true, .d (.sl (List.map eGTuple t1.must)) true, .d (.sl (List.map eGTuple t1.not_)) true])) noHp))))), 25⟩) ?_ ?_
                · refine runR_block ?_
                  refine runR_loop (α := { q : Nat × Int // law4_StorPlays_L3 n t1 t02 g15 o912 l20 q.1 q.2 = some e_72 }) (fun | ⟨⟨c, t77⟩, _⟩ => ⟨upd 0 (.pt 11 0) (upd 3 (.pt 24 0) (upd 5 (.d (.sl (List.map eGTuple [])) false) (upd 6 (.so 25 4 0 (l20.length)) (upd 7 (.v (.int .i64 t77)) noFr)))), upd 0 (some (.bx [.d (.sl (List.map eGTuple t1.add)) true, .d (.sl (List.map eGTuple t1.drop)) true, .d (.sl (List.map eGTuple t1.must)) true, .d (.sl (List.map eGTuple t1.not_)) true])) (upd 9 (some (.bx [.v (.int .i64 (if 1000000 < (if t02 < 0 then 0 else t02) then 1000000 else (if t02 < 0 then 0 else t02))), .so 10 g15 0 (o912.length)])) (upd 10 (some (.rw (List.map (eL eGTuple) o912) 1 g15 false false)) (upd 11 (some (.bx [.v (.int .i64 (if 1000000 < (if t02 < 0 then 0 else t02) then 1000000 else (if t02 < 0 then 0 else t02))), .so 12 0 0 1])) (upd 12 (some (.rw [[.sl []]] 1 0 false false)) (upd 24 (some (.bx [.d (.sl (List.map eGTuple t1.add)) true, .d (.sl (List.map eGTuple t1.drop)) true, .d (.sl (List.map eGTuple t1.must)) true, .d (.sl (List.map eGTuple t1.not_)) true])) (upd 25 (some (.rw (List.map eGTuple l20) 6 4 false false)) noHp)))))), 26⟩) (fun q => q.1.1) ⟨(n, 0), E1448⟩ ?_ ?_
                  · exact ren_mk [(24, 24), (25, 29)] (by rfl) (rf_upd (by rfl) (rf_upd (by rfl) (rf_upd (by rfl) (rf_upd (by rfl) (rf_upd (by rfl) (rf_no _)))))) (rh_upd (rh_one (by rfl) (by rfl) (by rfl)) (rh_upd (rh_one (by rfl) (by rfl) (by rfl)) (rh_upd (rh_one (by rfl) (by rfl) (by rfl)) (rh_upd (rh_one (by rfl) (by rfl) (by rfl)) (rh_upd (rh_one (by rfl) (by rfl) (by rfl)) (rh_upd (rh_one (by rfl) (by rfl) (by rfl)) (rh_upd (rh_one (by rfl) (by rfl) (by rfl)) (rh_no _))))))))
                  · rintro ⟨⟨c, t77⟩, L1450⟩
                    rcases c with _ | c
                    · exact nomatch (show none = some _ from L1450)
                    · unfold law4_StorPlays_L3 at L1450
                      try dsimp only at L1450
                      refine runR_take tab_ok fol 1 ?_
                      try simp -implicitDefEqProofs only [go_sem, Nat.reduceEqDiff, Nat.reduceAdd, reduceCtorEq, ↓reduceIte]
                      rcases ite_inv L1450 with ⟨c1463, H1464⟩ | ⟨c1463, H1464⟩
                      · obtain ⟨x48, b1465, H1466⟩ := bind_inv H1464
                        obtain ⟨h1467, h1468⟩ := idx_inv b1465
                        try simp only [Int.reduceToNat, Int.toNat_natCast] at h1468
                        have h1469 := map_at eGTuple h1468
                        have h1470 := at_lt h1468
                        obtain ⟨t388, b1471, H1472⟩ := bind_inv H1466
                        try simp -implicitDefEqProofs only [go_sem, Nat.reduceEqDiff, Nat.reduceAdd, reduceCtorEq, ↓reduceIte, eGTuple, c1463, nat_of .i64 h1467, h1469, h1470]
                        refine onCall_pure (by first | rfl | (simp -implicitDefEqProofs only [go_sem, Int.reduceToNat, Int.reduceLT, Int.reduceLE, Int.reduceBEq, Int.reduceBNe, Nat.reduceLT, Nat.reduceBEq, Int.reduceEq, Nat.reduceEqDiff, Nat.reduceAdd, Nat.reduceSub, Nat.reduceMul, Nat.reduceLeDiff, reduceCtorEq, ↓reduceIte, eGTuple, eGBatch, eStorStore, eRef1Store, c1463, nat_of .i64 h1467, h1469, h1470]; done) | (simp -implicitDefEqProofs only [go_sem, Int.reduceToNat, Int.reduceLT, Int.reduceLE, Int.reduceBEq, Int.reduceBNe, Nat.reduceLT, Nat.reduceBEq, Int.reduceEq, Nat.reduceEqDiff, Nat.reduceAdd, Nat.reduceSub, Nat.reduceMul, Nat.reduceLeDiff, reduceCtorEq, ↓reduceIte, eGTuple, eGBatch, eStorStore, eRef1Store, c1463, nat_of .i64 h1467, h1469, h1470]; rfl)) (ref1_Ok_ok b1471) (by first | exact .inr rfl | exact .inl rfl) ?_
                        try simp -implicitDefEqProofs only [go_sem, Nat.reduceAdd, ↓reduceIte]
                        rcases ite_inv H1472 with ⟨c1473, H1474⟩ | ⟨c1473, H1474⟩
                        · try simp -implicitDefEqProofs only [go_sem, Nat.reduceEqDiff, Nat.reduceAdd, reduceCtorEq, ↓reduceIte, c1473]
                          exact ⟨⟨(c, (IntKind.i64.wrap (t77 + 1))), H1474⟩, ren_mk [(24, 24), (25, 25)] (by rfl) (rf_upd (by rfl) (rf_upd (by rfl) (rf_upd (by rfl) (rf_upd (by rfl) (rf_upd (by rfl) (rf_no _)))))) (rh_upd (rh_one (by rfl) (by rfl) (by rfl)) (rh_upd (rh_one (by rfl) (by rfl) (by rfl)) (rh_upd (rh_one (by rfl) (by rfl) (by rfl)) (rh_upd (rh_one (by rfl) (by rfl) (by rfl)) (rh_upd (rh_one (by rfl) (by rfl) (by rfl)) (rh_upd (rh_one (by rfl) (by rfl) (by rfl)) (rh_upd (rh_one (by rfl) (by rfl) (by rfl)) (rh_no _)))))))), Nat.lt_succ_self _⟩
                        · try simp -implicitDefEqProofs only [go_sem, Nat.reduceAdd, c1473]
                          obtain rfl := Option.some.inj H1474
                          obtain ⟨k1573, k1574⟩ := Prod.mk.inj (Option.some.inj H1449)
                          obtain ⟨k1574, k1575⟩ := Prod.mk.inj k1574
                          subst k1573
                          subst k1574
                          subst k1575
                          exact endJ_ret ⟨(2, 0, [[]]), rfl⟩ (ren_mk [] (by rfl) (rf_upd (by rfl) (rf_no _)) (rh_upd (rh_one (by rfl) (by rfl) (by rfl)) (rh_upd (rh_one (by rfl) (by rfl) (by rfl)) (rh_upd (rh_one (by rfl) (by rfl) (by rfl)) (rh_upd (rh_one (by rfl) (by rfl) (by rfl)) (rh_upd (rh_one (by rfl) (by rfl) (by rfl)) (rh_no _)))))))
                      · try simp -implicitDefEqProofs only [go_sem, ↓reduceIte, c1463]
                        obtain rfl := Option.some.inj H1464
                        exact ⟨⟨(), rfl⟩, ren_mk [(24, 24)] (by rfl) (rf_upd (by rfl) (rf_upd (by rfl) (rf_upd (by rfl) (rf_no _)))) (rh_upd (rh_one (by rfl) (by rfl) (by rfl)) (rh_upd (rh_one (by rfl) (by rfl) (by rfl)) (rh_upd (rh_one (by rfl) (by rfl) (by rfl)) (rh_upd (rh_one (by rfl) (by rfl) (by rfl)) (rh_upd (rh_one (by rfl) (by rfl) (by rfl)) (rh_upd (rh_one (by rfl) (by rfl) (by rfl)) (rh_no _)))))))⟩
                · rintro ⟨_, he1571⟩
                  replace he1571 := he1571.symm
                  subst he1571
                  try dsimp only at H1449
                  refine runR_seq ?_
                  refine runR_take tab_ok fol 1 ?_
                  obtain ⟨t425, b1475, H1476⟩ := bind_inv H1449
                  try simp -implicitDefEqProofs only [go_sem, Nat.reduceEqDiff, Nat.reduceAdd, reduceCtorEq, ↓reduceIte]
                  refine onCall_pure (by first | rfl | (simp -implicitDefEqProofs only [go_sem, Int.reduceToNat, Int.reduceLT, Int.reduceLE, Int.reduceBEq, Int.reduceBNe, Nat.reduceLT, Nat.reduceBEq, Int.reduceEq, Nat.reduceEqDiff, Nat.reduceAdd, Nat.reduceSub, Nat.reduceMul, Nat.reduceLeDiff, reduceCtorEq, ↓reduceIte, eGTuple, eGBatch, eStorStore, eRef1Store]; done) | (simp -implicitDefEqProofs only [go_sem, Int.reduceToNat, Int.reduceLT, Int.reduceLE, Int.reduceBEq, Int.reduceBNe, Nat.reduceLT, Nat.reduceBEq, Int.reduceEq, Nat.reduceEqDiff, Nat.reduceAdd, Nat.reduceSub, Nat.reduceMul, Nat.reduceLeDiff, reduceCtorEq, ↓reduceIte, eGTuple, eGBatch, eStorStore, eRef1Store]; rfl)) (ref1_Of_ok b1475) (by first | exact .inr rfl | exact .inl rfl) ?_
                  try simp -implicitDefEqProofs only [go_sem, Nat.reduceAdd, ↓reduceIte]
                  refine runR_seq ?_
                  refine runR_seq ?_
                  refine runR_take tab_ok fol 1 ?_
                  try simp -implicitDefEqProofs only [go_sem, Nat.reduceAdd]
                  obtain ⟨e_73, E1477, H1478⟩ := bind_inv H1476
                  refine runR_join (α := { y : Unit // e_73 = .inl y }) (fun | ⟨_, _⟩ => ⟨upd 0 (.pt 11 0) (upd 3 (.pt 24 0) (upd 5 (.d (.sl (List.map eGTuple [])) false) noFr)), upd 0 (some (.bx [.d (.sl (List.map eGTuple t1.add)) true, .d (.sl (List.map eGTuple t1.drop)) true, .d (.sl (List.map eGTuple t1.must)) true, .d (.sl (List.map eGTuple t1.not_)) true])) (upd 9 (some (.bx [.v (.int .i64 (if 1000000 < (if t02 < 0 then 0 else t02) then 1000000 else (if t02 < 0 then 0 else t02))), .so 10 g15 0 (o912.length)])) (upd 10 (some (.rw (List.map (eL eGTuple) o912) 1 g15 false false)) (upd 11 (some (.bx [.v (.int .i64 (if 1000000 < (if t02 < 0 then 0 else t02) then 1000000 else (if t02 < 0 then 0 else t02))), .so 12 0 0 1])) (upd 12 (some (.rw [[.sl []]] 1 0 false false)) (upd 24 (some (.bx [.d (.sl (List.map eGTuple t1.add)) true, .d (.sl (List.map eGTuple t1.drop)) true, .d (.sl (List.map eGTuple t1.must)) true, .d (.sl (List.map eGTuple t1.not_)) true])) noHp))))), 25⟩) ?_ ?_
                  · refine runR_block ?_
                    refine runR_loop (α := { q : Nat × Int // law4_StorPlays_L4 n t1 t02 g15 o912 t425 q.1 q.2 = some e_73 }) (fun | ⟨⟨c, t99⟩, _⟩ => ⟨upd 0 (.pt 11 0) (upd 3 (.pt 24 0) (upd 5 (.d (.sl (List.map eGTuple [])) false) (upd 8 (.d (.sl (List.map eGTuple t425)) false) (upd 9 (.v (.int .i64 t99)) noFr)))), upd 0 (some (.bx [.d (.sl (List.map eGTuple t1.add)) true, .d (.sl (List.map eGTuple t1.drop)) true, .d (.sl (List.map eGTuple t1.must)) true, .d (.sl (List.map eGTuple t1.not_)) true])) (upd 9 (some (.bx [.v (.int .i64 (if 1000000 < (if t02 < 0 then 0 else t02) then 1000000 else (if t02 < 0 then 0 else t02))), .so 10 g15 0 (o912.length)])) (upd 10 (some (.rw (List.map (eL eGTuple) o912) 1 g15 false false)) (upd 11 (some (.bx [.v (.int .i64 (if 1000000 < (if t02 < 0 then 0 else t02) then 1000000 else (if t02 < 0 then 0 else t02))), .so 12 0 0 1])) (upd 12 (some (.rw [[.sl []]] 1 0 false false)) (upd 24 (some (.bx [.d (.sl (List.map eGTuple t1.add)) true, .d (.sl (List.map eGTuple t1.drop)) true, .d (.sl (List.map eGTuple t1.must)) true, .d (.sl (List.map eGTuple t1.not_)) true])) noHp))))), 25⟩) (fun q => q.1.1) ⟨(n, 0), E1477⟩ ?_ ?_
                    · exact ren_mk [(24, 24)] (by rfl) (rf_upd (by rfl) (rf_upd (by rfl) (rf_upd (by rfl) (rf_upd (by rfl) (rf_upd (by rfl) (rf_no _)))))) (rh_upd (rh_one (by rfl) (by rfl) (by rfl)) (rh_upd (rh_one (by rfl) (by rfl) (by rfl)) (rh_upd (rh_one (by rfl) (by rfl) (by rfl)) (rh_upd (rh_one (by rfl) (by rfl) (by rfl)) (rh_upd (rh_one (by rfl) (by rfl) (by rfl)) (rh_upd (rh_one (by rfl) (by rfl) (by rfl)) (rh_no _)))))))
                    · rintro ⟨⟨c, t99⟩, L1479⟩
                      rcases c with _ | c
                      · exact nomatch (show none = some _ from L1479)
                      · unfold law4_StorPlays_L4 at L1479
                        try dsimp only at L1479
                        refine runR_take tab_ok fol 1 ?_
                        try simp -implicitDefEqProofs only [go_sem, Nat.reduceEqDiff, Nat.reduceAdd, reduceCtorEq, ↓reduceIte]
                        rcases ite_inv L1479 with ⟨c1492, H1493⟩ | ⟨c1492, H1493⟩
                        · obtain ⟨x50, b1494, H1495⟩ := bind_inv H1493
                          obtain ⟨h1496, h1497⟩ := idx_inv b1494
                          try simp only [Int.reduceToNat, Int.toNat_natCast] at h1497
                          have h1498 := map_at eGTuple h1497
                          obtain ⟨t568, b1500, H1501⟩ := bind_inv H1495
                          try simp -implicitDefEqProofs only [go_sem, Nat.reduceEqDiff, Nat.reduceAdd, reduceCtorEq, ↓reduceIte, eGTuple, c1492, nat_of .i64 h1496, h1498]
                          refine onCall_pure (by first | rfl | (simp -implicitDefEqProofs only [go_sem, Int.reduceToNat, Int.reduceLT, Int.reduceLE, Int.reduceBEq, Int.reduceBNe, Nat.reduceLT, Nat.reduceBEq, Int.reduceEq, Nat.reduceEqDiff, Nat.reduceAdd, Nat.reduceSub, Nat.reduceMul, Nat.reduceLeDiff, reduceCtorEq, ↓reduceIte, eGTuple, eGBatch, eStorStore, eRef1Store, c1492, nat_of .i64 h1496, h1498]; done) | (simp -implicitDefEqProofs only [go_sem, Int.reduceToNat, Int.reduceLT, Int.reduceLE, Int.reduceBEq, Int.reduceBNe, Nat.reduceLT, Nat.reduceBEq, Int.reduceEq, Nat.reduceEqDiff, Nat.reduceAdd, Nat.reduceSub, Nat.reduceMul, Nat.reduceLeDiff, reduceCtorEq, ↓reduceIte, eGTuple, eGBatch, eStorStore, eRef1Store, c1492, nat_of .i64 h1496, h1498]; rfl)) (ref1_Has_ok b1500) (by first | exact .inr rfl | exact .inl rfl) ?_
                          try simp -implicitDefEqProofs only [go_sem, ↓reduceIte]
                          rcases ite_inv H1501 with ⟨c1502, H1503⟩ | ⟨c1502, H1503⟩
                          · try simp -implicitDefEqProofs only [go_sem, Nat.reduceAdd, c1502]
                            obtain rfl := Option.some.inj H1503
                            obtain ⟨k1576, k1577⟩ := Prod.mk.inj (Option.some.inj H1478)
                            obtain ⟨k1577, k1578⟩ := Prod.mk.inj k1577
                            subst k1576
                            subst k1577
                            subst k1578
                            exact endJ_ret ⟨(6, 0, [[]]), rfl⟩ (ren_mk [] (by rfl) (rf_upd (by rfl) (rf_no _)) (rh_upd (rh_one (by rfl) (by rfl) (by rfl)) (rh_upd (rh_one (by rfl) (by rfl) (by rfl)) (rh_upd (rh_one (by rfl) (by rfl) (by rfl)) (rh_upd (rh_one (by rfl) (by rfl) (by rfl)) (rh_upd (rh_one (by rfl) (by rfl) (by rfl)) (rh_no _)))))))
                          · try simp -implicitDefEqProofs only [go_sem, Nat.reduceEqDiff, Nat.reduceAdd, reduceCtorEq, ↓reduceIte, c1502]
                            exact ⟨⟨(c, (IntKind.i64.wrap (t99 + 1))), H1503⟩, ren_mk [(24, 24)] (by rfl) (rf_upd (by rfl) (rf_upd (by rfl) (rf_upd (by rfl) (rf_upd (by rfl) (rf_upd (by rfl) (rf_no _)))))) (rh_upd (rh_one (by rfl) (by rfl) (by rfl)) (rh_upd (rh_one (by rfl) (by rfl) (by rfl)) (rh_upd (rh_one (by rfl) (by rfl) (by rfl)) (rh_upd (rh_one (by rfl) (by rfl) (by rfl)) (rh_upd (rh_one (by rfl) (by rfl) (by rfl)) (rh_upd (rh_one (by rfl) (by rfl) (by rfl)) (rh_no _))))))), Nat.lt_succ_self _⟩
                        · try simp -implicitDefEqProofs only [go_sem, ↓reduceIte, c1492]
                          obtain rfl := Option.some.inj H1493
                          exact ⟨⟨(), rfl⟩, ren_mk [(24, 24)] (by rfl) (rf_upd (by rfl) (rf_upd (by rfl) (rf_upd (by rfl) (rf_no _)))) (rh_upd (rh_one (by rfl) (by rfl) (by rfl)) (rh_upd (rh_one (by rfl) (by rfl) (by rfl)) (rh_upd (rh_one (by rfl) (by rfl) (by rfl)) (rh_upd (rh_one (by rfl) (by rfl) (by rfl)) (rh_upd (rh_one (by rfl) (by rfl) (by rfl)) (rh_upd (rh_one (by rfl) (by rfl) (by rfl)) (rh_no _)))))))⟩
                  · rintro ⟨_, he1570⟩
                    replace he1570 := he1570.symm
                    subst he1570
                    try dsimp only at H1478
                    refine runR_seq ?_
                    refine runR_seq ?_
                    refine runR_take tab_ok fol 1 ?_
                    try simp -implicitDefEqProofs only [go_sem, Nat.reduceAdd]
                    obtain ⟨e_74, E1504, H1505⟩ := bind_inv H1478
                    refine runR_join (α := { y : Unit // e_74 = .inl y }) (fun | ⟨_, _⟩ => ⟨upd 0 (.pt 11 0) (upd 3 (.pt 24 0) (upd 5 (.d (.sl (List.map eGTuple [])) false) noFr)), upd 0 (some (.bx [.d (.sl (List.map eGTuple t1.add)) true, .d (.sl (List.map eGTuple t1.drop)) true, .d (.sl (List.map eGTuple t1.must)) true, .d (.sl (List.map eGTuple t1.not_)) true])) (upd 9 (some (.bx [.v (.int .i64 (if 1000000 < (if t02 < 0 then 0 else t02) then 1000000 else (if t02 < 0 then 0 else t02))), .so 10 g15 0 (o912.length)])) (upd 10 (some (.rw (List.map (eL eGTuple) o912) 1 g15 false false)) (upd 11 (some (.bx [.v (.int .i64 (if 1000000 < (if t02 < 0 then 0 else t02) then 1000000 else (if t02 < 0 then 0 else t02))), .so 12 0 0 1])) (upd 12 (some (.rw [[.sl []]] 1 0 false false)) (upd 24 (some (.bx [.d (.sl (List.map eGTuple t1.add)) true, .d (.sl (List.map eGTuple t1.drop)) true, .d (.sl (List.map eGTuple t1.must)) true, .d (.sl (List.map eGTuple t1.not_)) true])) noHp))))), 25⟩) ?_ ?_
                    · refine runR_block ?_
                      refine runR_loop (α := { q : Nat × Int // law4_StorPlays_L5 n t1 t02 g15 o912 q.1 q.2 = some e_74 }) (fun | ⟨⟨c, t107⟩, _⟩ => ⟨upd 0 (.pt 11 0) (upd 3 (.pt 24 0) (upd 5 (.d (.sl (List.map eGTuple [])) false) (upd 10 (.v (.int .i64 t107)) noFr))), upd 0 (some (.bx [.d (.sl (List.map eGTuple t1.add)) true, .d (.sl (List.map eGTuple t1.drop)) true, .d (.sl (List.map eGTuple t1.must)) true, .d (.sl (List.map eGTuple t1.not_)) true])) (upd 9 (some (.bx [.v (.int .i64 (if 1000000 < (if t02 < 0 then 0 else t02) then 1000000 else (if t02 < 0 then 0 else t02))), .so 10 g15 0 (o912.length)])) (upd 10 (some (.rw (List.map (eL eGTuple) o912) 1 g15 false false)) (upd 11 (some (.bx [.v (.int .i64 (if 1000000 < (if t02 < 0 then 0 else t02) then 1000000 else (if t02 < 0 then 0 else t02))), .so 12 0 0 1])) (upd 12 (some (.rw [[.sl []]] 1 0 false false)) (upd 24 (some (.bx [.d (.sl (List.map eGTuple t1.add)) true, .d (.sl (List.map eGTuple t1.drop)) true, .d (.sl (List.map eGTuple t1.must)) true, .d (.sl (List.map eGTuple t1.not_)) true])) noHp))))), 25⟩) (fun q => q.1.1) ⟨(n, 0), E1504⟩ ?_ ?_
                      · exact ren_mk [(24, 24)] (by rfl) (rf_upd (by rfl) (rf_upd (by rfl) (rf_upd (by rfl) (rf_upd (by rfl) (rf_no _))))) (rh_upd (rh_one (by rfl) (by rfl) (by rfl)) (rh_upd (rh_one (by rfl) (by rfl) (by rfl)) (rh_upd (rh_one (by rfl) (by rfl) (by rfl)) (rh_upd (rh_one (by rfl) (by rfl) (by rfl)) (rh_upd (rh_one (by rfl) (by rfl) (by rfl)) (rh_upd (rh_one (by rfl) (by rfl) (by rfl)) (rh_no _)))))))
                      · rintro ⟨⟨c, t107⟩, L1506⟩
                        rcases c with _ | c
                        · exact nomatch (show none = some _ from L1506)
                        · unfold law4_StorPlays_L5 at L1506
                          try dsimp only at L1506
                          refine runR_take tab_ok fol 1 ?_
                          try simp -implicitDefEqProofs only [go_sem, Nat.reduceEqDiff, Nat.reduceAdd, reduceCtorEq, ↓reduceIte]
                          rcases ite_inv L1506 with ⟨c1519, H1520⟩ | ⟨c1519, H1520⟩
                          · obtain ⟨x52, b1521, H1522⟩ := bind_inv H1520
                            obtain ⟨h1523, h1524⟩ := idx_inv b1521
                            try simp only [Int.reduceToNat, Int.toNat_natCast] at h1524
                            have h1525 := map_at eGTuple h1524
                            obtain ⟨t7012, b1527, H1528⟩ := bind_inv H1522
                            try simp -implicitDefEqProofs only [go_sem, Nat.reduceEqDiff, Nat.reduceAdd, reduceCtorEq, ↓reduceIte, eGTuple, c1519, nat_of .i64 h1523, h1525]
                            refine onCall_pure (by first | rfl | (simp -implicitDefEqProofs only [go_sem, Int.reduceToNat, Int.reduceLT, Int.reduceLE, Int.reduceBEq, Int.reduceBNe, Nat.reduceLT, Nat.reduceBEq, Int.reduceEq, Nat.reduceEqDiff, Nat.reduceAdd, Nat.reduceSub, Nat.reduceMul, Nat.reduceLeDiff, reduceCtorEq, ↓reduceIte, eGTuple, eGBatch, eStorStore, eRef1Store, c1519, nat_of .i64 h1523, h1525]; done) | (simp -implicitDefEqProofs only [go_sem, Int.reduceToNat, Int.reduceLT, Int.reduceLE, Int.reduceBEq, Int.reduceBNe, Nat.reduceLT, Nat.reduceBEq, Int.reduceEq, Nat.reduceEqDiff, Nat.reduceAdd, Nat.reduceSub, Nat.reduceMul, Nat.reduceLeDiff, reduceCtorEq, ↓reduceIte, eGTuple, eGBatch, eStorStore, eRef1Store, c1519, nat_of .i64 h1523, h1525]; rfl)) (ref1_Has_ok b1527) (by first | exact .inr rfl | exact .inl rfl) ?_
                            try simp -implicitDefEqProofs only [go_sem, Nat.reduceAdd, ↓reduceIte]
                            rcases ite_inv H1528 with ⟨c1529, H1530⟩ | ⟨c1529, H1530⟩
                            · try simp -implicitDefEqProofs only [go_sem, Nat.reduceEqDiff, Nat.reduceAdd, reduceCtorEq, ↓reduceIte, c1529]
                              exact ⟨⟨(c, (IntKind.i64.wrap (t107 + 1))), H1530⟩, ren_mk [(24, 24)] (by rfl) (rf_upd (by rfl) (rf_upd (by rfl) (rf_upd (by rfl) (rf_upd (by rfl) (rf_no _))))) (rh_upd (rh_one (by rfl) (by rfl) (by rfl)) (rh_upd (rh_one (by rfl) (by rfl) (by rfl)) (rh_upd (rh_one (by rfl) (by rfl) (by rfl)) (rh_upd (rh_one (by rfl) (by rfl) (by rfl)) (rh_upd (rh_one (by rfl) (by rfl) (by rfl)) (rh_upd (rh_one (by rfl) (by rfl) (by rfl)) (rh_no _))))))), Nat.lt_succ_self _⟩
                            · try simp -implicitDefEqProofs only [go_sem, Nat.reduceAdd, c1529]
                              obtain rfl := Option.some.inj H1530
                              obtain ⟨k1579, k1580⟩ := Prod.mk.inj (Option.some.inj H1505)
                              obtain ⟨k1580, k1581⟩ := Prod.mk.inj k1580
                              subst k1579
                              subst k1580
                              subst k1581
                              exact endJ_ret ⟨(4, 0, [[]]), rfl⟩ (ren_mk [] (by rfl) (rf_upd (by rfl) (rf_no _)) (rh_upd (rh_one (by rfl) (by rfl) (by rfl)) (rh_upd (rh_one (by rfl) (by rfl) (by rfl)) (rh_upd (rh_one (by rfl) (by rfl) (by rfl)) (rh_upd (rh_one (by rfl) (by rfl) (by rfl)) (rh_upd (rh_one (by rfl) (by rfl) (by rfl)) (rh_no _)))))))
                          · try simp -implicitDefEqProofs only [go_sem, ↓reduceIte, c1519]
                            obtain rfl := Option.some.inj H1520
                            exact ⟨⟨(), rfl⟩, ren_mk [(24, 24)] (by rfl) (rf_upd (by rfl) (rf_upd (by rfl) (rf_upd (by rfl) (rf_no _)))) (rh_upd (rh_one (by rfl) (by rfl) (by rfl)) (rh_upd (rh_one (by rfl) (by rfl) (by rfl)) (rh_upd (rh_one (by rfl) (by rfl) (by rfl)) (rh_upd (rh_one (by rfl) (by rfl) (by rfl)) (rh_upd (rh_one (by rfl) (by rfl) (by rfl)) (rh_upd (rh_one (by rfl) (by rfl) (by rfl)) (rh_no _)))))))⟩
                    · rintro ⟨_, he1569⟩
                      replace he1569 := he1569.symm
                      subst he1569
                      try dsimp only at H1505
                      refine runR_seq ?_
                      refine runR_seq ?_
                      refine runR_take tab_ok fol 1 ?_
                      try simp -implicitDefEqProofs only [go_sem, Nat.reduceAdd]
                      obtain ⟨e_75, E1531, H1532⟩ := bind_inv H1505
                      refine runR_join (α := { y : Unit // e_75 = .inl y }) (fun | ⟨_, _⟩ => ⟨upd 0 (.pt 11 0) (upd 3 (.pt 24 0) (upd 5 (.d (.sl (List.map eGTuple [])) false) noFr)), upd 0 (some (.bx [.d (.sl (List.map eGTuple t1.add)) true, .d (.sl (List.map eGTuple t1.drop)) true, .d (.sl (List.map eGTuple t1.must)) true, .d (.sl (List.map eGTuple t1.not_)) true])) (upd 9 (some (.bx [.v (.int .i64 (if 1000000 < (if t02 < 0 then 0 else t02) then 1000000 else (if t02 < 0 then 0 else t02))), .so 10 g15 0 (o912.length)])) (upd 10 (some (.rw (List.map (eL eGTuple) o912) 1 g15 false false)) (upd 11 (some (.bx [.v (.int .i64 (if 1000000 < (if t02 < 0 then 0 else t02) then 1000000 else (if t02 < 0 then 0 else t02))), .so 12 0 0 1])) (upd 12 (some (.rw [[.sl []]] 1 0 false false)) (upd 24 (some (.bx [.d (.sl (List.map eGTuple t1.add)) true, .d (.sl (List.map eGTuple t1.drop)) true, .d (.sl (List.map eGTuple t1.must)) true, .d (.sl (List.map eGTuple t1.not_)) true])) noHp))))), 25⟩) ?_ ?_
                      · refine runR_block ?_
                        refine runR_loop (α := { q : Nat × Int // law4_StorPlays_L6 n t1 t02 g15 o912 q.1 q.2 = some e_75 }) (fun | ⟨⟨c, t117⟩, _⟩ => ⟨upd 0 (.pt 11 0) (upd 3 (.pt 24 0) (upd 5 (.d (.sl (List.map eGTuple [])) false) (upd 11 (.v (.int .i64 t117)) noFr))), upd 0 (some (.bx [.d (.sl (List.map eGTuple t1.add)) true, .d (.sl (List.map eGTuple t1.drop)) true, .d (.sl (List.map eGTuple t1.must)) true, .d (.sl (List.map eGTuple t1.not_)) true])) (upd 9 (some (.bx [.v (.int .i64 (if 1000000 < (if t02 < 0 then 0 else t02) then 1000000 else (if t02 < 0 then 0 else t02))), .so 10 g15 0 (o912.length)])) (upd 10 (some (.rw (List.map (eL eGTuple) o912) 1 g15 false false)) (upd 11 (some (.bx [.v (.int .i64 (if 1000000 < (if t02 < 0 then 0 else t02) then 1000000 else (if t02 < 0 then 0 else t02))), .so 12 0 0 1])) (upd 12 (some (.rw [[.sl []]] 1 0 false false)) (upd 24 (some (.bx [.d (.sl (List.map eGTuple t1.add)) true, .d (.sl (List.map eGTuple t1.drop)) true, .d (.sl (List.map eGTuple t1.must)) true, .d (.sl (List.map eGTuple t1.not_)) true])) noHp))))), 25⟩) (fun q => q.1.1) ⟨(n, 0), E1531⟩ ?_ ?_
                        · exact ren_mk [(24, 24)] (by rfl) (rf_upd (by rfl) (rf_upd (by rfl) (rf_upd (by rfl) (rf_upd (by rfl) (rf_no _))))) (rh_upd (rh_one (by rfl) (by rfl) (by rfl)) (rh_upd (rh_one (by rfl) (by rfl) (by rfl)) (rh_upd (rh_one (by rfl) (by rfl) (by rfl)) (rh_upd (rh_one (by rfl) (by rfl) (by rfl)) (rh_upd (rh_one (by rfl) (by rfl) (by rfl)) (rh_upd (rh_one (by rfl) (by rfl) (by rfl)) (rh_no _)))))))
                        · rintro ⟨⟨c, t117⟩, L1533⟩
                          rcases c with _ | c
                          · exact nomatch (show none = some _ from L1533)
                          · unfold law4_StorPlays_L6 at L1533
                            try dsimp only at L1533
                            refine runR_take tab_ok fol 1 ?_
                            try simp -implicitDefEqProofs only [go_sem, Nat.reduceEqDiff, Nat.reduceAdd, reduceCtorEq, ↓reduceIte]
                            rcases ite_inv L1533 with ⟨c1546, H1547⟩ | ⟨c1546, H1547⟩
                            · obtain ⟨x54, b1548, H1549⟩ := bind_inv H1547
                              obtain ⟨h1550, h1551⟩ := idx_inv b1548
                              try simp only [Int.reduceToNat, Int.toNat_natCast] at h1551
                              have h1552 := map_at eGTuple h1551
                              obtain ⟨t858, b1554, H1555⟩ := bind_inv H1549
                              try simp -implicitDefEqProofs only [go_sem, Nat.reduceEqDiff, Nat.reduceAdd, reduceCtorEq, ↓reduceIte, eGTuple, c1546, nat_of .i64 h1550, h1552]
                              refine onCall_pure (by first | rfl | (simp -implicitDefEqProofs only [go_sem, Int.reduceToNat, Int.reduceLT, Int.reduceLE, Int.reduceBEq, Int.reduceBNe, Nat.reduceLT, Nat.reduceBEq, Int.reduceEq, Nat.reduceEqDiff, Nat.reduceAdd, Nat.reduceSub, Nat.reduceMul, Nat.reduceLeDiff, reduceCtorEq, ↓reduceIte, eGTuple, eGBatch, eStorStore, eRef1Store, c1546, nat_of .i64 h1550, h1552]; done) | (simp -implicitDefEqProofs only [go_sem, Int.reduceToNat, Int.reduceLT, Int.reduceLE, Int.reduceBEq, Int.reduceBNe, Nat.reduceLT, Nat.reduceBEq, Int.reduceEq, Nat.reduceEqDiff, Nat.reduceAdd, Nat.reduceSub, Nat.reduceMul, Nat.reduceLeDiff, reduceCtorEq, ↓reduceIte, eGTuple, eGBatch, eStorStore, eRef1Store, c1546, nat_of .i64 h1550, h1552]; rfl)) (ref1_Has_ok b1554) (by first | exact .inr rfl | exact .inl rfl) ?_
                              try simp -implicitDefEqProofs only [go_sem, ↓reduceIte]
                              rcases ite_inv H1555 with ⟨c1556, H1557⟩ | ⟨c1556, H1557⟩
                              · try simp -implicitDefEqProofs only [go_sem, Nat.reduceAdd, c1556]
                                obtain rfl := Option.some.inj H1557
                                obtain ⟨k1582, k1583⟩ := Prod.mk.inj (Option.some.inj H1532)
                                obtain ⟨k1583, k1584⟩ := Prod.mk.inj k1583
                                subst k1582
                                subst k1583
                                subst k1584
                                exact endJ_ret ⟨(3, 0, [[]]), rfl⟩ (ren_mk [] (by rfl) (rf_upd (by rfl) (rf_no _)) (rh_upd (rh_one (by rfl) (by rfl) (by rfl)) (rh_upd (rh_one (by rfl) (by rfl) (by rfl)) (rh_upd (rh_one (by rfl) (by rfl) (by rfl)) (rh_upd (rh_one (by rfl) (by rfl) (by rfl)) (rh_upd (rh_one (by rfl) (by rfl) (by rfl)) (rh_no _)))))))
                              · try simp -implicitDefEqProofs only [go_sem, Nat.reduceEqDiff, Nat.reduceAdd, reduceCtorEq, ↓reduceIte, c1556]
                                exact ⟨⟨(c, (IntKind.i64.wrap (t117 + 1))), H1557⟩, ren_mk [(24, 24)] (by rfl) (rf_upd (by rfl) (rf_upd (by rfl) (rf_upd (by rfl) (rf_upd (by rfl) (rf_no _))))) (rh_upd (rh_one (by rfl) (by rfl) (by rfl)) (rh_upd (rh_one (by rfl) (by rfl) (by rfl)) (rh_upd (rh_one (by rfl) (by rfl) (by rfl)) (rh_upd (rh_one (by rfl) (by rfl) (by rfl)) (rh_upd (rh_one (by rfl) (by rfl) (by rfl)) (rh_upd (rh_one (by rfl) (by rfl) (by rfl)) (rh_no _))))))), Nat.lt_succ_self _⟩
                            · try simp -implicitDefEqProofs only [go_sem, ↓reduceIte, c1546]
                              obtain rfl := Option.some.inj H1547
                              exact ⟨⟨(), rfl⟩, ren_mk [(24, 24)] (by rfl) (rf_upd (by rfl) (rf_upd (by rfl) (rf_upd (by rfl) (rf_no _)))) (rh_upd (rh_one (by rfl) (by rfl) (by rfl)) (rh_upd (rh_one (by rfl) (by rfl) (by rfl)) (rh_upd (rh_one (by rfl) (by rfl) (by rfl)) (rh_upd (rh_one (by rfl) (by rfl) (by rfl)) (rh_upd (rh_one (by rfl) (by rfl) (by rfl)) (rh_upd (rh_one (by rfl) (by rfl) (by rfl)) (rh_no _)))))))⟩
                      · rintro ⟨_, he1568⟩
                        replace he1568 := he1568.symm
                        subst he1568
                        try dsimp only at H1532
                        refine runR_take tab_ok fol 1 ?_
                        obtain ⟨t894, b1558, H1559⟩ := bind_inv H1532
                        try simp -implicitDefEqProofs only [go_sem, Nat.reduceEqDiff, Nat.reduceAdd, reduceCtorEq, ↓reduceIte]
                        refine onCallD_pure (by first | rfl | (simp -implicitDefEqProofs only [go_sem, Int.reduceToNat, Int.reduceLT, Int.reduceLE, Int.reduceBEq, Int.reduceBNe, Nat.reduceLT, Nat.reduceBEq, Int.reduceEq, Nat.reduceEqDiff, Nat.reduceAdd, Nat.reduceSub, Nat.reduceMul, Nat.reduceLeDiff, reduceCtorEq, ↓reduceIte, eGTuple, eGBatch, eStorStore, eRef1Store]; done) | (simp -implicitDefEqProofs only [go_sem, Int.reduceToNat, Int.reduceLT, Int.reduceLE, Int.reduceBEq, Int.reduceBNe, Nat.reduceLT, Nat.reduceBEq, Int.reduceEq, Nat.reduceEqDiff, Nat.reduceAdd, Nat.reduceSub, Nat.reduceMul, Nat.reduceLeDiff, reduceCtorEq, ↓reduceIte, eGTuple, eGBatch, eStorStore, eRef1Store]; rfl)) (ref1_Minus_ok b1558) (by first | exact .inr rfl | exact .inl rfl) ?_
                        obtain ⟨t925, b1560, H1561⟩ := bind_inv H1559
                        try simp -implicitDefEqProofs only [go_sem, Nat.reduceEqDiff, Nat.reduceAdd, reduceCtorEq, ↓reduceIte]
                        refine onCallD_pure (by first | rfl | (simp -implicitDefEqProofs only [go_sem, Int.reduceToNat, Int.reduceLT, Int.reduceLE, Int.reduceBEq, Int.reduceBNe, Nat.reduceLT, Nat.reduceBEq, Int.reduceEq, Nat.reduceEqDiff, Nat.reduceAdd, Nat.reduceSub, Nat.reduceMul, Nat.reduceLeDiff, reduceCtorEq, ↓reduceIte, eGTuple, eGBatch, eStorStore, eRef1Store]; done) | (simp -implicitDefEqProofs only [go_sem, Int.reduceToNat, Int.reduceLT, Int.reduceLE, Int.reduceBEq, Int.reduceBNe, Nat.reduceLT, Nat.reduceBEq, Int.reduceEq, Nat.reduceEqDiff, Nat.reduceAdd, Nat.reduceSub, Nat.reduceMul, Nat.reduceLeDiff, reduceCtorEq, ↓reduceIte, eGTuple, eGBatch, eStorStore, eRef1Store]; rfl)) (ref1_Plus_ok b1560) (by first | exact .inr rfl | exact .inl rfl) ?_
                        try simp -implicitDefEqProofs only [go_sem, Nat.reduceAdd, ↓reduceIte]
                        refine Rd_endF (by rfl) ?_
                        try simp -implicitDefEqProofs only [go_sem, Nat.reduceEqDiff, Nat.reduceAdd, reduceCtorEq, ↓reduceIte]
                        rcases ite_inv H1561 with ⟨c1562, H1563⟩ | ⟨c1562, H1563⟩
                        · try simp -implicitDefEqProofs only [go_sem, Nat.reduceAdd, c1562]
                          obtain ⟨k1585, k1586⟩ := Prod.mk.inj (Option.some.inj H1563)
                          obtain ⟨k1586, k1587⟩ := Prod.mk.inj k1586
                          subst k1585
                          subst k1586
                          subst k1587
                          exact endJ_ret ⟨(5, 0, [[]]), rfl⟩ (ren_mk [] (by rfl) (rf_upd (by rfl) (rf_no _)) (rh_upd (rh_one (by rfl) (by rfl) (by rfl)) (rh_upd (rh_one (by rfl) (by rfl) (by rfl)) (rh_upd (rh_one (by rfl) (by rfl) (by rfl)) (rh_upd (rh_one (by rfl) (by rfl) (by rfl)) (rh_upd (rh_one (by rfl) (by rfl) (by rfl)) (rh_no _)))))))
                        · obtain ⟨t1025, b1564, H1565⟩ := bind_inv H1563
                          try simp -implicitDefEqProofs only [go_sem, Nat.reduceEqDiff, Nat.reduceAdd, reduceCtorEq, ↓reduceIte, c1562]
                          refine onCall_pure (by first | rfl | (simp -implicitDefEqProofs only [go_sem, Int.reduceToNat, Int.reduceLT, Int.reduceLE, Int.reduceBEq, Int.reduceBNe, Nat.reduceLT, Nat.reduceBEq, Int.reduceEq, Nat.reduceEqDiff, Nat.reduceAdd, Nat.reduceSub, Nat.reduceMul, Nat.reduceLeDiff, reduceCtorEq, ↓reduceIte, eGTuple, eGBatch, eStorStore, eRef1Store, c1562]; done) | (simp -implicitDefEqProofs only [go_sem, Int.reduceToNat, Int.reduceLT, Int.reduceLE, Int.reduceBEq, Int.reduceBNe, Nat.reduceLT, Nat.reduceBEq, Int.reduceEq, Nat.reduceEqDiff, Nat.reduceAdd, Nat.reduceSub, Nat.reduceMul, Nat.reduceLeDiff, reduceCtorEq, ↓reduceIte, eGTuple, eGBatch, eStorStore, eRef1Store, c1562]; rfl)) (ref1_Same_ok b1564) (by first | exact .inr rfl | exact .inl rfl) ?_
                          try simp -implicitDefEqProofs only [go_sem, Nat.reduceAdd, ↓reduceIte]
                          rcases ite_inv H1565 with ⟨c1566, H1567⟩ | ⟨c1566, H1567⟩
                          · try simp -implicitDefEqProofs only [go_sem, Nat.reduceAdd, c1566]
                            obtain ⟨k1588, k1589⟩ := Prod.mk.inj (Option.some.inj H1567)
                            obtain ⟨k1589, k1590⟩ := Prod.mk.inj k1589
                            subst k1588
                            subst k1589
                            subst k1590
                            exact endJ_ret ⟨(0, 0, [[]]), rfl⟩ (ren_mk [] (by rfl) (rf_upd (by rfl) (rf_no _)) (rh_upd (rh_one (by rfl) (by rfl) (by rfl)) (rh_upd (rh_one (by rfl) (by rfl) (by rfl)) (rh_upd (rh_one (by rfl) (by rfl) (by rfl)) (rh_upd (rh_one (by rfl) (by rfl) (by rfl)) (rh_upd (rh_one (by rfl) (by rfl) (by rfl)) (rh_no _)))))))
                          · try simp -implicitDefEqProofs only [go_sem, Nat.reduceLT, Nat.reduceEqDiff, Nat.reduceAdd, Nat.reduceLeDiff, reduceCtorEq, ↓reduceIte, c1566]
                            obtain ⟨k1591, k1592⟩ := Prod.mk.inj (Option.some.inj H1567)
                            obtain ⟨k1592, k1593⟩ := Prod.mk.inj k1592
                            subst k1591
                            subst k1592
                            subst k1593
                            exact endJ_ret ⟨(0, 1, [[], t925]), rfl⟩ (ren_mk [] (by rfl) (rf_upd (by rfl) (rf_no _)) (rh_upd (rh_one (by rfl) (by rfl) (by rfl)) (rh_upd (rh_one (by rfl) (by rfl) (by rfl)) (rh_upd (rh_one (by rfl) (by rfl) (by rfl)) (rh_upd (rh_one (by rfl) (by rfl) (by rfl)) (rh_upd (rh_one (by rfl) (by rfl) (by rfl)) (rh_no _)))))))
              · rintro v1594 hp1595 nx1596 ⟨⟨w1598, he1597⟩, rfl, rfl, rfl⟩
                subst he1597
                refine ⟨rfl, ?_, rfl⟩
                funext j
                by_cases j0 : j = 0
                · subst j0; rfl
                by_cases j9 : j = 9
                · subst j9; rfl
                by_cases j10 : j = 10
                · subst j10; rfl
                by_cases j11 : j = 11
                · subst j11; rfl
                by_cases j12 : j = 12
                · subst j12; rfl
                first | rfl | simp only [upds, upd_ne _ _ j0, upd_ne _ _ j9, upd_ne _ _ j10, upd_ne _ _ j11, upd_ne _ _ j12]
              try dsimp only at H1414
              try simp -implicitDefEqProofs only [go_sem, Nat.reduceEqDiff, Nat.reduceAdd, ↓reduceIte]
              refine Rd_endF (by rfl) ?_
              try simp -implicitDefEqProofs only [go_sem]
              obtain rfl := Option.some.inj H1414
              exact ⟨⟨(g15, o912, g16, o1112, (t419 != t420)), rfl⟩, ren_mk [(0, 0), (1, 9), (2, 10), (3, 11), (4, 12)] (by rfl) (rf_upd (by rfl) (rf_upd (by rfl) (rf_upd (by rfl) (rf_upd (by rfl) (rf_upd (by rfl) (rf_upd (by rfl) (rf_upd (by rfl) (rf_upd (by rfl) (rf_no _))))))))) (rh_upd (rh_one (by rfl) (by rfl) (by rfl)) (rh_upd (rh_one (by rfl) (by rfl) (by rfl)) (rh_upd (rh_one (by rfl) (by rfl) (by rfl)) (rh_upd (rh_one (by rfl) (by rfl) (by rfl)) (rh_upd (rh_one (by rfl) (by rfl) (by rfl)) (rh_no _))))))⟩
            · rintro ⟨⟨g17, t1017, g18, t1115, t542⟩, he2501⟩
              replace he2501 := he2501.symm
              subst he2501
              try dsimp only at H1269
              refine runR_take tab_ok fol 1 ?_
              try simp -implicitDefEqProofs only [go_sem, Nat.reduceEqDiff, reduceCtorEq, ↓reduceIte]
              rcases ite_inv H1269 with ⟨c1599, H1600⟩ | ⟨c1599, H1600⟩
              · try simp -implicitDefEqProofs only [go_sem, Nat.reduceAdd, c1599]
                obtain rfl := Option.some.inj H1600
                obtain rfl := Option.some.inj H6
                exact end_pure (by first | (simp -implicitDefEqProofs only [go_sem, ↓reduceIte, Try.f8] <;> rfl) | rfl) (by first | rfl | (simp -implicitDefEqProofs only [go_sem, Int.reduceToNat, Int.reduceLT, Int.reduceLE, Int.reduceBEq, Int.reduceBNe, Nat.reduceLT, Nat.reduceBEq, Int.reduceEq, Nat.reduceEqDiff, Nat.reduceAdd, Nat.reduceSub, Nat.reduceMul, Nat.reduceLeDiff, reduceCtorEq, ↓reduceIte, eGTuple, eGBatch, eStorStore, eRef1Store, c1599]; done) | (simp -implicitDefEqProofs only [go_sem, Int.reduceToNat, Int.reduceLT, Int.reduceLE, Int.reduceBEq, Int.reduceBNe, Nat.reduceLT, Nat.reduceBEq, Int.reduceEq, Nat.reduceEqDiff, Nat.reduceAdd, Nat.reduceSub, Nat.reduceMul, Nat.reduceLeDiff, reduceCtorEq, ↓reduceIte, eGTuple, eGBatch, eStorStore, eRef1Store, c1599]; rfl)) rfl (by intro h; first | rfl | cases h)
              · try simp -implicitDefEqProofs only [go_sem, c1599]
                refine runR_seq ?_
                refine runR_seq ?_
                refine runR_take tab_ok fol 1 ?_
                try simp -implicitDefEqProofs only [go_sem, Nat.reduceAdd]
                obtain ⟨e_76, E1601, H1602⟩ := bind_inv H1600
                refine runR_join (α := { y : Nat × List (List GTuple) × Nat × List (List GTuple) // e_76 = .inl y }) (fun | ⟨⟨g27, t10112, g28, t1119⟩, _⟩ => ⟨upd 0 (.v (.int .i64 t02)) (upd 2 (.d (.sl (List.map (eL eI) t2)) true) (upd 3 (.v (.int .i64 t3)) (upd 5 (.pt 0 0) (upd 9 (.v (.int .i64 t97)) (upd 10 (.pt 1 0) (upd 11 (.pt 3 0) noFr)))))), upd 0 (some (.bx [.d (.sl (List.map eGTuple t1.add)) true, .d (.sl (List.map eGTuple t1.drop)) true, .d (.sl (List.map eGTuple t1.must)) true, .d (.sl (List.map eGTuple t1.not_)) true])) (upd 1 (some (.bx [.v (.int .i64 (if 1000000 < (if t02 < 0 then 0 else t02) then 1000000 else (if t02 < 0 then 0 else t02))), .so 2 g27 0 (t10112.length)])) (upd 2 (some (.rw (List.map (eL eGTuple) t10112) 1 g27 false false)) (upd 3 (some (.bx [.v (.int .i64 (if 1000000 < (if t02 < 0 then 0 else t02) then 1000000 else (if t02 < 0 then 0 else t02))), .so 4 g28 0 (t1119.length)])) (upd 4 (some (.rw (List.map (eL eGTuple) t1119) 1 g28 false false)) noHp)))), 5⟩) ?_ ?_
                · refine runR_block ?_
                  refine runR_loop (α := { q : Nat × (Nat × List (List GTuple) × Nat × List (List GTuple) × Int) // law4_StorPlays_L7 n t1 t2 t02 q.1 q.2 = some e_76 }) (fun | ⟨⟨c, ⟨g21, t1019, g22, t1116, t128⟩⟩, _⟩ => ⟨upd 0 (.v (.int .i64 t02)) (upd 2 (.d (.sl (List.map (eL eI) t2)) true) (upd 3 (.v (.int .i64 t3)) (upd 5 (.pt 0 0) (upd 9 (.v (.int .i64 t97)) (upd 10 (.pt 1 0) (upd 11 (.pt 3 0) (upd 12 (.v (.int .i64 t128)) noFr))))))), upd 0 (some (.bx [.d (.sl (List.map eGTuple t1.add)) true, .d (.sl (List.map eGTuple t1.drop)) true, .d (.sl (List.map eGTuple t1.must)) true, .d (.sl (List.map eGTuple t1.not_)) true])) (upd 1 (some (.bx [.v (.int .i64 (if 1000000 < (if t02 < 0 then 0 else t02) then 1000000 else (if t02 < 0 then 0 else t02))), .so 2 g21 0 (t1019.length)])) (upd 2 (some (.rw (List.map (eL eGTuple) t1019) 1 g21 false false)) (upd 3 (some (.bx [.v (.int .i64 (if 1000000 < (if t02 < 0 then 0 else t02) then 1000000 else (if t02 < 0 then 0 else t02))), .so 4 g22 0 (t1116.length)])) (upd 4 (some (.rw (List.map (eL eGTuple) t1116) 1 g22 false false)) noHp)))), 5⟩) (fun q => q.1.1) ⟨(n, (g17, t1017, g18, t1115, 0)), E1601⟩ ?_ ?_
                  · exact ren_mk [(0, 0), (1, 1), (2, 2), (3, 3), (4, 4)] (by rfl) (rf_upd (by rfl) (rf_upd (by rfl) (rf_upd (by rfl) (rf_upd (by rfl) (rf_upd (by rfl) (rf_upd (by rfl) (rf_upd (by rfl) (rf_upd (by rfl) (rf_no _))))))))) (rh_upd (rh_one (by rfl) (by rfl) (by rfl)) (rh_upd (rh_one (by rfl) (by rfl) (by rfl)) (rh_upd (rh_one (by rfl) (by rfl) (by rfl)) (rh_upd (rh_one (by rfl) (by rfl) (by rfl)) (rh_upd (rh_one (by rfl) (by rfl) (by rfl)) (rh_no _))))))
                  · rintro ⟨⟨c, ⟨g21, t1019, g22, t1116, t128⟩⟩, L1603⟩
                    rcases c with _ | c
                    · exact nomatch (show none = some _ from L1603)
                    · unfold law4_StorPlays_L7 at L1603
                      try dsimp only at L1603
                      refine runR_seq ?_
                      refine runR_seq ?_
                      obtain ⟨e_94, E2022, H2023⟩ := bind_inv L1603
                      refine runR_join (α := { y : Bool // e_94 = y }) (fun | ⟨t625, _⟩ => ⟨upd 0 (.v (.int .i64 t02)) (upd 2 (.d (.sl (List.map (eL eI) t2)) true) (upd 3 (.v (.int .i64 t3)) (upd 5 (.pt 0 0) (upd 9 (.v (.int .i64 t97)) (upd 10 (.pt 1 0) (upd 11 (.pt 3 0) (upd 12 (.v (.int .i64 t128)) (upd 62 (.v (.bool t625)) noFr)))))))), upd 0 (some (.bx [.d (.sl (List.map eGTuple t1.add)) true, .d (.sl (List.map eGTuple t1.drop)) true, .d (.sl (List.map eGTuple t1.must)) true, .d (.sl (List.map eGTuple t1.not_)) true])) (upd 1 (some (.bx [.v (.int .i64 (if 1000000 < (if t02 < 0 then 0 else t02) then 1000000 else (if t02 < 0 then 0 else t02))), .so 2 g21 0 (t1019.length)])) (upd 2 (some (.rw (List.map (eL eGTuple) t1019) 1 g21 false false)) (upd 3 (some (.bx [.v (.int .i64 (if 1000000 < (if t02 < 0 then 0 else t02) then 1000000 else (if t02 < 0 then 0 else t02))), .so 4 g22 0 (t1116.length)])) (upd 4 (some (.rw (List.map (eL eGTuple) t1116) 1 g22 false false)) noHp)))), 5⟩) ?_ ?_
                      · refine runR_take tab_ok fol 1 ?_
                        try simp -implicitDefEqProofs only [go_sem, Nat.reduceEqDiff, Nat.reduceAdd, reduceCtorEq, ↓reduceIte]
                        rcases ite_inv E2022 with ⟨c2024, H2025⟩ | ⟨c2024, H2025⟩
                        · try simp -implicitDefEqProofs only [go_sem, Nat.reduceEqDiff, Nat.reduceAdd, reduceCtorEq, ↓reduceIte, c2024]
                          obtain rfl := Option.some.inj H2025
                          exact ⟨⟨(decide (t128 < 30)), rfl⟩, ren_mk [(0, 0), (1, 1), (2, 2), (3, 3), (4, 4)] (by rfl) (rf_upd (by rfl) (rf_upd (by rfl) (rf_upd (by rfl) (rf_upd (by rfl) (rf_upd (by rfl) (rf_upd (by rfl) (rf_upd (by rfl) (rf_upd (by rfl) (rf_upd (by rfl) (rf_no _)))))))))) (rh_upd (rh_one (by rfl) (by rfl) (by rfl)) (rh_upd (rh_one (by rfl) (by rfl) (by rfl)) (rh_upd (rh_one (by rfl) (by rfl) (by rfl)) (rh_upd (rh_one (by rfl) (by rfl) (by rfl)) (rh_upd (rh_one (by rfl) (by rfl) (by rfl)) (rh_no _))))))⟩
                        · try simp -implicitDefEqProofs only [go_sem, Nat.reduceEqDiff, Nat.reduceAdd, ↓reduceIte, c2024]
                          obtain rfl := Option.some.inj H2025
                          exact ⟨⟨false, rfl⟩, ren_mk [(0, 0), (1, 1), (2, 2), (3, 3), (4, 4)] (by rfl) (rf_upd (by rfl) (rf_upd (by rfl) (rf_upd (by rfl) (rf_upd (by rfl) (rf_upd (by rfl) (rf_upd (by rfl) (rf_upd (by rfl) (rf_upd (by rfl) (rf_upd (by rfl) (rf_no _)))))))))) (rh_upd (rh_one (by rfl) (by rfl) (by rfl)) (rh_upd (rh_one (by rfl) (by rfl) (by rfl)) (rh_upd (rh_one (by rfl) (by rfl) (by rfl)) (rh_upd (rh_one (by rfl) (by rfl) (by rfl)) (rh_upd (rh_one (by rfl) (by rfl) (by rfl)) (rh_no _))))))⟩
                      · rintro ⟨t625, he2439⟩
                        replace he2439 := he2439.symm
                        subst he2439
                        try dsimp only at H2023
                        refine runR_take tab_ok fol 2 ?_
                        try simp -implicitDefEqProofs only [go_sem, Nat.reduceEqDiff, reduceCtorEq, ↓reduceIte]
                        rcases ite_inv H2023 with ⟨c2026, H2027⟩ | ⟨c2026, H2027⟩
                        · obtain ⟨x70, b2028, H2029⟩ := bind_inv H2027
                          obtain ⟨h2030, h2031⟩ := idx_inv b2028
                          try simp only [Int.reduceToNat, Int.toNat_natCast] at h2031
                          have h2032 := map_at (eL eI) h2031
                          obtain ⟨t694, b2034, H2035⟩ := bind_inv H2029
                          try simp -implicitDefEqProofs only [go_sem, Nat.reduceEqDiff, Nat.reduceAdd, reduceCtorEq, ↓reduceIte, c2026, nat_of .i64 h2030, h2032]
                          refine onCall_pure (by first | rfl | (simp -implicitDefEqProofs only [go_sem, Int.reduceToNat, Int.reduceLT, Int.reduceLE, Int.reduceBEq, Int.reduceBNe, Nat.reduceLT, Nat.reduceBEq, Int.reduceEq, Nat.reduceEqDiff, Nat.reduceAdd, Nat.reduceSub, Nat.reduceMul, Nat.reduceLeDiff, reduceCtorEq, ↓reduceIte, eGTuple, eGBatch, eStorStore, eRef1Store, c2026, nat_of .i64 h2030, h2032]; done) | (simp -implicitDefEqProofs only [go_sem, Int.reduceToNat, Int.reduceLT, Int.reduceLE, Int.reduceBEq, Int.reduceBNe, Nat.reduceLT, Nat.reduceBEq, Int.reduceEq, Nat.reduceEqDiff, Nat.reduceAdd, Nat.reduceSub, Nat.reduceMul, Nat.reduceLeDiff, reduceCtorEq, ↓reduceIte, eGTuple, eGBatch, eStorStore, eRef1Store, c2026, nat_of .i64 h2030, h2032]; rfl)) (law4_Batch_ok b2034) (by first | exact .inr rfl | exact .inl rfl) ?_
                          try simp -implicitDefEqProofs only [go_sem, Nat.reduceEqDiff, Nat.reduceAdd, reduceCtorEq, ↓reduceIte, eGBatch]
                          obtain ⟨e_95, E2036, H2037⟩ := bind_inv H2035
                          obtain ⟨t432, g23, o114⟩ := e_95
                          refine onCallD_one (v := .v (.int .i64 t432)) (δ := [(1, (.bx [.v (.int .i64 (if 1000000 < (if t02 < 0 then 0 else t02) then 1000000 else (if t02 < 0 then 0 else t02))), .so 2 g23 0 (o114.length)])), (2, (.rw (List.map (eL eGTuple) o114) 1 g23 false false))]) (nx' := 46) (InlOK.mono (inl_runRJ (α := { y : Int × Nat × List (List GTuple) // (t432, g23, o114) = y }) tab_ok Try.func32 rfl (by kernel_rfl) (by kernel_rfl) (by simp [Try.f32]) (fun | ⟨⟨t432, g23, o114⟩, _⟩ => ⟨upd 4 (.v (.int .i64 t432)) noFr, upd 0 (some (.bx [.d (.sl (List.map eGTuple t1.add)) true, .d (.sl (List.map eGTuple t1.drop)) true, .d (.sl (List.map eGTuple t1.must)) true, .d (.sl (List.map eGTuple t1.not_)) true])) (upd 1 (some (.bx [.v (.int .i64 (if 1000000 < (if t02 < 0 then 0 else t02) then 1000000 else (if t02 < 0 then 0 else t02))), .so 2 g23 0 (o114.length)])) (upd 2 (some (.rw (List.map (eL eGTuple) o114) 1 g23 false false)) (upd 3 (some (.bx [.v (.int .i64 (if 1000000 < (if t02 < 0 then 0 else t02) then 1000000 else (if t02 < 0 then 0 else t02))), .so 4 g22 0 (t1116.length)])) (upd 4 (some (.rw (List.map (eL eGTuple) t1116) 1 g22 false false)) (upd 10 (some (.bx [.d (.sl (List.map eGTuple t694.add)) false, .d (.sl (List.map eGTuple t694.drop)) false, .d (.sl (List.map eGTuple t694.must)) false, .d (.sl (List.map eGTuple t694.not_)) false])) noHp))))), 46⟩) (fun | ⟨⟨t432, g23, o114⟩, _⟩ => .v (.int .i64 t432)) (by rintro ⟨⟨t432, g23, o114⟩, he2160⟩; first | ((simp -implicitDefEqProofs only [go_sem, ↓reduceIte, Try.f32]) <;> rfl) | rfl) ?_) ?_) ?_
                          · unfold law4_StorPlays_C10_stor_Store_Write at E2036
                            try dsimp only at E2036
                            refine runR_seq ?_
                            refine runR_take tab_ok fol 1 ?_
                            try simp -implicitDefEqProofs only [go_sem, Nat.reduceAdd]
                            refine runR_seq ?_
                            refine runR_seq ?_
                            obtain ⟨e_96, E2038, H2039⟩ := bind_inv E2036
                            refine runR_join (α := { y : Bool // e_96 = y }) (fun | ⟨t276, _⟩ => ⟨upd 0 (.pt 1 0) (upd 3 (.pt 46 0) (upd 27 (.v (.bool t276)) noFr)), upd 0 (some (.bx [.d (.sl (List.map eGTuple t1.add)) true, .d (.sl (List.map eGTuple t1.drop)) true, .d (.sl (List.map eGTuple t1.must)) true, .d (.sl (List.map eGTuple t1.not_)) true])) (upd 1 (some (.bx [.v (.int .i64 (if 1000000 < (if t02 < 0 then 0 else t02) then 1000000 else (if t02 < 0 then 0 else t02))), .so 2 g21 0 (t1019.length)])) (upd 2 (some (.rw (List.map (eL eGTuple) t1019) 1 g21 false false)) (upd 3 (some (.bx [.v (.int .i64 (if 1000000 < (if t02 < 0 then 0 else t02) then 1000000 else (if t02 < 0 then 0 else t02))), .so 4 g22 0 (t1116.length)])) (upd 4 (some (.rw (List.map (eL eGTuple) t1116) 1 g22 false false)) (upd 10 (some (.bx [.d (.sl (List.map eGTuple t694.add)) false, .d (.sl (List.map eGTuple t694.drop)) false, .d (.sl (List.map eGTuple t694.must)) false, .d (.sl (List.map eGTuple t694.not_)) false])) (upd 46 (some (.bx [.d (.sl (List.map eGTuple t694.add)) false, .d (.sl (List.map eGTuple t694.drop)) false, .d (.sl (List.map eGTuple t694.must)) false, .d (.sl (List.map eGTuple t694.not_)) false])) noHp)))))), 47⟩) ?_ ?_
                            · refine runR_take tab_ok fol 1 ?_
                              obtain ⟨t129, b2040, H2041⟩ := bind_inv E2038
                              try simp -implicitDefEqProofs only [go_sem, Nat.reduceEqDiff, Nat.reduceAdd, reduceCtorEq, ↓reduceIte]
                              refine onCall_pure (by first | rfl | (simp -implicitDefEqProofs only [go_sem, Int.reduceToNat, Int.reduceLT, Int.reduceLE, Int.reduceBEq, Int.reduceBNe, Nat.reduceLT, Nat.reduceBEq, Int.reduceEq, Nat.reduceEqDiff, Nat.reduceAdd, Nat.reduceSub, Nat.reduceMul, Nat.reduceLeDiff, reduceCtorEq, ↓reduceIte, eGTuple, eGBatch, eStorStore, eRef1Store]; done) | (simp -implicitDefEqProofs only [go_sem, Int.reduceToNat, Int.reduceLT, Int.reduceLE, Int.reduceBEq, Int.reduceBNe, Nat.reduceLT, Nat.reduceBEq, Int.reduceEq, Nat.reduceEqDiff, Nat.reduceAdd, Nat.reduceSub, Nat.reduceMul, Nat.reduceLeDiff, reduceCtorEq, ↓reduceIte, eGTuple, eGBatch, eStorStore, eRef1Store]; rfl)) (stor_wrong_ok b2040) (by first | exact .inr rfl | exact .inl rfl) ?_
                              try simp -implicitDefEqProofs only [go_sem, Nat.reduceAdd, ↓reduceIte]
                              rcases ite_inv H2041 with ⟨c2042, H2043⟩ | ⟨c2042, H2043⟩
                              · try simp -implicitDefEqProofs only [go_sem, Nat.reduceEqDiff, Nat.reduceAdd, ↓reduceIte, c2042]
                                obtain rfl := Option.some.inj H2043
                                exact ⟨⟨true, rfl⟩, ren_mk [(46, 46)] (by rfl) (rf_upd (by rfl) (rf_upd (by rfl) (rf_upd (by rfl) (rf_no _)))) (rh_upd (rh_one (by rfl) (by rfl) (by rfl)) (rh_upd (rh_one (by rfl) (by rfl) (by rfl)) (rh_upd (rh_one (by rfl) (by rfl) (by rfl)) (rh_upd (rh_one (by rfl) (by rfl) (by rfl)) (rh_upd (rh_one (by rfl) (by rfl) (by rfl)) (rh_upd (rh_one (by rfl) (by rfl) (by rfl)) (rh_upd (rh_one (by rfl) (by rfl) (by rfl)) (rh_no _))))))))⟩
                              · obtain ⟨t166, b2044, H2045⟩ := bind_inv H2043
                                try simp -implicitDefEqProofs only [go_sem, Nat.reduceEqDiff, Nat.reduceAdd, reduceCtorEq, ↓reduceIte, c2042]
                                refine onCall_pure (by first | rfl | (simp -implicitDefEqProofs only [go_sem, Int.reduceToNat, Int.reduceLT, Int.reduceLE, Int.reduceBEq, Int.reduceBNe, Nat.reduceLT, Nat.reduceBEq, Int.reduceEq, Nat.reduceEqDiff, Nat.reduceAdd, Nat.reduceSub, Nat.reduceMul, Nat.reduceLeDiff, reduceCtorEq, ↓reduceIte, eGTuple, eGBatch, eStorStore, eRef1Store, c2042]; done) | (simp -implicitDefEqProofs only [go_sem, Int.reduceToNat, Int.reduceLT, Int.reduceLE, Int.reduceBEq, Int.reduceBNe, Nat.reduceLT, Nat.reduceBEq, Int.reduceEq, Nat.reduceEqDiff, Nat.reduceAdd, Nat.reduceSub, Nat.reduceMul, Nat.reduceLeDiff, reduceCtorEq, ↓reduceIte, eGTuple, eGBatch, eStorStore, eRef1Store, c2042]; rfl)) (stor_wrong_ok b2044) (by first | exact .inr rfl | exact .inl rfl) ?_
                                try simp -implicitDefEqProofs only [go_sem, Nat.reduceEqDiff, Nat.reduceAdd, ↓reduceIte]
                                rcases ite_inv H2045 with ⟨c2046, H2047⟩ | ⟨c2046, H2047⟩
                                · try simp -implicitDefEqProofs only [go_sem, Nat.reduceEqDiff, Nat.reduceAdd, ↓reduceIte, c2046]
                                  obtain rfl := Option.some.inj H2047
                                  exact ⟨⟨true, rfl⟩, ren_mk [(46, 46)] (by rfl) (rf_upd (by rfl) (rf_upd (by rfl) (rf_upd (by rfl) (rf_no _)))) (rh_upd (rh_one (by rfl) (by rfl) (by rfl)) (rh_upd (rh_one (by rfl) (by rfl) (by rfl)) (rh_upd (rh_one (by rfl) (by rfl) (by rfl)) (rh_upd (rh_one (by rfl) (by rfl) (by rfl)) (rh_upd (rh_one (by rfl) (by rfl) (by rfl)) (rh_upd (rh_one (by rfl) (by rfl) (by rfl)) (rh_upd (rh_one (by rfl) (by rfl) (by rfl)) (rh_no _))))))))⟩
                                · obtain ⟨t2110, b2048, H2049⟩ := bind_inv H2047
                                  try simp -implicitDefEqProofs only [go_sem, Nat.reduceEqDiff, Nat.reduceAdd, reduceCtorEq, ↓reduceIte, c2046]
                                  refine onCall_pure (by first | rfl | (simp -implicitDefEqProofs only [go_sem, Int.reduceToNat, Int.reduceLT, Int.reduceLE, Int.reduceBEq, Int.reduceBNe, Nat.reduceLT, Nat.reduceBEq, Int.reduceEq, Nat.reduceEqDiff, Nat.reduceAdd, Nat.reduceSub, Nat.reduceMul, Nat.reduceLeDiff, reduceCtorEq, ↓reduceIte, eGTuple, eGBatch, eStorStore, eRef1Store, c2042, c2046]; done) | (simp -implicitDefEqProofs only [go_sem, Int.reduceToNat, Int.reduceLT, Int.reduceLE, Int.reduceBEq, Int.reduceBNe, Nat.reduceLT, Nat.reduceBEq, Int.reduceEq, Nat.reduceEqDiff, Nat.reduceAdd, Nat.reduceSub, Nat.reduceMul, Nat.reduceLeDiff, reduceCtorEq, ↓reduceIte, eGTuple, eGBatch, eStorStore, eRef1Store, c2042, c2046]; rfl)) (stor_wrong_ok b2048) (by first | exact .inr rfl | exact .inl rfl) ?_
                                  try simp -implicitDefEqProofs only [go_sem, Nat.reduceEqDiff, Nat.reduceAdd, ↓reduceIte]
                                  rcases ite_inv H2049 with ⟨c2050, H2051⟩ | ⟨c2050, H2051⟩
                                  · try simp -implicitDefEqProofs only [go_sem, Nat.reduceEqDiff, Nat.reduceAdd, ↓reduceIte, c2050]
                                    obtain rfl := Option.some.inj H2051
                                    exact ⟨⟨true, rfl⟩, ren_mk [(46, 46)] (by rfl) (rf_upd (by rfl) (rf_upd (by rfl) (rf_upd (by rfl) (rf_no _)))) (rh_upd (rh_one (by rfl) (by rfl) (by rfl)) (rh_upd (rh_one (by rfl) (by rfl) (by rfl)) (rh_upd (rh_one (by rfl) (by rfl) (by rfl)) (rh_upd (rh_one (by rfl) (by rfl) (by rfl)) (rh_upd (rh_one (by rfl) (by rfl) (by rfl)) (rh_upd (rh_one (by rfl) (by rfl) (by rfl)) (rh_upd (rh_one (by rfl) (by rfl) (by rfl)) (rh_no _))))))))⟩
                                  · obtain ⟨t266, b2052, H2053⟩ := bind_inv H2051
                                    try simp -implicitDefEqProofs only [go_sem, Nat.reduceEqDiff, Nat.reduceAdd, reduceCtorEq, ↓reduceIte, c2050]
                                    refine onCall_pure (by first | rfl | (simp -implicitDefEqProofs only [go_sem, Int.reduceToNat, Int.reduceLT, Int.reduceLE, Int.reduceBEq, Int.reduceBNe, Nat.reduceLT, Nat.reduceBEq, Int.reduceEq, Nat.reduceEqDiff, Nat.reduceAdd, Nat.reduceSub, Nat.reduceMul, Nat.reduceLeDiff, reduceCtorEq, ↓reduceIte, eGTuple, eGBatch, eStorStore, eRef1Store, c2042, c2046, c2050]; done) | (simp -implicitDefEqProofs only [go_sem, Int.reduceToNat, Int.reduceLT, Int.reduceLE, Int.reduceBEq, Int.reduceBNe, Nat.reduceLT, Nat.reduceBEq, Int.reduceEq, Nat.reduceEqDiff, Nat.reduceAdd, Nat.reduceSub, Nat.reduceMul, Nat.reduceLeDiff, reduceCtorEq, ↓reduceIte, eGTuple, eGBatch, eStorStore, eRef1Store, c2042, c2046, c2050]; rfl)) (stor_wrong_ok b2052) (by first | exact .inr rfl | exact .inl rfl) ?_
                                    try simp -implicitDefEqProofs only [go_sem, Nat.reduceEqDiff, Nat.reduceAdd, ↓reduceIte]
                                    obtain rfl := Option.some.inj H2053
                                    exact ⟨⟨t266, rfl⟩, ren_mk [(46, 46)] (by rfl) (rf_upd (by rfl) (rf_upd (by rfl) (rf_upd (by rfl) (rf_no _)))) (rh_upd (rh_one (by rfl) (by rfl) (by rfl)) (rh_upd (rh_one (by rfl) (by rfl) (by rfl)) (rh_upd (rh_one (by rfl) (by rfl) (by rfl)) (rh_upd (rh_one (by rfl) (by rfl) (by rfl)) (rh_upd (rh_one (by rfl) (by rfl) (by rfl)) (rh_upd (rh_one (by rfl) (by rfl) (by rfl)) (rh_upd (rh_one (by rfl) (by rfl) (by rfl)) (rh_no _))))))))⟩
                            · rintro ⟨t276, he2159⟩
                              replace he2159 := he2159.symm
                              subst he2159
                              try dsimp only at H2039
                              refine runR_take tab_ok fol 2 ?_
                              try simp -implicitDefEqProofs only [go_sem, Nat.reduceEqDiff, reduceCtorEq, ↓reduceIte]
                              rcases ite_inv H2039 with ⟨c2054, H2055⟩ | ⟨c2054, H2055⟩
                              · try simp -implicitDefEqProofs only [go_sem, Nat.reduceAdd, c2054]
                                obtain ⟨k2161, k2162⟩ := Prod.mk.inj (Option.some.inj H2055)
                                obtain ⟨k2162, k2163⟩ := Prod.mk.inj k2162
                                subst k2161
                                subst k2162
                                subst k2163
                                exact endJ_ret ⟨(2, g21, t1019), rfl⟩ (ren_mk [] (by rfl) (rf_upd (by rfl) (rf_no _)) (rh_upd (rh_one (by rfl) (by rfl) (by rfl)) (rh_upd (rh_one (by rfl) (by rfl) (by rfl)) (rh_upd (rh_one (by rfl) (by rfl) (by rfl)) (rh_upd (rh_one (by rfl) (by rfl) (by rfl)) (rh_upd (rh_one (by rfl) (by rfl) (by rfl)) (rh_upd (rh_one (by rfl) (by rfl) (by rfl)) (rh_no _))))))))
                              · obtain ⟨t306, b2056, H2057⟩ := bind_inv H2055
                                try simp -implicitDefEqProofs only [go_sem, Nat.reduceEqDiff, Nat.reduceAdd, reduceCtorEq, ↓reduceIte, c2054]
                                refine onCallD_pure (by first | rfl | (simp -implicitDefEqProofs only [go_sem, Int.reduceToNat, Int.reduceLT, Int.reduceLE, Int.reduceBEq, Int.reduceBNe, Nat.reduceLT, Nat.reduceBEq, Int.reduceEq, Nat.reduceEqDiff, Nat.reduceAdd, Nat.reduceSub, Nat.reduceMul, Nat.reduceLeDiff, reduceCtorEq, ↓reduceIte, eGTuple, eGBatch, eStorStore, eRef1Store, c2054]; done) | (simp -implicitDefEqProofs only [go_sem, Int.reduceToNat, Int.reduceLT, Int.reduceLE, Int.reduceBEq, Int.reduceBNe, Nat.reduceLT, Nat.reduceBEq, Int.reduceEq, Nat.reduceEqDiff, Nat.reduceAdd, Nat.reduceSub, Nat.reduceMul, Nat.reduceLeDiff, reduceCtorEq, ↓reduceIte, eGTuple, eGBatch, eStorStore, eRef1Store, c2054]; rfl)) (rows_Of_ok b2056) (by first | exact .inr rfl | exact .inl rfl) ?_
                                obtain ⟨t336, b2058, H2059⟩ := bind_inv H2057
                                try simp -implicitDefEqProofs only [go_sem, Nat.reduceEqDiff, Nat.reduceAdd, reduceCtorEq, ↓reduceIte]
                                refine onCallD_pure (by first | rfl | (simp -implicitDefEqProofs only [go_sem, Int.reduceToNat, Int.reduceLT, Int.reduceLE, Int.reduceBEq, Int.reduceBNe, Nat.reduceLT, Nat.reduceBEq, Int.reduceEq, Nat.reduceEqDiff, Nat.reduceAdd, Nat.reduceSub, Nat.reduceMul, Nat.reduceLeDiff, reduceCtorEq, ↓reduceIte, eGTuple, eGBatch, eStorStore, eRef1Store, c2054]; done) | (simp -implicitDefEqProofs only [go_sem, Int.reduceToNat, Int.reduceLT, Int.reduceLE, Int.reduceBEq, Int.reduceBNe, Nat.reduceLT, Nat.reduceBEq, Int.reduceEq, Nat.reduceEqDiff, Nat.reduceAdd, Nat.reduceSub, Nat.reduceMul, Nat.reduceLeDiff, reduceCtorEq, ↓reduceIte, eGTuple, eGBatch, eStorStore, eRef1Store, c2054]; rfl)) (rows_Of_ok b2058) (by first | exact .inr rfl | exact .inl rfl) ?_
                                try simp -implicitDefEqProofs only [go_sem, Nat.reduceAdd, reduceCtorEq, ↓reduceIte]
                                obtain ⟨t222, E2060, H2061⟩ := bind_inv H2059
                                refine onCallD_det (ids' := [1, 2]) (v := .d (.sl (List.map eGTuple t222)) false) (δ := []) (nx' := 69) (fun hp1 h1 => ?_) ?_
                                · have e2076 : hp1 1 = some (.bx [.v (.int .i64 (if 1000000 < (if t02 < 0 then 0 else t02) then 1000000 else (if t02 < 0 then 0 else t02))), .so 2 g21 0 (t1019.length)]) := (h1.1 1 (by simp)).trans (by first | rfl | (simp -implicitDefEqProofs only [go_sem, Int.reduceToNat, Int.reduceLT, Int.reduceLE, Int.reduceBEq, Int.reduceBNe, Nat.reduceLT, Nat.reduceBEq, Int.reduceEq, Nat.reduceEqDiff, Nat.reduceAdd, Nat.reduceSub, Nat.reduceMul, Nat.reduceLeDiff, reduceCtorEq, ↓reduceIte, eGTuple, eGBatch, eStorStore, eRef1Store]; done) | (simp -implicitDefEqProofs only [go_sem, Int.reduceToNat, Int.reduceLT, Int.reduceLE, Int.reduceBEq, Int.reduceBNe, Nat.reduceLT, Nat.reduceBEq, Int.reduceEq, Nat.reduceEqDiff, Nat.reduceAdd, Nat.reduceSub, Nat.reduceMul, Nat.reduceLeDiff, reduceCtorEq, ↓reduceIte, eGTuple, eGBatch, eStorStore, eRef1Store]; rfl))
                                  have e2077 : hp1 2 = some (.rw (List.map (eL eGTuple) t1019) 1 g21 false false) := (h1.1 2 (by simp)).trans (by first | rfl | (simp -implicitDefEqProofs only [go_sem, Int.reduceToNat, Int.reduceLT, Int.reduceLE, Int.reduceBEq, Int.reduceBNe, Nat.reduceLT, Nat.reduceBEq, Int.reduceEq, Nat.reduceEqDiff, Nat.reduceAdd, Nat.reduceSub, Nat.reduceMul, Nat.reduceLeDiff, reduceCtorEq, ↓reduceIte, eGTuple, eGBatch, eStorStore, eRef1Store]; done) | (simp -implicitDefEqProofs only [go_sem, Int.reduceToNat, Int.reduceLT, Int.reduceLE, Int.reduceBEq, Int.reduceBNe, Nat.reduceLT, Nat.reduceBEq, Int.reduceEq, Nat.reduceEqDiff, Nat.reduceAdd, Nat.reduceSub, Nat.reduceMul, Nat.reduceLeDiff, reduceCtorEq, ↓reduceIte, eGTuple, eGBatch, eStorStore, eRef1Store]; rfl))
                                  have e2078 : upd 1 (some (.bx [.v (.int .i64 (if 1000000 < (if t02 < 0 then 0 else t02) then 1000000 else (if t02 < 0 then 0 else t02))), .so 2 g21 0 (t1019.length)])) (upd 2 (some (.rw (List.map (eL eGTuple) t1019) 1 g21 false false)) (hp1)) = hp1 := by rw [upd_self e2077, upd_self e2076]
                                  rw [← e2078]
                                  refine inl_runR tab_ok Try.func64 rfl (by kernel_rfl) (by kernel_rfl) (by simp [Try.f64]) ?_
                                  unfold law4_StorPlays_C11_stor_Store_now at E2060
                                  try dsimp only at E2060
                                  refine runR_take tab_ok fol 1 ?_
                                  obtain ⟨t818, b2062, H2063⟩ := bind_inv E2060
                                  try simp -implicitDefEqProofs only [go_sem, Nat.reduceAdd, reduceCtorEq, ↓reduceIte]
                                  refine onCallD_pureA [1, 2] (by intro hp1 h1; have h2064 := h1 1 (by simp); have h2065 := h1 2 (by simp); (try simp -implicitDefEqProofs only [go_sem, ↓reduceIte] at h2064); (try simp -implicitDefEqProofs only [go_sem, Nat.reduceEqDiff, ↓reduceIte] at h2065); first | (simp -implicitDefEqProofs only [go_sem, ↓reduceIte, eStorStore, h2064, h2065]; done) | (simp -implicitDefEqProofs only [go_sem, ↓reduceIte, eStorStore, h2064, h2065]; rfl)) (PureA.of_pure (stor_Store_Rev_ok b2062)) (by first | exact .inr rfl | exact .inl rfl) ?_
                                  obtain ⟨x71, b2066, H2067⟩ := bind_inv H2063
                                  obtain ⟨h2068, h2069⟩ := idx_inv b2066
                                  try simp only [Int.reduceToNat, Int.toNat_natCast] at h2069
                                  have h2070 := map_at (eL eGTuple) h2069
                                  have h2071 := at_lt h2069
                                  try simp -implicitDefEqProofs only [go_sem, Nat.reduceEqDiff, Nat.reduceAdd, ↓reduceIte, nat_of .i64 h2068, h2070, h2071]
                                  refine Rd_endF (by rfl) ?_
                                  try simp -implicitDefEqProofs only [go_sem]
                                  obtain rfl := Option.some.inj H2067
                                  exact end_ret (by first | ((simp -implicitDefEqProofs only [go_sem, ↓reduceIte, Try.f64]) <;> rfl) | rfl) ⟨rfl, rfl, rfl⟩
                                try dsimp only at H2061
                                try simp -implicitDefEqProofs only [go_sem, Nat.reduceEqDiff, Nat.reduceAdd, ↓reduceIte]
                                refine Rd_endF (by rfl) ?_
                                obtain ⟨t396, b2079, H2080⟩ := bind_inv H2061
                                try simp -implicitDefEqProofs only [go_sem, Nat.reduceEqDiff, Nat.reduceAdd, ↓reduceIte]
                                refine onCall_pure (by first | rfl | (simp -implicitDefEqProofs only [go_sem, Int.reduceToNat, Int.reduceLT, Int.reduceLE, Int.reduceBEq, Int.reduceBNe, Nat.reduceLT, Nat.reduceBEq, Int.reduceEq, Nat.reduceEqDiff, Nat.reduceAdd, Nat.reduceSub, Nat.reduceMul, Nat.reduceLeDiff, reduceCtorEq, ↓reduceIte, eGTuple, eGBatch, eStorStore, eRef1Store]; done) | (simp -implicitDefEqProofs only [go_sem, Int.reduceToNat, Int.reduceLT, Int.reduceLE, Int.reduceBEq, Int.reduceBNe, Nat.reduceLT, Nat.reduceBEq, Int.reduceEq, Nat.reduceEqDiff, Nat.reduceAdd, Nat.reduceSub, Nat.reduceMul, Nat.reduceLeDiff, reduceCtorEq, ↓reduceIte, eGTuple, eGBatch, eStorStore, eRef1Store]; rfl)) (rows_Minus_ok b2079) (by first | exact .inr rfl | exact .inl rfl) ?_
                                obtain ⟨t4111, b2081, H2082⟩ := bind_inv H2080
                                try simp -implicitDefEqProofs only [go_sem, Nat.reduceEqDiff, Nat.reduceAdd, ↓reduceIte]
                                refine onCall_pure (by first | rfl | (simp -implicitDefEqProofs only [go_sem, Int.reduceToNat, Int.reduceLT, Int.reduceLE, Int.reduceBEq, Int.reduceBNe, Nat.reduceLT, Nat.reduceBEq, Int.reduceEq, Nat.reduceEqDiff, Nat.reduceAdd, Nat.reduceSub, Nat.reduceMul, Nat.reduceLeDiff, reduceCtorEq, ↓reduceIte, eGTuple, eGBatch, eStorStore, eRef1Store]; done) | (simp -implicitDefEqProofs only [go_sem, Int.reduceToNat, Int.reduceLT, Int.reduceLE, Int.reduceBEq, Int.reduceBNe, Nat.reduceLT, Nat.reduceBEq, Int.reduceEq, Nat.reduceEqDiff, Nat.reduceAdd, Nat.reduceSub, Nat.reduceMul, Nat.reduceLeDiff, reduceCtorEq, ↓reduceIte, eGTuple, eGBatch, eStorStore, eRef1Store]; rfl)) (rows_Plus_ok b2081) (by first | exact .inr rfl | exact .inl rfl) ?_
                                obtain ⟨t456, b2083, H2084⟩ := bind_inv H2082
                                try simp -implicitDefEqProofs only [go_sem, Nat.reduceEqDiff, Nat.reduceAdd, ↓reduceIte]
                                refine onCall_pure (by first | rfl | (simp -implicitDefEqProofs only [go_sem, Int.reduceToNat, Int.reduceLT, Int.reduceLE, Int.reduceBEq, Int.reduceBNe, Nat.reduceLT, Nat.reduceBEq, Int.reduceEq, Nat.reduceEqDiff, Nat.reduceAdd, Nat.reduceSub, Nat.reduceMul, Nat.reduceLeDiff, reduceCtorEq, ↓reduceIte, eGTuple, eGBatch, eStorStore, eRef1Store]; done) | (simp -implicitDefEqProofs only [go_sem, Int.reduceToNat, Int.reduceLT, Int.reduceLE, Int.reduceBEq, Int.reduceBNe, Nat.reduceLT, Nat.reduceBEq, Int.reduceEq, Nat.reduceEqDiff, Nat.reduceAdd, Nat.reduceSub, Nat.reduceMul, Nat.reduceLeDiff, reduceCtorEq, ↓reduceIte, eGTuple, eGBatch, eStorStore, eRef1Store]; rfl)) (rows_Minus_ok b2083) (by first | exact .inr rfl | exact .inl rfl) ?_
                                try simp -implicitDefEqProofs only [go_sem, Nat.reduceEqDiff, Nat.reduceAdd, ↓reduceIte]
                                rcases ite_inv H2084 with ⟨c2085, H2086⟩ | ⟨c2085, H2086⟩
                                · try simp -implicitDefEqProofs only [go_sem, Nat.reduceAdd, c2085]
                                  obtain ⟨k2164, k2165⟩ := Prod.mk.inj (Option.some.inj H2086)
                                  obtain ⟨k2165, k2166⟩ := Prod.mk.inj k2165
                                  subst k2164
                                  subst k2165
                                  subst k2166
                                  exact endJ_ret ⟨(6, g21, t1019), rfl⟩ (ren_mk [] (by rfl) (rf_upd (by rfl) (rf_no _)) (rh_upd (rh_one (by rfl) (by rfl) (by rfl)) (rh_upd (rh_one (by rfl) (by rfl) (by rfl)) (rh_upd (rh_one (by rfl) (by rfl) (by rfl)) (rh_upd (rh_one (by rfl) (by rfl) (by rfl)) (rh_upd (rh_one (by rfl) (by rfl) (by rfl)) (rh_upd (rh_one (by rfl) (by rfl) (by rfl)) (rh_no _))))))))
                                · try simp -implicitDefEqProofs only [go_sem, Nat.reduceEqDiff, Nat.reduceAdd, reduceCtorEq, ↓reduceIte, c2085]
                                  obtain ⟨e_98, E2087, H2088⟩ := bind_inv H2086
                                  refine onCall_inl (InlOK.mono (inl_runRJ (α := { y : Bool // e_98 = y }) tab_ok Try.func67 rfl (by kernel_rfl) (by kernel_rfl) (by simp [Try.f67]) (fun | ⟨t431, _⟩ => ⟨upd 4 (.v (.bool t431)) noFr, upd 0 (some (.bx [.d (.sl (List.map eGTuple t1.add)) true, .d (.sl (List.map eGTuple t1.drop)) true, .d (.sl (List.map eGTuple t1.must)) true, .d (.sl (List.map eGTuple t1.not_)) true])) (upd 1 (some (.bx [.v (.int .i64 (if 1000000 < (if t02 < 0 then 0 else t02) then 1000000 else (if t02 < 0 then 0 else t02))), .so 2 g21 0 (t1019.length)])) (upd 2 (some (.rw (List.map (eL eGTuple) t1019) 1 g21 false false)) (upd 3 (some (.bx [.v (.int .i64 (if 1000000 < (if t02 < 0 then 0 else t02) then 1000000 else (if t02 < 0 then 0 else t02))), .so 4 g22 0 (t1116.length)])) (upd 4 (some (.rw (List.map (eL eGTuple) t1116) 1 g22 false false)) (upd 10 (some (.bx [.d (.sl (List.map eGTuple t694.add)) false, .d (.sl (List.map eGTuple t694.drop)) false, .d (.sl (List.map eGTuple t694.must)) false, .d (.sl (List.map eGTuple t694.not_)) false])) (upd 46 (some (.bx [.d (.sl (List.map eGTuple t694.add)) false, .d (.sl (List.map eGTuple t694.drop)) false, .d (.sl (List.map eGTuple t694.must)) false, .d (.sl (List.map eGTuple t694.not_)) false])) (upd 55 (some (.bx [.d (.sl (List.map eGTuple t222)) false])) (upd 70 (some (.bx [.fn 66 [.pt 55 0]])) noHp)))))))), 91⟩) (fun | ⟨t431, _⟩ => .v (.bool t431)) (by rintro ⟨t431, he2135⟩; first | ((simp -implicitDefEqProofs only [go_sem, ↓reduceIte, Try.f67]) <;> rfl) | rfl) ?_) ?_)
                                  · unfold law4_StorPlays_C12_slices_ContainsFunc_Tuple at E2087
                                    try dsimp only at E2087
                                    refine runR_take tab_ok fol 1 ?_
                                    try simp -implicitDefEqProofs only [go_sem, Nat.reduceEqDiff, Nat.reduceAdd, reduceCtorEq, ↓reduceIte]
                                    obtain ⟨e_99, E2089, H2090⟩ := bind_inv E2087
                                    refine onCall_inl (InlOK.mono (inl_runRJ (α := { y : Int // e_99 = y }) tab_ok Try.func81 rfl (by kernel_rfl) (by kernel_rfl) (by simp [Try.f81]) (fun | ⟨t430, _⟩ => ⟨upd 4 (.v (.int .i64 t430)) noFr, upd 0 (some (.bx [.d (.sl (List.map eGTuple t1.add)) true, .d (.sl (List.map eGTuple t1.drop)) true, .d (.sl (List.map eGTuple t1.must)) true, .d (.sl (List.map eGTuple t1.not_)) true])) (upd 1 (some (.bx [.v (.int .i64 (if 1000000 < (if t02 < 0 then 0 else t02) then 1000000 else (if t02 < 0 then 0 else t02))), .so 2 g21 0 (t1019.length)])) (upd 2 (some (.rw (List.map (eL eGTuple) t1019) 1 g21 false false)) (upd 3 (some (.bx [.v (.int .i64 (if 1000000 < (if t02 < 0 then 0 else t02) then 1000000 else (if t02 < 0 then 0 else t02))), .so 4 g22 0 (t1116.length)])) (upd 4 (some (.rw (List.map (eL eGTuple) t1116) 1 g22 false false)) (upd 10 (some (.bx [.d (.sl (List.map eGTuple t694.add)) false, .d (.sl (List.map eGTuple t694.drop)) false, .d (.sl (List.map eGTuple t694.must)) false, .d (.sl (List.map eGTuple t694.not_)) false])) (upd 46 (some (.bx [.d (.sl (List.map eGTuple t694.add)) false, .d (.sl (List.map eGTuple t694.drop)) false, .d (.sl (List.map eGTuple t694.must)) false, .d (.sl (List.map eGTuple t694.not_)) false])) (upd 55 (some (.bx [.d (.sl (List.map eGTuple t222)) false])) (upd 70 (some (.bx [.fn 66 [.pt 55 0]])) noHp)))))))), 97⟩) (fun | ⟨t430, _⟩ => .v (.int .i64 t430)) (by rintro ⟨t430, he2131⟩; first | ((simp -implicitDefEqProofs only [go_sem, ↓reduceIte, Try.f81]) <;> rfl) | rfl) ?_) ?_)
                                    · unfold law4_StorPlays_C13_slices_IndexFunc_Tuple at E2089
                                      try dsimp only at E2089
                                      refine runR_seq ?_
                                      refine runR_take tab_ok fol 1 ?_
                                      try simp -implicitDefEqProofs only [go_sem, Nat.reduceAdd]
                                      refine runR_seq ?_
                                      refine runR_seq ?_
                                      refine runR_take tab_ok fol 1 ?_
                                      try simp -implicitDefEqProofs only [go_sem, Nat.reduceAdd, reduceCtorEq, ↓reduceIte]
                                      obtain ⟨e_100, E2091, H2092⟩ := bind_inv E2089
                                      refine runR_join (α := { y : Unit // e_100 = .inl y }) (fun | ⟨_, _⟩ => ⟨noFr, upd 0 (some (.bx [.d (.sl (List.map eGTuple t1.add)) true, .d (.sl (List.map eGTuple t1.drop)) true, .d (.sl (List.map eGTuple t1.must)) true, .d (.sl (List.map eGTuple t1.not_)) true])) (upd 1 (some (.bx [.v (.int .i64 (if 1000000 < (if t02 < 0 then 0 else t02) then 1000000 else (if t02 < 0 then 0 else t02))), .so 2 g21 0 (t1019.length)])) (upd 2 (some (.rw (List.map (eL eGTuple) t1019) 1 g21 false false)) (upd 3 (some (.bx [.v (.int .i64 (if 1000000 < (if t02 < 0 then 0 else t02) then 1000000 else (if t02 < 0 then 0 else t02))), .so 4 g22 0 (t1116.length)])) (upd 4 (some (.rw (List.map (eL eGTuple) t1116) 1 g22 false false)) (upd 10 (some (.bx [.d (.sl (List.map eGTuple t694.add)) false, .d (.sl (List.map eGTuple t694.drop)) false, .d (.sl (List.map eGTuple t694.must)) false, .d (.sl (List.map eGTuple t694.not_)) false])) (upd 46 (some (.bx [.d (.sl (List.map eGTuple t694.add)) false, .d (.sl (List.map eGTuple t694.drop)) false, .d (.sl (List.map eGTuple t694.must)) false, .d (.sl (List.map eGTuple t694.not_)) false])) (upd 55 (some (.bx [.d (.sl (List.map eGTuple t222)) false])) (upd 70 (some (.bx [.fn 66 [.pt 55 0]])) noHp)))))))), 97⟩) ?_ ?_
                                      · refine runR_block ?_
                                        refine runR_loop (α := { q : Nat × Int // law4_StorPlays_L8 n t1 t02 g21 t1019 g22 t1116 t694 t222 q.1 q.2 = some e_100 }) (fun | ⟨⟨c, t819⟩, _⟩ => ⟨upd 0 (.d (.sl (List.map eGTuple t694.must)) false) (upd 1 (.fn 68 [.pt 70 0]) (upd 7 (.v (.int .i64 (t694.must.length : Int))) (upd 8 (.v (.int .i64 t819)) noFr))), upd 0 (some (.bx [.d (.sl (List.map eGTuple t1.add)) true, .d (.sl (List.map eGTuple t1.drop)) true, .d (.sl (List.map eGTuple t1.must)) true, .d (.sl (List.map eGTuple t1.not_)) true])) (upd 1 (some (.bx [.v (.int .i64 (if 1000000 < (if t02 < 0 then 0 else t02) then 1000000 else (if t02 < 0 then 0 else t02))), .so 2 g21 0 (t1019.length)])) (upd 2 (some (.rw (List.map (eL eGTuple) t1019) 1 g21 false false)) (upd 3 (some (.bx [.v (.int .i64 (if 1000000 < (if t02 < 0 then 0 else t02) then 1000000 else (if t02 < 0 then 0 else t02))), .so 4 g22 0 (t1116.length)])) (upd 4 (some (.rw (List.map (eL eGTuple) t1116) 1 g22 false false)) (upd 10 (some (.bx [.d (.sl (List.map eGTuple t694.add)) false, .d (.sl (List.map eGTuple t694.drop)) false, .d (.sl (List.map eGTuple t694.must)) false, .d (.sl (List.map eGTuple t694.not_)) false])) (upd 46 (some (.bx [.d (.sl (List.map eGTuple t694.add)) false, .d (.sl (List.map eGTuple t694.drop)) false, .d (.sl (List.map eGTuple t694.must)) false, .d (.sl (List.map eGTuple t694.not_)) false])) (upd 55 (some (.bx [.d (.sl (List.map eGTuple t222)) false])) (upd 70 (some (.bx [.fn 66 [.pt 55 0]])) noHp)))))))), 97⟩) (fun q => q.1.1) ⟨(n, 0), E2091⟩ ?_ ?_
                                        · exact ren_mk [] (by rfl) (rf_upd (by rfl) (rf_upd (by rfl) (rf_upd (by rfl) (rf_upd (by rfl) (rf_no _))))) (rh_upd (rh_one (by rfl) (by rfl) (by rfl)) (rh_upd (rh_one (by rfl) (by rfl) (by rfl)) (rh_upd (rh_one (by rfl) (by rfl) (by rfl)) (rh_upd (rh_one (by rfl) (by rfl) (by rfl)) (rh_upd (rh_one (by rfl) (by rfl) (by rfl)) (rh_upd (rh_one (by rfl) (by rfl) (by rfl)) (rh_upd (rh_one (by rfl) (by rfl) (by rfl)) (rh_upd (rh_one (by rfl) (by rfl) (by rfl)) (rh_upd (rh_one (by rfl) (by rfl) (by rfl)) (rh_no _))))))))))
                                        · rintro ⟨⟨c, t819⟩, L2093⟩
                                          rcases c with _ | c
                                          · exact nomatch (show none = some _ from L2093)
                                          · unfold law4_StorPlays_L8 at L2093
                                            try dsimp only at L2093
                                            refine runR_take tab_ok fol 1 ?_
                                            try simp -implicitDefEqProofs only [go_sem, Nat.reduceEqDiff, Nat.reduceAdd, reduceCtorEq, ↓reduceIte]
                                            rcases ite_inv L2093 with ⟨c2112, H2113⟩ | ⟨c2112, H2113⟩
                                            · obtain ⟨x73, b2114, H2115⟩ := bind_inv H2113
                                              obtain ⟨h2116, h2117⟩ := idx_inv b2114
                                              try simp only [Int.reduceToNat, Int.toNat_natCast] at h2117
                                              have h2118 := map_at eGTuple h2117
                                              try simp -implicitDefEqProofs only [go_sem, Nat.reduceEqDiff, Nat.reduceAdd, reduceCtorEq, ↓reduceIte, eGTuple, c2112, nat_of .i64 h2116, h2118]
                                              obtain ⟨e_102, E2120, H2121⟩ := bind_inv H2115
                                              refine onCall_inl (InlOK.mono (inl_runRJ (α := { y : Bool // e_102 = y }) tab_ok Try.func68 rfl (by kernel_rfl) (by kernel_rfl) (by simp [Try.f68]) (fun | ⟨t317, _⟩ => ⟨upd 3 (.v (.bool t317)) noFr, upd 0 (some (.bx [.d (.sl (List.map eGTuple t1.add)) true, .d (.sl (List.map eGTuple t1.drop)) true, .d (.sl (List.map eGTuple t1.must)) true, .d (.sl (List.map eGTuple t1.not_)) true])) (upd 1 (some (.bx [.v (.int .i64 (if 1000000 < (if t02 < 0 then 0 else t02) then 1000000 else (if t02 < 0 then 0 else t02))), .so 2 g21 0 (t1019.length)])) (upd 2 (some (.rw (List.map (eL eGTuple) t1019) 1 g21 false false)) (upd 3 (some (.bx [.v (.int .i64 (if 1000000 < (if t02 < 0 then 0 else t02) then 1000000 else (if t02 < 0 then 0 else t02))), .so 4 g22 0 (t1116.length)])) (upd 4 (some (.rw (List.map (eL eGTuple) t1116) 1 g22 false false)) (upd 10 (some (.bx [.d (.sl (List.map eGTuple t694.add)) false, .d (.sl (List.map eGTuple t694.drop)) false, .d (.sl (List.map eGTuple t694.must)) false, .d (.sl (List.map eGTuple t694.not_)) false])) (upd 46 (some (.bx [.d (.sl (List.map eGTuple t694.add)) false, .d (.sl (List.map eGTuple t694.drop)) false, .d (.sl (List.map eGTuple t694.must)) false, .d (.sl (List.map eGTuple t694.not_)) false])) (upd 55 (some (.bx [.d (.sl (List.map eGTuple t222)) false])) (upd 70 (some (.bx [.fn 66 [.pt 55 0]])) noHp)))))))), 106⟩) (fun | ⟨t317, _⟩ => .v (.bool t317)) (by rintro ⟨t317, he2124⟩; first | ((simp -implicitDefEqProofs only [go_sem, ↓reduceIte, Try.f68]) <;> rfl) | rfl) ?_) ?_)
                                              · unfold law4_StorPlays_C14_stor_Store_Write_c2 at E2120
                                                try dsimp only at E2120
                                                refine runR_take tab_ok fol 1 ?_
                                                obtain ⟨t613, b2122, H2123⟩ := bind_inv E2120
                                                try simp -implicitDefEqProofs only [go_sem, Nat.reduceEqDiff, Nat.reduceAdd, reduceCtorEq, ↓reduceIte]
                                                refine onCall_pureA (by first | rfl | (simp -implicitDefEqProofs only [go_sem, Int.reduceToNat, Int.reduceLT, Int.reduceLE, Int.reduceBEq, Int.reduceBNe, Nat.reduceLT, Nat.reduceBEq, Int.reduceEq, Nat.reduceEqDiff, Nat.reduceAdd, Nat.reduceSub, Nat.reduceMul, Nat.reduceLeDiff, reduceCtorEq, ↓reduceIte, eGTuple, eGBatch, eStorStore, eRef1Store]; done) | (simp -implicitDefEqProofs only [go_sem, Int.reduceToNat, Int.reduceLT, Int.reduceLE, Int.reduceBEq, Int.reduceBNe, Nat.reduceLT, Nat.reduceBEq, Int.reduceEq, Nat.reduceEqDiff, Nat.reduceAdd, Nat.reduceSub, Nat.reduceMul, Nat.reduceLeDiff, reduceCtorEq, ↓reduceIte, eGTuple, eGBatch, eStorStore, eRef1Store]; rfl)) (PureA.of_pure (stor_Store_Write_c1_ok b2122)) (by first | exact .inr rfl | exact .inl rfl) ?_
                                                try simp -implicitDefEqProofs only [go_sem, Nat.reduceAdd, ↓reduceIte]
                                                obtain rfl := Option.some.inj H2123
                                                exact endJ_ret ⟨(!t613), rfl⟩ (ren_mk [] (by rfl) (rf_upd (by rfl) (rf_no _)) (rh_upd (rh_one (by rfl) (by rfl) (by rfl)) (rh_upd (rh_one (by rfl) (by rfl) (by rfl)) (rh_upd (rh_one (by rfl) (by rfl) (by rfl)) (rh_upd (rh_one (by rfl) (by rfl) (by rfl)) (rh_upd (rh_one (by rfl) (by rfl) (by rfl)) (rh_upd (rh_one (by rfl) (by rfl) (by rfl)) (rh_upd (rh_one (by rfl) (by rfl) (by rfl)) (rh_upd (rh_one (by rfl) (by rfl) (by rfl)) (rh_upd (rh_one (by rfl) (by rfl) (by rfl)) (rh_no _)))))))))))
                                              rintro v2125 hp2126 nx2127 ⟨⟨t317, he2124⟩, rfl, rfl, rfl⟩
                                              replace he2124 := he2124.symm
                                              subst he2124
                                              try dsimp only at H2121
                                              dsimp only
                                              try simp -implicitDefEqProofs only [go_sem, ↓reduceIte]
                                              rcases ite_inv H2121 with ⟨c2128, H2129⟩ | ⟨c2128, H2129⟩
                                              · try simp -implicitDefEqProofs only [go_sem, Nat.reduceEqDiff, Nat.reduceAdd, ↓reduceIte, c2128]
                                                obtain rfl := Option.some.inj H2129
                                                obtain rfl := Option.some.inj H2092
                                                exact endJ_ret ⟨t819, rfl⟩ (ren_mk [] (by rfl) (rf_upd (by rfl) (rf_no _)) (rh_upd (rh_one (by rfl) (by rfl) (by rfl)) (rh_upd (rh_one (by rfl) (by rfl) (by rfl)) (rh_upd (rh_one (by rfl) (by rfl) (by rfl)) (rh_upd (rh_one (by rfl) (by rfl) (by rfl)) (rh_upd (rh_one (by rfl) (by rfl) (by rfl)) (rh_upd (rh_one (by rfl) (by rfl) (by rfl)) (rh_upd (rh_one (by rfl) (by rfl) (by rfl)) (rh_upd (rh_one (by rfl) (by rfl) (by rfl)) (rh_upd (rh_one (by rfl) (by rfl) (by rfl)) (rh_no _)))))))))))
                                              · try simp -implicitDefEqProofs only [go_sem, Nat.reduceEqDiff, Nat.reduceAdd, reduceCtorEq, ↓reduceIte, c2128]
                                                exact ⟨⟨(c, (IntKind.i64.wrap (t819 + 1))), H2129⟩, ren_mk [] (by rfl) (rf_upd (by rfl) (rf_upd (by rfl) (rf_upd (by rfl) (rf_upd (by rfl) (rf_no _))))) (rh_upd (rh_one (by rfl) (by rfl) (by rfl)) (rh_upd (rh_one (by rfl) (by rfl) (by rfl)) (rh_upd (rh_one (by rfl) (by rfl) (by rfl)) (rh_upd (rh_one (by rfl) (by rfl) (by rfl)) (rh_upd (rh_one (by rfl) (by rfl) (by rfl)) (rh_upd (rh_one (by rfl) (by rfl) (by rfl)) (rh_upd (rh_one (by rfl) (by rfl) (by rfl)) (rh_upd (rh_one (by rfl) (by rfl) (by rfl)) (rh_upd (rh_one (by rfl) (by rfl) (by rfl)) (rh_no _)))))))))), Nat.lt_succ_self _⟩
                                            · try simp -implicitDefEqProofs only [go_sem, ↓reduceIte, c2112]
                                              obtain rfl := Option.some.inj H2113
                                              exact ⟨⟨(), rfl⟩, ren_mk [] (by rfl) (rf_no _) (rh_upd (rh_one (by rfl) (by rfl) (by rfl)) (rh_upd (rh_one (by rfl) (by rfl) (by rfl)) (rh_upd (rh_one (by rfl) (by rfl) (by rfl)) (rh_upd (rh_one (by rfl) (by rfl) (by rfl)) (rh_upd (rh_one (by rfl) (by rfl) (by rfl)) (rh_upd (rh_one (by rfl) (by rfl) (by rfl)) (rh_upd (rh_one (by rfl) (by rfl) (by rfl)) (rh_upd (rh_one (by rfl) (by rfl) (by rfl)) (rh_upd (rh_one (by rfl) (by rfl) (by rfl)) (rh_no _))))))))))⟩
                                      · rintro ⟨_, he2130⟩
                                        replace he2130 := he2130.symm
                                        subst he2130
                                        try dsimp only at H2092
                                        refine runR_take tab_ok fol 1 ?_
                                        try simp -implicitDefEqProofs only [go_sem, Nat.reduceAdd]
                                        obtain rfl := Option.some.inj H2092
                                        exact endJ_ret ⟨(-1), rfl⟩ (ren_mk [] (by rfl) (rf_upd (by rfl) (rf_no _)) (rh_upd (rh_one (by rfl) (by rfl) (by rfl)) (rh_upd (rh_one (by rfl) (by rfl) (by rfl)) (rh_upd (rh_one (by rfl) (by rfl) (by rfl)) (rh_upd (rh_one (by rfl) (by rfl) (by rfl)) (rh_upd (rh_one (by rfl) (by rfl) (by rfl)) (rh_upd (rh_one (by rfl) (by rfl) (by rfl)) (rh_upd (rh_one (by rfl) (by rfl) (by rfl)) (rh_upd (rh_one (by rfl) (by rfl) (by rfl)) (rh_upd (rh_one (by rfl) (by rfl) (by rfl)) (rh_no _)))))))))))
                                    rintro v2132 hp2133 nx2134 ⟨⟨t430, he2131⟩, rfl, rfl, rfl⟩
                                    replace he2131 := he2131.symm
                                    subst he2131
                                    try dsimp only at H2090
                                    dsimp only
                                    try simp -implicitDefEqProofs only [go_sem, Nat.reduceAdd, ↓reduceIte]
                                    obtain rfl := Option.some.inj H2090
                                    exact endJ_ret ⟨(decide (0 ≤ t430)), rfl⟩ (ren_mk [] (by rfl) (rf_upd (by rfl) (rf_no _)) (rh_upd (rh_one (by rfl) (by rfl) (by rfl)) (rh_upd (rh_one (by rfl) (by rfl) (by rfl)) (rh_upd (rh_one (by rfl) (by rfl) (by rfl)) (rh_upd (rh_one (by rfl) (by rfl) (by rfl)) (rh_upd (rh_one (by rfl) (by rfl) (by rfl)) (rh_upd (rh_one (by rfl) (by rfl) (by rfl)) (rh_upd (rh_one (by rfl) (by rfl) (by rfl)) (rh_upd (rh_one (by rfl) (by rfl) (by rfl)) (rh_upd (rh_one (by rfl) (by rfl) (by rfl)) (rh_no _)))))))))))
                                  rintro v2136 hp2137 nx2138 ⟨⟨t431, he2135⟩, rfl, rfl, rfl⟩
                                  replace he2135 := he2135.symm
                                  subst he2135
                                  try dsimp only at H2088
                                  dsimp only
                                  try simp -implicitDefEqProofs only [go_sem, Nat.reduceAdd, ↓reduceIte]
                                  rcases ite_inv H2088 with ⟨c2139, H2140⟩ | ⟨c2139, H2140⟩
                                  · try simp -implicitDefEqProofs only [go_sem, Nat.reduceAdd, c2139]
                                    obtain ⟨k2167, k2168⟩ := Prod.mk.inj (Option.some.inj H2140)
                                    obtain ⟨k2168, k2169⟩ := Prod.mk.inj k2168
                                    subst k2167
                                    subst k2168
                                    subst k2169
                                    exact endJ_ret ⟨(4, g21, t1019), rfl⟩ (ren_mk [] (by rfl) (rf_upd (by rfl) (rf_no _)) (rh_upd (rh_one (by rfl) (by rfl) (by rfl)) (rh_upd (rh_one (by rfl) (by rfl) (by rfl)) (rh_upd (rh_one (by rfl) (by rfl) (by rfl)) (rh_upd (rh_one (by rfl) (by rfl) (by rfl)) (rh_upd (rh_one (by rfl) (by rfl) (by rfl)) (rh_upd (rh_one (by rfl) (by rfl) (by rfl)) (rh_no _))))))))
                                  · obtain ⟨t596, b2141, H2142⟩ := bind_inv H2140
                                    try simp -implicitDefEqProofs only [go_sem, Nat.reduceEqDiff, Nat.reduceAdd, reduceCtorEq, ↓reduceIte, c2139]
                                    refine onCall_pureA (by first | rfl | (simp -implicitDefEqProofs only [go_sem, Int.reduceToNat, Int.reduceLT, Int.reduceLE, Int.reduceBEq, Int.reduceBNe, Nat.reduceLT, Nat.reduceBEq, Int.reduceEq, Nat.reduceEqDiff, Nat.reduceAdd, Nat.reduceSub, Nat.reduceMul, Nat.reduceLeDiff, reduceCtorEq, ↓reduceIte, eGTuple, eGBatch, eStorStore, eRef1Store, c2139]; done) | (simp -implicitDefEqProofs only [go_sem, Int.reduceToNat, Int.reduceLT, Int.reduceLE, Int.reduceBEq, Int.reduceBNe, Nat.reduceLT, Nat.reduceBEq, Int.reduceEq, Nat.reduceEqDiff, Nat.reduceAdd, Nat.reduceSub, Nat.reduceMul, Nat.reduceLeDiff, reduceCtorEq, ↓reduceIte, eGTuple, eGBatch, eStorStore, eRef1Store, c2139]; rfl)) (slices_ContainsFunc_Tuple__stor_Store_Write_c1_ok b2141) (by first | exact .inr rfl | exact .inl rfl) ?_
                                    try simp -implicitDefEqProofs only [go_sem, Nat.reduceAdd, ↓reduceIte]
                                    rcases ite_inv H2142 with ⟨c2143, H2144⟩ | ⟨c2143, H2144⟩
                                    · try simp -implicitDefEqProofs only [go_sem, Nat.reduceAdd, c2143]
                                      obtain ⟨k2170, k2171⟩ := Prod.mk.inj (Option.some.inj H2144)
                                      obtain ⟨k2171, k2172⟩ := Prod.mk.inj k2171
                                      subst k2170
                                      subst k2171
                                      subst k2172
                                      exact endJ_ret ⟨(3, g21, t1019), rfl⟩ (ren_mk [] (by rfl) (rf_upd (by rfl) (rf_no _)) (rh_upd (rh_one (by rfl) (by rfl) (by rfl)) (rh_upd (rh_one (by rfl) (by rfl) (by rfl)) (rh_upd (rh_one (by rfl) (by rfl) (by rfl)) (rh_upd (rh_one (by rfl) (by rfl) (by rfl)) (rh_upd (rh_one (by rfl) (by rfl) (by rfl)) (rh_upd (rh_one (by rfl) (by rfl) (by rfl)) (rh_no _))))))))
                                    · try simp -implicitDefEqProofs only [go_sem, Nat.reduceEqDiff, Nat.reduceAdd, reduceCtorEq, ↓reduceIte, c2143]
                                      rcases ite_inv H2144 with ⟨c2145, H2146⟩ | ⟨c2145, H2146⟩
                                      · try simp -implicitDefEqProofs only [go_sem, Nat.reduceAdd, c2145]
                                        obtain ⟨k2173, k2174⟩ := Prod.mk.inj (Option.some.inj H2146)
                                        obtain ⟨k2174, k2175⟩ := Prod.mk.inj k2174
                                        subst k2173
                                        subst k2174
                                        subst k2175
                                        exact endJ_ret ⟨(5, g21, t1019), rfl⟩ (ren_mk [] (by rfl) (rf_upd (by rfl) (rf_no _)) (rh_upd (rh_one (by rfl) (by rfl) (by rfl)) (rh_upd (rh_one (by rfl) (by rfl) (by rfl)) (rh_upd (rh_one (by rfl) (by rfl) (by rfl)) (rh_upd (rh_one (by rfl) (by rfl) (by rfl)) (rh_upd (rh_one (by rfl) (by rfl) (by rfl)) (rh_upd (rh_one (by rfl) (by rfl) (by rfl)) (rh_no _))))))))
                                      · obtain ⟨t7016, b2147, H2148⟩ := bind_inv H2146
                                        try simp -implicitDefEqProofs only [go_sem, Nat.reduceEqDiff, Nat.reduceAdd, reduceCtorEq, ↓reduceIte, c2145]
                                        refine onCall_pure (by first | rfl | (simp -implicitDefEqProofs only [go_sem, Int.reduceToNat, Int.reduceLT, Int.reduceLE, Int.reduceBEq, Int.reduceBNe, Nat.reduceLT, Nat.reduceBEq, Int.reduceEq, Nat.reduceEqDiff, Nat.reduceAdd, Nat.reduceSub, Nat.reduceMul, Nat.reduceLeDiff, reduceCtorEq, ↓reduceIte, eGTuple, eGBatch, eStorStore, eRef1Store, c2139, c2143, c2145]; done) | (simp -implicitDefEqProofs only [go_sem, Int.reduceToNat, Int.reduceLT, Int.reduceLE, Int.reduceBEq, Int.reduceBNe, Nat.reduceLT, Nat.reduceBEq, Int.reduceEq, Nat.reduceEqDiff, Nat.reduceAdd, Nat.reduceSub, Nat.reduceMul, Nat.reduceLeDiff, reduceCtorEq, ↓reduceIte, eGTuple, eGBatch, eStorStore, eRef1Store, c2139, c2143, c2145]; rfl)) (slices_Equal_Tuple_ok b2147) (by first | exact .inr rfl | exact .inl rfl) ?_
                                        try simp -implicitDefEqProofs only [go_sem, Nat.reduceAdd, ↓reduceIte]
                                        rcases ite_inv H2148 with ⟨c2149, H2150⟩ | ⟨c2149, H2150⟩
                                        · try simp -implicitDefEqProofs only [go_sem, Nat.reduceAdd, c2149]
                                          obtain ⟨k2176, k2177⟩ := Prod.mk.inj (Option.some.inj H2150)
                                          obtain ⟨k2177, k2178⟩ := Prod.mk.inj k2177
                                          subst k2176
                                          subst k2177
                                          subst k2178
                                          exact endJ_ret ⟨(0, g21, t1019), rfl⟩ (ren_mk [] (by rfl) (rf_upd (by rfl) (rf_no _)) (rh_upd (rh_one (by rfl) (by rfl) (by rfl)) (rh_upd (rh_one (by rfl) (by rfl) (by rfl)) (rh_upd (rh_one (by rfl) (by rfl) (by rfl)) (rh_upd (rh_one (by rfl) (by rfl) (by rfl)) (rh_upd (rh_one (by rfl) (by rfl) (by rfl)) (rh_upd (rh_one (by rfl) (by rfl) (by rfl)) (rh_no _))))))))
                                        · obtain ⟨l27, b2151, H2152⟩ := bind_inv H2150
                                          obtain ⟨h2153, h2154⟩ := app_inv b2151
                                          have h2153 : t1019.length + 1 ≤ 4294967296 := h2153
                                          have h2155 : List.map (eL eGTuple) t1019 ++ [[.sl (List.map eGTuple t4111)]] = List.map (eL eGTuple) l27 := app_map (eL eGTuple) h2154
                                          have h2156 : t1019.length + 1 = l27.length := app_len h2154
                                          have h2157 : l27.length ≤ 4294967296 := by omega
                                          have q2158 : 0 < l27.length := by omega
                                          try simp -implicitDefEqProofs only [go_sem, Nat.reduceLT, Nat.reduceEqDiff, Nat.reduceAdd, Nat.reduceLeDiff, reduceCtorEq, ↓reduceIte, c2149, h2155, h2156, h2157]
                                          obtain ⟨k2179, k2180⟩ := Prod.mk.inj (Option.some.inj H2152)
                                          obtain ⟨k2180, k2181⟩ := Prod.mk.inj k2180
                                          subst k2179
                                          subst k2180
                                          subst k2181
                                          exact endJ_ret ⟨(0, (g21 + 1), l27), rfl⟩ (ren_mk [] (by rfl) (rf_upd (by rfl) (rf_no _)) (rh_upd (rh_one (by rfl) (by rfl) (by rfl)) (rh_upd (rh_one (by rfl) (by rfl) (by rfl)) (rh_upd (rh_one (by rfl) (by rfl) (by rfl)) (rh_upd (rh_one (by rfl) (by rfl) (by rfl)) (rh_upd (rh_one (by rfl) (by rfl) (by rfl)) (rh_upd (rh_one (by rfl) (by rfl) (by rfl)) (rh_no _))))))))
                          · rintro v2182 hp2183 nx2184 ⟨⟨w2186, he2185⟩, rfl, rfl, rfl⟩
                            subst he2185
                            refine ⟨rfl, ?_, rfl⟩
                            funext j
                            by_cases j0 : j = 0
                            · subst j0; rfl
                            by_cases j1 : j = 1
                            · subst j1; rfl
                            by_cases j2 : j = 2
                            · subst j2; rfl
                            by_cases j3 : j = 3
                            · subst j3; rfl
                            by_cases j4 : j = 4
                            · subst j4; rfl
                            by_cases j10 : j = 10
                            · subst j10; rfl
                            first | rfl | simp only [upds, upd_ne _ _ j0, upd_ne _ _ j1, upd_ne _ _ j2, upd_ne _ _ j3, upd_ne _ _ j4, upd_ne _ _ j10]
                          try dsimp only at H2037
                          try simp -implicitDefEqProofs only [go_sem, Nat.reduceEqDiff, Nat.reduceAdd, reduceCtorEq, ↓reduceIte]
                          obtain ⟨e_103, E2187, H2188⟩ := bind_inv H2037
                          obtain ⟨t433, g24, o314⟩ := e_103
                          refine onCallD_one (v := .v (.int .i64 t433)) (δ := [(3, (.bx [.v (.int .i64 (if 1000000 < (if t02 < 0 then 0 else t02) then 1000000 else (if t02 < 0 then 0 else t02))), .so 4 g24 0 (o314.length)])), (4, (.rw (List.map (eL eGTuple) o314) 1 g24 false false))]) (nx' := 46) (InlOK.mono (inl_runRJ (α := { y : Int × Nat × List (List GTuple) // (t433, g24, o314) = y }) tab_ok Try.func37 rfl (by kernel_rfl) (by kernel_rfl) (by simp [Try.f37]) (fun | ⟨⟨t433, g24, o314⟩, _⟩ => ⟨upd 4 (.v (.int .i64 t433)) noFr, upd 0 (some (.bx [.d (.sl (List.map eGTuple t1.add)) true, .d (.sl (List.map eGTuple t1.drop)) true, .d (.sl (List.map eGTuple t1.must)) true, .d (.sl (List.map eGTuple t1.not_)) true])) (upd 1 (some (.bx [.v (.int .i64 (if 1000000 < (if t02 < 0 then 0 else t02) then 1000000 else (if t02 < 0 then 0 else t02))), .so 2 g23 0 (o114.length)])) (upd 2 (some (.rw (List.map (eL eGTuple) o114) 1 g23 false false)) (upd 3 (some (.bx [.v (.int .i64 (if 1000000 < (if t02 < 0 then 0 else t02) then 1000000 else (if t02 < 0 then 0 else t02))), .so 4 g24 0 (o314.length)])) (upd 4 (some (.rw (List.map (eL eGTuple) o314) 1 g24 false false)) (upd 10 (some (.bx [.d (.sl (List.map eGTuple t694.add)) false, .d (.sl (List.map eGTuple t694.drop)) false, .d (.sl (List.map eGTuple t694.must)) false, .d (.sl (List.map eGTuple t694.not_)) false])) noHp))))), 46⟩) (fun | ⟨⟨t433, g24, o314⟩, _⟩ => .v (.int .i64 t433)) (by rintro ⟨⟨t433, g24, o314⟩, he2360⟩; first | ((simp -implicitDefEqProofs only [go_sem, ↓reduceIte, Try.f37]) <;> rfl) | rfl) ?_) ?_) ?_
                          · unfold law4_StorPlays_C15_ref1_Store_Write at E2187
                            try dsimp only at E2187
                            refine runR_seq ?_
                            refine runR_take tab_ok fol 1 ?_
                            try simp -implicitDefEqProofs only [go_sem, Nat.reduceAdd]
                            refine runR_seq ?_
                            refine runR_take tab_ok fol 1 ?_
                            try simp -implicitDefEqProofs only [go_sem, Nat.reduceAdd, reduceCtorEq, ↓reduceIte]
                            obtain ⟨e_104, E2189, H2190⟩ := bind_inv E2187
                            refine onCall_inl (InlOK.mono (inl_runRJ (α := { y : List GTuple // e_104 = y }) tab_ok Try.func39 rfl (by kernel_rfl) (by kernel_rfl) (by simp [Try.f39]) (fun | ⟨t223, _⟩ => ⟨upd 2 (.d (.sl (List.map eGTuple t223)) false) noFr, upd 0 (some (.bx [.d (.sl (List.map eGTuple t1.add)) true, .d (.sl (List.map eGTuple t1.drop)) true, .d (.sl (List.map eGTuple t1.must)) true, .d (.sl (List.map eGTuple t1.not_)) true])) (upd 1 (some (.bx [.v (.int .i64 (if 1000000 < (if t02 < 0 then 0 else t02) then 1000000 else (if t02 < 0 then 0 else t02))), .so 2 g23 0 (o114.length)])) (upd 2 (some (.rw (List.map (eL eGTuple) o114) 1 g23 false false)) (upd 3 (some (.bx [.v (.int .i64 (if 1000000 < (if t02 < 0 then 0 else t02) then 1000000 else (if t02 < 0 then 0 else t02))), .so 4 g22 0 (t1116.length)])) (upd 4 (some (.rw (List.map (eL eGTuple) t1116) 1 g22 false false)) (upd 10 (some (.bx [.d (.sl (List.map eGTuple t694.add)) false, .d (.sl (List.map eGTuple t694.drop)) false, .d (.sl (List.map eGTuple t694.must)) false, .d (.sl (List.map eGTuple t694.not_)) false])) (upd 46 (some (.bx [.d (.sl (List.map eGTuple t694.add)) false, .d (.sl (List.map eGTuple t694.drop)) false, .d (.sl (List.map eGTuple t694.must)) false, .d (.sl (List.map eGTuple t694.not_)) false])) noHp)))))), 51⟩) (fun | ⟨t223, _⟩ => .d (.sl (List.map eGTuple t223)) false) (by rintro ⟨t223, he2197⟩; first | ((simp -implicitDefEqProofs only [go_sem, ↓reduceIte, Try.f39]) <;> rfl) | rfl) ?_) ?_)
                            · unfold law4_StorPlays_C16_ref1_Store_All at E2189
                              try dsimp only at E2189
                              refine runR_take tab_ok fol 1 ?_
                              obtain ⟨x74, b2191, H2192⟩ := bind_inv E2189
                              obtain ⟨h2193, h2194⟩ := idx_inv b2191
                              try simp only [Int.reduceToNat, Int.toNat_natCast] at h2194
                              have h2195 := map_at (eL eGTuple) h2194
                              have h2196 := at_lt h2194
                              try simp -implicitDefEqProofs only [go_sem, Nat.reduceEqDiff, Nat.reduceAdd, reduceCtorEq, ↓reduceIte, nat_of .i64 h2193, h2195, h2196]
                              refine Rd_endF (by rfl) ?_
                              try simp -implicitDefEqProofs only [go_sem]
                              obtain rfl := Option.some.inj H2192
                              exact endJ_ret ⟨x74, rfl⟩ (ren_mk [] (by rfl) (rf_upd (by rfl) (rf_no _)) (rh_upd (rh_one (by rfl) (by rfl) (by rfl)) (rh_upd (rh_one (by rfl) (by rfl) (by rfl)) (rh_upd (rh_one (by rfl) (by rfl) (by rfl)) (rh_upd (rh_one (by rfl) (by rfl) (by rfl)) (rh_upd (rh_one (by rfl) (by rfl) (by rfl)) (rh_upd (rh_one (by rfl) (by rfl) (by rfl)) (rh_upd (rh_one (by rfl) (by rfl) (by rfl)) (rh_no _)))))))))
                            rintro v2198 hp2199 nx2200 ⟨⟨t223, he2197⟩, rfl, rfl, rfl⟩
                            replace he2197 := he2197.symm
                            subst he2197
                            try dsimp only at H2190
                            dsimp only
                            try simp -implicitDefEqProofs only [go_sem, Nat.reduceAdd, ↓reduceIte]
                            refine runR_seq ?_
                            refine runR_take tab_ok fol 1 ?_
                            obtain ⟨l28, b2201, H2202⟩ := bind_inv H2190
                            obtain ⟨h2203, h2204⟩ := app_inv b2201
                            have h2204 : t694.add = l28 := h2204
                            subst h2204
                            have h2203 : t694.add.length ≤ 4294967296 := by have := h2203; simpa using this
                            obtain ⟨l29, b2207, H2208⟩ := bind_inv H2202
                            obtain ⟨h2209, h2210⟩ := app_inv b2207
                            have h2209 : t694.add.length + t694.drop.length ≤ 4294967296 := h2209
                            have h2211 : List.map eGTuple t694.add ++ List.map eGTuple t694.drop = List.map eGTuple l29 := app_map eGTuple h2210
                            have h2212 : t694.add.length + t694.drop.length = l29.length := app_len h2210
                            have h2213 : l29.length ≤ 4294967296 := by omega
                            obtain ⟨l30, b2214, H2215⟩ := bind_inv H2208
                            obtain ⟨h2216, h2217⟩ := app_inv b2214
                            have h2216 : l29.length + t694.must.length ≤ 4294967296 := h2216
                            have h2218 : List.map eGTuple l29 ++ List.map eGTuple t694.must = List.map eGTuple l30 := app_map eGTuple h2217
                            have h2219 : l29.length + t694.must.length = l30.length := app_len h2217
                            have h2220 : l30.length ≤ 4294967296 := by omega
                            obtain ⟨l31, b2221, H2222⟩ := bind_inv H2215
                            obtain ⟨h2223, h2224⟩ := app_inv b2221
                            have h2223 : l30.length + t694.not_.length ≤ 4294967296 := h2223
                            have h2225 : List.map eGTuple l30 ++ List.map eGTuple t694.not_ = List.map eGTuple l31 := app_map eGTuple h2224
                            have h2226 : l30.length + t694.not_.length = l31.length := app_len h2224
                            have h2227 : l31.length ≤ 4294967296 := by omega
                            try simp -implicitDefEqProofs only [go_sem, Nat.reduceLT, Nat.reduceEqDiff, Nat.reduceAdd, Nat.reduceMul, Nat.reduceLeDiff, reduceCtorEq, ↓reduceIte, chk_map (n := 6) (f := eGTuple) (fun _ => rfl) t694.add, h2203, List.take_succ_cons, List.take_zero, chk_map (n := 6) (f := eGTuple) (fun _ => rfl) t694.drop, h2211, h2212, h2213, chk_map (n := 6) (f := eGTuple) (fun _ => rfl) t694.must, h2218, h2219, h2220, chk_map (n := 6) (f := eGTuple) (fun _ => rfl) t694.not_, h2225, h2226, h2227]
                            refine Rd_endF (by rfl) ?_
                            try simp -implicitDefEqProofs only [go_sem]
                            refine runR_seq ?_
                            refine runR_seq ?_
                            refine runR_take tab_ok fol 1 ?_
                            try simp -implicitDefEqProofs only [go_sem, Nat.reduceAdd, List.take_succ_cons, List.take_zero]
                            obtain ⟨e_105, E2228, H2229⟩ := bind_inv H2222
                            refine runR_join (α := { y : Unit // e_105 = .inl y }) (fun | ⟨_, _⟩ => ⟨upd 0 (.pt 3 0) (upd 3 (.pt 46 0) (upd 5 (.d (.sl (List.map eGTuple t223)) false) noFr)), upd 0 (some (.bx [.d (.sl (List.map eGTuple t1.add)) true, .d (.sl (List.map eGTuple t1.drop)) true, .d (.sl (List.map eGTuple t1.must)) true, .d (.sl (List.map eGTuple t1.not_)) true])) (upd 1 (some (.bx [.v (.int .i64 (if 1000000 < (if t02 < 0 then 0 else t02) then 1000000 else (if t02 < 0 then 0 else t02))), .so 2 g23 0 (o114.length)])) (upd 2 (some (.rw (List.map (eL eGTuple) o114) 1 g23 false false)) (upd 3 (some (.bx [.v (.int .i64 (if 1000000 < (if t02 < 0 then 0 else t02) then 1000000 else (if t02 < 0 then 0 else t02))), .so 4 g22 0 (t1116.length)])) (upd 4 (some (.rw (List.map (eL eGTuple) t1116) 1 g22 false false)) (upd 10 (some (.bx [.d (.sl (List.map eGTuple t694.add)) false, .d (.sl (List.map eGTuple t694.drop)) false, .d (.sl (List.map eGTuple t694.must)) false, .d (.sl (List.map eGTuple t694.not_)) false])) (upd 46 (some (.bx [.d (.sl (List.map eGTuple t694.add)) false, .d (.sl (List.map eGTuple t694.drop)) false, .d (.sl (List.map eGTuple t694.must)) false, .d (.sl (List.map eGTuple t694.not_)) false])) noHp)))))), 47⟩) ?_ ?_
                            · refine runR_block ?_
                              refine runR_loop (α := { q : Nat × Int // law4_StorPlays_L9 n t1 t02 g22 t1116 t694 g23 o114 l31 q.1 q.2 = some e_105 }) (fun | ⟨⟨c, t712⟩, _⟩ => ⟨upd 0 (.pt 3 0) (upd 3 (.pt 46 0) (upd 5 (.d (.sl (List.map eGTuple t223)) false) (upd 6 (.so 47 4 0 (l31.length)) (upd 7 (.v (.int .i64 t712)) noFr)))), upd 0 (some (.bx [.d (.sl (List.map eGTuple t1.add)) true, .d (.sl (List.map eGTuple t1.drop)) true, .d (.sl (List.map eGTuple t1.must)) true, .d (.sl (List.map eGTuple t1.not_)) true])) (upd 1 (some (.bx [.v (.int .i64 (if 1000000 < (if t02 < 0 then 0 else t02) then 1000000 else (if t02 < 0 then 0 else t02))), .so 2 g23 0 (o114.length)])) (upd 2 (some (.rw (List.map (eL eGTuple) o114) 1 g23 false false)) (upd 3 (some (.bx [.v (.int .i64 (if 1000000 < (if t02 < 0 then 0 else t02) then 1000000 else (if t02 < 0 then 0 else t02))), .so 4 g22 0 (t1116.length)])) (upd 4 (some (.rw (List.map (eL eGTuple) t1116) 1 g22 false false)) (upd 10 (some (.bx [.d (.sl (List.map eGTuple t694.add)) false, .d (.sl (List.map eGTuple t694.drop)) false, .d (.sl (List.map eGTuple t694.must)) false, .d (.sl (List.map eGTuple t694.not_)) false])) (upd 46 (some (.bx [.d (.sl (List.map eGTuple t694.add)) false, .d (.sl (List.map eGTuple t694.drop)) false, .d (.sl (List.map eGTuple t694.must)) false, .d (.sl (List.map eGTuple t694.not_)) false])) (upd 47 (some (.rw (List.map eGTuple l31) 6 4 false false)) noHp))))))), 48⟩) (fun q => q.1.1) ⟨(n, 0), E2228⟩ ?_ ?_
                              · exact ren_mk [(46, 46), (47, 51)] (by rfl) (rf_upd (by rfl) (rf_upd (by rfl) (rf_upd (by rfl) (rf_upd (by rfl) (rf_upd (by rfl) (rf_no _)))))) (rh_upd (rh_one (by rfl) (by rfl) (by rfl)) (rh_upd (rh_one (by rfl) (by rfl) (by rfl)) (rh_upd (rh_one (by rfl) (by rfl) (by rfl)) (rh_upd (rh_one (by rfl) (by rfl) (by rfl)) (rh_upd (rh_one (by rfl) (by rfl) (by rfl)) (rh_upd (rh_one (by rfl) (by rfl) (by rfl)) (rh_upd (rh_one (by rfl) (by rfl) (by rfl)) (rh_upd (rh_one (by rfl) (by rfl) (by rfl)) (rh_no _)))))))))
                              · rintro ⟨⟨c, t712⟩, L2230⟩
                                rcases c with _ | c
                                · exact nomatch (show none = some _ from L2230)
                                · unfold law4_StorPlays_L9 at L2230
                                  try dsimp only at L2230
                                  refine runR_take tab_ok fol 1 ?_
                                  try simp -implicitDefEqProofs only [go_sem, Nat.reduceEqDiff, Nat.reduceAdd, reduceCtorEq, ↓reduceIte]
                                  rcases ite_inv L2230 with ⟨c2243, H2244⟩ | ⟨c2243, H2244⟩
                                  · obtain ⟨x76, b2245, H2246⟩ := bind_inv H2244
                                    obtain ⟨h2247, h2248⟩ := idx_inv b2245
                                    try simp only [Int.reduceToNat, Int.toNat_natCast] at h2248
                                    have h2249 := map_at eGTuple h2248
                                    have h2250 := at_lt h2248
                                    obtain ⟨t3812, b2251, H2252⟩ := bind_inv H2246
                                    try simp -implicitDefEqProofs only [go_sem, Nat.reduceEqDiff, Nat.reduceAdd, reduceCtorEq, ↓reduceIte, eGTuple, c2243, nat_of .i64 h2247, h2249, h2250]
                                    refine onCall_pure (by first | rfl | (simp -implicitDefEqProofs only [go_sem, Int.reduceToNat, Int.reduceLT, Int.reduceLE, Int.reduceBEq, Int.reduceBNe, Nat.reduceLT, Nat.reduceBEq, Int.reduceEq, Nat.reduceEqDiff, Nat.reduceAdd, Nat.reduceSub, Nat.reduceMul, Nat.reduceLeDiff, reduceCtorEq, ↓reduceIte, eGTuple, eGBatch, eStorStore, eRef1Store, c2243, nat_of .i64 h2247, h2249, h2250]; done) | (simp -implicitDefEqProofs only [go_sem, Int.reduceToNat, Int.reduceLT, Int.reduceLE, Int.reduceBEq, Int.reduceBNe, Nat.reduceLT, Nat.reduceBEq, Int.reduceEq, Nat.reduceEqDiff, Nat.reduceAdd, Nat.reduceSub, Nat.reduceMul, Nat.reduceLeDiff, reduceCtorEq, ↓reduceIte, eGTuple, eGBatch, eStorStore, eRef1Store, c2243, nat_of .i64 h2247, h2249, h2250]; rfl)) (ref1_Ok_ok b2251) (by first | exact .inr rfl | exact .inl rfl) ?_
                                    try simp -implicitDefEqProofs only [go_sem, Nat.reduceAdd, ↓reduceIte]
                                    rcases ite_inv H2252 with ⟨c2253, H2254⟩ | ⟨c2253, H2254⟩
                                    · try simp -implicitDefEqProofs only [go_sem, Nat.reduceEqDiff, Nat.reduceAdd, reduceCtorEq, ↓reduceIte, c2253]
                                      exact ⟨⟨(c, (IntKind.i64.wrap (t712 + 1))), H2254⟩, ren_mk [(46, 46), (47, 47)] (by rfl) (rf_upd (by rfl) (rf_upd (by rfl) (rf_upd (by rfl) (rf_upd (by rfl) (rf_upd (by rfl) (rf_no _)))))) (rh_upd (rh_one (by rfl) (by rfl) (by rfl)) (rh_upd (rh_one (by rfl) (by rfl) (by rfl)) (rh_upd (rh_one (by rfl) (by rfl) (by rfl)) (rh_upd (rh_one (by rfl) (by rfl) (by rfl)) (rh_upd (rh_one (by rfl) (by rfl) (by rfl)) (rh_upd (rh_one (by rfl) (by rfl) (by rfl)) (rh_upd (rh_one (by rfl) (by rfl) (by rfl)) (rh_upd (rh_one (by rfl) (by rfl) (by rfl)) (rh_no _))))))))), Nat.lt_succ_self _⟩
                                    · try simp -implicitDefEqProofs only [go_sem, Nat.reduceAdd, c2253]
                                      obtain rfl := Option.some.inj H2254
                                      obtain ⟨k2361, k2362⟩ := Prod.mk.inj (Option.some.inj H2229)
                                      obtain ⟨k2362, k2363⟩ := Prod.mk.inj k2362
                                      subst k2361
                                      subst k2362
                                      subst k2363
                                      exact endJ_ret ⟨(2, g22, t1116), rfl⟩ (ren_mk [] (by rfl) (rf_upd (by rfl) (rf_no _)) (rh_upd (rh_one (by rfl) (by rfl) (by rfl)) (rh_upd (rh_one (by rfl) (by rfl) (by rfl)) (rh_upd (rh_one (by rfl) (by rfl) (by rfl)) (rh_upd (rh_one (by rfl) (by rfl) (by rfl)) (rh_upd (rh_one (by rfl) (by rfl) (by rfl)) (rh_upd (rh_one (by rfl) (by rfl) (by rfl)) (rh_no _))))))))
                                  · try simp -implicitDefEqProofs only [go_sem, ↓reduceIte, c2243]
                                    obtain rfl := Option.some.inj H2244
                                    exact ⟨⟨(), rfl⟩, ren_mk [(46, 46)] (by rfl) (rf_upd (by rfl) (rf_upd (by rfl) (rf_upd (by rfl) (rf_no _)))) (rh_upd (rh_one (by rfl) (by rfl) (by rfl)) (rh_upd (rh_one (by rfl) (by rfl) (by rfl)) (rh_upd (rh_one (by rfl) (by rfl) (by rfl)) (rh_upd (rh_one (by rfl) (by rfl) (by rfl)) (rh_upd (rh_one (by rfl) (by rfl) (by rfl)) (rh_upd (rh_one (by rfl) (by rfl) (by rfl)) (rh_upd (rh_one (by rfl) (by rfl) (by rfl)) (rh_no _))))))))⟩
                            · rintro ⟨_, he2359⟩
                              replace he2359 := he2359.symm
                              subst he2359
                              try dsimp only at H2229
                              refine runR_seq ?_
                              refine runR_take tab_ok fol 1 ?_
                              obtain ⟨t4210, b2255, H2256⟩ := bind_inv H2229
                              try simp -implicitDefEqProofs only [go_sem, Nat.reduceEqDiff, Nat.reduceAdd, reduceCtorEq, ↓reduceIte]
                              refine onCall_pure (by first | rfl | (simp -implicitDefEqProofs only [go_sem, Int.reduceToNat, Int.reduceLT, Int.reduceLE, Int.reduceBEq, Int.reduceBNe, Nat.reduceLT, Nat.reduceBEq, Int.reduceEq, Nat.reduceEqDiff, Nat.reduceAdd, Nat.reduceSub, Nat.reduceMul, Nat.reduceLeDiff, reduceCtorEq, ↓reduceIte, eGTuple, eGBatch, eStorStore, eRef1Store]; done) | (simp -implicitDefEqProofs only [go_sem, Int.reduceToNat, Int.reduceLT, Int.reduceLE, Int.reduceBEq, Int.reduceBNe, Nat.reduceLT, Nat.reduceBEq, Int.reduceEq, Nat.reduceEqDiff, Nat.reduceAdd, Nat.reduceSub, Nat.reduceMul, Nat.reduceLeDiff, reduceCtorEq, ↓reduceIte, eGTuple, eGBatch, eStorStore, eRef1Store]; rfl)) (ref1_Of_ok b2255) (by first | exact .inr rfl | exact .inl rfl) ?_
                              try simp -implicitDefEqProofs only [go_sem, Nat.reduceAdd, ↓reduceIte]
                              refine runR_seq ?_
                              refine runR_seq ?_
                              refine runR_take tab_ok fol 1 ?_
                              try simp -implicitDefEqProofs only [go_sem, Nat.reduceAdd]
                              obtain ⟨e_106, E2257, H2258⟩ := bind_inv H2256
                              refine runR_join (α := { y : Unit // e_106 = .inl y }) (fun | ⟨_, _⟩ => ⟨upd 0 (.pt 3 0) (upd 3 (.pt 46 0) (upd 5 (.d (.sl (List.map eGTuple t223)) false) noFr)), upd 0 (some (.bx [.d (.sl (List.map eGTuple t1.add)) true, .d (.sl (List.map eGTuple t1.drop)) true, .d (.sl (List.map eGTuple t1.must)) true, .d (.sl (List.map eGTuple t1.not_)) true])) (upd 1 (some (.bx [.v (.int .i64 (if 1000000 < (if t02 < 0 then 0 else t02) then 1000000 else (if t02 < 0 then 0 else t02))), .so 2 g23 0 (o114.length)])) (upd 2 (some (.rw (List.map (eL eGTuple) o114) 1 g23 false false)) (upd 3 (some (.bx [.v (.int .i64 (if 1000000 < (if t02 < 0 then 0 else t02) then 1000000 else (if t02 < 0 then 0 else t02))), .so 4 g22 0 (t1116.length)])) (upd 4 (some (.rw (List.map (eL eGTuple) t1116) 1 g22 false false)) (upd 10 (some (.bx [.d (.sl (List.map eGTuple t694.add)) false, .d (.sl (List.map eGTuple t694.drop)) false, .d (.sl (List.map eGTuple t694.must)) false, .d (.sl (List.map eGTuple t694.not_)) false])) (upd 46 (some (.bx [.d (.sl (List.map eGTuple t694.add)) false, .d (.sl (List.map eGTuple t694.drop)) false, .d (.sl (List.map eGTuple t694.must)) false, .d (.sl (List.map eGTuple t694.not_)) false])) noHp)))))), 47⟩) ?_ ?_
                              · refine runR_block ?_
                                refine runR_loop (α := { q : Nat × Int // law4_StorPlays_L10 n t1 t02 g22 t1116 t694 g23 o114 t4210 q.1 q.2 = some e_106 }) (fun | ⟨⟨c, t913⟩, _⟩ => ⟨upd 0 (.pt 3 0) (upd 3 (.pt 46 0) (upd 5 (.d (.sl (List.map eGTuple t223)) false) (upd 8 (.d (.sl (List.map eGTuple t4210)) false) (upd 9 (.v (.int .i64 t913)) noFr)))), upd 0 (some (.bx [.d (.sl (List.map eGTuple t1.add)) true, .d (.sl (List.map eGTuple t1.drop)) true, .d (.sl (List.map eGTuple t1.must)) true, .d (.sl (List.map eGTuple t1.not_)) true])) (upd 1 (some (.bx [.v (.int .i64 (if 1000000 < (if t02 < 0 then 0 else t02) then 1000000 else (if t02 < 0 then 0 else t02))), .so 2 g23 0 (o114.length)])) (upd 2 (some (.rw (List.map (eL eGTuple) o114) 1 g23 false false)) (upd 3 (some (.bx [.v (.int .i64 (if 1000000 < (if t02 < 0 then 0 else t02) then 1000000 else (if t02 < 0 then 0 else t02))), .so 4 g22 0 (t1116.length)])) (upd 4 (some (.rw (List.map (eL eGTuple) t1116) 1 g22 false false)) (upd 10 (some (.bx [.d (.sl (List.map eGTuple t694.add)) false, .d (.sl (List.map eGTuple t694.drop)) false, .d (.sl (List.map eGTuple t694.must)) false, .d (.sl (List.map eGTuple t694.not_)) false])) (upd 46 (some (.bx [.d (.sl (List.map eGTuple t694.add)) false, .d (.sl (List.map eGTuple t694.drop)) false, .d (.sl (List.map eGTuple t694.must)) false, .d (.sl (List.map eGTuple t694.not_)) false])) noHp)))))), 47⟩) (fun q => q.1.1) ⟨(n, 0), E2257⟩ ?_ ?_
                                · exact ren_mk [(46, 46)] (by rfl) (rf_upd (by rfl) (rf_upd (by rfl) (rf_upd (by rfl) (rf_upd (by rfl) (rf_upd (by rfl) (rf_no _)))))) (rh_upd (rh_one (by rfl) (by rfl) (by rfl)) (rh_upd (rh_one (by rfl) (by rfl) (by rfl)) (rh_upd (rh_one (by rfl) (by rfl) (by rfl)) (rh_upd (rh_one (by rfl) (by rfl) (by rfl)) (rh_upd (rh_one (by rfl) (by rfl) (by rfl)) (rh_upd (rh_one (by rfl) (by rfl) (by rfl)) (rh_upd (rh_one (by rfl) (by rfl) (by rfl)) (rh_no _))))))))
                                · rintro ⟨⟨c, t913⟩, L2259⟩
                                  rcases c with _ | c
                                  · exact nomatch (show none = some _ from L2259)
                                  · unfold law4_StorPlays_L10 at L2259
                                    try dsimp only at L2259
                                    refine runR_take tab_ok fol 1 ?_
                                    try simp -implicitDefEqProofs only [go_sem, Nat.reduceEqDiff, Nat.reduceAdd, reduceCtorEq, ↓reduceIte]
                                    rcases ite_inv L2259 with ⟨c2272, H2273⟩ | ⟨c2272, H2273⟩
                                    · obtain ⟨x78, b2274, H2275⟩ := bind_inv H2273
                                      obtain ⟨h2276, h2277⟩ := idx_inv b2274
                                      try simp only [Int.reduceToNat, Int.toNat_natCast] at h2277
                                      have h2278 := map_at eGTuple h2277
                                      obtain ⟨t5612, b2280, H2281⟩ := bind_inv H2275
                                      try simp -implicitDefEqProofs only [go_sem, Nat.reduceEqDiff, Nat.reduceAdd, reduceCtorEq, ↓reduceIte, eGTuple, c2272, nat_of .i64 h2276, h2278]
                                      refine onCall_pure (by first | rfl | (simp -implicitDefEqProofs only [go_sem, Int.reduceToNat, Int.reduceLT, Int.reduceLE, Int.reduceBEq, Int.reduceBNe, Nat.reduceLT, Nat.reduceBEq, Int.reduceEq, Nat.reduceEqDiff, Nat.reduceAdd, Nat.reduceSub, Nat.reduceMul, Nat.reduceLeDiff, reduceCtorEq, ↓reduceIte, eGTuple, eGBatch, eStorStore, eRef1Store, c2272, nat_of .i64 h2276, h2278]; done) | (simp -implicitDefEqProofs only [go_sem, Int.reduceToNat, Int.reduceLT, Int.reduceLE, Int.reduceBEq, Int.reduceBNe, Nat.reduceLT, Nat.reduceBEq, Int.reduceEq, Nat.reduceEqDiff, Nat.reduceAdd, Nat.reduceSub, Nat.reduceMul, Nat.reduceLeDiff, reduceCtorEq, ↓reduceIte, eGTuple, eGBatch, eStorStore, eRef1Store, c2272, nat_of .i64 h2276, h2278]; rfl)) (ref1_Has_ok b2280) (by first | exact .inr rfl | exact .inl rfl) ?_
                                      try simp -implicitDefEqProofs only [go_sem, ↓reduceIte]
                                      rcases ite_inv H2281 with ⟨c2282, H2283⟩ | ⟨c2282, H2283⟩
                                      · try simp -implicitDefEqProofs only [go_sem, Nat.reduceAdd, c2282]
                                        obtain rfl := Option.some.inj H2283
                                        obtain ⟨k2364, k2365⟩ := Prod.mk.inj (Option.some.inj H2258)
                                        obtain ⟨k2365, k2366⟩ := Prod.mk.inj k2365
                                        subst k2364
                                        subst k2365
                                        subst k2366
                                        exact endJ_ret ⟨(6, g22, t1116), rfl⟩ (ren_mk [] (by rfl) (rf_upd (by rfl) (rf_no _)) (rh_upd (rh_one (by rfl) (by rfl) (by rfl)) (rh_upd (rh_one (by rfl) (by rfl) (by rfl)) (rh_upd (rh_one (by rfl) (by rfl) (by rfl)) (rh_upd (rh_one (by rfl) (by rfl) (by rfl)) (rh_upd (rh_one (by rfl) (by rfl) (by rfl)) (rh_upd (rh_one (by rfl) (by rfl) (by rfl)) (rh_no _))))))))
                                      · try simp -implicitDefEqProofs only [go_sem, Nat.reduceEqDiff, Nat.reduceAdd, reduceCtorEq, ↓reduceIte, c2282]
                                        exact ⟨⟨(c, (IntKind.i64.wrap (t913 + 1))), H2283⟩, ren_mk [(46, 46)] (by rfl) (rf_upd (by rfl) (rf_upd (by rfl) (rf_upd (by rfl) (rf_upd (by rfl) (rf_upd (by rfl) (rf_no _)))))) (rh_upd (rh_one (by rfl) (by rfl) (by rfl)) (rh_upd (rh_one (by rfl) (by rfl) (by rfl)) (rh_upd (rh_one (by rfl) (by rfl) (by rfl)) (rh_upd (rh_one (by rfl) (by rfl) (by rfl)) (rh_upd (rh_one (by rfl) (by rfl) (by rfl)) (rh_upd (rh_one (by rfl) (by rfl) (by rfl)) (rh_upd (rh_one (by rfl) (by rfl) (by rfl)) (rh_no _)))))))), Nat.lt_succ_self _⟩
                                    · try simp -implicitDefEqProofs only [go_sem, ↓reduceIte, c2272]
                                      obtain rfl := Option.some.inj H2273
                                      exact ⟨⟨(), rfl⟩, ren_mk [(46, 46)] (by rfl) (rf_upd (by rfl) (rf_upd (by rfl) (rf_upd (by rfl) (rf_no _)))) (rh_upd (rh_one (by rfl) (by rfl) (by rfl)) (rh_upd (rh_one (by rfl) (by rfl) (by rfl)) (rh_upd (rh_one (by rfl) (by rfl) (by rfl)) (rh_upd (rh_one (by rfl) (by rfl) (by rfl)) (rh_upd (rh_one (by rfl) (by rfl) (by rfl)) (rh_upd (rh_one (by rfl) (by rfl) (by rfl)) (rh_upd (rh_one (by rfl) (by rfl) (by rfl)) (rh_no _))))))))⟩
                              · rintro ⟨_, he2358⟩
                                replace he2358 := he2358.symm
                                subst he2358
                                try dsimp only at H2258
                                refine runR_seq ?_
                                refine runR_seq ?_
                                refine runR_take tab_ok fol 1 ?_
                                try simp -implicitDefEqProofs only [go_sem, Nat.reduceAdd]
                                obtain ⟨e_107, E2284, H2285⟩ := bind_inv H2258
                                refine runR_join (α := { y : Unit // e_107 = .inl y }) (fun | ⟨_, _⟩ => ⟨upd 0 (.pt 3 0) (upd 3 (.pt 46 0) (upd 5 (.d (.sl (List.map eGTuple t223)) false) noFr)), upd 0 (some (.bx [.d (.sl (List.map eGTuple t1.add)) true, .d (.sl (List.map eGTuple t1.drop)) true, .d (.sl (List.map eGTuple t1.must)) true, .d (.sl (List.map eGTuple t1.not_)) true])) (upd 1 (some (.bx [.v (.int .i64 (if 1000000 < (if t02 < 0 then 0 else t02) then 1000000 else (if t02 < 0 then 0 else t02))), .so 2 g23 0 (o114.length)])) (upd 2 (some (.rw (List.map (eL eGTuple) o114) 1 g23 false false)) (upd 3 (some (.bx [.v (.int .i64 (if 1000000 < (if t02 < 0 then 0 else t02) then 1000000 else (if t02 < 0 then 0 else t02))), .so 4 g22 0 (t1116.length)])) (upd 4 (some (.rw (List.map (eL eGTuple) t1116) 1 g22 false false)) (upd 10 (some (.bx [.d (.sl (List.map eGTuple t694.add)) false, .d (.sl (List.map eGTuple t694.drop)) false, .d (.sl (List.map eGTuple t694.must)) false, .d (.sl (List.map eGTuple t694.not_)) false])) (upd 46 (some (.bx [.d (.sl (List.map eGTuple t694.add)) false, .d (.sl (List.map eGTuple t694.drop)) false, .d (.sl (List.map eGTuple t694.must)) false, .d (.sl (List.map eGTuple t694.not_)) false])) noHp)))))), 47⟩) ?_ ?_
                                · refine runR_block ?_
                                  refine runR_loop (α := { q : Nat × Int // law4_StorPlays_L11 n t1 t02 g22 t1116 t694 g23 o114 t223 q.1 q.2 = some e_107 }) (fun | ⟨⟨c, t1011⟩, _⟩ => ⟨upd 0 (.pt 3 0) (upd 3 (.pt 46 0) (upd 5 (.d (.sl (List.map eGTuple t223)) false) (upd 10 (.v (.int .i64 t1011)) noFr))), upd 0 (some (.bx [.d (.sl (List.map eGTuple t1.add)) true, .d (.sl (List.map eGTuple t1.drop)) true, .d (.sl (List.map eGTuple t1.must)) true, .d (.sl (List.map eGTuple t1.not_)) true])) (upd 1 (some (.bx [.v (.int .i64 (if 1000000 < (if t02 < 0 then 0 else t02) then 1000000 else (if t02 < 0 then 0 else t02))), .so 2 g23 0 (o114.length)])) (upd 2 (some (.rw (List.map (eL eGTuple) o114) 1 g23 false false)) (upd 3 (some (.bx [.v (.int .i64 (if 1000000 < (if t02 < 0 then 0 else t02) then 1000000 else (if t02 < 0 then 0 else t02))), .so 4 g22 0 (t1116.length)])) (upd 4 (some (.rw (List.map (eL eGTuple) t1116) 1 g22 false false)) (upd 10 (some (.bx [.d (.sl (List.map eGTuple t694.add)) false, .d (.sl (List.map eGTuple t694.drop)) false, .d (.sl (List.map eGTuple t694.must)) false, .d (.sl (List.map eGTuple t694.not_)) false])) (upd 46 (some (.bx [.d (.sl (List.map eGTuple t694.add)) false, .d (.sl (List.map eGTuple t694.drop)) false, .d (.sl (List.map eGTuple t694.must)) false, .d (.sl (List.map eGTuple t694.not_)) false])) noHp)))))), 47⟩) (fun q => q.1.1) ⟨(n, 0), E2284⟩ ?_ ?_
                                  · exact ren_mk [(46, 46)] (by rfl) (rf_upd (by rfl) (rf_upd (by rfl) (rf_upd (by rfl) (rf_upd (by rfl) (rf_no _))))) (rh_upd (rh_one (by rfl) (by rfl) (by rfl)) (rh_upd (rh_one (by rfl) (by rfl) (by rfl)) (rh_upd (rh_one (by rfl) (by rfl) (by rfl)) (rh_upd (rh_one (by rfl) (by rfl) (by rfl)) (rh_upd (rh_one (by rfl) (by rfl) (by rfl)) (rh_upd (rh_one (by rfl) (by rfl) (by rfl)) (rh_upd (rh_one (by rfl) (by rfl) (by rfl)) (rh_no _))))))))
                                  · rintro ⟨⟨c, t1011⟩, L2286⟩
                                    rcases c with _ | c
                                    · exact nomatch (show none = some _ from L2286)
                                    · unfold law4_StorPlays_L11 at L2286
                                      try dsimp only at L2286
                                      refine runR_take tab_ok fol 1 ?_
                                      try simp -implicitDefEqProofs only [go_sem, Nat.reduceEqDiff, Nat.reduceAdd, reduceCtorEq, ↓reduceIte]
                                      rcases ite_inv L2286 with ⟨c2299, H2300⟩ | ⟨c2299, H2300⟩
                                      · obtain ⟨x80, b2301, H2302⟩ := bind_inv H2300
                                        obtain ⟨h2303, h2304⟩ := idx_inv b2301
                                        try simp only [Int.reduceToNat, Int.toNat_natCast] at h2304
                                        have h2305 := map_at eGTuple h2304
                                        obtain ⟨t7018, b2307, H2308⟩ := bind_inv H2302
                                        try simp -implicitDefEqProofs only [go_sem, Nat.reduceEqDiff, Nat.reduceAdd, reduceCtorEq, ↓reduceIte, eGTuple, c2299, nat_of .i64 h2303, h2305]
                                        refine onCall_pure (by first | rfl | (simp -implicitDefEqProofs only [go_sem, Int.reduceToNat, Int.reduceLT, Int.reduceLE, Int.reduceBEq, Int.reduceBNe, Nat.reduceLT, Nat.reduceBEq, Int.reduceEq, Nat.reduceEqDiff, Nat.reduceAdd, Nat.reduceSub, Nat.reduceMul, Nat.reduceLeDiff, reduceCtorEq, ↓reduceIte, eGTuple, eGBatch, eStorStore, eRef1Store, c2299, nat_of .i64 h2303, h2305]; done) | (simp -implicitDefEqProofs only [go_sem, Int.reduceToNat, Int.reduceLT, Int.reduceLE, Int.reduceBEq, Int.reduceBNe, Nat.reduceLT, Nat.reduceBEq, Int.reduceEq, Nat.reduceEqDiff, Nat.reduceAdd, Nat.reduceSub, Nat.reduceMul, Nat.reduceLeDiff, reduceCtorEq, ↓reduceIte, eGTuple, eGBatch, eStorStore, eRef1Store, c2299, nat_of .i64 h2303, h2305]; rfl)) (ref1_Has_ok b2307) (by first | exact .inr rfl | exact .inl rfl) ?_
                                        try simp -implicitDefEqProofs only [go_sem, Nat.reduceAdd, ↓reduceIte]
                                        rcases ite_inv H2308 with ⟨c2309, H2310⟩ | ⟨c2309, H2310⟩
                                        · try simp -implicitDefEqProofs only [go_sem, Nat.reduceEqDiff, Nat.reduceAdd, reduceCtorEq, ↓reduceIte, c2309]
                                          exact ⟨⟨(c, (IntKind.i64.wrap (t1011 + 1))), H2310⟩, ren_mk [(46, 46)] (by rfl) (rf_upd (by rfl) (rf_upd (by rfl) (rf_upd (by rfl) (rf_upd (by rfl) (rf_no _))))) (rh_upd (rh_one (by rfl) (by rfl) (by rfl)) (rh_upd (rh_one (by rfl) (by rfl) (by rfl)) (rh_upd (rh_one (by rfl) (by rfl) (by rfl)) (rh_upd (rh_one (by rfl) (by rfl) (by rfl)) (rh_upd (rh_one (by rfl) (by rfl) (by rfl)) (rh_upd (rh_one (by rfl) (by rfl) (by rfl)) (rh_upd (rh_one (by rfl) (by rfl) (by rfl)) (rh_no _)))))))), Nat.lt_succ_self _⟩
                                        · try simp -implicitDefEqProofs only [go_sem, Nat.reduceAdd, c2309]
                                          obtain rfl := Option.some.inj H2310
                                          obtain ⟨k2367, k2368⟩ := Prod.mk.inj (Option.some.inj H2285)
                                          obtain ⟨k2368, k2369⟩ := Prod.mk.inj k2368
                                          subst k2367
                                          subst k2368
                                          subst k2369
                                          exact endJ_ret ⟨(4, g22, t1116), rfl⟩ (ren_mk [] (by rfl) (rf_upd (by rfl) (rf_no _)) (rh_upd (rh_one (by rfl) (by rfl) (by rfl)) (rh_upd (rh_one (by rfl) (by rfl) (by rfl)) (rh_upd (rh_one (by rfl) (by rfl) (by rfl)) (rh_upd (rh_one (by rfl) (by rfl) (by rfl)) (rh_upd (rh_one (by rfl) (by rfl) (by rfl)) (rh_upd (rh_one (by rfl) (by rfl) (by rfl)) (rh_no _))))))))
                                      · try simp -implicitDefEqProofs only [go_sem, ↓reduceIte, c2299]
                                        obtain rfl := Option.some.inj H2300
                                        exact ⟨⟨(), rfl⟩, ren_mk [(46, 46)] (by rfl) (rf_upd (by rfl) (rf_upd (by rfl) (rf_upd (by rfl) (rf_no _)))) (rh_upd (rh_one (by rfl) (by rfl) (by rfl)) (rh_upd (rh_one (by rfl) (by rfl) (by rfl)) (rh_upd (rh_one (by rfl) (by rfl) (by rfl)) (rh_upd (rh_one (by rfl) (by rfl) (by rfl)) (rh_upd (rh_one (by rfl) (by rfl) (by rfl)) (rh_upd (rh_one (by rfl) (by rfl) (by rfl)) (rh_upd (rh_one (by rfl) (by rfl) (by rfl)) (rh_no _))))))))⟩
                                · rintro ⟨_, he2357⟩
                                  replace he2357 := he2357.symm
                                  subst he2357
                                  try dsimp only at H2285
                                  refine runR_seq ?_
                                  refine runR_seq ?_
                                  refine runR_take tab_ok fol 1 ?_
                                  try simp -implicitDefEqProofs only [go_sem, Nat.reduceAdd]
                                  obtain ⟨e_108, E2311, H2312⟩ := bind_inv H2285
                                  refine runR_join (α := { y : Unit // e_108 = .inl y }) (fun | ⟨_, _⟩ => ⟨upd 0 (.pt 3 0) (upd 3 (.pt 46 0) (upd 5 (.d (.sl (List.map eGTuple t223)) false) noFr)), upd 0 (some (.bx [.d (.sl (List.map eGTuple t1.add)) true, .d (.sl (List.map eGTuple t1.drop)) true, .d (.sl (List.map eGTuple t1.must)) true, .d (.sl (List.map eGTuple t1.not_)) true])) (upd 1 (some (.bx [.v (.int .i64 (if 1000000 < (if t02 < 0 then 0 else t02) then 1000000 else (if t02 < 0 then 0 else t02))), .so 2 g23 0 (o114.length)])) (upd 2 (some (.rw (List.map (eL eGTuple) o114) 1 g23 false false)) (upd 3 (some (.bx [.v (.int .i64 (if 1000000 < (if t02 < 0 then 0 else t02) then 1000000 else (if t02 < 0 then 0 else t02))), .so 4 g22 0 (t1116.length)])) (upd 4 (some (.rw (List.map (eL eGTuple) t1116) 1 g22 false false)) (upd 10 (some (.bx [.d (.sl (List.map eGTuple t694.add)) false, .d (.sl (List.map eGTuple t694.drop)) false, .d (.sl (List.map eGTuple t694.must)) false, .d (.sl (List.map eGTuple t694.not_)) false])) (upd 46 (some (.bx [.d (.sl (List.map eGTuple t694.add)) false, .d (.sl (List.map eGTuple t694.drop)) false, .d (.sl (List.map eGTuple t694.must)) false, .d (.sl (List.map eGTuple t694.not_)) false])) noHp)))))), 47⟩) ?_ ?_
                                  · refine runR_block ?_
                                    refine runR_loop (α := { q : Nat × Int // law4_StorPlays_L12 n t1 t02 g22 t1116 t694 g23 o114 t223 q.1 q.2 = some e_108 }) (fun | ⟨⟨c, t1111⟩, _⟩ => ⟨upd 0 (.pt 3 0) (upd 3 (.pt 46 0) (upd 5 (.d (.sl (List.map eGTuple t223)) false) (upd 11 (.v (.int .i64 t1111)) noFr))), upd 0 (some (.bx [.d (.sl (List.map eGTuple t1.add)) true, .d (.sl (List.map eGTuple t1.drop)) true, .d (.sl (List.map eGTuple t1.must)) true, .d (.sl (List.map eGTuple t1.not_)) true])) (upd 1 (some (.bx [.v (.int .i64 (if 1000000 < (if t02 < 0 then 0 else t02) then 1000000 else (if t02 < 0 then 0 else t02))), .so 2 g23 0 (o114.length)])) (upd 2 (some (.rw (List.map (eL eGTuple) o114) 1 g23 false false)) (upd 3 (some (.bx [.v (.int .i64 (if 1000000 < (if t02 < 0 then 0 else t02) then 1000000 else (if t02 < 0 then 0 else t02))), .so 4 g22 0 (t1116.length)])) (upd 4 (some (.rw (List.map (eL eGTuple) t1116) 1 g22 false false)) (upd 10 (some (.bx [.d (.sl (List.map eGTuple t694.add)) false, .d (.sl (List.map eGTuple t694.drop)) false, .d (.sl (List.map eGTuple t694.must)) false, .d (.sl (List.map eGTuple t694.not_)) false])) (upd 46 (some (.bx [.d (.sl (List.map eGTuple t694.add)) false, .d (.sl (List.map eGTuple t694.drop)) false, .d (.sl (List.map eGTuple t694.must)) false, .d (.sl (List.map eGTuple t694.not_)) false])) noHp)))))), 47⟩) (fun q => q.1.1) ⟨(n, 0), E2311⟩ ?_ ?_
                                    · exact ren_mk [(46, 46)] (by rfl) (rf_upd (by rfl) (rf_upd (by rfl) (rf_upd (by rfl) (rf_upd (by rfl) (rf_no _))))) (rh_upd (rh_one (by rfl) (by rfl) (by rfl)) (rh_upd (rh_one (by rfl) (by rfl) (by rfl)) (rh_upd (rh_one (by rfl) (by rfl) (by rfl)) (rh_upd (rh_one (by rfl) (by rfl) (by rfl)) (rh_upd (rh_one (by rfl) (by rfl) (by rfl)) (rh_upd (rh_one (by rfl) (by rfl) (by rfl)) (rh_upd (rh_one (by rfl) (by rfl) (by rfl)) (rh_no _))))))))
                                    · rintro ⟨⟨c, t1111⟩, L2313⟩
                                      rcases c with _ | c
                                      · exact nomatch (show none = some _ from L2313)
                                      · unfold law4_StorPlays_L12 at L2313
                                        try dsimp only at L2313
                                        refine runR_take tab_ok fol 1 ?_
                                        try simp -implicitDefEqProofs only [go_sem, Nat.reduceEqDiff, Nat.reduceAdd, reduceCtorEq, ↓reduceIte]
                                        rcases ite_inv L2313 with ⟨c2326, H2327⟩ | ⟨c2326, H2327⟩
                                        · obtain ⟨x82, b2328, H2329⟩ := bind_inv H2327
                                          obtain ⟨h2330, h2331⟩ := idx_inv b2328
                                          try simp only [Int.reduceToNat, Int.toNat_natCast] at h2331
                                          have h2332 := map_at eGTuple h2331
                                          obtain ⟨t8512, b2334, H2335⟩ := bind_inv H2329
                                          try simp -implicitDefEqProofs only [go_sem, Nat.reduceEqDiff, Nat.reduceAdd, reduceCtorEq, ↓reduceIte, eGTuple, c2326, nat_of .i64 h2330, h2332]
                                          refine onCall_pure (by first | rfl | (simp -implicitDefEqProofs only [go_sem, Int.reduceToNat, Int.reduceLT, Int.reduceLE, Int.reduceBEq, Int.reduceBNe, Nat.reduceLT, Nat.reduceBEq, Int.reduceEq, Nat.reduceEqDiff, Nat.reduceAdd, Nat.reduceSub, Nat.reduceMul, Nat.reduceLeDiff, reduceCtorEq, ↓reduceIte, eGTuple, eGBatch, eStorStore, eRef1Store, c2326, nat_of .i64 h2330, h2332]; done) | (simp -implicitDefEqProofs only [go_sem, Int.reduceToNat, Int.reduceLT, Int.reduceLE, Int.reduceBEq, Int.reduceBNe, Nat.reduceLT, Nat.reduceBEq, Int.reduceEq, Nat.reduceEqDiff, Nat.reduceAdd, Nat.reduceSub, Nat.reduceMul, Nat.reduceLeDiff, reduceCtorEq, ↓reduceIte, eGTuple, eGBatch, eStorStore, eRef1Store, c2326, nat_of .i64 h2330, h2332]; rfl)) (ref1_Has_ok b2334) (by first | exact .inr rfl | exact .inl rfl) ?_
                                          try simp -implicitDefEqProofs only [go_sem, ↓reduceIte]
                                          rcases ite_inv H2335 with ⟨c2336, H2337⟩ | ⟨c2336, H2337⟩
                                          · try simp -implicitDefEqProofs only [go_sem, Nat.reduceAdd, c2336]
                                            obtain rfl := Option.some.inj H2337
                                            obtain ⟨k2370, k2371⟩ := Prod.mk.inj (Option.some.inj H2312)
                                            obtain ⟨k2371, k2372⟩ := Prod.mk.inj k2371
                                            subst k2370
                                            subst k2371
                                            subst k2372
                                            exact endJ_ret ⟨(3, g22, t1116), rfl⟩ (ren_mk [] (by rfl) (rf_upd (by rfl) (rf_no _)) (rh_upd (rh_one (by rfl) (by rfl) (by rfl)) (rh_upd (rh_one (by rfl) (by rfl) (by rfl)) (rh_upd (rh_one (by rfl) (by rfl) (by rfl)) (rh_upd (rh_one (by rfl) (by rfl) (by rfl)) (rh_upd (rh_one (by rfl) (by rfl) (by rfl)) (rh_upd (rh_one (by rfl) (by rfl) (by rfl)) (rh_no _))))))))
                                          · try simp -implicitDefEqProofs only [go_sem, Nat.reduceEqDiff, Nat.reduceAdd, reduceCtorEq, ↓reduceIte, c2336]
                                            exact ⟨⟨(c, (IntKind.i64.wrap (t1111 + 1))), H2337⟩, ren_mk [(46, 46)] (by rfl) (rf_upd (by rfl) (rf_upd (by rfl) (rf_upd (by rfl) (rf_upd (by rfl) (rf_no _))))) (rh_upd (rh_one (by rfl) (by rfl) (by rfl)) (rh_upd (rh_one (by rfl) (by rfl) (by rfl)) (rh_upd (rh_one (by rfl) (by rfl) (by rfl)) (rh_upd (rh_one (by rfl) (by rfl) (by rfl)) (rh_upd (rh_one (by rfl) (by rfl) (by rfl)) (rh_upd (rh_one (by rfl) (by rfl) (by rfl)) (rh_upd (rh_one (by rfl) (by rfl) (by rfl)) (rh_no _)))))))), Nat.lt_succ_self _⟩
                                        · try simp -implicitDefEqProofs only [go_sem, ↓reduceIte, c2326]
                                          obtain rfl := Option.some.inj H2327
                                          exact ⟨⟨(), rfl⟩, ren_mk [(46, 46)] (by rfl) (rf_upd (by rfl) (rf_upd (by rfl) (rf_upd (by rfl) (rf_no _)))) (rh_upd (rh_one (by rfl) (by rfl) (by rfl)) (rh_upd (rh_one (by rfl) (by rfl) (by rfl)) (rh_upd (rh_one (by rfl) (by rfl) (by rfl)) (rh_upd (rh_one (by rfl) (by rfl) (by rfl)) (rh_upd (rh_one (by rfl) (by rfl) (by rfl)) (rh_upd (rh_one (by rfl) (by rfl) (by rfl)) (rh_upd (rh_one (by rfl) (by rfl) (by rfl)) (rh_no _))))))))⟩
                                  · rintro ⟨_, he2356⟩
                                    replace he2356 := he2356.symm
                                    subst he2356
                                    try dsimp only at H2312
                                    refine runR_take tab_ok fol 1 ?_
                                    obtain ⟨t896, b2338, H2339⟩ := bind_inv H2312
                                    try simp -implicitDefEqProofs only [go_sem, Nat.reduceEqDiff, Nat.reduceAdd, reduceCtorEq, ↓reduceIte]
                                    refine onCallD_pure (by first | rfl | (simp -implicitDefEqProofs only [go_sem, Int.reduceToNat, Int.reduceLT, Int.reduceLE, Int.reduceBEq, Int.reduceBNe, Nat.reduceLT, Nat.reduceBEq, Int.reduceEq, Nat.reduceEqDiff, Nat.reduceAdd, Nat.reduceSub, Nat.reduceMul, Nat.reduceLeDiff, reduceCtorEq, ↓reduceIte, eGTuple, eGBatch, eStorStore, eRef1Store]; done) | (simp -implicitDefEqProofs only [go_sem, Int.reduceToNat, Int.reduceLT, Int.reduceLE, Int.reduceBEq, Int.reduceBNe, Nat.reduceLT, Nat.reduceBEq, Int.reduceEq, Nat.reduceEqDiff, Nat.reduceAdd, Nat.reduceSub, Nat.reduceMul, Nat.reduceLeDiff, reduceCtorEq, ↓reduceIte, eGTuple, eGBatch, eStorStore, eRef1Store]; rfl)) (ref1_Minus_ok b2338) (by first | exact .inr rfl | exact .inl rfl) ?_
                                    obtain ⟨t927, b2340, H2341⟩ := bind_inv H2339
                                    try simp -implicitDefEqProofs only [go_sem, Nat.reduceEqDiff, Nat.reduceAdd, reduceCtorEq, ↓reduceIte]
                                    refine onCallD_pure (by first | rfl | (simp -implicitDefEqProofs only [go_sem, Int.reduceToNat, Int.reduceLT, Int.reduceLE, Int.reduceBEq, Int.reduceBNe, Nat.reduceLT, Nat.reduceBEq, Int.reduceEq, Nat.reduceEqDiff, Nat.reduceAdd, Nat.reduceSub, Nat.reduceMul, Nat.reduceLeDiff, reduceCtorEq, ↓reduceIte, eGTuple, eGBatch, eStorStore, eRef1Store]; done) | (simp -implicitDefEqProofs only [go_sem, Int.reduceToNat, Int.reduceLT, Int.reduceLE, Int.reduceBEq, Int.reduceBNe, Nat.reduceLT, Nat.reduceBEq, Int.reduceEq, Nat.reduceEqDiff, Nat.reduceAdd, Nat.reduceSub, Nat.reduceMul, Nat.reduceLeDiff, reduceCtorEq, ↓reduceIte, eGTuple, eGBatch, eStorStore, eRef1Store]; rfl)) (ref1_Plus_ok b2340) (by first | exact .inr rfl | exact .inl rfl) ?_
                                    try simp -implicitDefEqProofs only [go_sem, Nat.reduceAdd, ↓reduceIte]
                                    refine Rd_endF (by rfl) ?_
                                    try simp -implicitDefEqProofs only [go_sem, Nat.reduceEqDiff, Nat.reduceAdd, reduceCtorEq, ↓reduceIte]
                                    rcases ite_inv H2341 with ⟨c2342, H2343⟩ | ⟨c2342, H2343⟩
                                    · try simp -implicitDefEqProofs only [go_sem, Nat.reduceAdd, c2342]
                                      obtain ⟨k2373, k2374⟩ := Prod.mk.inj (Option.some.inj H2343)
                                      obtain ⟨k2374, k2375⟩ := Prod.mk.inj k2374
                                      subst k2373
                                      subst k2374
                                      subst k2375
                                      exact endJ_ret ⟨(5, g22, t1116), rfl⟩ (ren_mk [] (by rfl) (rf_upd (by rfl) (rf_no _)) (rh_upd (rh_one (by rfl) (by rfl) (by rfl)) (rh_upd (rh_one (by rfl) (by rfl) (by rfl)) (rh_upd (rh_one (by rfl) (by rfl) (by rfl)) (rh_upd (rh_one (by rfl) (by rfl) (by rfl)) (rh_upd (rh_one (by rfl) (by rfl) (by rfl)) (rh_upd (rh_one (by rfl) (by rfl) (by rfl)) (rh_no _))))))))
                                    · obtain ⟨t1027, b2344, H2345⟩ := bind_inv H2343
                                      try simp -implicitDefEqProofs only [go_sem, Nat.reduceEqDiff, Nat.reduceAdd, reduceCtorEq, ↓reduceIte, c2342]
                                      refine onCall_pure (by first | rfl | (simp -implicitDefEqProofs only [go_sem, Int.reduceToNat, Int.reduceLT, Int.reduceLE, Int.reduceBEq, Int.reduceBNe, Nat.reduceLT, Nat.reduceBEq, Int.reduceEq, Nat.reduceEqDiff, Nat.reduceAdd, Nat.reduceSub, Nat.reduceMul, Nat.reduceLeDiff, reduceCtorEq, ↓reduceIte, eGTuple, eGBatch, eStorStore, eRef1Store, c2342]; done) | (simp -implicitDefEqProofs only [go_sem, Int.reduceToNat, Int.reduceLT, Int.reduceLE, Int.reduceBEq, Int.reduceBNe, Nat.reduceLT, Nat.reduceBEq, Int.reduceEq, Nat.reduceEqDiff, Nat.reduceAdd, Nat.reduceSub, Nat.reduceMul, Nat.reduceLeDiff, reduceCtorEq, ↓reduceIte, eGTuple, eGBatch, eStorStore, eRef1Store, c2342]; rfl)) (ref1_Same_ok b2344) (by first | exact .inr rfl | exact .inl rfl) ?_
                                      try simp -implicitDefEqProofs only [go_sem, Nat.reduceAdd, ↓reduceIte]
                                      rcases ite_inv H2345 with ⟨c2346, H2347⟩ | ⟨c2346, H2347⟩
                                      · try simp -implicitDefEqProofs only [go_sem, Nat.reduceAdd, c2346]
                                        obtain ⟨k2376, k2377⟩ := Prod.mk.inj (Option.some.inj H2347)
                                        obtain ⟨k2377, k2378⟩ := Prod.mk.inj k2377
                                        subst k2376
                                        subst k2377
                                        subst k2378
                                        exact endJ_ret ⟨(0, g22, t1116), rfl⟩ (ren_mk [] (by rfl) (rf_upd (by rfl) (rf_no _)) (rh_upd (rh_one (by rfl) (by rfl) (by rfl)) (rh_upd (rh_one (by rfl) (by rfl) (by rfl)) (rh_upd (rh_one (by rfl) (by rfl) (by rfl)) (rh_upd (rh_one (by rfl) (by rfl) (by rfl)) (rh_upd (rh_one (by rfl) (by rfl) (by rfl)) (rh_upd (rh_one (by rfl) (by rfl) (by rfl)) (rh_no _))))))))
                                      · obtain ⟨l32, b2348, H2349⟩ := bind_inv H2347
                                        obtain ⟨h2350, h2351⟩ := app_inv b2348
                                        have h2350 : t1116.length + 1 ≤ 4294967296 := h2350
                                        have h2352 : List.map (eL eGTuple) t1116 ++ [[.sl (List.map eGTuple t927)]] = List.map (eL eGTuple) l32 := app_map (eL eGTuple) h2351
                                        have h2353 : t1116.length + 1 = l32.length := app_len h2351
                                        have h2354 : l32.length ≤ 4294967296 := by omega
                                        have q2355 : 0 < l32.length := by omega
                                        try simp -implicitDefEqProofs only [go_sem, Nat.reduceLT, Nat.reduceEqDiff, Nat.reduceAdd, Nat.reduceLeDiff, reduceCtorEq, ↓reduceIte, c2346, h2352, h2353, h2354]
                                        obtain ⟨k2379, k2380⟩ := Prod.mk.inj (Option.some.inj H2349)
                                        obtain ⟨k2380, k2381⟩ := Prod.mk.inj k2380
                                        subst k2379
                                        subst k2380
                                        subst k2381
                                        exact endJ_ret ⟨(0, (g22 + 1), l32), rfl⟩ (ren_mk [] (by rfl) (rf_upd (by rfl) (rf_no _)) (rh_upd (rh_one (by rfl) (by rfl) (by rfl)) (rh_upd (rh_one (by rfl) (by rfl) (by rfl)) (rh_upd (rh_one (by rfl) (by rfl) (by rfl)) (rh_upd (rh_one (by rfl) (by rfl) (by rfl)) (rh_upd (rh_one (by rfl) (by rfl) (by rfl)) (rh_upd (rh_one (by rfl) (by rfl) (by rfl)) (rh_no _))))))))
                          · rintro v2382 hp2383 nx2384 ⟨⟨w2386, he2385⟩, rfl, rfl, rfl⟩
                            subst he2385
                            refine ⟨rfl, ?_, rfl⟩
                            funext j
                            by_cases j0 : j = 0
                            · subst j0; rfl
                            by_cases j1 : j = 1
                            · subst j1; rfl
                            by_cases j2 : j = 2
                            · subst j2; rfl
                            by_cases j3 : j = 3
                            · subst j3; rfl
                            by_cases j4 : j = 4
                            · subst j4; rfl
                            by_cases j10 : j = 10
                            · subst j10; rfl
                            first | rfl | simp only [upds, upd_ne _ _ j0, upd_ne _ _ j1, upd_ne _ _ j2, upd_ne _ _ j3, upd_ne _ _ j4, upd_ne _ _ j10]
                          try dsimp only at H2188
                          try simp -implicitDefEqProofs only [go_sem, Nat.reduceEqDiff, Nat.reduceAdd, ↓reduceIte]
                          rcases ite_inv H2188 with ⟨c2387, H2388⟩ | ⟨c2387, H2388⟩
                          · try simp -implicitDefEqProofs only [go_sem, Nat.reduceEqDiff, Nat.reduceAdd, ↓reduceIte, c2387]
                            refine Rd_endF (by kernel_rfl) ?_
                            try simp -implicitDefEqProofs only [go_sem, Nat.reduceAdd, ↓reduceIte]
                            obtain rfl := Option.some.inj H2388
                            obtain rfl := Option.some.inj H1602
                            obtain rfl := Option.some.inj H6
                            exact end_pure (by first | (simp -implicitDefEqProofs only [go_sem, ↓reduceIte, Try.f8] <;> rfl) | rfl) (by first | rfl | (simp -implicitDefEqProofs only [go_sem, Int.reduceToNat, Int.reduceLT, Int.reduceLE, Int.reduceBEq, Int.reduceBNe, Nat.reduceLT, Nat.reduceBEq, Int.reduceEq, Nat.reduceEqDiff, Nat.reduceAdd, Nat.reduceSub, Nat.reduceMul, Nat.reduceLeDiff, reduceCtorEq, ↓reduceIte, eGTuple, eGBatch, eStorStore, eRef1Store, c2387]; done) | (simp -implicitDefEqProofs only [go_sem, Int.reduceToNat, Int.reduceLT, Int.reduceLE, Int.reduceBEq, Int.reduceBNe, Nat.reduceLT, Nat.reduceBEq, Int.reduceEq, Nat.reduceEqDiff, Nat.reduceAdd, Nat.reduceSub, Nat.reduceMul, Nat.reduceLeDiff, reduceCtorEq, ↓reduceIte, eGTuple, eGBatch, eStorStore, eRef1Store, c2387]; rfl)) rfl (by intro h; first | rfl | cases h)
                          · obtain ⟨t794, b2389, H2390⟩ := bind_inv H2388
                            try simp -implicitDefEqProofs only [go_sem, Nat.reduceEqDiff, Nat.reduceAdd, reduceCtorEq, ↓reduceIte, c2387]
                            refine onCallD_pureA [1, 2] (by intro hp1 h1; have h2391 := h1 1 (by simp); have h2392 := h1 2 (by simp); (try simp -implicitDefEqProofs only [go_sem, Nat.reduceEqDiff, ↓reduceIte] at h2391); (try simp -implicitDefEqProofs only [go_sem, Nat.reduceEqDiff, ↓reduceIte] at h2392); first | (simp -implicitDefEqProofs only [go_sem, ↓reduceIte, eStorStore, h2391, h2392]; done) | (simp -implicitDefEqProofs only [go_sem, ↓reduceIte, eStorStore, h2391, h2392]; rfl)) (PureA.of_pure (stor_Store_Rev_ok b2389)) (by first | exact .inr rfl | exact .inl rfl) ?_
                            try simp -implicitDefEqProofs only [go_sem, Nat.reduceEqDiff, Nat.reduceAdd, reduceCtorEq, ↓reduceIte]
                            rcases ite_inv H2390 with ⟨c2393, H2394⟩ | ⟨c2393, H2394⟩
                            · try simp -implicitDefEqProofs only [go_sem, Nat.reduceEqDiff, Nat.reduceAdd, ↓reduceIte, c2393]
                              refine Rd_endF (by kernel_rfl) ?_
                              try simp -implicitDefEqProofs only [go_sem, Nat.reduceAdd, ↓reduceIte]
                              obtain rfl := Option.some.inj H2394
                              obtain rfl := Option.some.inj H1602
                              obtain rfl := Option.some.inj H6
                              exact end_pure (by first | (simp -implicitDefEqProofs only [go_sem, ↓reduceIte, Try.f8] <;> rfl) | rfl) (by first | rfl | (simp -implicitDefEqProofs only [go_sem, Int.reduceToNat, Int.reduceLT, Int.reduceLE, Int.reduceBEq, Int.reduceBNe, Nat.reduceLT, Nat.reduceBEq, Int.reduceEq, Nat.reduceEqDiff, Nat.reduceAdd, Nat.reduceSub, Nat.reduceMul, Nat.reduceLeDiff, reduceCtorEq, ↓reduceIte, eGTuple, eGBatch, eStorStore, eRef1Store, c2387, c2393]; done) | (simp -implicitDefEqProofs only [go_sem, Int.reduceToNat, Int.reduceLT, Int.reduceLE, Int.reduceBEq, Int.reduceBNe, Nat.reduceLT, Nat.reduceBEq, Int.reduceEq, Nat.reduceEqDiff, Nat.reduceAdd, Nat.reduceSub, Nat.reduceMul, Nat.reduceLeDiff, reduceCtorEq, ↓reduceIte, eGTuple, eGBatch, eStorStore, eRef1Store, c2387, c2393]; rfl)) rfl (by intro h; first | rfl | cases h)
                            · obtain ⟨t904, b2395, H2396⟩ := bind_inv H2394
                              try simp -implicitDefEqProofs only [go_sem, Nat.reduceEqDiff, Nat.reduceAdd, reduceCtorEq, ↓reduceIte, c2393]
                              refine onCallD_pureA [1, 2] (by intro hp1 h1; have h2397 := h1 1 (by simp); have h2398 := h1 2 (by simp); (try simp -implicitDefEqProofs only [go_sem, Nat.reduceEqDiff, ↓reduceIte] at h2397); (try simp -implicitDefEqProofs only [go_sem, Nat.reduceEqDiff, ↓reduceIte] at h2398); first | (simp -implicitDefEqProofs only [go_sem, ↓reduceIte, eStorStore, h2397, h2398]; done) | (simp -implicitDefEqProofs only [go_sem, ↓reduceIte, eStorStore, h2397, h2398]; rfl)) (PureA.of_pure (stor_Store_Len_ok b2395)) (by first | exact .inr rfl | exact .inl rfl) ?_
                              try simp -implicitDefEqProofs only [go_sem, Nat.reduceEqDiff, Nat.reduceAdd, reduceCtorEq, ↓reduceIte]
                              obtain ⟨t224, E2399, H2400⟩ := bind_inv H2396
                              refine onCallD_det (ids' := [3, 4]) (v := .d (.sl (List.map eGTuple t224)) false) (δ := []) (nx' := 60) (fun hp1 h1 => ?_) ?_
                              · have e2411 : hp1 3 = some (.bx [.v (.int .i64 (if 1000000 < (if t02 < 0 then 0 else t02) then 1000000 else (if t02 < 0 then 0 else t02))), .so 4 g24 0 (o314.length)]) := (h1.1 3 (by simp)).trans (by first | rfl | (simp -implicitDefEqProofs only [go_sem, Int.reduceToNat, Int.reduceLT, Int.reduceLE, Int.reduceBEq, Int.reduceBNe, Nat.reduceLT, Nat.reduceBEq, Int.reduceEq, Nat.reduceEqDiff, Nat.reduceAdd, Nat.reduceSub, Nat.reduceMul, Nat.reduceLeDiff, reduceCtorEq, ↓reduceIte, eGTuple, eGBatch, eStorStore, eRef1Store]; done) | (simp -implicitDefEqProofs only [go_sem, Int.reduceToNat, Int.reduceLT, Int.reduceLE, Int.reduceBEq, Int.reduceBNe, Nat.reduceLT, Nat.reduceBEq, Int.reduceEq, Nat.reduceEqDiff, Nat.reduceAdd, Nat.reduceSub, Nat.reduceMul, Nat.reduceLeDiff, reduceCtorEq, ↓reduceIte, eGTuple, eGBatch, eStorStore, eRef1Store]; rfl))
                                have e2412 : hp1 4 = some (.rw (List.map (eL eGTuple) o314) 1 g24 false false) := (h1.1 4 (by simp)).trans (by first | rfl | (simp -implicitDefEqProofs only [go_sem, Int.reduceToNat, Int.reduceLT, Int.reduceLE, Int.reduceBEq, Int.reduceBNe, Nat.reduceLT, Nat.reduceBEq, Int.reduceEq, Nat.reduceEqDiff, Nat.reduceAdd, Nat.reduceSub, Nat.reduceMul, Nat.reduceLeDiff, reduceCtorEq, ↓reduceIte, eGTuple, eGBatch, eStorStore, eRef1Store]; done) | (simp -implicitDefEqProofs only [go_sem, Int.reduceToNat, Int.reduceLT, Int.reduceLE, Int.reduceBEq, Int.reduceBNe, Nat.reduceLT, Nat.reduceBEq, Int.reduceEq, Nat.reduceEqDiff, Nat.reduceAdd, Nat.reduceSub, Nat.reduceMul, Nat.reduceLeDiff, reduceCtorEq, ↓reduceIte, eGTuple, eGBatch, eStorStore, eRef1Store]; rfl))
                                have e2413 : upd 3 (some (.bx [.v (.int .i64 (if 1000000 < (if t02 < 0 then 0 else t02) then 1000000 else (if t02 < 0 then 0 else t02))), .so 4 g24 0 (o314.length)])) (upd 4 (some (.rw (List.map (eL eGTuple) o314) 1 g24 false false)) (hp1)) = hp1 := by rw [upd_self e2412, upd_self e2411]
                                rw [← e2413]
                                refine inl_runR tab_ok Try.func39 rfl (by kernel_rfl) (by kernel_rfl) (by simp [Try.f39]) ?_
                                unfold law4_StorPlays_C17_ref1_Store_All at E2399
                                try dsimp only at E2399
                                refine runR_take tab_ok fol 1 ?_
                                obtain ⟨x83, b2401, H2402⟩ := bind_inv E2399
                                obtain ⟨h2403, h2404⟩ := idx_inv b2401
                                try simp only [Int.reduceToNat, Int.toNat_natCast] at h2404
                                have h2405 := map_at (eL eGTuple) h2404
                                have h2406 := at_lt h2404
                                try simp -implicitDefEqProofs only [go_sem, Nat.reduceEqDiff, Nat.reduceAdd, reduceCtorEq, ↓reduceIte, nat_of .i64 h2403, h2405, h2406]
                                refine Rd_endF (by rfl) ?_
                                try simp -implicitDefEqProofs only [go_sem]
                                obtain rfl := Option.some.inj H2402
                                exact end_ret (by first | ((simp -implicitDefEqProofs only [go_sem, ↓reduceIte, Try.f39]) <;> rfl) | rfl) ⟨rfl, rfl, rfl⟩
                              try dsimp only at H2400
                              try simp -implicitDefEqProofs only [go_sem, Nat.reduceEqDiff, Nat.reduceAdd, ↓reduceIte]
                              rcases ite_inv H2400 with ⟨c2414, H2415⟩ | ⟨c2414, H2415⟩
                              · try simp -implicitDefEqProofs only [go_sem, Nat.reduceEqDiff, Nat.reduceAdd, ↓reduceIte, c2414]
                                refine Rd_endF (by kernel_rfl) ?_
                                try simp -implicitDefEqProofs only [go_sem, Nat.reduceAdd, ↓reduceIte]
                                obtain rfl := Option.some.inj H2415
                                obtain rfl := Option.some.inj H1602
                                obtain rfl := Option.some.inj H6
                                exact end_pure (by first | (simp -implicitDefEqProofs only [go_sem, ↓reduceIte, Try.f8] <;> rfl) | rfl) (by first | rfl | (simp -implicitDefEqProofs only [go_sem, Int.reduceToNat, Int.reduceLT, Int.reduceLE, Int.reduceBEq, Int.reduceBNe, Nat.reduceLT, Nat.reduceBEq, Int.reduceEq, Nat.reduceEqDiff, Nat.reduceAdd, Nat.reduceSub, Nat.reduceMul, Nat.reduceLeDiff, reduceCtorEq, ↓reduceIte, eGTuple, eGBatch, eStorStore, eRef1Store, c2414]; done) | (simp -implicitDefEqProofs only [go_sem, Int.reduceToNat, Int.reduceLT, Int.reduceLE, Int.reduceBEq, Int.reduceBNe, Nat.reduceLT, Nat.reduceBEq, Int.reduceEq, Nat.reduceEqDiff, Nat.reduceAdd, Nat.reduceSub, Nat.reduceMul, Nat.reduceLeDiff, reduceCtorEq, ↓reduceIte, eGTuple, eGBatch, eStorStore, eRef1Store, c2414]; rfl)) rfl (by intro h; first | rfl | cases h)
                              · obtain ⟨t984, b2416, H2417⟩ := bind_inv H2415
                                try simp -implicitDefEqProofs only [go_sem, Nat.reduceEqDiff, Nat.reduceAdd, reduceCtorEq, ↓reduceIte, c2414]
                                refine onCallD_pureA [1, 2] (by intro hp1 h1; have h2418 := h1 1 (by simp); have h2419 := h1 2 (by simp); (try simp -implicitDefEqProofs only [go_sem, Nat.reduceEqDiff, ↓reduceIte] at h2418); (try simp -implicitDefEqProofs only [go_sem, Nat.reduceEqDiff, ↓reduceIte] at h2419); first | (simp -implicitDefEqProofs only [go_sem, ↓reduceIte, eStorStore, h2418, h2419]; done) | (simp -implicitDefEqProofs only [go_sem, ↓reduceIte, eStorStore, h2418, h2419]; rfl)) (PureA.of_pure (stor_Store_All_ok b2416)) (by first | exact .inr rfl | exact .inl rfl) ?_
                                try simp -implicitDefEqProofs only [go_sem, Nat.reduceEqDiff, Nat.reduceAdd, reduceCtorEq, ↓reduceIte]
                                obtain ⟨t225, E2420, H2421⟩ := bind_inv H2417
                                refine onCallD_det (ids' := [3, 4]) (v := .d (.sl (List.map eGTuple t225)) false) (δ := []) (nx' := 74) (fun hp1 h1 => ?_) ?_
                                · have e2432 : hp1 3 = some (.bx [.v (.int .i64 (if 1000000 < (if t02 < 0 then 0 else t02) then 1000000 else (if t02 < 0 then 0 else t02))), .so 4 g24 0 (o314.length)]) := (h1.1 3 (by simp)).trans (by first | rfl | (simp -implicitDefEqProofs only [go_sem, Int.reduceToNat, Int.reduceLT, Int.reduceLE, Int.reduceBEq, Int.reduceBNe, Nat.reduceLT, Nat.reduceBEq, Int.reduceEq, Nat.reduceEqDiff, Nat.reduceAdd, Nat.reduceSub, Nat.reduceMul, Nat.reduceLeDiff, reduceCtorEq, ↓reduceIte, eGTuple, eGBatch, eStorStore, eRef1Store]; done) | (simp -implicitDefEqProofs only [go_sem, Int.reduceToNat, Int.reduceLT, Int.reduceLE, Int.reduceBEq, Int.reduceBNe, Nat.reduceLT, Nat.reduceBEq, Int.reduceEq, Nat.reduceEqDiff, Nat.reduceAdd, Nat.reduceSub, Nat.reduceMul, Nat.reduceLeDiff, reduceCtorEq, ↓reduceIte, eGTuple, eGBatch, eStorStore, eRef1Store]; rfl))
                                  have e2433 : hp1 4 = some (.rw (List.map (eL eGTuple) o314) 1 g24 false false) := (h1.1 4 (by simp)).trans (by first | rfl | (simp -implicitDefEqProofs only [go_sem, Int.reduceToNat, Int.reduceLT, Int.reduceLE, Int.reduceBEq, Int.reduceBNe, Nat.reduceLT, Nat.reduceBEq, Int.reduceEq, Nat.reduceEqDiff, Nat.reduceAdd, Nat.reduceSub, Nat.reduceMul, Nat.reduceLeDiff, reduceCtorEq, ↓reduceIte, eGTuple, eGBatch, eStorStore, eRef1Store]; done) | (simp -implicitDefEqProofs only [go_sem, Int.reduceToNat, Int.reduceLT, Int.reduceLE, Int.reduceBEq, Int.reduceBNe, Nat.reduceLT, Nat.reduceBEq, Int.reduceEq, Nat.reduceEqDiff, Nat.reduceAdd, Nat.reduceSub, Nat.reduceMul, Nat.reduceLeDiff, reduceCtorEq, ↓reduceIte, eGTuple, eGBatch, eStorStore, eRef1Store]; rfl))
                                  have e2434 : upd 3 (some (.bx [.v (.int .i64 (if 1000000 < (if t02 < 0 then 0 else t02) then 1000000 else (if t02 < 0 then 0 else t02))), .so 4 g24 0 (o314.length)])) (upd 4 (some (.rw (List.map (eL eGTuple) o314) 1 g24 false false)) (hp1)) = hp1 := by rw [upd_self e2433, upd_self e2432]
                                  rw [← e2434]
                                  refine inl_runR tab_ok Try.func39 rfl (by kernel_rfl) (by kernel_rfl) (by simp [Try.f39]) ?_
                                  unfold law4_StorPlays_C18_ref1_Store_All at E2420
                                  try dsimp only at E2420
                                  refine runR_take tab_ok fol 1 ?_
                                  obtain ⟨x84, b2422, H2423⟩ := bind_inv E2420
                                  obtain ⟨h2424, h2425⟩ := idx_inv b2422
                                  try simp only [Int.reduceToNat, Int.toNat_natCast] at h2425
                                  have h2426 := map_at (eL eGTuple) h2425
                                  have h2427 := at_lt h2425
                                  try simp -implicitDefEqProofs only [go_sem, Nat.reduceEqDiff, Nat.reduceAdd, reduceCtorEq, ↓reduceIte, nat_of .i64 h2424, h2426, h2427]
                                  refine Rd_endF (by rfl) ?_
                                  try simp -implicitDefEqProofs only [go_sem]
                                  obtain rfl := Option.some.inj H2423
                                  exact end_ret (by first | ((simp -implicitDefEqProofs only [go_sem, ↓reduceIte, Try.f39]) <;> rfl) | rfl) ⟨rfl, rfl, rfl⟩
                                try dsimp only at H2421
                                obtain ⟨t10110, b2435, H2436⟩ := bind_inv H2421
                                try simp -implicitDefEqProofs only [go_sem, Nat.reduceEqDiff, Nat.reduceAdd, ↓reduceIte]
                                refine onCallD_pure (by first | rfl | (simp -implicitDefEqProofs only [go_sem, Int.reduceToNat, Int.reduceLT, Int.reduceLE, Int.reduceBEq, Int.reduceBNe, Nat.reduceLT, Nat.reduceBEq, Int.reduceEq, Nat.reduceEqDiff, Nat.reduceAdd, Nat.reduceSub, Nat.reduceMul, Nat.reduceLeDiff, reduceCtorEq, ↓reduceIte, eGTuple, eGBatch, eStorStore, eRef1Store]; done) | (simp -implicitDefEqProofs only [go_sem, Int.reduceToNat, Int.reduceLT, Int.reduceLE, Int.reduceBEq, Int.reduceBNe, Nat.reduceLT, Nat.reduceBEq, Int.reduceEq, Nat.reduceEqDiff, Nat.reduceAdd, Nat.reduceSub, Nat.reduceMul, Nat.reduceLeDiff, reduceCtorEq, ↓reduceIte, eGTuple, eGBatch, eStorStore, eRef1Store]; rfl)) (ref1_Same_ok b2435) (by first | exact .inr rfl | exact .inl rfl) ?_
                                try simp -implicitDefEqProofs only [go_sem, Nat.reduceEqDiff, Nat.reduceAdd, ↓reduceIte]
                                refine Rd_endF (by kernel_rfl) ?_
                                try simp -implicitDefEqProofs only [go_sem, ↓reduceIte]
                                rcases ite_inv H2436 with ⟨c2437, H2438⟩ | ⟨c2437, H2438⟩
                                · try simp -implicitDefEqProofs only [go_sem, Nat.reduceEqDiff, Nat.reduceAdd, reduceCtorEq, ↓reduceIte, c2437]
                                  exact ⟨⟨(c, (g23, o114, g24, o314, (IntKind.i64.wrap (t128 + 1)))), H2438⟩, ren_mk [(0, 0), (1, 1), (2, 2), (3, 3), (4, 4)] (by rfl) (rf_upd (by rfl) (rf_upd (by rfl) (rf_upd (by rfl) (rf_upd (by rfl) (rf_upd (by rfl) (rf_upd (by rfl) (rf_upd (by rfl) (rf_upd (by rfl) (rf_no _))))))))) (rh_upd (rh_one (by rfl) (by rfl) (by rfl)) (rh_upd (rh_one (by rfl) (by rfl) (by rfl)) (rh_upd (rh_one (by rfl) (by rfl) (by rfl)) (rh_upd (rh_one (by rfl) (by rfl) (by rfl)) (rh_upd (rh_one (by rfl) (by rfl) (by rfl)) (rh_no _)))))), Nat.lt_succ_self _⟩
                                · try simp -implicitDefEqProofs only [go_sem, Nat.reduceAdd, c2437]
                                  obtain rfl := Option.some.inj H2438
                                  obtain rfl := Option.some.inj H1602
                                  obtain rfl := Option.some.inj H6
                                  exact end_pure (by first | (simp -implicitDefEqProofs only [go_sem, ↓reduceIte, Try.f8] <;> rfl) | rfl) (by first | rfl | (simp -implicitDefEqProofs only [go_sem, Int.reduceToNat, Int.reduceLT, Int.reduceLE, Int.reduceBEq, Int.reduceBNe, Nat.reduceLT, Nat.reduceBEq, Int.reduceEq, Nat.reduceEqDiff, Nat.reduceAdd, Nat.reduceSub, Nat.reduceMul, Nat.reduceLeDiff, reduceCtorEq, ↓reduceIte, eGTuple, eGBatch, eStorStore, eRef1Store, c2437]; done) | (simp -implicitDefEqProofs only [go_sem, Int.reduceToNat, Int.reduceLT, Int.reduceLE, Int.reduceBEq, Int.reduceBNe, Nat.reduceLT, Nat.reduceBEq, Int.reduceEq, Nat.reduceEqDiff, Nat.reduceAdd, Nat.reduceSub, Nat.reduceMul, Nat.reduceLeDiff, reduceCtorEq, ↓reduceIte, eGTuple, eGBatch, eStorStore, eRef1Store, c2437]; rfl)) rfl (by intro h; first | rfl | cases h)
                        · try simp -implicitDefEqProofs only [go_sem, ↓reduceIte, c2026]
                          obtain rfl := Option.some.inj H2027
                          exact ⟨⟨(g21, t1019, g22, t1116), rfl⟩, ren_mk [(0, 0), (1, 1), (2, 2), (3, 3), (4, 4)] (by rfl) (rf_upd (by rfl) (rf_upd (by rfl) (rf_upd (by rfl) (rf_upd (by rfl) (rf_upd (by rfl) (rf_upd (by rfl) (rf_upd (by rfl) (rf_no _)))))))) (rh_upd (rh_one (by rfl) (by rfl) (by rfl)) (rh_upd (rh_one (by rfl) (by rfl) (by rfl)) (rh_upd (rh_one (by rfl) (by rfl) (by rfl)) (rh_upd (rh_one (by rfl) (by rfl) (by rfl)) (rh_upd (rh_one (by rfl) (by rfl) (by rfl)) (rh_no _))))))⟩
                · rintro ⟨⟨g27, t10112, g28, t1119⟩, he2500⟩
                  replace he2500 := he2500.symm
                  subst he2500
                  try dsimp only at H1602
                  refine runR_seq ?_
                  refine runR_seq ?_
                  refine runR_take tab_ok fol 1 ?_
                  try simp -implicitDefEqProofs only [go_sem, Nat.reduceAdd]
                  obtain ⟨e_111, E2440, H2441⟩ := bind_inv H1602
                  refine runR_join (α := { y : Unit // e_111 = .inl y }) (fun | ⟨_, _⟩ => ⟨upd 0 (.v (.int .i64 t02)) (upd 2 (.d (.sl (List.map (eL eI) t2)) true) (upd 3 (.v (.int .i64 t3)) (upd 5 (.pt 0 0) (upd 9 (.v (.int .i64 t97)) noFr)))), upd 0 (some (.bx [.d (.sl (List.map eGTuple t1.add)) true, .d (.sl (List.map eGTuple t1.drop)) true, .d (.sl (List.map eGTuple t1.must)) true, .d (.sl (List.map eGTuple t1.not_)) true])) noHp, 1⟩) ?_ ?_
                  · refine runR_block ?_
                    refine runR_loop (α := { q : Nat × Int // law4_StorPlays_L13 n t3 t02 t10112 t1119 q.1 q.2 = some e_111 }) (fun | ⟨⟨c, t144⟩, _⟩ => ⟨upd 0 (.v (.int .i64 t02)) (upd 2 (.d (.sl (List.map (eL eI) t2)) true) (upd 3 (.v (.int .i64 t3)) (upd 5 (.pt 0 0) (upd 9 (.v (.int .i64 t97)) (upd 10 (.pt 1 0) (upd 11 (.pt 3 0) (upd 14 (.v (.int .i64 t144)) noFr))))))), upd 0 (some (.bx [.d (.sl (List.map eGTuple t1.add)) true, .d (.sl (List.map eGTuple t1.drop)) true, .d (.sl (List.map eGTuple t1.must)) true, .d (.sl (List.map eGTuple t1.not_)) true])) (upd 1 (some (.bx [.v (.int .i64 (if 1000000 < (if t02 < 0 then 0 else t02) then 1000000 else (if t02 < 0 then 0 else t02))), .so 2 g27 0 (t10112.length)])) (upd 2 (some (.rw (List.map (eL eGTuple) t10112) 1 g27 false false)) (upd 3 (some (.bx [.v (.int .i64 (if 1000000 < (if t02 < 0 then 0 else t02) then 1000000 else (if t02 < 0 then 0 else t02))), .so 4 g28 0 (t1119.length)])) (upd 4 (some (.rw (List.map (eL eGTuple) t1119) 1 g28 false false)) noHp)))), 5⟩) (fun q => q.1.1) ⟨(n, (-1)), E2440⟩ ?_ ?_
                    · exact ren_mk [(0, 0), (1, 1), (2, 2), (3, 3), (4, 4)] (by rfl) (rf_upd (by rfl) (rf_upd (by rfl) (rf_upd (by rfl) (rf_upd (by rfl) (rf_upd (by rfl) (rf_upd (by rfl) (rf_upd (by rfl) (rf_upd (by rfl) (rf_no _))))))))) (rh_upd (rh_one (by rfl) (by rfl) (by rfl)) (rh_upd (rh_one (by rfl) (by rfl) (by rfl)) (rh_upd (rh_one (by rfl) (by rfl) (by rfl)) (rh_upd (rh_one (by rfl) (by rfl) (by rfl)) (rh_upd (rh_one (by rfl) (by rfl) (by rfl)) (rh_no _))))))
                    · rintro ⟨⟨c, t144⟩, L2442⟩
                      rcases c with _ | c
                      · exact nomatch (show none = some _ from L2442)
                      · unfold law4_StorPlays_L13 at L2442
                        try dsimp only at L2442
                        refine runR_seq ?_
                        refine runR_take tab_ok fol 1 ?_
                        try simp -implicitDefEqProofs only [go_sem, Nat.reduceEqDiff, Nat.reduceAdd, reduceCtorEq, ↓reduceIte]
                        rcases ite_inv L2442 with ⟨c2469, H2470⟩ | ⟨c2469, H2470⟩
                        · try simp -implicitDefEqProofs only [go_sem, c2469]
                          refine runR_seq ?_
                          refine runR_block ?_
                          refine runR_seq ?_
                          refine runR_take tab_ok fol 1 ?_
                          try simp -implicitDefEqProofs only [go_sem, Nat.reduceEqDiff, Nat.reduceAdd, reduceCtorEq, ↓reduceIte]
                          refine runR_seq ?_
                          refine runR_seq ?_
                          refine runR_take tab_ok fol 1 ?_
                          try simp -implicitDefEqProofs only [go_sem, Nat.reduceEqDiff, Nat.reduceAdd, reduceCtorEq, ↓reduceIte]
                          obtain ⟨e_114, E2471, H2472⟩ := bind_inv H2470
                          refine runR_join (α := { y : Int // e_114 = y }) (fun | ⟨t152, _⟩ => ⟨upd 0 (.v (.int .i64 t02)) (upd 2 (.d (.sl (List.map (eL eI) t2)) true) (upd 3 (.v (.int .i64 t3)) (upd 5 (.pt 0 0) (upd 9 (.v (.int .i64 t97)) (upd 10 (.pt 1 0) (upd 11 (.pt 3 0) (upd 14 (.v (.int .i64 t144)) (upd 15 (.v (.int .i64 t152)) noFr)))))))), upd 0 (some (.bx [.d (.sl (List.map eGTuple t1.add)) true, .d (.sl (List.map eGTuple t1.drop)) true, .d (.sl (List.map eGTuple t1.must)) true, .d (.sl (List.map eGTuple t1.not_)) true])) (upd 1 (some (.bx [.v (.int .i64 (if 1000000 < (if t02 < 0 then 0 else t02) then 1000000 else (if t02 < 0 then 0 else t02))), .so 2 g27 0 (t10112.length)])) (upd 2 (some (.rw (List.map (eL eGTuple) t10112) 1 g27 false false)) (upd 3 (some (.bx [.v (.int .i64 (if 1000000 < (if t02 < 0 then 0 else t02) then 1000000 else (if t02 < 0 then 0 else t02))), .so 4 g28 0 (t1119.length)])) (upd 4 (some (.rw (List.map (eL eGTuple) t1119) 1 g28 false false)) noHp)))), 5⟩) ?_ ?_
                          · refine runR_take tab_ok fol 1 ?_
                            try simp -implicitDefEqProofs only [go_sem, ↓reduceIte]
                            rcases ite_inv E2471 with ⟨c2473, H2474⟩ | ⟨c2473, H2474⟩
                            · try simp -implicitDefEqProofs only [go_sem, Nat.reduceEqDiff, Nat.reduceAdd, reduceCtorEq, ↓reduceIte, c2473]
                              obtain rfl := Option.some.inj H2474
                              exact ⟨⟨t3, rfl⟩, ren_mk [(0, 0), (1, 1), (2, 2), (3, 3), (4, 4)] (by rfl) (rf_upd (by rfl) (rf_upd (by rfl) (rf_upd (by rfl) (rf_upd (by rfl) (rf_upd (by rfl) (rf_upd (by rfl) (rf_upd (by rfl) (rf_upd (by rfl) (rf_upd (by rfl) (rf_no _)))))))))) (rh_upd (rh_one (by rfl) (by rfl) (by rfl)) (rh_upd (rh_one (by rfl) (by rfl) (by rfl)) (rh_upd (rh_one (by rfl) (by rfl) (by rfl)) (rh_upd (rh_one (by rfl) (by rfl) (by rfl)) (rh_upd (rh_one (by rfl) (by rfl) (by rfl)) (rh_no _))))))⟩
                            · try simp -implicitDefEqProofs only [go_sem, c2473]
                              obtain rfl := Option.some.inj H2474
                              exact ⟨⟨t144, rfl⟩, ren_mk [(0, 0), (1, 1), (2, 2), (3, 3), (4, 4)] (by rfl) (rf_upd (by rfl) (rf_upd (by rfl) (rf_upd (by rfl) (rf_upd (by rfl) (rf_upd (by rfl) (rf_upd (by rfl) (rf_upd (by rfl) (rf_upd (by rfl) (rf_upd (by rfl) (rf_no _)))))))))) (rh_upd (rh_one (by rfl) (by rfl) (by rfl)) (rh_upd (rh_one (by rfl) (by rfl) (by rfl)) (rh_upd (rh_one (by rfl) (by rfl) (by rfl)) (rh_upd (rh_one (by rfl) (by rfl) (by rfl)) (rh_upd (rh_one (by rfl) (by rfl) (by rfl)) (rh_no _))))))⟩
                          · rintro ⟨t152, he2498⟩
                            replace he2498 := he2498.symm
                            subst he2498
                            try dsimp only at H2472
                            refine runR_seq ?_
                            refine runR_take tab_ok fol 1 ?_
                            obtain ⟨t1155, b2475, H2476⟩ := bind_inv H2472
                            try simp -implicitDefEqProofs only [go_sem, Nat.reduceEqDiff, Nat.reduceAdd, reduceCtorEq, ↓reduceIte]
                            refine onCall_pureA (by first | rfl | (simp -implicitDefEqProofs only [go_sem, Nat.reduceEqDiff, reduceCtorEq, ↓reduceIte, eStorStore]; done) | (simp -implicitDefEqProofs only [go_sem, Nat.reduceEqDiff, reduceCtorEq, ↓reduceIte, eStorStore]; rfl)) (PureA.of_pure (stor_Store_At_ok b2475)) (by first | exact .inr rfl | exact .inl rfl) ?_
                            try simp -implicitDefEqProofs only [go_sem, Nat.reduceEqDiff, Nat.reduceAdd, ↓reduceIte]
                            refine runR_seq ?_
                            obtain ⟨e_115, E2477, H2478⟩ := bind_inv H2476
                            refine runR_join (α := { y : Bool // e_115 = y }) (fun | ⟨t184, _⟩ => ⟨upd 0 (.v (.int .i64 t02)) (upd 2 (.d (.sl (List.map (eL eI) t2)) true) (upd 3 (.v (.int .i64 t3)) (upd 5 (.pt 0 0) (upd 9 (.v (.int .i64 t97)) (upd 10 (.pt 1 0) (upd 11 (.pt 3 0) (upd 14 (.v (.int .i64 t144)) (upd 15 (.v (.int .i64 t152)) (upd 16 (.d (.sl (List.map eGTuple t1155.1)) false) (upd 17 (.v (.bool t1155.2)) (upd 18 (.v (.bool t184)) noFr))))))))))), upd 0 (some (.bx [.d (.sl (List.map eGTuple t1.add)) true, .d (.sl (List.map eGTuple t1.drop)) true, .d (.sl (List.map eGTuple t1.must)) true, .d (.sl (List.map eGTuple t1.not_)) true])) (upd 1 (some (.bx [.v (.int .i64 (if 1000000 < (if t02 < 0 then 0 else t02) then 1000000 else (if t02 < 0 then 0 else t02))), .so 2 g27 0 (t10112.length)])) (upd 2 (some (.rw (List.map (eL eGTuple) t10112) 1 g27 false false)) (upd 3 (some (.bx [.v (.int .i64 (if 1000000 < (if t02 < 0 then 0 else t02) then 1000000 else (if t02 < 0 then 0 else t02))), .so 4 g28 0 (t1119.length)])) (upd 4 (some (.rw (List.map (eL eGTuple) t1119) 1 g28 false false)) noHp)))), 5⟩) ?_ ?_
                            · refine runR_take tab_ok fol 1 ?_
                              try simp -implicitDefEqProofs only [go_sem, Nat.reduceEqDiff, Nat.reduceAdd, reduceCtorEq, ↓reduceIte]
                              rcases ite_inv E2477 with ⟨c2479, H2480⟩ | ⟨c2479, H2480⟩
                              · try simp -implicitDefEqProofs only [go_sem, Nat.reduceEqDiff, Nat.reduceAdd, reduceCtorEq, ↓reduceIte, c2479]
                                obtain rfl := Option.some.inj H2480
                                exact ⟨⟨(decide (t152 < (t1119.length : Int))), rfl⟩, ren_mk [(0, 0), (1, 1), (2, 2), (3, 3), (4, 4)] (by rfl) (rf_upd (by rfl) (rf_upd (by rfl) (rf_upd (by rfl) (rf_upd (by rfl) (rf_upd (by rfl) (rf_upd (by rfl) (rf_upd (by rfl) (rf_upd (by rfl) (rf_upd (by rfl) (rf_upd (by rfl) (rf_upd (by rfl) (rf_upd (by rfl) (rf_no _))))))))))))) (rh_upd (rh_one (by rfl) (by rfl) (by rfl)) (rh_upd (rh_one (by rfl) (by rfl) (by rfl)) (rh_upd (rh_one (by rfl) (by rfl) (by rfl)) (rh_upd (rh_one (by rfl) (by rfl) (by rfl)) (rh_upd (rh_one (by rfl) (by rfl) (by rfl)) (rh_no _))))))⟩
                              · try simp -implicitDefEqProofs only [go_sem, Nat.reduceEqDiff, Nat.reduceAdd, ↓reduceIte, c2479]
                                obtain rfl := Option.some.inj H2480
                                exact ⟨⟨false, rfl⟩, ren_mk [(0, 0), (1, 1), (2, 2), (3, 3), (4, 4)] (by rfl) (rf_upd (by rfl) (rf_upd (by rfl) (rf_upd (by rfl) (rf_upd (by rfl) (rf_upd (by rfl) (rf_upd (by rfl) (rf_upd (by rfl) (rf_upd (by rfl) (rf_upd (by rfl) (rf_upd (by rfl) (rf_upd (by rfl) (rf_upd (by rfl) (rf_no _))))))))))))) (rh_upd (rh_one (by rfl) (by rfl) (by rfl)) (rh_upd (rh_one (by rfl) (by rfl) (by rfl)) (rh_upd (rh_one (by rfl) (by rfl) (by rfl)) (rh_upd (rh_one (by rfl) (by rfl) (by rfl)) (rh_upd (rh_one (by rfl) (by rfl) (by rfl)) (rh_no _))))))⟩
                            · rintro ⟨t184, he2497⟩
                              replace he2497 := he2497.symm
                              subst he2497
                              try dsimp only at H2478
                              refine runR_take tab_ok fol 3 ?_
                              try simp -implicitDefEqProofs only [go_sem, Nat.reduceEqDiff, Nat.reduceAdd, reduceCtorEq, ↓reduceIte]
                              rcases ite_inv H2478 with ⟨c2481, H2482⟩ | ⟨c2481, H2482⟩
                              · try simp -implicitDefEqProofs only [go_sem, Nat.reduceEqDiff, Nat.reduceAdd, reduceCtorEq, ↓reduceIte, c2481]
                                rcases ite_inv H2482 with ⟨c2483, H2484⟩ | ⟨c2483, H2484⟩
                                · obtain ⟨x86, b2485, H2486⟩ := bind_inv H2484
                                  obtain ⟨h2487, h2488⟩ := idx_inv b2485
                                  try simp only [Int.reduceToNat, Int.toNat_natCast] at h2488
                                  have h2489 := map_at (eL eGTuple) h2488
                                  have h2490 := at_lt h2488
                                  obtain ⟨t1434, b2491, H2492⟩ := bind_inv H2486
                                  try simp -implicitDefEqProofs only [go_sem, Nat.reduceEqDiff, Nat.reduceAdd, reduceCtorEq, ↓reduceIte, c2483, nat_of .i64 h2487, h2489, h2490]
                                  refine onCall_pure (by first | rfl | (simp -implicitDefEqProofs only [go_sem, Int.reduceToNat, Int.reduceLT, Int.reduceLE, Int.reduceBEq, Int.reduceBNe, Nat.reduceLT, Nat.reduceBEq, Int.reduceEq, Nat.reduceEqDiff, Nat.reduceAdd, Nat.reduceSub, Nat.reduceMul, Nat.reduceLeDiff, reduceCtorEq, ↓reduceIte, eGTuple, eGBatch, eStorStore, eRef1Store, c2481, c2483, nat_of .i64 h2487, h2489, h2490]; done) | (simp -implicitDefEqProofs only [go_sem, Int.reduceToNat, Int.reduceLT, Int.reduceLE, Int.reduceBEq, Int.reduceBNe, Nat.reduceLT, Nat.reduceBEq, Int.reduceEq, Nat.reduceEqDiff, Nat.reduceAdd, Nat.reduceSub, Nat.reduceMul, Nat.reduceLeDiff, reduceCtorEq, ↓reduceIte, eGTuple, eGBatch, eStorStore, eRef1Store, c2481, c2483, nat_of .i64 h2487, h2489, h2490]; rfl)) (ref1_Same_ok b2491) (by first | exact .inr rfl | exact .inl rfl) ?_
                                  try simp -implicitDefEqProofs only [go_sem, Nat.reduceEqDiff, Nat.reduceAdd, ↓reduceIte]
                                  rcases ite_inv H2492 with ⟨c2493, H2494⟩ | ⟨c2493, H2494⟩
                                  · try simp -implicitDefEqProofs only [go_sem, Nat.reduceEqDiff, Nat.reduceAdd, reduceCtorEq, ↓reduceIte, c2493]
                                    exact ⟨⟨(c, (IntKind.i64.wrap (t144 + 1))), H2494⟩, ren_mk [(0, 0), (1, 1), (2, 2), (3, 3), (4, 4)] (by rfl) (rf_upd (by rfl) (rf_upd (by rfl) (rf_upd (by rfl) (rf_upd (by rfl) (rf_upd (by rfl) (rf_upd (by rfl) (rf_upd (by rfl) (rf_upd (by rfl) (rf_no _))))))))) (rh_upd (rh_one (by rfl) (by rfl) (by rfl)) (rh_upd (rh_one (by rfl) (by rfl) (by rfl)) (rh_upd (rh_one (by rfl) (by rfl) (by rfl)) (rh_upd (rh_one (by rfl) (by rfl) (by rfl)) (rh_upd (rh_one (by rfl) (by rfl) (by rfl)) (rh_no _)))))), Nat.lt_succ_self _⟩
                                  · try simp -implicitDefEqProofs only [go_sem, Nat.reduceEqDiff, Nat.reduceAdd, ↓reduceIte, c2493]
                                    obtain rfl := Option.some.inj H2494
                                    obtain rfl := Option.some.inj H2441
                                    obtain rfl := Option.some.inj H6
                                    exact end_pure (by first | (simp -implicitDefEqProofs only [go_sem, ↓reduceIte, Try.f8] <;> rfl) | rfl) (by first | rfl | (simp -implicitDefEqProofs only [go_sem, Int.reduceToNat, Int.reduceLT, Int.reduceLE, Int.reduceBEq, Int.reduceBNe, Nat.reduceLT, Nat.reduceBEq, Int.reduceEq, Nat.reduceEqDiff, Nat.reduceAdd, Nat.reduceSub, Nat.reduceMul, Nat.reduceLeDiff, reduceCtorEq, ↓reduceIte, eGTuple, eGBatch, eStorStore, eRef1Store, c2481, c2483, nat_of .i64 h2487, h2489, h2490, c2493]; done) | (simp -implicitDefEqProofs only [go_sem, Int.reduceToNat, Int.reduceLT, Int.reduceLE, Int.reduceBEq, Int.reduceBNe, Nat.reduceLT, Nat.reduceBEq, Int.reduceEq, Nat.reduceEqDiff, Nat.reduceAdd, Nat.reduceSub, Nat.reduceMul, Nat.reduceLeDiff, reduceCtorEq, ↓reduceIte, eGTuple, eGBatch, eStorStore, eRef1Store, c2481, c2483, nat_of .i64 h2487, h2489, h2490, c2493]; rfl)) rfl (by intro h; first | rfl | cases h)
                                · try simp -implicitDefEqProofs only [go_sem, Nat.reduceEqDiff, Nat.reduceAdd, reduceCtorEq, ↓reduceIte, c2483]
                                  rcases ite_inv H2484 with ⟨c2495, H2496⟩ | ⟨c2495, H2496⟩
                                  · try simp -implicitDefEqProofs only [go_sem, Nat.reduceAdd, c2495]
                                    obtain rfl := Option.some.inj H2496
                                    obtain rfl := Option.some.inj H2441
                                    obtain rfl := Option.some.inj H6
                                    exact end_pure (by first | (simp -implicitDefEqProofs only [go_sem, ↓reduceIte, Try.f8] <;> rfl) | rfl) (by first | rfl | (simp -implicitDefEqProofs only [go_sem, Int.reduceToNat, Int.reduceLT, Int.reduceLE, Int.reduceBEq, Int.reduceBNe, Nat.reduceLT, Nat.reduceBEq, Int.reduceEq, Nat.reduceEqDiff, Nat.reduceAdd, Nat.reduceSub, Nat.reduceMul, Nat.reduceLeDiff, reduceCtorEq, ↓reduceIte, eGTuple, eGBatch, eStorStore, eRef1Store, c2481, c2483, c2495]; done) | (simp -implicitDefEqProofs only [go_sem, Int.reduceToNat, Int.reduceLT, Int.reduceLE, Int.reduceBEq, Int.reduceBNe, Nat.reduceLT, Nat.reduceBEq, Int.reduceEq, Nat.reduceEqDiff, Nat.reduceAdd, Nat.reduceSub, Nat.reduceMul, Nat.reduceLeDiff, reduceCtorEq, ↓reduceIte, eGTuple, eGBatch, eStorStore, eRef1Store, c2481, c2483, c2495]; rfl)) rfl (by intro h; first | rfl | cases h)
                                  · try simp -implicitDefEqProofs only [go_sem, Nat.reduceEqDiff, Nat.reduceAdd, reduceCtorEq, ↓reduceIte, c2495]
                                    exact ⟨⟨(c, (IntKind.i64.wrap (t144 + 1))), H2496⟩, ren_mk [(0, 0), (1, 1), (2, 2), (3, 3), (4, 4)] (by rfl) (rf_upd (by rfl) (rf_upd (by rfl) (rf_upd (by rfl) (rf_upd (by rfl) (rf_upd (by rfl) (rf_upd (by rfl) (rf_upd (by rfl) (rf_upd (by rfl) (rf_no _))))))))) (rh_upd (rh_one (by rfl) (by rfl) (by rfl)) (rh_upd (rh_one (by rfl) (by rfl) (by rfl)) (rh_upd (rh_one (by rfl) (by rfl) (by rfl)) (rh_upd (rh_one (by rfl) (by rfl) (by rfl)) (rh_upd (rh_one (by rfl) (by rfl) (by rfl)) (rh_no _)))))), Nat.lt_succ_self _⟩
                              · try simp -implicitDefEqProofs only [go_sem, Nat.reduceEqDiff, Nat.reduceAdd, ↓reduceIte, c2481]
                                obtain rfl := Option.some.inj H2482
                                obtain rfl := Option.some.inj H2441
                                obtain rfl := Option.some.inj H6
                                exact end_pure (by first | (simp -implicitDefEqProofs only [go_sem, ↓reduceIte, Try.f8] <;> rfl) | rfl) (by first | rfl | (simp -implicitDefEqProofs only [go_sem, Int.reduceToNat, Int.reduceLT, Int.reduceLE, Int.reduceBEq, Int.reduceBNe, Nat.reduceLT, Nat.reduceBEq, Int.reduceEq, Nat.reduceEqDiff, Nat.reduceAdd, Nat.reduceSub, Nat.reduceMul, Nat.reduceLeDiff, reduceCtorEq, ↓reduceIte, eGTuple, eGBatch, eStorStore, eRef1Store, c2481]; done) | (simp -implicitDefEqProofs only [go_sem, Int.reduceToNat, Int.reduceLT, Int.reduceLE, Int.reduceBEq, Int.reduceBNe, Nat.reduceLT, Nat.reduceBEq, Int.reduceEq, Nat.reduceEqDiff, Nat.reduceAdd, Nat.reduceSub, Nat.reduceMul, Nat.reduceLeDiff, reduceCtorEq, ↓reduceIte, eGTuple, eGBatch, eStorStore, eRef1Store, c2481]; rfl)) rfl (by intro h; first | rfl | cases h)
                        · try simp -implicitDefEqProofs only [go_sem, ↓reduceIte, c2469]
                          obtain rfl := Option.some.inj H2470
                          exact ⟨⟨(), rfl⟩, ren_mk [(0, 0)] (by rfl) (rf_upd (by rfl) (rf_upd (by rfl) (rf_upd (by rfl) (rf_upd (by rfl) (rf_upd (by rfl) (rf_no _)))))) (rh_upd (rh_one (by rfl) (by rfl) (by rfl)) (rh_no _))⟩
                  · rintro ⟨_, he2499⟩
                    replace he2499 := he2499.symm
                    subst he2499
                    try dsimp only at H2441
                    refine runR_take tab_ok fol 3 ?_
                    try simp -implicitDefEqProofs only [go_sem, Nat.reduceEqDiff, Nat.reduceAdd, reduceCtorEq, ↓reduceIte]
                    exact ⟨⟨(c, ((IntKind.i64.wrap (an t02 31 : Int)), (IntKind.i64.wrap (t97 + 1)))), H2441⟩, ren_mk [(0, 0)] (by rfl) (rf_upd (by rfl) (rf_upd (by rfl) (rf_upd (by rfl) (rf_upd (by rfl) (rf_upd (by rfl) (rf_no _)))))) (rh_upd (rh_one (by rfl) (by rfl) (by rfl)) (rh_no _)), Nat.lt_succ_self _⟩
          · try simp -implicitDefEqProofs only [go_sem, ↓reduceIte, c1254]
            obtain rfl := Option.some.inj H1255
            exact ⟨⟨(), rfl⟩, ren_mk [] (by rfl) (rf_no _) (rh_no _)⟩
    · rintro ⟨_, he2504⟩
      replace he2504 := he2504.symm
      subst he2504
      try dsimp only at H6
      refine runR_take tab_ok fol 1 ?_
      obtain ⟨t158, b2502, H2503⟩ := bind_inv H6
      try simp -implicitDefEqProofs only [go_sem, Nat.reduceAdd]
      refine onCall_pure (by first | rfl | (simp -implicitDefEqProofs only [go_sem, Int.reduceToNat, Int.reduceLT, Int.reduceLE, Int.reduceBEq, Int.reduceBNe, Nat.reduceLT, Nat.reduceBEq, Int.reduceEq, Nat.reduceEqDiff, Nat.reduceAdd, Nat.reduceSub, Nat.reduceMul, Nat.reduceLeDiff, reduceCtorEq, ↓reduceIte, eGTuple, eGBatch, eStorStore, eRef1Store]; done) | (simp -implicitDefEqProofs only [go_sem, Int.reduceToNat, Int.reduceLT, Int.reduceLE, Int.reduceBEq, Int.reduceBNe, Nat.reduceLT, Nat.reduceBEq, Int.reduceEq, Nat.reduceEqDiff, Nat.reduceAdd, Nat.reduceSub, Nat.reduceMul, Nat.reduceLeDiff, reduceCtorEq, ↓reduceIte, eGTuple, eGBatch, eStorStore, eRef1Store]; rfl)) (law4_awake_ok b2502) (by first | exact .inr rfl | exact .inl rfl) ?_
      try simp -implicitDefEqProofs only [go_sem, Nat.reduceAdd, ↓reduceIte]
      obtain rfl := Option.some.inj H2503
      exact end_pure (by first | (simp -implicitDefEqProofs only [go_sem, ↓reduceIte, Try.f8] <;> rfl) | rfl) (by first | rfl | (simp -implicitDefEqProofs only [go_sem, Int.reduceToNat, Int.reduceLT, Int.reduceLE, Int.reduceBEq, Int.reduceBNe, Nat.reduceLT, Nat.reduceBEq, Int.reduceEq, Nat.reduceEqDiff, Nat.reduceAdd, Nat.reduceSub, Nat.reduceMul, Nat.reduceLeDiff, reduceCtorEq, ↓reduceIte, eGTuple, eGBatch, eStorStore, eRef1Store]; done) | (simp -implicitDefEqProofs only [go_sem, Int.reduceToNat, Int.reduceLT, Int.reduceLE, Int.reduceBEq, Int.reduceBNe, Nat.reduceLT, Nat.reduceBEq, Int.reduceEq, Nat.reduceEqDiff, Nat.reduceAdd, Nat.reduceSub, Nat.reduceMul, Nat.reduceLeDiff, reduceCtorEq, ↓reduceIte, eGTuple, eGBatch, eStorStore, eRef1Store]; rfl)) rfl (by intro h; first | rfl | cases h)
end Go.Proofs.Ytdckfddlcmkdlaa.Ab
