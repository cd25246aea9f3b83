/-
 Functions, read off the code.
-/
import Derived.Test.YtkkhgdmmbhpckaaGreatNms
import Derived.Test.YtkkhgdmmbhpckaaGreatSot
namespace Go.Proofs.YtkkhgdmmbhpckaaGreat.Ab
open Go.RowKit
def ref1_words_L2 (n : Nat) (s : ByteArray) : Nat → Int → Option (Int)
 | 0, _ => none
 | c + 1, k5 =>
  (if (decide (k5 < (s.size : Int))) then
   (bidx s k5).bind fun ch8 =>
   (if (ch8 != 32) then
    (if (ch8 != 9) then
     ref1_words_L2 n s c (IntKind.i64.wrap (k5 + 1))
    else
     some k5)
   else
    some k5)
  else
   some k5)

def ref1_words_L1 (n : Nat) (s : ByteArray) (at_ : Int) : Nat → (List GWord × Int) → Option ((List GWord) ⊕ (List GWord))
 | 0, _ => none
 | c + 1, (out, i) =>
  (if (decide (i < (s.size : Int))) then
   (
    (bidx s i).bind fun ch5 =>
    (if (ch5 == 32) then
     some true
    else
     some (ch5 == 9)) : Option (Bool)).bind fun t212 =>
   (if t212 then
    ref1_words_L1 n s at_ c (out, (IntKind.i64.wrap (i + 1)))
   else
    (bidx s i).bind fun ch6 =>
    (if (ch6 == 35) then
     some (.inr out)
    else
     (
      ref1_words_L2 n s n i : Option (Int)).bind fun k7 =>
     (bslc s i k7).bind fun s3 =>
     (app out [(⟨s3, (IntKind.i64.wrap (at_ + i))⟩ : GWord)]).bind fun l =>
     ref1_words_L1 n s at_ c (l, k7)))
  else
   some (.inl out))

def ref1_words (n : Nat) (s : ByteArray) (at_ : Int) : Option (List GWord) :=
 (
  ref1_words_L1 n s at_ n ([], 0) : Option ((List GWord) ⊕ (List GWord))).bind fun
  | .inl out3 =>
   some out3
  | .inr r => some r
theorem ref1_words_ok {n : Nat} {s : ByteArray} {at_ : Int} {r : List GWord} (H : ref1_words n s at_ = some r) : PureOK Tryz.prog 74 [D.v (.string s), D.v (.int .i64 at_)] (D.sl (List.map eGWord r)) true := by
 unfold ref1_words at H
 refine pure_runR (tab := tab) tab_ok Tryz.func74 rfl (by kernel_rfl) (by kernel_rfl) (by simp [Tryz.f74]) ?_
 refine runR_seq ?_
 refine runR_take tab_ok fol 1 ?_
 try simp -implicitDefEqProofs only [go_sem]
 refine runR_seq ?_
 refine runR_take tab_ok fol 1 ?_
 try simp -implicitDefEqProofs only [go_sem, Nat.reduceAdd]
 refine runR_seq ?_
 refine runR_take tab_ok fol 1 ?_
 try simp -implicitDefEqProofs only [go_sem, Nat.reduceAdd]
 refine runR_seq ?_
 obtain ⟨e_, E1, H2⟩ := bind_inv H
 refine runR_join (α := { y : List GWord // e_ = .inl y } × Nat) (fun | ⟨⟨out3, _⟩, g8⟩ => ⟨upd 5 (accV 0 g8 (List.map eGWord out3)) noFr, upd 0 (accO 2 g8 false (List.map eGWord out3)) noHp, 1⟩) ?_ ?_
 ·refine runR_block ?_
  refine runR_loop (α := { q : (Nat × (List GWord × Int)) × Nat // ref1_words_L1 n s at_ q.1.1 q.1.2 = some e_ }) (fun | ⟨⟨⟨c, ⟨out, i⟩⟩, g⟩, _⟩ => ⟨upd 0 (.v (.string s)) (upd 1 (.v (.int .i64 at_)) (upd 5 (accV 0 g (List.map eGWord out)) (upd 6 (.v (.int .i64 i)) noFr))), upd 0 (accO 2 g false (List.map eGWord out)) noHp, 1⟩) (fun q => q.1.1.1) ⟨((n, ([], 0)), 0), E1⟩ ?_ ?_
  ·exact ren_mk [] (by rfl) (ru_ (ru_ (ru_ (ru_ (rf_no _))))) (rh_upd rh_accN (rh_no _))
  ·rintro ⟨⟨⟨c, ⟨out, i⟩⟩, g⟩, L3⟩
   rcases c with _ | c
   ·exact nomatch (show none = some _ from L3)
   ·unfold ref1_words_L1 at L3
    try dsimp only at L3
    refine runR_seq ?_
    refine runR_take tab_ok fol 1 ?_
    try simp -implicitDefEqProofs only [go_sem, Nat.reduceEqDiff, Nat.reduceAdd, reduceCtorEq, ↓reduceIte]
    rcases ite_inv L3 with ⟨c60, H61⟩ | ⟨c60, H61⟩
    ·try simp -implicitDefEqProofs only [go_sem, c60]
     refine runR_block ?_
     refine runR_seq ?_
     refine runR_seq ?_
     obtain ⟨e_4, E62, H63⟩ := bind_inv H61
     refine runR_join (α := { y : Bool // e_4 = y } × Nat) (fun | ⟨⟨t212, _⟩, g2⟩ => ⟨upd 0 (.v (.string s)) (upd 1 (.v (.int .i64 at_)) (upd 5 (accV 0 g2 (List.map eGWord out)) (upd 6 (.v (.int .i64 i)) (upd 21 (.v (.bool t212)) noFr)))), upd 0 (accO 2 g2 false (List.map eGWord out)) noHp, 1⟩) ?_ ?_
     ·refine runR_take tab_ok fol 1 ?_
      obtain ⟨ch5, b64, H65⟩ := bind_inv E62
      obtain ⟨h66, by_5, h67, h68⟩ := bidx_inv b64
      try simp only [Int.reduceToNat, Int.toNat_natCast] at h67
      try simp -implicitDefEqProofs only [go_sem, Nat.reduceEqDiff, Nat.reduceAdd, reduceCtorEq, ↓reduceIte, nat_of .i64 h66, h67, h68.symm]
      rcases ite_inv H65 with ⟨c69, H70⟩ | ⟨c69, H70⟩
      ·try simp -implicitDefEqProofs only [go_sem, Nat.reduceEqDiff, Nat.reduceAdd, ↓reduceIte, c69]
       obtain rfl := Option.some.inj H70
       exact ⟨⟨⟨true, rfl⟩, g⟩, ren_mk [(0, 0)] (by rfl) (ru_ (ru_ (rn_ (ru_ (ru_ (rf_no _)))))) (ra_ (rh_no _))⟩
      ·try simp -implicitDefEqProofs only [go_sem, Nat.reduceEqDiff, Nat.reduceAdd, reduceCtorEq, ↓reduceIte, nat_of .i64 h66, h67, h68.symm, c69]
       obtain rfl := Option.some.inj H70
       exact ⟨⟨⟨(ch5 == 9), rfl⟩, g⟩, ren_mk [(0, 0)] (by rfl) (ru_ (ru_ (rn_ (ru_ (ru_ (rf_no _)))))) (ra_ (rh_no _))⟩
     ·rintro ⟨⟨t212, he123⟩, g2⟩
      replace he123 := he123.symm
      subst he123
      try dsimp only at H63
      refine runR_take tab_ok fol 1 ?_
      try simp -implicitDefEqProofs only [go_sem, Nat.reduceEqDiff, reduceCtorEq, ↓reduceIte]
      rcases ite_inv H63 with ⟨c71, H72⟩ | ⟨c71, H72⟩
      ·try simp -implicitDefEqProofs only [go_sem, Nat.reduceEqDiff, Nat.reduceAdd, reduceCtorEq, ↓reduceIte, c71]
       exact ⟨⟨((c, (out, (IntKind.i64.wrap (i + 1)))), g2), H72⟩, ren_mk [(0, 0)] (by rfl) (ru_ (ru_ (rn_ (ru_ (rf_no _))))) (ra_ (rh_no _)), Nat.lt_succ_self _⟩
      ·try simp -implicitDefEqProofs only [go_sem, c71]
       refine runR_seq ?_
       refine runR_take tab_ok fol 1 ?_
       obtain ⟨ch6, b73, H74⟩ := bind_inv H72
       obtain ⟨h75, by_6, h76, h77⟩ := bidx_inv b73
       try simp only [Int.reduceToNat, Int.toNat_natCast] at h76
       try simp -implicitDefEqProofs only [go_sem, Nat.reduceEqDiff, Nat.reduceAdd, reduceCtorEq, ↓reduceIte, nat_of .i64 h75, h76, h77.symm]
       rcases ite_inv H74 with ⟨c78, H79⟩ | ⟨c78, H79⟩
       ·try simp -implicitDefEqProofs only [go_sem, Nat.reduceEqDiff, Nat.reduceAdd, reduceCtorEq, ↓reduceIte, c78]
        obtain rfl := Option.some.inj H79
        obtain rfl := Option.some.inj H2
        exact end_pure (by simp -implicitDefEqProofs only [go_sem, ↓reduceIte, Tryz.f74] <;> rfl) (by simp -implicitDefEqProofs only [go_sem, ↓reduceIte]; rfl) rfl (by intro h; rfl)
       ·try simp -implicitDefEqProofs only [go_sem, c78]
        refine runR_seq ?_
        refine runR_take tab_ok fol 1 ?_
        try simp -implicitDefEqProofs only [go_sem, Nat.reduceEqDiff, Nat.reduceAdd, reduceCtorEq, ↓reduceIte]
        refine runR_seq ?_
        obtain ⟨e_5, E80, H81⟩ := bind_inv H79
        refine runR_join (α := { y : Int // e_5 = y } × Nat) (fun | ⟨⟨k7, _⟩, g6⟩ => ⟨upd 0 (.v (.string s)) (upd 1 (.v (.int .i64 at_)) (upd 5 (accV 0 g6 (List.map eGWord out)) (upd 6 (.v (.int .i64 i)) (upd 7 (.v (.int .i64 k7)) noFr)))), upd 0 (accO 2 g6 false (List.map eGWord out)) noHp, 1⟩) ?_ ?_
        ·refine runR_block ?_
         refine runR_loop (α := { q : (Nat × Int) × Nat // ref1_words_L2 n s q.1.1 q.1.2 = some e_5 }) (fun | ⟨⟨⟨c, k5⟩, g4⟩, _⟩ => ⟨upd 0 (.v (.string s)) (upd 1 (.v (.int .i64 at_)) (upd 5 (accV 0 g4 (List.map eGWord out)) (upd 6 (.v (.int .i64 i)) (upd 7 (.v (.int .i64 k5)) noFr)))), upd 0 (accO 2 g4 false (List.map eGWord out)) noHp, 1⟩) (fun q => q.1.1.1) ⟨((n, i), g2), E80⟩ ?_ ?_
         ·exact ren_mk [(0, 0)] (by rfl) (ru_ (ru_ (rn_ (ru_ (ru_ (rf_no _)))))) (ra_ (rh_no _))
         ·rintro ⟨⟨⟨c, k5⟩, g4⟩, L82⟩
          rcases c with _ | c
          ·exact nomatch (show none = some _ from L82)
          ·unfold ref1_words_L2 at L82
           try dsimp only at L82
           refine runR_take tab_ok fol 1 ?_
           try simp -implicitDefEqProofs only [go_sem, Nat.reduceEqDiff, Nat.reduceAdd, reduceCtorEq, ↓reduceIte]
           rcases ite_inv L82 with ⟨c94, H95⟩ | ⟨c94, H95⟩
           ·obtain ⟨ch8, b96, H97⟩ := bind_inv H95
            obtain ⟨h98, by_8, h99, h100⟩ := bidx_inv b96
            try simp only [Int.reduceToNat, Int.toNat_natCast] at h99
            try simp -implicitDefEqProofs only [go_sem, Nat.reduceEqDiff, Nat.reduceAdd, reduceCtorEq, ↓reduceIte, c94, nat_of .i64 h98, h99, h100.symm]
            rcases ite_inv H97 with ⟨c101, H102⟩ | ⟨c101, H102⟩
            ·try simp -implicitDefEqProofs only [go_sem, Nat.reduceEqDiff, Nat.reduceAdd, reduceCtorEq, ↓reduceIte, nat_of .i64 h98, h99, h100.symm, c101]
             rcases ite_inv H102 with ⟨c103, H104⟩ | ⟨c103, H104⟩
             ·try simp -implicitDefEqProofs only [go_sem, Nat.reduceEqDiff, Nat.reduceAdd, reduceCtorEq, ↓reduceIte, c103]
              exact ⟨⟨((c, (IntKind.i64.wrap (k5 + 1))), g4), H104⟩, ren_mk [(0, 0)] (by rfl) (ru_ (ru_ (rn_ (ru_ (ru_ (rf_no _)))))) (ra_ (rh_no _)), Nat.lt_succ_self _⟩
             ·try simp -implicitDefEqProofs only [go_sem, ↓reduceIte, c103]
              obtain rfl := Option.some.inj H104
              exact ⟨⟨⟨k5, rfl⟩, g4⟩, ren_mk [(0, 0)] (by rfl) (ru_ (ru_ (rn_ (ru_ (ru_ (rf_no _)))))) (ra_ (rh_no _))⟩
            ·try simp -implicitDefEqProofs only [go_sem, Nat.reduceEqDiff, Nat.reduceAdd, ↓reduceIte, c101]
             obtain rfl := Option.some.inj H102
             exact ⟨⟨⟨k5, rfl⟩, g4⟩, ren_mk [(0, 0)] (by rfl) (ru_ (ru_ (rn_ (ru_ (ru_ (rf_no _)))))) (ra_ (rh_no _))⟩
           ·try simp -implicitDefEqProofs only [go_sem, Nat.reduceEqDiff, Nat.reduceAdd, ↓reduceIte, c94]
            obtain rfl := Option.some.inj H95
            exact ⟨⟨⟨k5, rfl⟩, g4⟩, ren_mk [(0, 0)] (by rfl) (ru_ (ru_ (rn_ (ru_ (ru_ (rf_no _)))))) (ra_ (rh_no _))⟩
        ·rintro ⟨⟨k7, he122⟩, g6⟩
         replace he122 := he122.symm
         subst he122
         try dsimp only at H81
         refine runR_take tab_ok fol 2 ?_
         obtain ⟨s3, b105, H106⟩ := bind_inv H81
         obtain ⟨h107, h108, h109, h110⟩ := bslc_inv b105
         have h111 : Int.toNat i ≤ Int.toNat k7 := by omega
         have h112 : Int.toNat k7 ≤ s.size := by omega
         have h113 : ByteArray.extract s (Int.toNat i) (Int.toNat k7) = s3 := h110.symm
         try simp only [Int.toNat_natCast] at h111 h112 h113
         obtain ⟨l, b114, H115⟩ := bind_inv H106
         obtain ⟨h116, h117⟩ := app_inv b114
         have h116 : out.length + 1 ≤ 4294967296 := h116
         have h118 : List.map eGWord out ++ [[.v (.string s3), .v (.int .i64 (IntKind.i64.wrap (at_ + i)))]] = List.map eGWord l := app_map eGWord h117
         have h119 : out.length + 1 = l.length := app_len h117
         have h120 : l.length ≤ 4294967296 := by omega
         have q121 : 0 < l.length := by omega
         try simp -implicitDefEqProofs only [go_sem, Nat.reduceLT, Nat.reduceEqDiff, Nat.reduceAdd, Nat.reduceMul, Nat.reduceLeDiff, reduceCtorEq, ↓reduceIte, nat_of .i64 h107, nat_of .i64 (Int.le_trans h107 h108), h111, h112, h113, h118, h119, h120]
         rcases out with _ | ⟨q0, q1⟩
         ·try simp only [List.map_nil, accI, accN]
          exact ⟨⟨((c, (l, k7)), 0), H115⟩, ren_mk [(0, 11)] (by rfl) (ru_ (ru_ (rf_upd (by exact ren_accP (by rfl) q121) (ru_ (rf_no _))))) (rh_upd (by exact rh_accP (by rfl) q121 (by rfl)) (rh_no _)), Nat.lt_succ_self _⟩
         ·try simp only [List.map_cons, accI, accN]
          exact ⟨⟨((c, (l, k7)), (g6 + 1)), H115⟩, ren_mk [(0, 0)] (by rfl) (ru_ (ru_ (rf_upd (by exact ren_accP (by rfl) q121) (ru_ (rf_no _))))) (rh_upd (by exact rh_accP (by rfl) q121 (by rfl)) (rh_no _)), Nat.lt_succ_self _⟩
    ·try simp -implicitDefEqProofs only [go_sem, ↓reduceIte, c60]
     obtain rfl := Option.some.inj H61
     exact ⟨⟨⟨out, rfl⟩, g⟩, ren_mk [(0, 0)] (by rfl) (rn_ (rf_no _)) (ra_ (rh_no _))⟩
 ·rintro ⟨⟨out3, he124⟩, g8⟩
  replace he124 := he124.symm
  subst he124
  try dsimp only at H2
  refine runR_take tab_ok fol 1 ?_
  try simp -implicitDefEqProofs only [go_sem, Nat.reduceAdd, ↓reduceIte]
  obtain rfl := Option.some.inj H2
  exact end_pure (by simp -implicitDefEqProofs only [go_sem, ↓reduceIte, Tryz.f74] <;> rfl) (by simp -implicitDefEqProofs only [go_sem, ↓reduceIte]; rfl) rfl (by intro h; rfl)
def ref1_Lines_L1 (n : Nat) (t0 : ByteArray) : Nat → (Int × Int) → Option (Int)
 | 0, _ => none
 | c + 1, (t5, t6) =>
  (if (decide (t6 < (t0.size : Int))) then
   (bidx t0 t6).bind fun ch2 =>
   (if (ch2 == 10) then
    ref1_Lines_L1 n t0 c ((IntKind.i64.wrap (t5 + 1)), (IntKind.i64.wrap (t6 + 1)))
   else
    ref1_Lines_L1 n t0 c (t5, (IntKind.i64.wrap (t6 + 1))))
  else
   some t5)

def ref1_Lines_L2 (n : Nat) (t0 : ByteArray) : Nat → Int → Option ((Unit) ⊕ (List GLine × Int × Int))
 | 0, _ => none
 | c + 1, t7 =>
  (if (decide (t7 < (t0.size : Int))) then
   (bidx t0 t7).bind fun ch5 =>
   (if (ch5 == 13) then
    (if ((IntKind.i64.wrap (t7 + 1)) == (t0.size : Int)) then
     ref1_Lines_L2 n t0 c (IntKind.i64.wrap (t7 + 1))
    else
     (bidx t0 (IntKind.i64.wrap (t7 + 1))).bind fun ch6 =>
     (if (ch6 == 10) then
      ref1_Lines_L2 n t0 c (IntKind.i64.wrap (t7 + 1))
     else
      (if (ch5 == 9) then
       ref1_Lines_L2 n t0 c (IntKind.i64.wrap (t7 + 1))
      else
       (if (ch5 == 10) then
        ref1_Lines_L2 n t0 c (IntKind.i64.wrap (t7 + 1))
       else
        (if (decide (32 ≤ ch5)) then
         (if (decide (ch5 ≤ 126)) then
          ref1_Lines_L2 n t0 c (IntKind.i64.wrap (t7 + 1))
         else
          some (.inr ([], t7, 7)))
        else
         some (.inr ([], t7, 7)))))))
   else
    (if (ch5 == 9) then
     ref1_Lines_L2 n t0 c (IntKind.i64.wrap (t7 + 1))
    else
     (if (ch5 == 10) then
      ref1_Lines_L2 n t0 c (IntKind.i64.wrap (t7 + 1))
     else
      (if (decide (32 ≤ ch5)) then
       (if (decide (ch5 ≤ 126)) then
        ref1_Lines_L2 n t0 c (IntKind.i64.wrap (t7 + 1))
       else
        some (.inr ([], t7, 7)))
      else
       some (.inr ([], t7, 7))))))
  else
   some (.inl ()))

def ref1_Lines_L3 (n : Nat) (t0 : ByteArray) : Nat → (List GLine × Int × Int) → Option (List GLine)
 | 0, _ => none
 | c + 1, (t9, t10, t11) =>
  (if (decide (t11 ≤ (t0.size : Int))) then
   (
    (if (decide (t11 < (t0.size : Int))) then
     (bidx t0 t11).bind fun ch8 =>
     some (ch8 != 10)
    else
     some false) : Option (Bool)).bind fun t902 =>
   (if t902 then
    ref1_Lines_L3 n t0 c (t9, t10, (IntKind.i64.wrap (t11 + 1)))
   else
    (
     (if (decide (t10 < t11)) then
      (bidx t0 (IntKind.i64.wrap (t11 - 1))).bind fun ch9 =>
      some (ch9 == 13)
     else
      some false) : Option (Bool)).bind fun t101 =>
    (
     (if t101 then
      some (IntKind.i64.wrap (t11 - 1))
     else
      some t11) : Option (Int)).bind fun t12 =>
    (bslc t0 t10 t12).bind fun s2 =>
    (ref1_words n s2 t10).bind fun t1092 =>
    (if (decide (0 < (t1092.length : Int))) then
     (idx t1092 0).bind fun x2 =>
     (app t9 [(⟨x2.at_, t1092⟩ : GLine)]).bind fun l =>
     ref1_Lines_L3 n t0 c (l, (IntKind.i64.wrap (t11 + 1)), (IntKind.i64.wrap (t11 + 1)))
    else
     ref1_Lines_L3 n t0 c (t9, (IntKind.i64.wrap (t11 + 1)), (IntKind.i64.wrap (t11 + 1)))))
  else
   some t9)

def ref1_Lines (n : Nat) (t0 : ByteArray) : Option (List GLine × Int × Int) :=
 (
  ref1_Lines_L1 n t0 n (0, 0) : Option (Int)).bind fun t53 =>
 (
  (if (decide (200000 < (t0.size : Int))) then
   some true
  else
   some (decide (5000 < t53))) : Option (Bool)).bind fun t32 =>
 (if t32 then
  some ([], 0, 8)
 else
  (
   ref1_Lines_L2 n t0 n 0 : Option ((Unit) ⊕ (List GLine × Int × Int))).bind fun
   | .inl _ =>
    (
     ref1_Lines_L3 n t0 n ([], 0, 0) : Option (List GLine)).bind fun t93 =>
    some (t93, 0, 0)
   | .inr r => some r)
set_option maxHeartbeats 8000000 in
theorem ref1_Lines_ok {n : Nat} {t0 : ByteArray} {r : List GLine × Int × Int} (H : ref1_Lines n t0 = some r) : PureOK Tryz.prog 47 [D.v (.string t0)] (D.tu [D.sl (List.map eGLine r.1), D.v (.int .i64 r.2.1), D.v (.int .i64 r.2.2)]) true := by
 unfold ref1_Lines at H
 refine pure_runR (tab := tab) tab_ok Tryz.func47 rfl (by kernel_rfl) (by kernel_rfl) (by simp [Tryz.f47]) ?_
 refine runR_seq ?_
 refine runR_take tab_ok fol 1 ?_
 try simp -implicitDefEqProofs only [go_sem, Nat.reduceAdd]
 refine runR_seq ?_
 refine runR_take tab_ok fol 1 ?_
 try simp -implicitDefEqProofs only [go_sem, Nat.reduceAdd]
 refine runR_seq ?_
 refine runR_seq ?_
 refine runR_take tab_ok fol 1 ?_
 try simp -implicitDefEqProofs only [go_sem, Nat.reduceAdd]
 obtain ⟨e_, E1, H2⟩ := bind_inv H
 refine runR_join (α := { y : Int // e_ = y }) (fun | ⟨t53, _⟩ => ⟨upd 0 (.v (.string t0)) (upd 5 (.v (.int .i64 t53)) noFr), noHp, 0⟩) ?_ ?_
 ·refine runR_block ?_
  refine runR_loop (α := { q : Nat × (Int × Int) // ref1_Lines_L1 n t0 q.1 q.2 = some e_ }) (fun | ⟨⟨c, ⟨t5, t6⟩⟩, _⟩ => ⟨upd 0 (.v (.string t0)) (upd 5 (.v (.int .i64 t5)) (upd 6 (.v (.int .i64 t6)) noFr)), noHp, 0⟩) (fun q => q.1.1) ⟨(n, (0, 0)), E1⟩ ?_ ?_
  ·exact ren_mk [] (by rfl) (ru_ (ru_ (ru_ (rf_no _)))) (rh_no _)
  ·rintro ⟨⟨c, ⟨t5, t6⟩⟩, L3⟩
   rcases c with _ | c
   ·exact nomatch (show none = some _ from L3)
   ·unfold ref1_Lines_L1 at L3
    try dsimp only at L3
    refine runR_take tab_ok fol 1 ?_
    try simp -implicitDefEqProofs only [go_sem, Nat.reduceEqDiff, Nat.reduceAdd, reduceCtorEq, ↓reduceIte]
    rcases ite_inv L3 with ⟨c13, H14⟩ | ⟨c13, H14⟩
    ·obtain ⟨ch2, b15, H16⟩ := bind_inv H14
     obtain ⟨h17, by_2, h18, h19⟩ := bidx_inv b15
     try simp only [Int.reduceToNat, Int.toNat_natCast] at h18
     try simp -implicitDefEqProofs only [go_sem, Nat.reduceEqDiff, Nat.reduceAdd, reduceCtorEq, ↓reduceIte, c13, nat_of .i64 h17, h18, h19.symm]
     rcases ite_inv H16 with ⟨c20, H21⟩ | ⟨c20, H21⟩
     ·try simp -implicitDefEqProofs only [go_sem, Nat.reduceEqDiff, Nat.reduceAdd, reduceCtorEq, ↓reduceIte, c20]
      exact ⟨⟨(c, ((IntKind.i64.wrap (t5 + 1)), (IntKind.i64.wrap (t6 + 1)))), H21⟩, ren_mk [] (by rfl) (ru_ (ru_ (ru_ (rf_no _)))) (rh_no _), Nat.lt_succ_self _⟩
     ·try simp -implicitDefEqProofs only [go_sem, Nat.reduceEqDiff, Nat.reduceAdd, reduceCtorEq, ↓reduceIte, c20]
      exact ⟨⟨(c, (t5, (IntKind.i64.wrap (t6 + 1)))), H21⟩, ren_mk [] (by rfl) (ru_ (ru_ (ru_ (rf_no _)))) (rh_no _), Nat.lt_succ_self _⟩
    ·try simp -implicitDefEqProofs only [go_sem, ↓reduceIte, c13]
     obtain rfl := Option.some.inj H14
     exact ⟨⟨t5, rfl⟩, ren_mk [] (by rfl) (ru_ (ru_ (rf_no _))) (rh_no _)⟩
 ·rintro ⟨t53, he200⟩
  replace he200 := he200.symm
  subst he200
  try dsimp only at H2
  refine runR_seq ?_
  refine runR_seq ?_
  obtain ⟨e_2, E22, H23⟩ := bind_inv H2
  refine runR_join (α := { y : Bool // e_2 = y }) (fun | ⟨t32, _⟩ => ⟨upd 0 (.v (.string t0)) (upd 32 (.v (.bool t32)) noFr), noHp, 0⟩) ?_ ?_
  ·refine runR_take tab_ok fol 1 ?_
   try simp -implicitDefEqProofs only [go_sem, Nat.reduceAdd, ↓reduceIte]
   rcases ite_inv E22 with ⟨c24, H25⟩ | ⟨c24, H25⟩
   ·try simp -implicitDefEqProofs only [go_sem, Nat.reduceEqDiff, Nat.reduceAdd, ↓reduceIte, c24]
    obtain rfl := Option.some.inj H25
    exact ⟨⟨true, rfl⟩, ren_mk [] (by rfl) (ru_ (ru_ (rf_no _))) (rh_no _)⟩
   ·try simp -implicitDefEqProofs only [go_sem, Nat.reduceEqDiff, Nat.reduceAdd, reduceCtorEq, ↓reduceIte, c24]
    obtain rfl := Option.some.inj H25
    exact ⟨⟨(decide (5000 < t53)), rfl⟩, ren_mk [] (by rfl) (ru_ (ru_ (rf_no _))) (rh_no _)⟩
  ·rintro ⟨t32, he199⟩
   replace he199 := he199.symm
   subst he199
   try dsimp only at H23
   refine runR_take tab_ok fol 1 ?_
   try simp -implicitDefEqProofs only [go_sem, reduceCtorEq, ↓reduceIte]
   rcases ite_inv H23 with ⟨c26, H27⟩ | ⟨c26, H27⟩
   ·try simp -implicitDefEqProofs only [go_sem, Nat.reduceAdd, c26]
    obtain rfl := Option.some.inj H27
    exact end_pure (by simp -implicitDefEqProofs only [go_sem, Nat.reduceEqDiff, ↓reduceIte, Tryz.f47] <;> rfl) (by rfl) rfl (by intro h; rfl)
   ·try simp -implicitDefEqProofs only [go_sem, c26]
    refine runR_seq ?_
    refine runR_seq ?_
    refine runR_take tab_ok fol 1 ?_
    try simp -implicitDefEqProofs only [go_sem]
    obtain ⟨e_3, E28, H29⟩ := bind_inv H27
    refine runR_join (α := { y : Unit // e_3 = .inl y }) (fun | ⟨_, _⟩ => ⟨upd 0 (.v (.string t0)) noFr, noHp, 0⟩) ?_ ?_
    ·refine runR_block ?_
     refine runR_loop (α := { q : Nat × Int // ref1_Lines_L2 n t0 q.1 q.2 = some e_3 }) (fun | ⟨⟨c, t7⟩, _⟩ => ⟨upd 0 (.v (.string t0)) (upd 7 (.v (.int .i64 t7)) noFr), noHp, 0⟩) (fun q => q.1.1) ⟨(n, 0), E28⟩ ?_ ?_
     ·exact ren_mk [] (by rfl) (ru_ (ru_ (rf_no _))) (rh_no _)
     ·rintro ⟨⟨c, t7⟩, L30⟩
      rcases c with _ | c
      ·exact nomatch (show none = some _ from L30)
      ·unfold ref1_Lines_L2 at L30
       try dsimp only at L30
       refine runR_take tab_ok fol 1 ?_
       try simp -implicitDefEqProofs only [go_sem, Nat.reduceEqDiff, Nat.reduceAdd, reduceCtorEq, ↓reduceIte]
       rcases ite_inv L30 with ⟨c65, H66⟩ | ⟨c65, H66⟩
       ·obtain ⟨ch5, b67, H68⟩ := bind_inv H66
        obtain ⟨h69, by_5, h70, h71⟩ := bidx_inv b67
        try simp only [Int.reduceToNat, Int.toNat_natCast] at h70
        try simp -implicitDefEqProofs only [go_sem, Nat.reduceEqDiff, Nat.reduceAdd, reduceCtorEq, ↓reduceIte, c65, nat_of .i64 h69, h70, h71.symm]
        rcases ite_inv H68 with ⟨c72, H73⟩ | ⟨c72, H73⟩
        ·try simp -implicitDefEqProofs only [go_sem, Nat.reduceEqDiff, Nat.reduceAdd, reduceCtorEq, ↓reduceIte, c72]
         rcases ite_inv H73 with ⟨c74, H75⟩ | ⟨c74, H75⟩
         ·try simp -implicitDefEqProofs only [go_sem, Nat.reduceEqDiff, Nat.reduceAdd, reduceCtorEq, ↓reduceIte, c74]
          exact ⟨⟨(c, (IntKind.i64.wrap (t7 + 1))), H75⟩, ren_mk [] (by rfl) (ru_ (ru_ (rf_no _))) (rh_no _), Nat.lt_succ_self _⟩
         ·obtain ⟨ch6, b76, H77⟩ := bind_inv H75
          obtain ⟨h78, by_6, h79, h80⟩ := bidx_inv b76
          try simp only [Int.reduceToNat, Int.toNat_natCast] at h79
          try simp -implicitDefEqProofs only [go_sem, Nat.reduceEqDiff, Nat.reduceAdd, reduceCtorEq, ↓reduceIte, c74, nat_of .i64 h78, h79, h80.symm]
          rcases ite_inv H77 with ⟨c81, H82⟩ | ⟨c81, H82⟩
          ·try simp -implicitDefEqProofs only [go_sem, Nat.reduceEqDiff, Nat.reduceAdd, reduceCtorEq, ↓reduceIte, c81]
           exact ⟨⟨(c, (IntKind.i64.wrap (t7 + 1))), H82⟩, ren_mk [] (by rfl) (ru_ (ru_ (rf_no _))) (rh_no _), Nat.lt_succ_self _⟩
          ·try simp -implicitDefEqProofs only [go_sem, Nat.reduceEqDiff, Nat.reduceAdd, ↓reduceIte, c81]
           rcases ite_inv H82 with ⟨c83, H84⟩ | ⟨c83, H84⟩
           ·try simp -implicitDefEqProofs only [go_sem, Nat.reduceEqDiff, Nat.reduceAdd, reduceCtorEq, ↓reduceIte, c83]
            exact ⟨⟨(c, (IntKind.i64.wrap (t7 + 1))), H84⟩, ren_mk [] (by rfl) (ru_ (ru_ (rf_no _))) (rh_no _), Nat.lt_succ_self _⟩
           ·try simp -implicitDefEqProofs only [go_sem, Nat.reduceEqDiff, Nat.reduceAdd, ↓reduceIte, c83]
            rcases ite_inv H84 with ⟨c85, H86⟩ | ⟨c85, H86⟩
            ·try simp -implicitDefEqProofs only [go_sem, Nat.reduceEqDiff, Nat.reduceAdd, reduceCtorEq, ↓reduceIte, c85]
             exact ⟨⟨(c, (IntKind.i64.wrap (t7 + 1))), H86⟩, ren_mk [] (by rfl) (ru_ (ru_ (rf_no _))) (rh_no _), Nat.lt_succ_self _⟩
            ·try simp -implicitDefEqProofs only [go_sem, Nat.reduceEqDiff, Nat.reduceAdd, ↓reduceIte, c85]
             rcases ite_inv H86 with ⟨c87, H88⟩ | ⟨c87, H88⟩
             ·try simp -implicitDefEqProofs only [go_sem, Nat.reduceEqDiff, Nat.reduceAdd, ↓reduceIte, c87]
              rcases ite_inv H88 with ⟨c89, H90⟩ | ⟨c89, H90⟩
              ·try simp -implicitDefEqProofs only [go_sem, Nat.reduceEqDiff, Nat.reduceAdd, reduceCtorEq, ↓reduceIte, c89]
               exact ⟨⟨(c, (IntKind.i64.wrap (t7 + 1))), H90⟩, ren_mk [] (by rfl) (ru_ (ru_ (rf_no _))) (rh_no _), Nat.lt_succ_self _⟩
              ·try simp -implicitDefEqProofs only [go_sem, Nat.reduceEqDiff, Nat.reduceAdd, reduceCtorEq, ↓reduceIte, c89]
               obtain rfl := Option.some.inj H90
               obtain rfl := Option.some.inj H29
               exact end_pure (by simp -implicitDefEqProofs only [go_sem, Nat.reduceEqDiff, ↓reduceIte, Tryz.f47] <;> rfl) (by rfl) rfl (by intro h; rfl)
             ·try simp -implicitDefEqProofs only [go_sem, Nat.reduceEqDiff, Nat.reduceAdd, reduceCtorEq, ↓reduceIte, c87]
              obtain rfl := Option.some.inj H88
              obtain rfl := Option.some.inj H29
              exact end_pure (by simp -implicitDefEqProofs only [go_sem, Nat.reduceEqDiff, ↓reduceIte, Tryz.f47] <;> rfl) (by rfl) rfl (by intro h; rfl)
        ·try simp -implicitDefEqProofs only [go_sem, Nat.reduceEqDiff, Nat.reduceAdd, ↓reduceIte, c72]
         rcases ite_inv H73 with ⟨c91, H92⟩ | ⟨c91, H92⟩
         ·try simp -implicitDefEqProofs only [go_sem, Nat.reduceEqDiff, Nat.reduceAdd, reduceCtorEq, ↓reduceIte, c91]
          exact ⟨⟨(c, (IntKind.i64.wrap (t7 + 1))), H92⟩, ren_mk [] (by rfl) (ru_ (ru_ (rf_no _))) (rh_no _), Nat.lt_succ_self _⟩
         ·try simp -implicitDefEqProofs only [go_sem, Nat.reduceEqDiff, Nat.reduceAdd, ↓reduceIte, c91]
          rcases ite_inv H92 with ⟨c93, H94⟩ | ⟨c93, H94⟩
          ·try simp -implicitDefEqProofs only [go_sem, Nat.reduceEqDiff, Nat.reduceAdd, reduceCtorEq, ↓reduceIte, c93]
           exact ⟨⟨(c, (IntKind.i64.wrap (t7 + 1))), H94⟩, ren_mk [] (by rfl) (ru_ (ru_ (rf_no _))) (rh_no _), Nat.lt_succ_self _⟩
          ·try simp -implicitDefEqProofs only [go_sem, Nat.reduceEqDiff, Nat.reduceAdd, ↓reduceIte, c93]
           rcases ite_inv H94 with ⟨c95, H96⟩ | ⟨c95, H96⟩
           ·try simp -implicitDefEqProofs only [go_sem, Nat.reduceEqDiff, Nat.reduceAdd, ↓reduceIte, c95]
            rcases ite_inv H96 with ⟨c97, H98⟩ | ⟨c97, H98⟩
            ·try simp -implicitDefEqProofs only [go_sem, Nat.reduceEqDiff, Nat.reduceAdd, reduceCtorEq, ↓reduceIte, c97]
             exact ⟨⟨(c, (IntKind.i64.wrap (t7 + 1))), H98⟩, ren_mk [] (by rfl) (ru_ (ru_ (rf_no _))) (rh_no _), Nat.lt_succ_self _⟩
            ·try simp -implicitDefEqProofs only [go_sem, Nat.reduceEqDiff, Nat.reduceAdd, reduceCtorEq, ↓reduceIte, c97]
             obtain rfl := Option.some.inj H98
             obtain rfl := Option.some.inj H29
             exact end_pure (by simp -implicitDefEqProofs only [go_sem, Nat.reduceEqDiff, ↓reduceIte, Tryz.f47] <;> rfl) (by rfl) rfl (by intro h; rfl)
           ·try simp -implicitDefEqProofs only [go_sem, Nat.reduceEqDiff, Nat.reduceAdd, reduceCtorEq, ↓reduceIte, c95]
            obtain rfl := Option.some.inj H96
            obtain rfl := Option.some.inj H29
            exact end_pure (by simp -implicitDefEqProofs only [go_sem, Nat.reduceEqDiff, ↓reduceIte, Tryz.f47] <;> rfl) (by rfl) rfl (by intro h; rfl)
       ·try simp -implicitDefEqProofs only [go_sem, ↓reduceIte, c65]
        obtain rfl := Option.some.inj H66
        exact ⟨⟨(), rfl⟩, ren_mk [] (by rfl) (ru_ (rf_no _)) (rh_no _)⟩
    ·rintro ⟨_, he198⟩
     replace he198 := he198.symm
     subst he198
     try dsimp only at H29
     refine runR_seq ?_
     refine runR_take tab_ok fol 1 ?_
     try simp -implicitDefEqProofs only [go_sem]
     refine runR_seq ?_
     refine runR_take tab_ok fol 1 ?_
     try simp -implicitDefEqProofs only [go_sem, Nat.reduceAdd]
     refine runR_seq ?_
     refine runR_seq ?_
     refine runR_take tab_ok fol 1 ?_
     try simp -implicitDefEqProofs only [go_sem, Nat.reduceAdd]
     obtain ⟨e_4, E99, H100⟩ := bind_inv H29
     refine runR_join (α := { y : List GLine // e_4 = y } × Nat) (fun | ⟨⟨t93, _⟩, g6⟩ => ⟨upd 9 (accV 0 g6 (List.map eGLine t93)) noFr, upd 0 (accO 2 g6 false (List.map eGLine t93)) noHp, 1⟩) ?_ ?_
     ·refine runR_block ?_
      refine runR_loop (α := { q : (Nat × (List GLine × Int × Int)) × Nat // ref1_Lines_L3 n t0 q.1.1 q.1.2 = some e_4 }) (fun | ⟨⟨⟨c, ⟨t9, t10, t11⟩⟩, g⟩, _⟩ => ⟨upd 0 (.v (.string t0)) (upd 9 (accV 0 g (List.map eGLine t9)) (upd 10 (.v (.int .i64 t10)) (upd 11 (.v (.int .i64 t11)) noFr))), upd 0 (accO 2 g false (List.map eGLine t9)) noHp, 1⟩) (fun q => q.1.1.1) ⟨((n, ([], 0, 0)), 0), E99⟩ ?_ ?_
      ·exact ren_mk [] (by rfl) (ru_ (ru_ (ru_ (ru_ (rf_no _))))) (rh_upd rh_accN (rh_no _))
      ·rintro ⟨⟨⟨c, ⟨t9, t10, t11⟩⟩, g⟩, L101⟩
       rcases c with _ | c
       ·exact nomatch (show none = some _ from L101)
       ·unfold ref1_Lines_L3 at L101
        try dsimp only at L101
        refine runR_seq ?_
        refine runR_take tab_ok fol 1 ?_
        try simp -implicitDefEqProofs only [go_sem, Nat.reduceEqDiff, Nat.reduceAdd, reduceCtorEq, ↓reduceIte]
        rcases ite_inv L101 with ⟨c141, H142⟩ | ⟨c141, H142⟩
        ·try simp -implicitDefEqProofs only [go_sem, c141]
         refine runR_seq ?_
         refine runR_block ?_
         refine runR_seq ?_
         refine runR_seq ?_
         obtain ⟨e_8, E143, H144⟩ := bind_inv H142
         refine runR_join (α := { y : Bool // e_8 = y } × Nat) (fun | ⟨⟨t902, _⟩, g2⟩ => ⟨upd 0 (.v (.string t0)) (upd 9 (accV 0 g2 (List.map eGLine t9)) (upd 10 (.v (.int .i64 t10)) (upd 11 (.v (.int .i64 t11)) (upd 90 (.v (.bool t902)) noFr)))), upd 0 (accO 2 g2 false (List.map eGLine t9)) noHp, 1⟩) ?_ ?_
         ·refine runR_take tab_ok fol 1 ?_
          try simp -implicitDefEqProofs only [go_sem, Nat.reduceEqDiff, Nat.reduceAdd, reduceCtorEq, ↓reduceIte]
          rcases ite_inv E143 with ⟨c145, H146⟩ | ⟨c145, H146⟩
          ·obtain ⟨ch8, b147, H148⟩ := bind_inv H146
           obtain ⟨h149, by_8, h150, h151⟩ := bidx_inv b147
           try simp only [Int.reduceToNat, Int.toNat_natCast] at h150
           try simp -implicitDefEqProofs only [go_sem, Nat.reduceEqDiff, Nat.reduceAdd, reduceCtorEq, ↓reduceIte, c145, nat_of .i64 h149, h150, h151.symm]
           obtain rfl := Option.some.inj H148
           exact ⟨⟨⟨(ch8 != 10), rfl⟩, g⟩, ren_mk [(0, 0)] (by rfl) (ru_ (rn_ (ru_ (ru_ (ru_ (rf_no _)))))) (ra_ (rh_no _))⟩
          ·try simp -implicitDefEqProofs only [go_sem, Nat.reduceEqDiff, Nat.reduceAdd, ↓reduceIte, c145]
           obtain rfl := Option.some.inj H146
           exact ⟨⟨⟨false, rfl⟩, g⟩, ren_mk [(0, 0)] (by rfl) (ru_ (rn_ (ru_ (ru_ (ru_ (rf_no _)))))) (ra_ (rh_no _))⟩
         ·rintro ⟨⟨t902, he196⟩, g2⟩
          replace he196 := he196.symm
          subst he196
          try dsimp only at H144
          refine runR_take tab_ok fol 1 ?_
          try simp -implicitDefEqProofs only [go_sem, Nat.reduceEqDiff, reduceCtorEq, ↓reduceIte]
          rcases ite_inv H144 with ⟨c152, H153⟩ | ⟨c152, H153⟩
          ·try simp -implicitDefEqProofs only [go_sem, ↓reduceIte, c152]
           refine runR_take tab_ok fol 1 ?_
           try simp -implicitDefEqProofs only [go_sem, Nat.reduceEqDiff, Nat.reduceAdd, reduceCtorEq, ↓reduceIte]
           exact ⟨⟨((c, (t9, t10, (IntKind.i64.wrap (t11 + 1)))), g2), H153⟩, ren_mk [(0, 0)] (by rfl) (ru_ (rn_ (ru_ (ru_ (rf_no _))))) (ra_ (rh_no _)), Nat.lt_succ_self _⟩
          ·try simp -implicitDefEqProofs only [go_sem, c152]
           refine runR_seq ?_
           refine runR_take tab_ok fol 1 ?_
           try simp -implicitDefEqProofs only [go_sem, Nat.reduceEqDiff, Nat.reduceAdd, reduceCtorEq, ↓reduceIte]
           refine runR_seq ?_
           refine runR_seq ?_
           obtain ⟨e_9, E154, H155⟩ := bind_inv H153
           refine runR_join (α := { y : Bool // e_9 = y } × Nat) (fun | ⟨⟨t101, _⟩, g3⟩ => ⟨upd 0 (.v (.string t0)) (upd 9 (accV 0 g3 (List.map eGLine t9)) (upd 10 (.v (.int .i64 t10)) (upd 11 (.v (.int .i64 t11)) (upd 12 (.v (.int .i64 t11)) (upd 101 (.v (.bool t101)) noFr))))), upd 0 (accO 2 g3 false (List.map eGLine t9)) noHp, 1⟩) ?_ ?_
           ·refine runR_take tab_ok fol 1 ?_
            try simp -implicitDefEqProofs only [go_sem, Nat.reduceEqDiff, Nat.reduceAdd, reduceCtorEq, ↓reduceIte]
            rcases ite_inv E154 with ⟨c156, H157⟩ | ⟨c156, H157⟩
            ·obtain ⟨ch9, b158, H159⟩ := bind_inv H157
             obtain ⟨h160, by_9, h161, h162⟩ := bidx_inv b158
             try simp only [Int.reduceToNat, Int.toNat_natCast] at h161
             try simp -implicitDefEqProofs only [go_sem, Nat.reduceEqDiff, Nat.reduceAdd, reduceCtorEq, ↓reduceIte, c156, nat_of .i64 h160, h161, h162.symm]
             obtain rfl := Option.some.inj H159
             exact ⟨⟨⟨(ch9 == 13), rfl⟩, g2⟩, ren_mk [(0, 0)] (by rfl) (ru_ (rn_ (ru_ (ru_ (ru_ (ru_ (rf_no _))))))) (ra_ (rh_no _))⟩
            ·try simp -implicitDefEqProofs only [go_sem, Nat.reduceEqDiff, Nat.reduceAdd, ↓reduceIte, c156]
             obtain rfl := Option.some.inj H157
             exact ⟨⟨⟨false, rfl⟩, g2⟩, ren_mk [(0, 0)] (by rfl) (ru_ (rn_ (ru_ (ru_ (ru_ (ru_ (rf_no _))))))) (ra_ (rh_no _))⟩
           ·rintro ⟨⟨t101, he195⟩, g3⟩
            replace he195 := he195.symm
            subst he195
            try dsimp only at H155
            obtain ⟨e_10, E163, H164⟩ := bind_inv H155
            refine runR_join (α := { y : Int // e_10 = y } × Nat) (fun | ⟨⟨t12, _⟩, g4⟩ => ⟨upd 0 (.v (.string t0)) (upd 9 (accV 0 g4 (List.map eGLine t9)) (upd 10 (.v (.int .i64 t10)) (upd 11 (.v (.int .i64 t11)) (upd 12 (.v (.int .i64 t12)) noFr)))), upd 0 (accO 2 g4 false (List.map eGLine t9)) noHp, 1⟩) ?_ ?_
            ·refine runR_take tab_ok fol 1 ?_
             try simp -implicitDefEqProofs only [go_sem, Nat.reduceEqDiff, reduceCtorEq, ↓reduceIte]
             rcases ite_inv E163 with ⟨c165, H166⟩ | ⟨c165, H166⟩
             ·try simp -implicitDefEqProofs only [go_sem, Nat.reduceEqDiff, Nat.reduceAdd, reduceCtorEq, ↓reduceIte, c165]
              obtain rfl := Option.some.inj H166
              exact ⟨⟨⟨(IntKind.i64.wrap (t11 - 1)), rfl⟩, g3⟩, ren_mk [(0, 0)] (by rfl) (ru_ (rn_ (ru_ (ru_ (ru_ (rf_no _)))))) (ra_ (rh_no _))⟩
             ·try simp -implicitDefEqProofs only [go_sem, c165]
              obtain rfl := Option.some.inj H166
              exact ⟨⟨⟨t11, rfl⟩, g3⟩, ren_mk [(0, 0)] (by rfl) (ru_ (rn_ (ru_ (ru_ (ru_ (rf_no _)))))) (ra_ (rh_no _))⟩
            ·rintro ⟨⟨t12, he194⟩, g4⟩
             replace he194 := he194.symm
             subst he194
             try dsimp only at H164
             refine runR_take tab_ok fol 3 ?_
             obtain ⟨s2, b167, H168⟩ := bind_inv H164
             obtain ⟨h169, h170, h171, h172⟩ := bslc_inv b167
             have h173 : Int.toNat t10 ≤ Int.toNat t12 := by omega
             have h174 : Int.toNat t12 ≤ t0.size := by omega
             have h175 : ByteArray.extract t0 (Int.toNat t10) (Int.toNat t12) = s2 := h172.symm
             try simp only [Int.toNat_natCast] at h173 h174 h175
             obtain ⟨t1092, b176, H177⟩ := bind_inv H168
             try simp -implicitDefEqProofs only [go_sem, Nat.reduceEqDiff, Nat.reduceAdd, reduceCtorEq, ↓reduceIte, nat_of .i64 h169, nat_of .i64 (Int.le_trans h169 h170), h173, h174, h175]
             refine onCall_pure (by rfl) (ref1_words_ok b176) (by exact .inr rfl) ?_
             try simp -implicitDefEqProofs only [go_sem, Bool.false_and, Nat.reduceAdd, ↓reduceIte]
             rcases ite_inv H177 with ⟨c178, H179⟩ | ⟨c178, H179⟩
             ·obtain ⟨x2, b180, H181⟩ := bind_inv H179
              obtain ⟨h182, h183⟩ := idx_inv b180
              try simp only [Int.reduceToNat] at h183
              have h184 := map_at eGWord h183
              obtain ⟨l, b186, H187⟩ := bind_inv H181
              obtain ⟨h188, h189⟩ := app_inv b186
              have h188 : t9.length + 1 ≤ 4294967296 := h188
              have h190 : List.map eGLine t9 ++ [[.v (.int .i64 x2.at_), .sl (List.map eGWord t1092)]] = List.map eGLine l := app_map eGLine h189
              have h191 : t9.length + 1 = l.length := app_len h189
              have h192 : l.length ≤ 4294967296 := by omega
              have q193 : 0 < l.length := by omega
              try simp -implicitDefEqProofs only [go_sem, Int.reduceToNat, Nat.reduceLT, Nat.reduceEqDiff, Nat.reduceAdd, Nat.reduceMul, Nat.reduceLeDiff, reduceCtorEq, ↓reduceIte, eGWord, c178, nat_of .i64 h182, h184, h190, h191, h192]
              rcases t9 with _ | ⟨q0, q1⟩
              ·try simp only [List.map_nil, accI, accN]
               exact ⟨⟨((c, (l, (IntKind.i64.wrap (t11 + 1)), (IntKind.i64.wrap (t11 + 1)))), 0), H187⟩, ren_mk [(0, 19)] (by rfl) (ru_ (rf_upd (by exact ren_accP (by rfl) q193) (ru_ (ru_ (rf_no _))))) (rh_upd (by exact rh_accP (by rfl) q193 (by rfl)) (rh_no _)), Nat.lt_succ_self _⟩
              ·try simp only [List.map_cons, accI, accN]
               exact ⟨⟨((c, (l, (IntKind.i64.wrap (t11 + 1)), (IntKind.i64.wrap (t11 + 1)))), (g4 + 1)), H187⟩, ren_mk [(0, 0)] (by rfl) (ru_ (rf_upd (by exact ren_accP (by rfl) q193) (ru_ (ru_ (rf_no _))))) (rh_upd (by exact rh_accP (by rfl) q193 (by rfl)) (rh_no _)), Nat.lt_succ_self _⟩
             ·try simp -implicitDefEqProofs only [go_sem, Nat.reduceEqDiff, Nat.reduceAdd, reduceCtorEq, ↓reduceIte, c178]
              exact ⟨⟨((c, (t9, (IntKind.i64.wrap (t11 + 1)), (IntKind.i64.wrap (t11 + 1)))), g4), H179⟩, ren_mk [(0, 0)] (by rfl) (ru_ (rn_ (ru_ (ru_ (rf_no _))))) (ra_ (rh_no _)), Nat.lt_succ_self _⟩
        ·try simp -implicitDefEqProofs only [go_sem, ↓reduceIte, c141]
         obtain rfl := Option.some.inj H142
         exact ⟨⟨⟨t9, rfl⟩, g⟩, ren_mk [(0, 0)] (by rfl) (rn_ (rf_no _)) (ra_ (rh_no _))⟩
     ·rintro ⟨⟨t93, he197⟩, g6⟩
      replace he197 := he197.symm
      subst he197
      try dsimp only at H100
      refine runR_take tab_ok fol 1 ?_
      try simp -implicitDefEqProofs only [go_sem, Nat.reduceAdd, ↓reduceIte]
      obtain rfl := Option.some.inj H100
      exact end_pure (by simp -implicitDefEqProofs only [go_sem, Nat.reduceEqDiff, ↓reduceIte, Tryz.f47] <;> rfl) (by simp -implicitDefEqProofs only [go_sem, ↓reduceIte]; rfl) rfl (by intro h; rfl)
def ref13_words (_ : Nat) : Option (List ByteArray) :=
 some [{ data := #[] }, { data := #[117, 115, 101, 114] }, { data := #[114, 111, 108, 101] }, { data := #[105, 110, 104, 101, 114, 105, 116] }, { data := #[97, 115, 115, 105, 103, 110] }, { data := #[103, 114, 97, 110, 116] }, { data := #[115, 115, 100] }, { data := #[100, 115, 100] }, { data := #[115, 101, 115, 115, 105, 111, 110] }]
theorem ref13_words_ok {n : Nat} {r : List ByteArray} (H : ref13_words n  = some r) : PureOK Tryz.prog 75 [] (D.sl (List.map eS r)) true := by
 unfold ref13_words at H
 refine pure_runR (tab := tab) tab_ok Tryz.func75 rfl (by kernel_rfl) (by kernel_rfl) (by simp [Tryz.f75]) ?_
 refine runR_take tab_ok fol 1 ?_
 try simp -implicitDefEqProofs only [go_sem, Nat.reduceLT, Nat.reduceAdd, Nat.reduceLeDiff, ↓reduceIte]
 obtain rfl := Option.some.inj H
 exact end_pure (by simp -implicitDefEqProofs only [go_sem, ↓reduceIte, Tryz.f75] <;> rfl) (by rfl) rfl (by intro h; rfl)
def ref13_number_L1 (n : Nat) (s : ByteArray) : Nat → (Int × Int) → Option ((Int) ⊕ Int)
 | 0, _ => none
 | c + 1, (n_, i) =>
  (if (decide (i < (s.size : Int))) then
   (
    (bidx s i).bind fun ch3 =>
    (if (decide (ch3 < 48)) then
     some true
    else
     some (decide (57 < ch3))) : Option (Bool)).bind fun t202 =>
   (if t202 then
    some (.inr 0)
   else
    (bidx s i).bind fun ch4 =>
    (if (i == 2) then
     some (.inr 0)
    else
     (bidx s 0).bind fun ch5 =>
     (if (ch5 == 48) then
      some (.inr 0)
     else
      ref13_number_L1 n s c ((IntKind.i64.wrap ((IntKind.i64.wrap (10 * n_)) + (IntKind.i64.wrap (IntKind.u8.wrap (ch4 - 48))))), (IntKind.i64.wrap (i + 1))))))
  else
   some (.inl n_))

def ref13_number (n : Nat) (s : ByteArray) : Option Int :=
 (
  ref13_number_L1 n s n (0, 0) : Option ((Int) ⊕ Int)).bind fun
  | .inl n_3 =>
   some n_3
  | .inr r => some r
theorem ref13_number_ok {n : Nat} {s : ByteArray} {r : Int} (H : ref13_number n s = some r) : PureOK Tryz.prog 76 [D.v (.string s)] (D.v (.int .i64 r)) true := by
 unfold ref13_number at H
 refine pure_runR (tab := tab) tab_ok Tryz.func76 rfl (by kernel_rfl) (by kernel_rfl) (by simp [Tryz.f76]) ?_
 refine runR_seq ?_
 refine runR_take tab_ok fol 1 ?_
 try simp -implicitDefEqProofs only [go_sem]
 refine runR_seq ?_
 refine runR_take tab_ok fol 1 ?_
 try simp -implicitDefEqProofs only [go_sem, Nat.reduceAdd]
 refine runR_seq ?_
 refine runR_seq ?_
 refine runR_take tab_ok fol 1 ?_
 try simp -implicitDefEqProofs only [go_sem, Nat.reduceAdd]
 obtain ⟨e_, E1, H2⟩ := bind_inv H
 refine runR_join (α := { y : Int // e_ = .inl y }) (fun | ⟨n_3, _⟩ => ⟨upd 3 (.v (.int .i64 n_3)) noFr, noHp, 0⟩) ?_ ?_
 ·refine runR_block ?_
  refine runR_loop (α := { q : Nat × (Int × Int) // ref13_number_L1 n s q.1 q.2 = some e_ }) (fun | ⟨⟨c, ⟨n_, i⟩⟩, _⟩ => ⟨upd 0 (.v (.string s)) (upd 3 (.v (.int .i64 n_)) (upd 4 (.v (.int .i64 i)) noFr)), noHp, 0⟩) (fun q => q.1.1) ⟨(n, (0, 0)), E1⟩ ?_ ?_
  ·exact ren_mk [] (by rfl) (ru_ (ru_ (ru_ (rf_no _)))) (rh_no _)
  ·rintro ⟨⟨c, ⟨n_, i⟩⟩, L3⟩
   rcases c with _ | c
   ·exact nomatch (show none = some _ from L3)
   ·unfold ref13_number_L1 at L3
    try dsimp only at L3
    refine runR_seq ?_
    refine runR_take tab_ok fol 1 ?_
    try simp -implicitDefEqProofs only [go_sem, Nat.reduceEqDiff, Nat.reduceAdd, reduceCtorEq, ↓reduceIte]
    rcases ite_inv L3 with ⟨c25, H26⟩ | ⟨c25, H26⟩
    ·try simp -implicitDefEqProofs only [go_sem, c25]
     refine runR_seq ?_
     refine runR_block ?_
     refine runR_seq ?_
     refine runR_seq ?_
     obtain ⟨e_3, E27, H28⟩ := bind_inv H26
     refine runR_join (α := { y : Bool // e_3 = y }) (fun | ⟨t202, _⟩ => ⟨upd 0 (.v (.string s)) (upd 3 (.v (.int .i64 n_)) (upd 4 (.v (.int .i64 i)) (upd 20 (.v (.bool t202)) noFr))), noHp, 0⟩) ?_ ?_
     ·refine runR_take tab_ok fol 1 ?_
      obtain ⟨ch3, b29, H30⟩ := bind_inv E27
      obtain ⟨h31, by_3, h32, h33⟩ := bidx_inv b29
      try simp only [Int.reduceToNat, Int.toNat_natCast] at h32
      try simp -implicitDefEqProofs only [go_sem, Nat.reduceEqDiff, Nat.reduceAdd, reduceCtorEq, ↓reduceIte, nat_of .i64 h31, h32, h33.symm]
      rcases ite_inv H30 with ⟨c34, H35⟩ | ⟨c34, H35⟩
      ·try simp -implicitDefEqProofs only [go_sem, Nat.reduceEqDiff, Nat.reduceAdd, ↓reduceIte, c34]
       obtain rfl := Option.some.inj H35
       exact ⟨⟨true, rfl⟩, ren_mk [] (by rfl) (ru_ (ru_ (ru_ (ru_ (rf_no _))))) (rh_no _)⟩
      ·try simp -implicitDefEqProofs only [go_sem, Nat.reduceEqDiff, Nat.reduceAdd, reduceCtorEq, ↓reduceIte, nat_of .i64 h31, h32, h33.symm, c34]
       obtain rfl := Option.some.inj H35
       exact ⟨⟨(decide (57 < ch3)), rfl⟩, ren_mk [] (by rfl) (ru_ (ru_ (ru_ (ru_ (rf_no _))))) (rh_no _)⟩
     ·rintro ⟨t202, he52⟩
      replace he52 := he52.symm
      subst he52
      try dsimp only at H28
      refine runR_take tab_ok fol 4 ?_
      try simp -implicitDefEqProofs only [go_sem, Nat.reduceEqDiff, reduceCtorEq, ↓reduceIte]
      rcases ite_inv H28 with ⟨c36, H37⟩ | ⟨c36, H37⟩
      ·try simp -implicitDefEqProofs only [go_sem, c36]
       obtain rfl := Option.some.inj H37
       obtain rfl := Option.some.inj H2
       exact end_pure (by simp -implicitDefEqProofs only [go_sem, ↓reduceIte, Tryz.f76] <;> rfl) (by rfl) rfl (by intro h; rfl)
      ·obtain ⟨ch4, b38, H39⟩ := bind_inv H37
       obtain ⟨h40, by_4, h41, h42⟩ := bidx_inv b38
       try simp only [Int.reduceToNat, Int.toNat_natCast] at h41
       try simp -implicitDefEqProofs only [go_sem, Nat.reduceEqDiff, Nat.reduceAdd, reduceCtorEq, ↓reduceIte, c36, nat_of .i64 h40, h41, h42.symm]
       rcases ite_inv H39 with ⟨c43, H44⟩ | ⟨c43, H44⟩
       ·try simp -implicitDefEqProofs only [go_sem, Nat.reduceEqDiff, Nat.reduceAdd, ↓reduceIte, c43]
        obtain rfl := Option.some.inj H44
        obtain rfl := Option.some.inj H2
        exact end_pure (by simp -implicitDefEqProofs only [go_sem, ↓reduceIte, Tryz.f76] <;> rfl) (by rfl) rfl (by intro h; rfl)
       ·obtain ⟨ch5, b45, H46⟩ := bind_inv H44
        obtain ⟨h47, by_5, h48, h49⟩ := bidx_inv b45
        try simp only [Int.reduceToNat] at h48
        try simp -implicitDefEqProofs only [go_sem, Int.reduceToNat, Nat.reduceEqDiff, Nat.reduceAdd, reduceCtorEq, ↓reduceIte, c43, nat_of .i64 h47, h48, h49.symm]
        rcases ite_inv H46 with ⟨c50, H51⟩ | ⟨c50, H51⟩
        ·try simp -implicitDefEqProofs only [go_sem, Nat.reduceAdd, c50]
         obtain rfl := Option.some.inj H51
         obtain rfl := Option.some.inj H2
         exact end_pure (by simp -implicitDefEqProofs only [go_sem, ↓reduceIte, Tryz.f76] <;> rfl) (by rfl) rfl (by intro h; rfl)
        ·try simp -implicitDefEqProofs only [go_sem, Nat.reduceEqDiff, Nat.reduceAdd, reduceCtorEq, ↓reduceIte, c50]
         exact ⟨⟨(c, ((IntKind.i64.wrap ((IntKind.i64.wrap (10 * n_)) + (IntKind.i64.wrap (IntKind.u8.wrap (ch4 - 48))))), (IntKind.i64.wrap (i + 1)))), H51⟩, ren_mk [] (by rfl) (ru_ (ru_ (ru_ (rf_no _)))) (rh_no _), Nat.lt_succ_self _⟩
    ·try simp -implicitDefEqProofs only [go_sem, ↓reduceIte, c25]
     obtain rfl := Option.some.inj H26
     exact ⟨⟨n_, rfl⟩, ren_mk [] (by rfl) (ru_ (rf_no _)) (rh_no _)⟩
 ·rintro ⟨n_3, he53⟩
  replace he53 := he53.symm
  subst he53
  try dsimp only at H2
  refine runR_take tab_ok fol 1 ?_
  try simp -implicitDefEqProofs only [go_sem, Nat.reduceAdd, ↓reduceIte]
  obtain rfl := Option.some.inj H2
  exact end_pure (by simp -implicitDefEqProofs only [go_sem, ↓reduceIte, Tryz.f76] <;> rfl) (by rfl) rfl (by intro h; rfl)
def ref1_alnum (_ : Nat) (c2 : Int) : Option Bool :=
 (if (decide (97 ≤ c2)) then
  (if (decide (c2 ≤ 122)) then
   some true
  else
   (if (decide (48 ≤ c2)) then
    some (decide (c2 ≤ 57))
   else
    some false))
 else
  (if (decide (48 ≤ c2)) then
   some (decide (c2 ≤ 57))
  else
   some false))
theorem ref1_alnum_ok {n : Nat} {c2 : Int} {r : Bool} (H : ref1_alnum n c2 = some r) : PureOK Tryz.prog 92 [D.v (.int .u8 c2)] (D.v (.bool r)) true := by
 unfold ref1_alnum at H
 refine pure_runR (tab := tab) tab_ok Tryz.func92 rfl (by kernel_rfl) (by kernel_rfl) (by simp [Tryz.f92]) ?_
 refine runR_take tab_ok fol 1 ?_
 try simp -implicitDefEqProofs only [go_sem, Nat.reduceAdd, reduceCtorEq, ↓reduceIte]
 rcases ite_inv H with ⟨c1, H2⟩ | ⟨c1, H2⟩
 ·try simp -implicitDefEqProofs only [go_sem, Nat.reduceEqDiff, Nat.reduceAdd, reduceCtorEq, ↓reduceIte, c1]
  rcases ite_inv H2 with ⟨c3, H4⟩ | ⟨c3, H4⟩
  ·try simp -implicitDefEqProofs only [go_sem, Nat.reduceEqDiff, Nat.reduceAdd, ↓reduceIte, c3]
   obtain rfl := Option.some.inj H4
   exact end_pure (by simp -implicitDefEqProofs only [go_sem, ↓reduceIte, Tryz.f92] <;> rfl) (by rfl) rfl (by intro h; rfl)
  ·try simp -implicitDefEqProofs only [go_sem, Nat.reduceEqDiff, Nat.reduceAdd, reduceCtorEq, ↓reduceIte, c3]
   rcases ite_inv H4 with ⟨c5, H6⟩ | ⟨c5, H6⟩
   ·try simp -implicitDefEqProofs only [go_sem, Nat.reduceEqDiff, Nat.reduceAdd, reduceCtorEq, ↓reduceIte, c5]
    obtain rfl := Option.some.inj H6
    exact end_pure (by simp -implicitDefEqProofs only [go_sem, ↓reduceIte, Tryz.f92] <;> rfl) (by rfl) rfl (by intro h; rfl)
   ·try simp -implicitDefEqProofs only [go_sem, Nat.reduceEqDiff, Nat.reduceAdd, ↓reduceIte, c5]
    obtain rfl := Option.some.inj H6
    exact end_pure (by simp -implicitDefEqProofs only [go_sem, ↓reduceIte, Tryz.f92] <;> rfl) (by rfl) rfl (by intro h; rfl)
 ·try simp -implicitDefEqProofs only [go_sem, Nat.reduceEqDiff, Nat.reduceAdd, reduceCtorEq, ↓reduceIte, c1]
  rcases ite_inv H2 with ⟨c7, H8⟩ | ⟨c7, H8⟩
  ·try simp -implicitDefEqProofs only [go_sem, Nat.reduceEqDiff, Nat.reduceAdd, reduceCtorEq, ↓reduceIte, c7]
   obtain rfl := Option.some.inj H8
   exact end_pure (by simp -implicitDefEqProofs only [go_sem, ↓reduceIte, Tryz.f92] <;> rfl) (by rfl) rfl (by intro h; rfl)
  ·try simp -implicitDefEqProofs only [go_sem, Nat.reduceEqDiff, Nat.reduceAdd, ↓reduceIte, c7]
   obtain rfl := Option.some.inj H8
   exact end_pure (by simp -implicitDefEqProofs only [go_sem, ↓reduceIte, Tryz.f92] <;> rfl) (by rfl) rfl (by intro h; rfl)
def ref1_Name_L1 (n : Nat) (s : ByteArray) : Nat → Int → Option ((Unit) ⊕ Bool)
 | 0, _ => none
 | c + 1, i =>
  (if (decide (i < (s.size : Int))) then
   (bidx s i).bind fun ch3 =>
   (ref1_alnum n ch3).bind fun t272 =>
   (if t272 then
    ref1_Name_L1 n s c (IntKind.i64.wrap (i + 1))
   else
    (if (ch3 != 95) then
     (if (ch3 != 45) then
      (if (ch3 != 46) then
       some (.inr false)
      else
       ref1_Name_L1 n s c (IntKind.i64.wrap (i + 1)))
     else
      ref1_Name_L1 n s c (IntKind.i64.wrap (i + 1)))
    else
     ref1_Name_L1 n s c (IntKind.i64.wrap (i + 1))))
  else
   some (.inl ()))

def ref1_Name (n : Nat) (s : ByteArray) : Option Bool :=
 (
  (if (decide ((s.size : Int) < 1)) then
   some true
  else
   (if (decide (30 < (s.size : Int))) then
    some true
   else
    (bidx s 0).bind fun ch =>
    (ref1_alnum n ch).bind fun t15 =>
    some (!t15))) : Option (Bool)).bind fun t17 =>
 (if t17 then
  some false
 else
  (
   ref1_Name_L1 n s n 0 : Option ((Unit) ⊕ Bool)).bind fun
   | .inl _ =>
    some true
   | .inr r => some r)
theorem ref1_Name_ok {n : Nat} {s : ByteArray} {r : Bool} (H : ref1_Name n s = some r) : PureOK Tryz.prog 77 [D.v (.string s)] (D.v (.bool r)) true := by
 unfold ref1_Name at H
 refine pure_runR (tab := tab) tab_ok Tryz.func77 rfl (by kernel_rfl) (by kernel_rfl) (by simp [Tryz.f77]) ?_
 refine runR_seq ?_
 refine runR_take tab_ok fol 1 ?_
 try simp -implicitDefEqProofs only [go_sem]
 refine runR_seq ?_
 refine runR_seq ?_
 obtain ⟨e_, E1, H2⟩ := bind_inv H
 refine runR_join (α := { y : Bool // e_ = y }) (fun | ⟨t17, _⟩ => ⟨upd 0 (.v (.string s)) (upd 17 (.v (.bool t17)) noFr), noHp, 0⟩) ?_ ?_
 ·refine runR_take tab_ok fol 1 ?_
  try simp -implicitDefEqProofs only [go_sem, Nat.reduceAdd, reduceCtorEq, ↓reduceIte]
  rcases ite_inv E1 with ⟨c3, H4⟩ | ⟨c3, H4⟩
  ·try simp -implicitDefEqProofs only [go_sem, Nat.reduceEqDiff, Nat.reduceAdd, ↓reduceIte, c3]
   obtain rfl := Option.some.inj H4
   exact ⟨⟨true, rfl⟩, ren_mk [] (by rfl) (ru_ (ru_ (rf_no _))) (rh_no _)⟩
  ·try simp -implicitDefEqProofs only [go_sem, Nat.reduceEqDiff, Nat.reduceAdd, reduceCtorEq, ↓reduceIte, c3]
   rcases ite_inv H4 with ⟨c5, H6⟩ | ⟨c5, H6⟩
   ·try simp -implicitDefEqProofs only [go_sem, Nat.reduceEqDiff, Nat.reduceAdd, ↓reduceIte, c5]
    obtain rfl := Option.some.inj H6
    exact ⟨⟨true, rfl⟩, ren_mk [] (by rfl) (ru_ (ru_ (rf_no _))) (rh_no _)⟩
   ·obtain ⟨ch, b7, H8⟩ := bind_inv H6
    obtain ⟨h9, by_, h10, h11⟩ := bidx_inv b7
    try simp only [Int.reduceToNat] at h10
    obtain ⟨t15, b12, H13⟩ := bind_inv H8
    try simp -implicitDefEqProofs only [go_sem, Int.reduceToNat, Nat.reduceEqDiff, Nat.reduceAdd, reduceCtorEq, ↓reduceIte, c5, nat_of .i64 h9, h10, h11.symm]
    refine onCall_pure (by rfl) (ref1_alnum_ok b12) (by exact .inr rfl) ?_
    try simp -implicitDefEqProofs only [go_sem, Bool.false_and, Nat.reduceEqDiff, Nat.reduceAdd, ↓reduceIte]
    obtain rfl := Option.some.inj H13
    exact ⟨⟨(!t15), rfl⟩, ren_mk [] (by rfl) (ru_ (ru_ (rf_no _))) (rh_no _)⟩
 ·rintro ⟨t17, he54⟩
  replace he54 := he54.symm
  subst he54
  try dsimp only at H2
  refine runR_take tab_ok fol 1 ?_
  try simp -implicitDefEqProofs only [go_sem, reduceCtorEq, ↓reduceIte]
  rcases ite_inv H2 with ⟨c14, H15⟩ | ⟨c14, H15⟩
  ·try simp -implicitDefEqProofs only [go_sem, c14]
   obtain rfl := Option.some.inj H15
   exact end_pure (by simp -implicitDefEqProofs only [go_sem, ↓reduceIte, Tryz.f77] <;> rfl) (by rfl) rfl (by intro h; rfl)
  ·try simp -implicitDefEqProofs only [go_sem, c14]
   refine runR_seq ?_
   refine runR_seq ?_
   refine runR_take tab_ok fol 1 ?_
   try simp -implicitDefEqProofs only [go_sem]
   obtain ⟨e_2, E16, H17⟩ := bind_inv H15
   refine runR_join (α := { y : Unit // e_2 = .inl y }) (fun | ⟨_, _⟩ => ⟨noFr, noHp, 0⟩) ?_ ?_
   ·refine runR_block ?_
    refine runR_loop (α := { q : Nat × Int // ref1_Name_L1 n s q.1 q.2 = some e_2 }) (fun | ⟨⟨c, i⟩, _⟩ => ⟨upd 0 (.v (.string s)) (upd 3 (.v (.int .i64 i)) noFr), noHp, 0⟩) (fun q => q.1.1) ⟨(n, 0), E16⟩ ?_ ?_
    ·exact ren_mk [] (by rfl) (ru_ (ru_ (rf_no _))) (rh_no _)
    ·rintro ⟨⟨c, i⟩, L18⟩
     rcases c with _ | c
     ·exact nomatch (show none = some _ from L18)
     ·unfold ref1_Name_L1 at L18
      try dsimp only at L18
      refine runR_take tab_ok fol 1 ?_
      try simp -implicitDefEqProofs only [go_sem, Nat.reduceEqDiff, Nat.reduceAdd, reduceCtorEq, ↓reduceIte]
      rcases ite_inv L18 with ⟨c36, H37⟩ | ⟨c36, H37⟩
      ·obtain ⟨ch3, b38, H39⟩ := bind_inv H37
       obtain ⟨h40, by_3, h41, h42⟩ := bidx_inv b38
       try simp only [Int.reduceToNat, Int.toNat_natCast] at h41
       obtain ⟨t272, b43, H44⟩ := bind_inv H39
       try simp -implicitDefEqProofs only [go_sem, Nat.reduceEqDiff, Nat.reduceAdd, reduceCtorEq, ↓reduceIte, c36, nat_of .i64 h40, h41, h42.symm]
       refine onCall_pure (by rfl) (ref1_alnum_ok b43) (by exact .inr rfl) ?_
       try simp -implicitDefEqProofs only [go_sem, Bool.false_and, Nat.reduceAdd, ↓reduceIte]
       rcases ite_inv H44 with ⟨c45, H46⟩ | ⟨c45, H46⟩
       ·try simp -implicitDefEqProofs only [go_sem, Nat.reduceEqDiff, Nat.reduceAdd, reduceCtorEq, ↓reduceIte, c45]
        exact ⟨⟨(c, (IntKind.i64.wrap (i + 1))), H46⟩, ren_mk [] (by rfl) (ru_ (ru_ (rf_no _))) (rh_no _), Nat.lt_succ_self _⟩
       ·try simp -implicitDefEqProofs only [go_sem, Nat.reduceEqDiff, Nat.reduceAdd, reduceCtorEq, ↓reduceIte, nat_of .i64 h40, h41, h42.symm, c45]
        rcases ite_inv H46 with ⟨c47, H48⟩ | ⟨c47, H48⟩
        ·try simp -implicitDefEqProofs only [go_sem, Nat.reduceEqDiff, Nat.reduceAdd, reduceCtorEq, ↓reduceIte, nat_of .i64 h40, h41, h42.symm, c47]
         rcases ite_inv H48 with ⟨c49, H50⟩ | ⟨c49, H50⟩
         ·try simp -implicitDefEqProofs only [go_sem, Nat.reduceEqDiff, Nat.reduceAdd, reduceCtorEq, ↓reduceIte, nat_of .i64 h40, h41, h42.symm, c49]
          rcases ite_inv H50 with ⟨c51, H52⟩ | ⟨c51, H52⟩
          ·try simp -implicitDefEqProofs only [go_sem, Nat.reduceAdd, c51]
           obtain rfl := Option.some.inj H52
           obtain rfl := Option.some.inj H17
           exact end_pure (by simp -implicitDefEqProofs only [go_sem, ↓reduceIte, Tryz.f77] <;> rfl) (by rfl) rfl (by intro h; rfl)
          ·try simp -implicitDefEqProofs only [go_sem, Nat.reduceEqDiff, Nat.reduceAdd, reduceCtorEq, ↓reduceIte, c51]
           exact ⟨⟨(c, (IntKind.i64.wrap (i + 1))), H52⟩, ren_mk [] (by rfl) (ru_ (ru_ (rf_no _))) (rh_no _), Nat.lt_succ_self _⟩
         ·try simp -implicitDefEqProofs only [go_sem, Nat.reduceEqDiff, Nat.reduceAdd, reduceCtorEq, ↓reduceIte, c49]
          exact ⟨⟨(c, (IntKind.i64.wrap (i + 1))), H50⟩, ren_mk [] (by rfl) (ru_ (ru_ (rf_no _))) (rh_no _), Nat.lt_succ_self _⟩
        ·try simp -implicitDefEqProofs only [go_sem, Nat.reduceEqDiff, Nat.reduceAdd, reduceCtorEq, ↓reduceIte, c47]
         exact ⟨⟨(c, (IntKind.i64.wrap (i + 1))), H48⟩, ren_mk [] (by rfl) (ru_ (ru_ (rf_no _))) (rh_no _), Nat.lt_succ_self _⟩
      ·try simp -implicitDefEqProofs only [go_sem, ↓reduceIte, c36]
       obtain rfl := Option.some.inj H37
       exact ⟨⟨(), rfl⟩, ren_mk [] (by rfl) (rf_no _) (rh_no _)⟩
   ·rintro ⟨_, he53⟩
    replace he53 := he53.symm
    subst he53
    try dsimp only at H17
    refine runR_take tab_ok fol 1 ?_
    try simp -implicitDefEqProofs only [go_sem]
    obtain rfl := Option.some.inj H17
    exact end_pure (by simp -implicitDefEqProofs only [go_sem, ↓reduceIte, Tryz.f77] <;> rfl) (by rfl) rfl (by intro h; rfl)
end Go.Proofs.YtkkhgdmmbhpckaaGreat.Ab
