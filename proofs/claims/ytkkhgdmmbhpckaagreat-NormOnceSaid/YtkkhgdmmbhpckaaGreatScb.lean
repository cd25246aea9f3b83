/-
 Functions, read off the code.
-/
import Derived.Test.YtkkhgdmmbhpckaaGreatSca
namespace Go.Proofs.YtkkhgdmmbhpckaaGreat.Ab
open Go.RowKit
def ref13_Fact_L1 (n : Nat) (t0 : GLine) (t23 : List ByteArray) : Nat → (Int × Int) → Option (Int)
 | 0, _ => none
 | c + 1, (t50, t7) =>
  (if (decide (t7 < (t23.length : Int))) then
   (idx t23 t7).bind fun x3 =>
   (idx t0.words 0).bind fun x4 =>
   (if (x3.toList == x4.text.toList) then
    ref13_Fact_L1 n t0 t23 c (t7, (IntKind.i64.wrap (t7 + 1)))
   else
    ref13_Fact_L1 n t0 t23 c (t50, (IntKind.i64.wrap (t7 + 1))))
  else
   some t50)

def ref13_Fact_L2 (n : Nat) (t0 : GLine) (t503 : Int) : Nat → (Int × List ByteArray × Int) → Option ((Int × List ByteArray) ⊕ (GFact × Int × Int))
 | 0, _ => none
 | c + 1, (t54, t102, t112) =>
  (if (decide (t112 < (t0.words.length : Int))) then
   (idx t0.words t112).bind fun x8 =>
   (
    (if (t112 == 2) then
     (if (t503 == 6) then
      some true
     else
      some (t503 == 7))
    else
     some false) : Option (Bool)).bind fun t1052 =>
   (if t1052 then
    (ref13_number n x8.text).bind fun t1082 =>
    (if (t1082 == 0) then
     some (.inr ((⟨0, ByteArray.empty, ByteArray.empty, ByteArray.empty, 0, [], 0⟩ : GFact), x8.at_, 9))
    else
     ref13_Fact_L2 n t0 t503 c (t1082, t102, (IntKind.i64.wrap (t112 + 1))))
   else
    (ref1_Name n x8.text).bind fun t1183 =>
    (if t1183 then
     (app t102 [x8.text]).bind fun l2 =>
     ref13_Fact_L2 n t0 t503 c (t54, l2, (IntKind.i64.wrap (t112 + 1)))
    else
     some (.inr ((⟨0, ByteArray.empty, ByteArray.empty, ByteArray.empty, 0, [], 0⟩ : GFact), x8.at_, 15))))
  else
   some (.inl (t54, t102)))

def ref13_Fact (n : Nat) (t0 : GLine) : Option (GFact × Int × Int) :=
 (if ((t0.words.length : Int) == 0) then
  some ((⟨0, ByteArray.empty, ByteArray.empty, ByteArray.empty, 0, [], 0⟩ : GFact), t0.at_, 9)
 else
  (ref13_words n).bind fun t23 =>
  (
   ref13_Fact_L1 n t0 t23 n (0, 1) : Option (Int)).bind fun t503 =>
  (
   (
    (if (t503 == 1) then
     some true
    else
     some (t503 == 2)) : Option (Bool)).bind fun t53 =>
   (if t53 then
    some (.inl ((t0.words.length : Int) == 2))
   else
    (
     (if (t503 == 3) then
      some true
     else
      some (t503 == 4)) : Option (Bool)).bind fun t58 =>
    (if t58 then
     some (.inl ((t0.words.length : Int) == 3))
    else
     (if (t503 == 5) then
      some (.inl ((t0.words.length : Int) == 4))
     else
      (
       (if (t503 == 6) then
        some true
       else
        some (t503 == 7)) : Option (Bool)).bind fun t67 =>
      (if t67 then
       some (.inl (decide (5 ≤ (t0.words.length : Int))))
      else
       (if (t503 == 8) then
        some (.inl (decide (3 ≤ (t0.words.length : Int))))
       else
        (idx t0.words 0).bind fun x5 =>
        some (.inr ((⟨0, ByteArray.empty, ByteArray.empty, ByteArray.empty, 0, [], 0⟩ : GFact), x5.at_, 9))))))) : Option ((Bool) ⊕ (GFact × Int × Int))).bind fun
   | .inl t9 =>
    (if t9 then
     (
      ref13_Fact_L2 n t0 t503 n (0, [], 1) : Option ((Int × List ByteArray) ⊕ (GFact × Int × Int))).bind fun
      | .inl (t543, t104) =>
       (idx t104 0).bind fun x9 =>
       (
        (if (t503 == 3) then
         some true
        else
         some (t503 == 4)) : Option (Bool)).bind fun t134 =>
       (if t134 then
        (idx t104 1).bind fun x10 =>
        some ((⟨t503, x9, x10, ByteArray.empty, t543, [], t0.at_⟩ : GFact), 0, 0)
       else
        (if (t503 == 5) then
         (idx t104 1).bind fun x11 =>
         (idx t104 2).bind fun x12 =>
         some ((⟨t503, x9, x11, x12, t543, [], t0.at_⟩ : GFact), 0, 0)
        else
         (
          (if (t503 == 6) then
           some true
          else
           some (t503 == 7)) : Option (Bool)).bind fun t151 =>
         (if t151 then
          (slc t104 1 (t104.length : Int)).bind fun l3 =>
          (if (decide (1 < t104.length)) then
           some ((⟨t503, x9, ByteArray.empty, ByteArray.empty, t543, l3, t0.at_⟩ : GFact), 0, 0)
          else
           some ((⟨t503, x9, ByteArray.empty, ByteArray.empty, t543, [], t0.at_⟩ : GFact), 0, 0))
         else
          (if (t503 == 8) then
           (idx t104 1).bind fun x13 =>
           (slc t104 2 (t104.length : Int)).bind fun l4 =>
           (if (decide (2 < t104.length)) then
            some ((⟨t503, x9, x13, ByteArray.empty, t543, l4, t0.at_⟩ : GFact), 0, 0)
           else
            some ((⟨t503, x9, x13, ByteArray.empty, t543, [], t0.at_⟩ : GFact), 0, 0))
          else
           some ((⟨t503, x9, ByteArray.empty, ByteArray.empty, t543, [], t0.at_⟩ : GFact), 0, 0)))))
      | .inr r => some r
    else
     (idx t0.words 0).bind fun x14 =>
     some ((⟨0, ByteArray.empty, ByteArray.empty, ByteArray.empty, 0, [], 0⟩ : GFact), x14.at_, 9))
   | .inr r => some r)
set_option maxHeartbeats 8000000 in
theorem ref13_Fact_ok {n : Nat} {t0 : GLine} {r : GFact × Int × Int} (H : ref13_Fact n t0 = some r) : PureOK Tryz.prog 48 [D.ag (eGLine t0)] (D.tu [D.ag (eGFact r.1), D.v (.int .i64 r.2.1), D.v (.int .i64 r.2.2)]) true := by
 unfold ref13_Fact at H
 refine pure_runR (tab := tab) tab_ok Tryz.func48 rfl (by kernel_rfl) (by kernel_rfl) (by simp [Tryz.f48]) ?_
 refine runR_seq ?_
 refine runR_take tab_ok fol 1 ?_
 try simp -implicitDefEqProofs only [go_sem, Nat.reduceAdd, ↓reduceIte, eGLine, eGFact]
 refine runR_seq ?_
 refine runR_take tab_ok fol 1 ?_
 try simp -implicitDefEqProofs only [go_sem, Nat.reduceEqDiff, Nat.reduceAdd, reduceCtorEq, ↓reduceIte]
 rcases ite_inv H with ⟨c1, H2⟩ | ⟨c1, H2⟩
 ·try simp -implicitDefEqProofs only [go_sem, Nat.reduceEqDiff, Nat.reduceAdd, reduceCtorEq, ↓reduceIte, c1]
  refine Rd_endF (by rfl) ?_
  try simp -implicitDefEqProofs only [go_sem]
  obtain rfl := Option.some.inj H2
  exact end_pure (by simp -implicitDefEqProofs only [go_sem, Nat.reduceEqDiff, Nat.reduceAdd, ↓reduceIte, Tryz.f48] <;> rfl) (by rfl) rfl (by intro h; rfl)
 ·try simp -implicitDefEqProofs only [go_sem, c1]
  refine runR_seq ?_
  refine runR_take tab_ok fol 1 ?_
  try simp -implicitDefEqProofs only [go_sem, Nat.reduceEqDiff, Nat.reduceAdd, reduceCtorEq, ↓reduceIte]
  refine runR_seq ?_
  refine runR_take tab_ok fol 1 ?_
  obtain ⟨t23, b3, H4⟩ := bind_inv H2
  try simp -implicitDefEqProofs only [go_sem, Nat.reduceAdd]
  refine onCall_pure (by rfl) (ref13_words_ok b3) (by exact .inr rfl) ?_
  try simp -implicitDefEqProofs only [go_sem, Bool.false_and, Nat.reduceAdd, ↓reduceIte]
  refine runR_seq ?_
  refine runR_seq ?_
  refine runR_take tab_ok fol 1 ?_
  try simp -implicitDefEqProofs only [go_sem, Nat.reduceAdd]
  obtain ⟨e_, E5, H6⟩ := bind_inv H4
  refine runR_join (α := { y : Int // e_ = y }) (fun | ⟨t503, _⟩ => ⟨upd 1 (.pt 0 0) (upd 2 (.pt 1 0) (upd 5 (.pt 2 0) noFr)), upd 0 (some (.bx [.v (.int .i64 t0.at_), .d (.sl (List.map eGWord t0.words)) true])) (upd 1 (some (.bx [.v (.int .i64 0), .v (.string ByteArray.empty), .v (.string ByteArray.empty), .v (.string ByteArray.empty), .v (.int .i64 0), .v (.slice none 0 0), .v (.int .i64 0)])) (upd 2 (some (.bx [.v (.int .i64 t503), .v (.string ByteArray.empty), .v (.string ByteArray.empty), .v (.string ByteArray.empty), .v (.int .i64 0), .v (.slice none 0 0), .v (.int .i64 t0.at_)])) noHp)), 3⟩) ?_ ?_
  ·refine runR_block ?_
   refine runR_loop (α := { q : Nat × (Int × Int) // ref13_Fact_L1 n t0 t23 q.1 q.2 = some e_ }) (fun | ⟨⟨c, ⟨t50, t7⟩⟩, _⟩ => ⟨upd 1 (.pt 0 0) (upd 2 (.pt 1 0) (upd 5 (.pt 2 0) (upd 6 (.d (.sl (List.map eS t23)) false) (upd 7 (.v (.int .i64 t7)) noFr)))), upd 0 (some (.bx [.v (.int .i64 t0.at_), .d (.sl (List.map eGWord t0.words)) true])) (upd 1 (some (.bx [.v (.int .i64 0), .v (.string ByteArray.empty), .v (.string ByteArray.empty), .v (.string ByteArray.empty), .v (.int .i64 0), .v (.slice none 0 0), .v (.int .i64 0)])) (upd 2 (some (.bx [.v (.int .i64 t50), .v (.string ByteArray.empty), .v (.string ByteArray.empty), .v (.string ByteArray.empty), .v (.int .i64 0), .v (.slice none 0 0), .v (.int .i64 t0.at_)])) noHp)), 3⟩) (fun q => q.1.1) ⟨(n, (0, 1)), E5⟩ ?_ ?_
   ·exact ren_mk [(0, 0), (1, 1), (2, 11)] (by rfl) (ru_ (ru_ (ru_ (ru_ (ru_ (rf_no _)))))) (ro_ (ro_ (ro_ (rh_no _))))
   ·rintro ⟨⟨c, ⟨t50, t7⟩⟩, L7⟩
    rcases c with _ | c
    ·exact nomatch (show none = some _ from L7)
    ·unfold ref13_Fact_L1 at L7
     try dsimp only at L7
     refine runR_take tab_ok fol 1 ?_
     try simp -implicitDefEqProofs only [go_sem, Nat.reduceEqDiff, Nat.reduceAdd, ↓reduceIte]
     rcases ite_inv L7 with ⟨c24, H25⟩ | ⟨c24, H25⟩
     ·obtain ⟨x3, b26, H27⟩ := bind_inv H25
      obtain ⟨h28, h29⟩ := idx_inv b26
      try simp only [Int.reduceToNat, Int.toNat_natCast] at h29
      have h30 := map_at eS h29
      obtain ⟨x4, b32, H33⟩ := bind_inv H27
      obtain ⟨h34, h35⟩ := idx_inv b32
      try simp only [Int.reduceToNat] at h35
      have h36 := map_at eGWord h35
      try simp -implicitDefEqProofs only [go_sem, Int.reduceToNat, Nat.reduceEqDiff, Nat.reduceAdd, reduceCtorEq, ↓reduceIte, eGWord, c24, nat_of .i64 h28, h30, nat_of .i64 h34, h36]
      refine Rd_endF (by rfl) ?_
      try simp -implicitDefEqProofs only [go_sem, ↓reduceIte]
      rcases ite_inv H33 with ⟨c38, H39⟩ | ⟨c38, H39⟩
      ·try simp -implicitDefEqProofs only [go_sem, Nat.reduceEqDiff, Nat.reduceAdd, Nat.reduceLeDiff, reduceCtorEq, ↓reduceIte, c38]
       exact ⟨⟨(c, (t7, (IntKind.i64.wrap (t7 + 1)))), H39⟩, ren_mk [(0, 0), (1, 1), (2, 2)] (by rfl) (ru_ (ru_ (ru_ (ru_ (ru_ (rf_no _)))))) (ro_ (ro_ (ro_ (rh_no _)))), Nat.lt_succ_self _⟩
      ·try simp -implicitDefEqProofs only [go_sem, Nat.reduceEqDiff, Nat.reduceAdd, ↓reduceIte, c38]
       exact ⟨⟨(c, (t50, (IntKind.i64.wrap (t7 + 1)))), H39⟩, ren_mk [(0, 0), (1, 1), (2, 2)] (by rfl) (ru_ (ru_ (ru_ (ru_ (ru_ (rf_no _)))))) (ro_ (ro_ (ro_ (rh_no _)))), Nat.lt_succ_self _⟩
     ·try simp -implicitDefEqProofs only [go_sem, ↓reduceIte, c24]
      obtain rfl := Option.some.inj H25
      exact ⟨⟨t50, rfl⟩, ren_mk [(0, 0), (1, 1), (2, 2)] (by rfl) (ru_ (ru_ (ru_ (rf_no _)))) (ro_ (ro_ (ro_ (rh_no _))))⟩
  ·rintro ⟨t503, he248⟩
   replace he248 := he248.symm
   subst he248
   try dsimp only at H6
   refine runR_seq ?_
   refine runR_take tab_ok fol 1 ?_
   try simp -implicitDefEqProofs only [go_sem, Nat.reduceAdd, reduceCtorEq, ↓reduceIte]
   refine runR_seq ?_
   refine runR_take tab_ok fol 1 ?_
   try simp -implicitDefEqProofs only [go_sem, Nat.reduceAdd]
   refine runR_seq ?_
   refine runR_seq ?_
   refine runR_take tab_ok fol 1 ?_
   try simp -implicitDefEqProofs only [go_sem, Nat.reduceEqDiff, Nat.reduceAdd, reduceCtorEq, ↓reduceIte]
   obtain ⟨e_2, E40, H41⟩ := bind_inv H6
   refine runR_join (α := { y : Bool // e_2 = .inl y }) (fun | ⟨t9, _⟩ => ⟨upd 1 (.pt 0 0) (upd 2 (.pt 1 0) (upd 5 (.pt 2 0) (upd 8 (.v (.int .i64 (t0.words.length : Int))) (upd 9 (.v (.bool t9)) noFr)))), upd 0 (some (.bx [.v (.int .i64 t0.at_), .d (.sl (List.map eGWord t0.words)) true])) (upd 1 (some (.bx [.v (.int .i64 0), .v (.string ByteArray.empty), .v (.string ByteArray.empty), .v (.string ByteArray.empty), .v (.int .i64 0), .v (.slice none 0 0), .v (.int .i64 0)])) (upd 2 (some (.bx [.v (.int .i64 t503), .v (.string ByteArray.empty), .v (.string ByteArray.empty), .v (.string ByteArray.empty), .v (.int .i64 0), .v (.slice none 0 0), .v (.int .i64 t0.at_)])) noHp)), 3⟩) ?_ ?_
   ·refine runR_block ?_
    refine runR_seq ?_
    refine runR_seq ?_
    refine runR_take tab_ok fol 1 ?_
    try simp -implicitDefEqProofs only [go_sem, Nat.reduceAdd, ↓reduceIte]
    obtain ⟨e_3, E42, H43⟩ := bind_inv E40
    refine runR_join (α := { y : Bool // e_3 = y }) (fun | ⟨t53, _⟩ => ⟨upd 1 (.pt 0 0) (upd 2 (.pt 1 0) (upd 5 (.pt 2 0) (upd 8 (.v (.int .i64 (t0.words.length : Int))) (upd 46 (.v (.int .i64 t503)) (upd 53 (.v (.bool t53)) noFr))))), upd 0 (some (.bx [.v (.int .i64 t0.at_), .d (.sl (List.map eGWord t0.words)) true])) (upd 1 (some (.bx [.v (.int .i64 0), .v (.string ByteArray.empty), .v (.string ByteArray.empty), .v (.string ByteArray.empty), .v (.int .i64 0), .v (.slice none 0 0), .v (.int .i64 0)])) (upd 2 (some (.bx [.v (.int .i64 t503), .v (.string ByteArray.empty), .v (.string ByteArray.empty), .v (.string ByteArray.empty), .v (.int .i64 0), .v (.slice none 0 0), .v (.int .i64 t0.at_)])) noHp)), 3⟩) ?_ ?_
    ·refine runR_take tab_ok fol 1 ?_
     try simp -implicitDefEqProofs only [go_sem, ↓reduceIte]
     rcases ite_inv E42 with ⟨c44, H45⟩ | ⟨c44, H45⟩
     ·try simp -implicitDefEqProofs only [go_sem, c44]
      obtain rfl := Option.some.inj H45
      exact ⟨⟨true, rfl⟩, ren_mk [(0, 0), (1, 1), (2, 2)] (by rfl) (ru_ (ru_ (ru_ (ru_ (ru_ (ru_ (rf_no _))))))) (ro_ (ro_ (ro_ (rh_no _))))⟩
     ·try simp -implicitDefEqProofs only [go_sem, Nat.reduceEqDiff, Nat.reduceAdd, ↓reduceIte, c44]
      obtain rfl := Option.some.inj H45
      exact ⟨⟨(t503 == 2), rfl⟩, ren_mk [(0, 0), (1, 1), (2, 2)] (by rfl) (ru_ (ru_ (ru_ (ru_ (ru_ (ru_ (rf_no _))))))) (ro_ (ro_ (ro_ (rh_no _))))⟩
    ·rintro ⟨t53, he72⟩
     replace he72 := he72.symm
     subst he72
     try dsimp only at H43
     rcases ite_inv H43 with ⟨c46, H47⟩ | ⟨c46, H47⟩
     ·refine runR_condT (by rfl) c46 ?_
      try simp -implicitDefEqProofs only [go_sem, c46]
      refine runR_take tab_ok fol 2 ?_
      try simp -implicitDefEqProofs only [go_sem, Nat.reduceEqDiff, Nat.reduceAdd, ↓reduceIte]
      obtain rfl := Option.some.inj H47
      exact ⟨⟨((t0.words.length : Int) == 2), rfl⟩, ren_mk [(0, 0), (1, 1), (2, 2)] (by rfl) (ru_ (ru_ (ru_ (ru_ (ru_ (rf_no _)))))) (ro_ (ro_ (ro_ (rh_no _))))⟩
     ·refine runR_condF (by rfl) c46 ?_
      try simp -implicitDefEqProofs only [go_sem, c46]
      refine runR_seq ?_
      refine runR_seq ?_
      refine runR_take tab_ok fol 1 ?_
      try simp -implicitDefEqProofs only [go_sem, Nat.reduceEqDiff, Nat.reduceAdd, ↓reduceIte]
      obtain ⟨e_4, E48, H49⟩ := bind_inv H47
      refine runR_join (α := { y : Bool // e_4 = y }) (fun | ⟨t58, _⟩ => ⟨upd 1 (.pt 0 0) (upd 2 (.pt 1 0) (upd 5 (.pt 2 0) (upd 8 (.v (.int .i64 (t0.words.length : Int))) (upd 46 (.v (.int .i64 t503)) (upd 58 (.v (.bool t58)) noFr))))), upd 0 (some (.bx [.v (.int .i64 t0.at_), .d (.sl (List.map eGWord t0.words)) true])) (upd 1 (some (.bx [.v (.int .i64 0), .v (.string ByteArray.empty), .v (.string ByteArray.empty), .v (.string ByteArray.empty), .v (.int .i64 0), .v (.slice none 0 0), .v (.int .i64 0)])) (upd 2 (some (.bx [.v (.int .i64 t503), .v (.string ByteArray.empty), .v (.string ByteArray.empty), .v (.string ByteArray.empty), .v (.int .i64 0), .v (.slice none 0 0), .v (.int .i64 t0.at_)])) noHp)), 3⟩) ?_ ?_
      ·refine runR_take tab_ok fol 1 ?_
       try simp -implicitDefEqProofs only [go_sem, ↓reduceIte]
       rcases ite_inv E48 with ⟨c50, H51⟩ | ⟨c50, H51⟩
       ·try simp -implicitDefEqProofs only [go_sem, c50]
        obtain rfl := Option.some.inj H51
        exact ⟨⟨true, rfl⟩, ren_mk [(0, 0), (1, 1), (2, 2)] (by rfl) (ru_ (ru_ (ru_ (ru_ (ru_ (ru_ (rf_no _))))))) (ro_ (ro_ (ro_ (rh_no _))))⟩
       ·try simp -implicitDefEqProofs only [go_sem, Nat.reduceEqDiff, Nat.reduceAdd, ↓reduceIte, c50]
        obtain rfl := Option.some.inj H51
        exact ⟨⟨(t503 == 4), rfl⟩, ren_mk [(0, 0), (1, 1), (2, 2)] (by rfl) (ru_ (ru_ (ru_ (ru_ (ru_ (ru_ (rf_no _))))))) (ro_ (ro_ (ro_ (rh_no _))))⟩
      ·rintro ⟨t58, he71⟩
       replace he71 := he71.symm
       subst he71
       try dsimp only at H49
       rcases ite_inv H49 with ⟨c52, H53⟩ | ⟨c52, H53⟩
       ·refine runR_condT (by rfl) c52 ?_
        try simp -implicitDefEqProofs only [go_sem, c52]
        refine runR_take tab_ok fol 2 ?_
        try simp -implicitDefEqProofs only [go_sem, Nat.reduceEqDiff, Nat.reduceAdd, ↓reduceIte]
        obtain rfl := Option.some.inj H53
        exact ⟨⟨((t0.words.length : Int) == 3), rfl⟩, ren_mk [(0, 0), (1, 1), (2, 2)] (by rfl) (ru_ (ru_ (ru_ (ru_ (ru_ (rf_no _)))))) (ro_ (ro_ (ro_ (rh_no _))))⟩
       ·refine runR_condF (by rfl) c52 ?_
        try simp -implicitDefEqProofs only [go_sem, c52]
        refine runR_seq ?_
        refine runR_take tab_ok fol 1 ?_
        try simp -implicitDefEqProofs only [go_sem, Nat.reduceEqDiff, Nat.reduceAdd, ↓reduceIte]
        rcases ite_inv H53 with ⟨c54, H55⟩ | ⟨c54, H55⟩
        ·refine runR_condT (by rfl) c54 ?_
         try simp -implicitDefEqProofs only [go_sem, c54]
         refine runR_take tab_ok fol 2 ?_
         try simp -implicitDefEqProofs only [go_sem, Nat.reduceEqDiff, Nat.reduceAdd, ↓reduceIte]
         obtain rfl := Option.some.inj H55
         exact ⟨⟨((t0.words.length : Int) == 4), rfl⟩, ren_mk [(0, 0), (1, 1), (2, 2)] (by rfl) (ru_ (ru_ (ru_ (ru_ (ru_ (rf_no _)))))) (ro_ (ro_ (ro_ (rh_no _))))⟩
        ·refine runR_condF (by rfl) c54 ?_
         try simp -implicitDefEqProofs only [go_sem, c54]
         refine runR_seq ?_
         refine runR_seq ?_
         refine runR_take tab_ok fol 1 ?_
         try simp -implicitDefEqProofs only [go_sem, Nat.reduceEqDiff, Nat.reduceAdd, ↓reduceIte]
         obtain ⟨e_5, E56, H57⟩ := bind_inv H55
         refine runR_join (α := { y : Bool // e_5 = y }) (fun | ⟨t67, _⟩ => ⟨upd 1 (.pt 0 0) (upd 2 (.pt 1 0) (upd 5 (.pt 2 0) (upd 8 (.v (.int .i64 (t0.words.length : Int))) (upd 46 (.v (.int .i64 t503)) (upd 67 (.v (.bool t67)) noFr))))), upd 0 (some (.bx [.v (.int .i64 t0.at_), .d (.sl (List.map eGWord t0.words)) true])) (upd 1 (some (.bx [.v (.int .i64 0), .v (.string ByteArray.empty), .v (.string ByteArray.empty), .v (.string ByteArray.empty), .v (.int .i64 0), .v (.slice none 0 0), .v (.int .i64 0)])) (upd 2 (some (.bx [.v (.int .i64 t503), .v (.string ByteArray.empty), .v (.string ByteArray.empty), .v (.string ByteArray.empty), .v (.int .i64 0), .v (.slice none 0 0), .v (.int .i64 t0.at_)])) noHp)), 3⟩) ?_ ?_
         ·refine runR_take tab_ok fol 1 ?_
          try simp -implicitDefEqProofs only [go_sem, ↓reduceIte]
          rcases ite_inv E56 with ⟨c58, H59⟩ | ⟨c58, H59⟩
          ·try simp -implicitDefEqProofs only [go_sem, c58]
           obtain rfl := Option.some.inj H59
           exact ⟨⟨true, rfl⟩, ren_mk [(0, 0), (1, 1), (2, 2)] (by rfl) (ru_ (ru_ (ru_ (ru_ (ru_ (ru_ (rf_no _))))))) (ro_ (ro_ (ro_ (rh_no _))))⟩
          ·try simp -implicitDefEqProofs only [go_sem, Nat.reduceEqDiff, Nat.reduceAdd, ↓reduceIte, c58]
           obtain rfl := Option.some.inj H59
           exact ⟨⟨(t503 == 7), rfl⟩, ren_mk [(0, 0), (1, 1), (2, 2)] (by rfl) (ru_ (ru_ (ru_ (ru_ (ru_ (ru_ (rf_no _))))))) (ro_ (ro_ (ro_ (rh_no _))))⟩
         ·rintro ⟨t67, he70⟩
          replace he70 := he70.symm
          subst he70
          try dsimp only at H57
          refine runR_take tab_ok fol 2 ?_
          try simp -implicitDefEqProofs only [go_sem, Nat.reduceEqDiff, ↓reduceIte]
          rcases ite_inv H57 with ⟨c60, H61⟩ | ⟨c60, H61⟩
          ·try simp -implicitDefEqProofs only [go_sem, Nat.reduceEqDiff, Nat.reduceAdd, ↓reduceIte, c60]
           obtain rfl := Option.some.inj H61
           exact ⟨⟨(decide (5 ≤ (t0.words.length : Int))), rfl⟩, ren_mk [(0, 0), (1, 1), (2, 2)] (by rfl) (ru_ (ru_ (ru_ (ru_ (ru_ (rf_no _)))))) (ro_ (ro_ (ro_ (rh_no _))))⟩
          ·try simp -implicitDefEqProofs only [go_sem, Nat.reduceEqDiff, Nat.reduceAdd, ↓reduceIte, c60]
           rcases ite_inv H61 with ⟨c62, H63⟩ | ⟨c62, H63⟩
           ·try simp -implicitDefEqProofs only [go_sem, Nat.reduceEqDiff, Nat.reduceAdd, ↓reduceIte, c62]
            obtain rfl := Option.some.inj H63
            exact ⟨⟨(decide (3 ≤ (t0.words.length : Int))), rfl⟩, ren_mk [(0, 0), (1, 1), (2, 2)] (by rfl) (ru_ (ru_ (ru_ (ru_ (ru_ (rf_no _)))))) (ro_ (ro_ (ro_ (rh_no _))))⟩
           ·obtain ⟨x5, b64, H65⟩ := bind_inv H63
            obtain ⟨h66, h67⟩ := idx_inv b64
            try simp only [Int.reduceToNat] at h67
            have h68 := map_at eGWord h67
            try simp -implicitDefEqProofs only [go_sem, Int.reduceToNat, Nat.reduceEqDiff, Nat.reduceAdd, reduceCtorEq, ↓reduceIte, eGWord, c62, nat_of .i64 h66, h68]
            refine Rd_endF (by rfl) ?_
            try simp -implicitDefEqProofs only [go_sem]
            obtain rfl := Option.some.inj H65
            obtain rfl := Option.some.inj H41
            exact end_pure (by simp -implicitDefEqProofs only [go_sem, Nat.reduceEqDiff, Nat.reduceAdd, ↓reduceIte, Tryz.f48] <;> rfl) (by rfl) rfl (by intro h; rfl)
   ·rintro ⟨t9, he247⟩
    replace he247 := he247.symm
    subst he247
    try dsimp only at H41
    refine runR_seq ?_
    refine runR_take tab_ok fol 1 ?_
    try simp -implicitDefEqProofs only [go_sem, Nat.reduceEqDiff, Nat.reduceAdd, ↓reduceIte]
    rcases ite_inv H41 with ⟨c73, H74⟩ | ⟨c73, H74⟩
    ·try simp -implicitDefEqProofs only [go_sem, c73]
     refine runR_seq ?_
     refine runR_take tab_ok fol 1 ?_
     try simp -implicitDefEqProofs only [go_sem, Nat.reduceAdd]
     refine runR_seq ?_
     refine runR_seq ?_
     refine runR_take tab_ok fol 1 ?_
     try simp -implicitDefEqProofs only [go_sem, Nat.reduceAdd]
     obtain ⟨e_6, E75, H76⟩ := bind_inv H74
     refine runR_join (α := { y : Int × List ByteArray // e_6 = .inl y } × Nat) (fun | ⟨⟨⟨t543, t104⟩, _⟩, g6⟩ => ⟨upd 2 (.pt 0 0) (upd 5 (.pt 1 0) (upd 10 (accV 2 g6 (List.map eS t104)) noFr)), upd 0 (some (.bx [.v (.int .i64 0), .v (.string ByteArray.empty), .v (.string ByteArray.empty), .v (.string ByteArray.empty), .v (.int .i64 0), .v (.slice none 0 0), .v (.int .i64 0)])) (upd 1 (some (.bx [.v (.int .i64 t503), .v (.string ByteArray.empty), .v (.string ByteArray.empty), .v (.string ByteArray.empty), .v (.int .i64 t543), .v (.slice none 0 0), .v (.int .i64 t0.at_)])) (upd 2 (accO 1 g6 false (List.map eS t104)) noHp)), 3⟩) ?_ ?_
     ·refine runR_block ?_
      refine runR_loop (α := { q : (Nat × (Int × List ByteArray × Int)) × Nat // ref13_Fact_L2 n t0 t503 q.1.1 q.1.2 = some e_6 }) (fun | ⟨⟨⟨c, ⟨t54, t102, t112⟩⟩, g3⟩, _⟩ => ⟨upd 1 (.pt 0 0) (upd 2 (.pt 1 0) (upd 5 (.pt 2 0) (upd 8 (.v (.int .i64 (t0.words.length : Int))) (upd 10 (accV 3 g3 (List.map eS t102)) (upd 11 (.v (.int .i64 t112)) noFr))))), upd 0 (some (.bx [.v (.int .i64 t0.at_), .d (.sl (List.map eGWord t0.words)) true])) (upd 1 (some (.bx [.v (.int .i64 0), .v (.string ByteArray.empty), .v (.string ByteArray.empty), .v (.string ByteArray.empty), .v (.int .i64 0), .v (.slice none 0 0), .v (.int .i64 0)])) (upd 2 (some (.bx [.v (.int .i64 t503), .v (.string ByteArray.empty), .v (.string ByteArray.empty), .v (.string ByteArray.empty), .v (.int .i64 t54), .v (.slice none 0 0), .v (.int .i64 t0.at_)])) (upd 3 (accO 1 g3 false (List.map eS t102)) noHp))), 4⟩) (fun q => q.1.1.1) ⟨((n, (0, [], 1)), 0), E75⟩ ?_ ?_
      ·exact ren_mk [(0, 0), (1, 1), (2, 2)] (by rfl) (ru_ (ru_ (ru_ (ru_ (ru_ (ru_ (rf_no _))))))) (ro_ (ro_ (ro_ (rh_upd rh_accN (rh_no _)))))
      ·rintro ⟨⟨⟨c, ⟨t54, t102, t112⟩⟩, g3⟩, L77⟩
       rcases c with _ | c
       ·exact nomatch (show none = some _ from L77)
       ·unfold ref13_Fact_L2 at L77
        try dsimp only at L77
        refine runR_seq ?_
        refine runR_take tab_ok fol 1 ?_
        try simp -implicitDefEqProofs only [go_sem, Nat.reduceEqDiff, Nat.reduceAdd, ↓reduceIte]
        rcases ite_inv L77 with ⟨c126, H127⟩ | ⟨c126, H127⟩
        ·try simp -implicitDefEqProofs only [go_sem, c126]
         refine runR_seq ?_
         refine runR_block ?_
         refine runR_seq ?_
         refine runR_take tab_ok fol 1 ?_
         obtain ⟨x8, b128, H129⟩ := bind_inv H127
         obtain ⟨h130, h131⟩ := idx_inv b128
         try simp only [Int.reduceToNat, Int.toNat_natCast] at h131
         have h132 := map_at eGWord h131
         try simp -implicitDefEqProofs only [go_sem, Nat.reduceEqDiff, Nat.reduceAdd, reduceCtorEq, ↓reduceIte, eGWord, nat_of .i64 h130, h132]
         refine runR_seq ?_
         refine runR_seq ?_
         obtain ⟨e_9, E134, H135⟩ := bind_inv H129
         refine runR_join (α := { y : Bool // e_9 = y } × Nat) (fun | ⟨⟨t1052, _⟩, g4⟩ => ⟨upd 1 (.pt 0 0) (upd 2 (.pt 1 0) (upd 5 (.pt 2 0) (upd 8 (.v (.int .i64 (t0.words.length : Int))) (upd 10 (accV 3 g4 (List.map eS t102)) (upd 11 (.v (.int .i64 t112)) (upd 12 (.pt 4 0) (upd 105 (.v (.bool t1052)) noFr))))))), upd 0 (some (.bx [.v (.int .i64 t0.at_), .d (.sl (List.map eGWord t0.words)) true])) (upd 1 (some (.bx [.v (.int .i64 0), .v (.string ByteArray.empty), .v (.string ByteArray.empty), .v (.string ByteArray.empty), .v (.int .i64 0), .v (.slice none 0 0), .v (.int .i64 0)])) (upd 2 (some (.bx [.v (.int .i64 t503), .v (.string ByteArray.empty), .v (.string ByteArray.empty), .v (.string ByteArray.empty), .v (.int .i64 t54), .v (.slice none 0 0), .v (.int .i64 t0.at_)])) (upd 3 (accO 1 g4 false (List.map eS t102)) (upd 4 (some (.bx [.v (.string x8.text), .v (.int .i64 x8.at_)])) noHp)))), 5⟩) ?_ ?_
         ·refine runR_take tab_ok fol 1 ?_
          try simp -implicitDefEqProofs only [go_sem, Nat.reduceEqDiff, Nat.reduceAdd, ↓reduceIte]
          rcases ite_inv E134 with ⟨c136, H137⟩ | ⟨c136, H137⟩
          ·try simp -implicitDefEqProofs only [go_sem, Nat.reduceEqDiff, Nat.reduceAdd, reduceCtorEq, ↓reduceIte, c136]
           rcases ite_inv H137 with ⟨c138, H139⟩ | ⟨c138, H139⟩
           ·try simp -implicitDefEqProofs only [go_sem, Nat.reduceEqDiff, Nat.reduceAdd, ↓reduceIte, c138]
            obtain rfl := Option.some.inj H139
            exact ⟨⟨⟨true, rfl⟩, g3⟩, ren_mk [(0, 0), (1, 1), (2, 2), (3, 3), (4, 12)] (by rfl) (ru_ (ru_ (ru_ (ru_ (rn_ (ru_ (ru_ (ru_ (rf_no _))))))))) (ro_ (ro_ (ro_ (ra_ (ro_ (rh_no _))))))⟩
           ·try simp -implicitDefEqProofs only [go_sem, Nat.reduceEqDiff, Nat.reduceAdd, reduceCtorEq, ↓reduceIte, c138]
            obtain rfl := Option.some.inj H139
            exact ⟨⟨⟨(t503 == 7), rfl⟩, g3⟩, ren_mk [(0, 0), (1, 1), (2, 2), (3, 3), (4, 12)] (by rfl) (ru_ (ru_ (ru_ (ru_ (rn_ (ru_ (ru_ (ru_ (rf_no _))))))))) (ro_ (ro_ (ro_ (ra_ (ro_ (rh_no _))))))⟩
          ·try simp -implicitDefEqProofs only [go_sem, Nat.reduceEqDiff, Nat.reduceAdd, ↓reduceIte, c136]
           obtain rfl := Option.some.inj H137
           exact ⟨⟨⟨false, rfl⟩, g3⟩, ren_mk [(0, 0), (1, 1), (2, 2), (3, 3), (4, 12)] (by rfl) (ru_ (ru_ (ru_ (ru_ (rn_ (ru_ (ru_ (ru_ (rf_no _))))))))) (ro_ (ro_ (ro_ (ra_ (ro_ (rh_no _))))))⟩
         ·rintro ⟨⟨t1052, he158⟩, g4⟩
          replace he158 := he158.symm
          subst he158
          try dsimp only at H135
          refine runR_take tab_ok fol 4 ?_
          try simp -implicitDefEqProofs only [go_sem, Nat.reduceEqDiff, ↓reduceIte]
          rcases ite_inv H135 with ⟨c140, H141⟩ | ⟨c140, H141⟩
          ·obtain ⟨t1082, b142, H143⟩ := bind_inv H141
           try simp -implicitDefEqProofs only [go_sem, Nat.reduceEqDiff, Nat.reduceAdd, reduceCtorEq, ↓reduceIte, c140]
           refine onCall_pure (by rfl) (ref13_number_ok b142) (by exact .inr rfl) ?_
           try simp -implicitDefEqProofs only [go_sem, Bool.false_and, Nat.reduceEqDiff, Nat.reduceAdd, Nat.reduceLeDiff, reduceCtorEq, ↓reduceIte]
           rcases ite_inv H143 with ⟨c144, H145⟩ | ⟨c144, H145⟩
           ·try simp -implicitDefEqProofs only [go_sem, Nat.reduceEqDiff, Nat.reduceAdd, reduceCtorEq, ↓reduceIte, c144]
            refine Rd_endF (by rfl) ?_
            try simp -implicitDefEqProofs only [go_sem]
            obtain rfl := Option.some.inj H145
            obtain rfl := Option.some.inj H76
            exact end_pure (by simp -implicitDefEqProofs only [go_sem, Nat.reduceEqDiff, Nat.reduceAdd, ↓reduceIte, Tryz.f48] <;> rfl) (by rfl) rfl (by intro h; rfl)
           ·try simp -implicitDefEqProofs only [go_sem, Nat.reduceEqDiff, Nat.reduceAdd, ↓reduceIte, c144]
            exact ⟨⟨((c, (t1082, t102, (IntKind.i64.wrap (t112 + 1)))), g4), H145⟩, ren_mk [(0, 0), (1, 1), (2, 2), (3, 3)] (by rfl) (ru_ (ru_ (ru_ (ru_ (rn_ (ru_ (rf_no _))))))) (ro_ (ro_ (ro_ (ra_ (rh_no _))))), Nat.lt_succ_self _⟩
          ·obtain ⟨t1183, b146, H147⟩ := bind_inv H141
           try simp -implicitDefEqProofs only [go_sem, Nat.reduceEqDiff, Nat.reduceAdd, reduceCtorEq, ↓reduceIte, c140]
           refine onCall_pure (by rfl) (ref1_Name_ok b146) (by exact .inr rfl) ?_
           try simp -implicitDefEqProofs only [go_sem, Bool.false_and, Nat.reduceAdd, ↓reduceIte]
           rcases ite_inv H147 with ⟨c148, H149⟩ | ⟨c148, H149⟩
           ·obtain ⟨l2, b150, H151⟩ := bind_inv H149
            obtain ⟨h152, h153⟩ := app_inv b150
            have h152 : t102.length + 1 ≤ 4294967296 := h152
            have h154 : List.map eS t102 ++ [[.v (.string x8.text)]] = List.map eS l2 := app_map eS h153
            have h155 : t102.length + 1 = l2.length := app_len h153
            have h156 : l2.length ≤ 4294967296 := by omega
            have q157 : 0 < l2.length := by omega
            try simp -implicitDefEqProofs only [go_sem, Nat.reduceLT, Nat.reduceEqDiff, Nat.reduceAdd, Nat.reduceLeDiff, reduceCtorEq, ↓reduceIte, c148, h154, h155, h156]
            rcases t102 with _ | ⟨q0, q1⟩
            ·try simp only [List.map_nil, accI, accN]
             exact ⟨⟨((c, (t54, l2, (IntKind.i64.wrap (t112 + 1)))), 0), H151⟩, ren_mk [(0, 0), (1, 1), (2, 2), (3, 13)] (by rfl) (ru_ (ru_ (ru_ (ru_ (rf_upd (by exact ren_accP (by rfl) q157) (ru_ (rf_no _))))))) (ro_ (ro_ (ro_ (rh_upd (by exact rh_accP (by rfl) q157 (by rfl)) (rh_no _))))), Nat.lt_succ_self _⟩
            ·try simp only [List.map_cons, accI, accN]
             exact ⟨⟨((c, (t54, l2, (IntKind.i64.wrap (t112 + 1)))), (g4 + 1)), H151⟩, ren_mk [(0, 0), (1, 1), (2, 2), (3, 3)] (by rfl) (ru_ (ru_ (ru_ (ru_ (rf_upd (by exact ren_accP (by rfl) q157) (ru_ (rf_no _))))))) (ro_ (ro_ (ro_ (rh_upd (by exact rh_accP (by rfl) q157 (by rfl)) (rh_no _))))), Nat.lt_succ_self _⟩
           ·try simp -implicitDefEqProofs only [go_sem, Nat.reduceEqDiff, Nat.reduceAdd, reduceCtorEq, ↓reduceIte, c148]
            refine Rd_endF (by rfl) ?_
            try simp -implicitDefEqProofs only [go_sem]
            obtain rfl := Option.some.inj H149
            obtain rfl := Option.some.inj H76
            exact end_pure (by simp -implicitDefEqProofs only [go_sem, Nat.reduceEqDiff, Nat.reduceAdd, ↓reduceIte, Tryz.f48] <;> rfl) (by rfl) rfl (by intro h; rfl)
        ·try simp -implicitDefEqProofs only [go_sem, ↓reduceIte, c126]
         obtain rfl := Option.some.inj H127
         exact ⟨⟨⟨(t54, t102), rfl⟩, g3⟩, ren_mk [(0, 1), (1, 2), (2, 3)] (by rfl) (ru_ (ru_ (rn_ (rf_no _)))) (ro_ (ro_ (ra_ (rh_no _))))⟩
     ·rintro ⟨⟨⟨t543, t104⟩, he240⟩, g6⟩
      replace he240 := he240.symm
      subst he240
      try dsimp only at H76
      refine runR_seq ?_
      refine runR_take tab_ok fol 1 ?_
      obtain ⟨x9, b159, H160⟩ := bind_inv H76
      obtain ⟨h161, h162⟩ := idx_inv b159
      try simp only [Int.reduceToNat] at h162
      have h163 := map_at eS h162
      have h164 := at_lt h162
      have q165 : 0 < t104.length := by omega
      try simp -implicitDefEqProofs only [go_sem, Int.reduceToNat, Nat.reduceEqDiff, Nat.reduceAdd, Nat.reduceLeDiff, reduceCtorEq, ↓reduceIte, nat_of .i64 h161, h163, h164, accV_pos (f := eS) q165, accO_pos (f := eS) q165]
      refine runR_seq ?_
      refine runR_seq ?_
      refine runR_take tab_ok fol 1 ?_
      try simp -implicitDefEqProofs only [go_sem, Nat.reduceEqDiff, Nat.reduceAdd, reduceCtorEq, ↓reduceIte]
      refine runR_block ?_
      refine runR_seq ?_
      refine runR_seq ?_
      refine runR_take tab_ok fol 1 ?_
      try simp -implicitDefEqProofs only [go_sem, Nat.reduceAdd, ↓reduceIte]
      obtain ⟨e_10, E166, H167⟩ := bind_inv H160
      refine runR_join (α := { y : Bool // e_10 = y }) (fun | ⟨t134, _⟩ => ⟨upd 2 (.pt 0 0) (upd 5 (.pt 1 0) (upd 10 (.so 2 g6 0 (t104.length)) (upd 133 (.v (.int .i64 t503)) (upd 134 (.v (.bool t134)) noFr)))), upd 0 (some (.bx [.v (.int .i64 0), .v (.string ByteArray.empty), .v (.string ByteArray.empty), .v (.string ByteArray.empty), .v (.int .i64 0), .v (.slice none 0 0), .v (.int .i64 0)])) (upd 1 (some (.bx [.v (.int .i64 t503), .v (.string x9), .v (.string ByteArray.empty), .v (.string ByteArray.empty), .v (.int .i64 t543), .v (.slice none 0 0), .v (.int .i64 t0.at_)])) (upd 2 (some (.rw (List.map eS t104) 1 g6 false false)) noHp)), 3⟩) ?_ ?_
      ·refine runR_take tab_ok fol 1 ?_
       try simp -implicitDefEqProofs only [go_sem, ↓reduceIte]
       rcases ite_inv E166 with ⟨c168, H169⟩ | ⟨c168, H169⟩
       ·try simp -implicitDefEqProofs only [go_sem, c168]
        obtain rfl := Option.some.inj H169
        exact ⟨⟨true, rfl⟩, ren_mk [(0, 0), (1, 1), (2, 2)] (by rfl) (ru_ (ru_ (ru_ (ru_ (ru_ (rf_no _)))))) (ro_ (ro_ (ro_ (rh_no _))))⟩
       ·try simp -implicitDefEqProofs only [go_sem, Nat.reduceEqDiff, Nat.reduceAdd, ↓reduceIte, c168]
        obtain rfl := Option.some.inj H169
        exact ⟨⟨(t503 == 4), rfl⟩, ren_mk [(0, 0), (1, 1), (2, 2)] (by rfl) (ru_ (ru_ (ru_ (ru_ (ru_ (rf_no _)))))) (ro_ (ro_ (ro_ (rh_no _))))⟩
      ·rintro ⟨t134, he239⟩
       replace he239 := he239.symm
       subst he239
       try dsimp only at H167
       rcases ite_inv H167 with ⟨c170, H171⟩ | ⟨c170, H171⟩
       ·refine runR_condT (by rfl) c170 ?_
        try simp -implicitDefEqProofs only [go_sem, c170]
        refine runR_take tab_ok fol 3 ?_
        obtain ⟨x10, b172, H173⟩ := bind_inv H171
        obtain ⟨h174, h175⟩ := idx_inv b172
        try simp only [Int.reduceToNat] at h175
        have h176 := map_at eS h175
        have h177 := at_lt h175
        try simp -implicitDefEqProofs only [go_sem, Int.reduceToNat, Nat.reduceEqDiff, Nat.reduceAdd, Nat.reduceLeDiff, reduceCtorEq, ↓reduceIte, nat_of .i64 h174, h176, h177]
        obtain rfl := Option.some.inj H173
        exact end_pure (by simp -implicitDefEqProofs only [go_sem, Nat.reduceEqDiff, Nat.reduceAdd, ↓reduceIte, Tryz.f48] <;> rfl) (by rfl) rfl (by intro h; rfl)
       ·refine runR_condF (by rfl) c170 ?_
        try simp -implicitDefEqProofs only [go_sem, c170]
        refine runR_seq ?_
        refine runR_take tab_ok fol 1 ?_
        try simp -implicitDefEqProofs only [go_sem, Nat.reduceEqDiff, Nat.reduceAdd, ↓reduceIte]
        rcases ite_inv H171 with ⟨c178, H179⟩ | ⟨c178, H179⟩
        ·refine runR_condT (by rfl) c178 ?_
         try simp -implicitDefEqProofs only [go_sem, c178]
         refine runR_take tab_ok fol 3 ?_
         obtain ⟨x11, b180, H181⟩ := bind_inv H179
         obtain ⟨h182, h183⟩ := idx_inv b180
         try simp only [Int.reduceToNat] at h183
         have h184 := map_at eS h183
         have h185 := at_lt h183
         obtain ⟨x12, b186, H187⟩ := bind_inv H181
         obtain ⟨h188, h189⟩ := idx_inv b186
         try simp only [Int.reduceToNat] at h189
         have h190 := map_at eS h189
         have h191 := at_lt h189
         try simp -implicitDefEqProofs only [go_sem, Int.reduceToNat, Nat.reduceEqDiff, Nat.reduceAdd, Nat.reduceLeDiff, reduceCtorEq, ↓reduceIte, nat_of .i64 h182, h184, h185, nat_of .i64 h188, h190, h191]
         refine Rd_endF (by rfl) ?_
         try simp -implicitDefEqProofs only [go_sem, Nat.reduceEqDiff, Nat.reduceAdd, reduceCtorEq, ↓reduceIte]
         obtain rfl := Option.some.inj H187
         exact end_pure (by simp -implicitDefEqProofs only [go_sem, Nat.reduceEqDiff, Nat.reduceAdd, ↓reduceIte, Tryz.f48] <;> rfl) (by rfl) rfl (by intro h; rfl)
        ·refine runR_condF (by rfl) c178 ?_
         try simp -implicitDefEqProofs only [go_sem, c178]
         refine runR_seq ?_
         refine runR_seq ?_
         refine runR_take tab_ok fol 1 ?_
         try simp -implicitDefEqProofs only [go_sem, Nat.reduceEqDiff, Nat.reduceAdd, ↓reduceIte]
         obtain ⟨e_11, E192, H193⟩ := bind_inv H179
         refine runR_join (α := { y : Bool // e_11 = y }) (fun | ⟨t151, _⟩ => ⟨upd 2 (.pt 0 0) (upd 5 (.pt 1 0) (upd 10 (.so 2 g6 0 (t104.length)) (upd 133 (.v (.int .i64 t503)) (upd 151 (.v (.bool t151)) noFr)))), upd 0 (some (.bx [.v (.int .i64 0), .v (.string ByteArray.empty), .v (.string ByteArray.empty), .v (.string ByteArray.empty), .v (.int .i64 0), .v (.slice none 0 0), .v (.int .i64 0)])) (upd 1 (some (.bx [.v (.int .i64 t503), .v (.string x9), .v (.string ByteArray.empty), .v (.string ByteArray.empty), .v (.int .i64 t543), .v (.slice none 0 0), .v (.int .i64 t0.at_)])) (upd 2 (some (.rw (List.map eS t104) 1 g6 false false)) noHp)), 3⟩) ?_ ?_
         ·refine runR_take tab_ok fol 1 ?_
          try simp -implicitDefEqProofs only [go_sem, ↓reduceIte]
          rcases ite_inv E192 with ⟨c194, H195⟩ | ⟨c194, H195⟩
          ·try simp -implicitDefEqProofs only [go_sem, c194]
           obtain rfl := Option.some.inj H195
           exact ⟨⟨true, rfl⟩, ren_mk [(0, 0), (1, 1), (2, 2)] (by rfl) (ru_ (ru_ (ru_ (ru_ (ru_ (rf_no _)))))) (ro_ (ro_ (ro_ (rh_no _))))⟩
          ·try simp -implicitDefEqProofs only [go_sem, Nat.reduceEqDiff, Nat.reduceAdd, ↓reduceIte, c194]
           obtain rfl := Option.some.inj H195
           exact ⟨⟨(t503 == 7), rfl⟩, ren_mk [(0, 0), (1, 1), (2, 2)] (by rfl) (ru_ (ru_ (ru_ (ru_ (ru_ (rf_no _)))))) (ro_ (ro_ (ro_ (rh_no _))))⟩
         ·rintro ⟨t151, he238⟩
          replace he238 := he238.symm
          subst he238
          try dsimp only at H193
          refine runR_take tab_ok fol 3 ?_
          try simp -implicitDefEqProofs only [go_sem, Nat.reduceEqDiff, ↓reduceIte]
          rcases ite_inv H193 with ⟨c196, H197⟩ | ⟨c196, H197⟩
          ·obtain ⟨l3, b198, H199⟩ := bind_inv H197
           obtain ⟨h200, h201, h202, h203⟩ := slc_inv b198
           have h204 : 1 ≤ t104.length := by omega
           have h205 : t104.length ≤ t104.length := by omega
           simp only [Int.toNat_natCast, List.take_length] at h203
           have h207 : t104.length - 1 = l3.length := by rw [h203]; simp; try omega
           have h206 : List.take l3.length (List.drop (1) (List.map eS t104)) = List.map eS l3 := part_all eS h203
           try simp only [Int.toNat_natCast] at h204 h205 h206 h207
           try simp -implicitDefEqProofs only [go_sem, Int.reduceToNat, Nat.reduceEqDiff, Nat.reduceAdd, reduceCtorEq, ↓reduceIte, c196, nat_of .i64 h200, h204, h205, h207]
           rcases ite_inv H199 with ⟨c208, H209⟩ | ⟨c208, H209⟩
           ·have h210 : 1 < t104.length := of_decide_eq_true c208
            try simp -implicitDefEqProofs only [go_sem, Nat.reduceEqDiff, Nat.reduceAdd, Nat.reduceLeDiff, reduceCtorEq, ↓reduceIte, h210, or_true, Nat.zero_add]
            obtain rfl := Option.some.inj H209
            exact end_pure (by simp -implicitDefEqProofs only [go_sem, Nat.reduceEqDiff, Nat.reduceAdd, ↓reduceIte, Tryz.f48] <;> rfl) (by simp -implicitDefEqProofs only [go_sem, Nat.reduceEqDiff, reduceCtorEq, ↓reduceIte, h206]; rfl) rfl (by intro h; rfl)
           ·have h211 : ¬ 1 < t104.length := of_decide_eq_false c208
            have h212 : l3 = [] := List.eq_nil_of_length_eq_zero (by omega)
            have h213 : ¬ 1 = 0 := by omega
            try simp -implicitDefEqProofs only [go_sem, Nat.reduceEqDiff, Nat.reduceAdd, Nat.reduceLeDiff, reduceCtorEq, ↓reduceIte, h211, or_false, Nat.zero_add, h213]
            obtain rfl := Option.some.inj H209
            exact end_pure (by simp -implicitDefEqProofs only [go_sem, Nat.reduceEqDiff, Nat.reduceAdd, ↓reduceIte, Tryz.f48] <;> rfl) (by rfl) rfl (by intro h; rfl)
          ·try simp -implicitDefEqProofs only [go_sem, Nat.reduceEqDiff, Nat.reduceAdd, ↓reduceIte, c196]
           rcases ite_inv H197 with ⟨c214, H215⟩ | ⟨c214, H215⟩
           ·obtain ⟨x13, b216, H217⟩ := bind_inv H215
            obtain ⟨h218, h219⟩ := idx_inv b216
            try simp only [Int.reduceToNat] at h219
            have h220 := map_at eS h219
            have h221 := at_lt h219
            obtain ⟨l4, b222, H223⟩ := bind_inv H217
            obtain ⟨h224, h225, h226, h227⟩ := slc_inv b222
            have h228 : 2 ≤ t104.length := by omega
            have h229 : t104.length ≤ t104.length := by omega
            simp only [Int.toNat_natCast, List.take_length] at h227
            have h231 : t104.length - 2 = l4.length := by rw [h227]; simp; try omega
            have h230 : List.take l4.length (List.drop (2) (List.map eS t104)) = List.map eS l4 := part_all eS h227
            try simp only [Int.toNat_natCast] at h228 h229 h230 h231
            try simp -implicitDefEqProofs only [go_sem, Int.reduceToNat, Nat.reduceEqDiff, Nat.reduceAdd, reduceCtorEq, ↓reduceIte, c214, nat_of .i64 h218, h220, h221, nat_of .i64 h224, h228, h229, h231]
            rcases ite_inv H223 with ⟨c232, H233⟩ | ⟨c232, H233⟩
            ·have h234 : 2 < t104.length := of_decide_eq_true c232
             try simp -implicitDefEqProofs only [go_sem, Nat.reduceEqDiff, Nat.reduceAdd, Nat.reduceLeDiff, reduceCtorEq, ↓reduceIte, h234, or_true, Nat.zero_add]
             refine Rd_endF (by rfl) ?_
             try simp -implicitDefEqProofs only [go_sem, Nat.reduceEqDiff, Nat.reduceAdd, reduceCtorEq, ↓reduceIte, Nat.zero_add]
             obtain rfl := Option.some.inj H233
             exact end_pure (by simp -implicitDefEqProofs only [go_sem, Nat.reduceEqDiff, Nat.reduceAdd, ↓reduceIte, Tryz.f48] <;> rfl) (by simp -implicitDefEqProofs only [go_sem, Nat.reduceEqDiff, reduceCtorEq, ↓reduceIte, h230]; rfl) rfl (by intro h; rfl)
            ·have h235 : ¬ 2 < t104.length := of_decide_eq_false c232
             have h236 : l4 = [] := List.eq_nil_of_length_eq_zero (by omega)
             have h237 : ¬ 2 = 0 := by omega
             try simp -implicitDefEqProofs only [go_sem, Nat.reduceEqDiff, Nat.reduceAdd, Nat.reduceLeDiff, reduceCtorEq, ↓reduceIte, h235, or_false, Nat.zero_add]
             refine Rd_endF (by rfl) ?_
             try simp -implicitDefEqProofs only [go_sem, Nat.reduceEqDiff, Nat.reduceAdd, reduceCtorEq, ↓reduceIte, Nat.zero_add]
             obtain rfl := Option.some.inj H233
             exact end_pure (by simp -implicitDefEqProofs only [go_sem, Nat.reduceEqDiff, Nat.reduceAdd, ↓reduceIte, Tryz.f48] <;> rfl) (by rfl) rfl (by intro h; rfl)
           ·try simp -implicitDefEqProofs only [go_sem, Nat.reduceEqDiff, Nat.reduceAdd, reduceCtorEq, ↓reduceIte, c214]
            obtain rfl := Option.some.inj H215
            exact end_pure (by simp -implicitDefEqProofs only [go_sem, Nat.reduceEqDiff, Nat.reduceAdd, ↓reduceIte, Tryz.f48] <;> rfl) (by rfl) rfl (by intro h; rfl)
    ·obtain ⟨x14, b241, H242⟩ := bind_inv H74
     obtain ⟨h243, h244⟩ := idx_inv b241
     try simp only [Int.reduceToNat] at h244
     have h245 := map_at eGWord h244
     try simp -implicitDefEqProofs only [go_sem, Int.reduceToNat, Nat.reduceEqDiff, Nat.reduceAdd, reduceCtorEq, ↓reduceIte, eGWord, c73, nat_of .i64 h243, h245]
     refine Rd_endF (by rfl) ?_
     try simp -implicitDefEqProofs only [go_sem]
     obtain rfl := Option.some.inj H242
     exact end_pure (by simp -implicitDefEqProofs only [go_sem, Nat.reduceEqDiff, Nat.reduceAdd, ↓reduceIte, Tryz.f48] <;> rfl) (by rfl) rfl (by intro h; rfl)
def ref13_Parse_L1 (n : Nat) (t15 : List GLine × Int × Int) : Nat → (List GFact × Int) → Option ((List GFact) ⊕ (List GFact × Int × Int))
 | 0, _ => none
 | c + 1, (out, i) =>
  (if (decide (i < (t15.1.length : Int))) then
   (if (i == 2000) then
    (idx t15.1 i).bind fun x2 =>
    some (.inr ([], x2.at_, 8))
   else
    (idx t15.1 i).bind fun x3 =>
    (ref13_Fact n x3).bind fun t412 =>
    (if (t412.2.2 != 0) then
     some (.inr ([], t412.2.1, t412.2.2))
    else
     (app out [(⟨t412.1.kind, t412.1.a, t412.1.b, t412.1.c, t412.1.n_, t412.1.l, t412.1.at_⟩ : GFact)]).bind fun l =>
     ref13_Parse_L1 n t15 c (l, (IntKind.i64.wrap (i + 1)))))
  else
   some (.inl out))

def ref13_Parse (n : Nat) (s : ByteArray) : Option (List GFact × Int × Int) :=
 (ref1_Lines n s).bind fun t15 =>
 (if (t15.2.2 != 0) then
  some ([], t15.2.1, t15.2.2)
 else
  (
   ref13_Parse_L1 n t15 n ([], 0) : Option ((List GFact) ⊕ (List GFact × Int × Int))).bind fun
   | .inl out3 =>
    some (out3, 0, 0)
   | .inr r => some r)
theorem ref13_Parse_ok {n : Nat} {s : ByteArray} {r : List GFact × Int × Int} (H : ref13_Parse n s = some r) : PureOK Tryz.prog 24 [D.v (.string s)] (D.tu [D.sl (List.map eGFact r.1), D.v (.int .i64 r.2.1), D.v (.int .i64 r.2.2)]) true := by
 unfold ref13_Parse at H
 refine pure_runR (tab := tab) tab_ok Tryz.func24 rfl (by kernel_rfl) (by kernel_rfl) (by simp [Tryz.f24]) ?_
 refine runR_seq ?_
 refine runR_take tab_ok fol 1 ?_
 try simp -implicitDefEqProofs only [go_sem, Nat.reduceAdd]
 refine runR_seq ?_
 refine runR_take tab_ok fol 1 ?_
 obtain ⟨t15, b1, H2⟩ := bind_inv H
 try simp -implicitDefEqProofs only [go_sem, Nat.reduceAdd, reduceCtorEq, ↓reduceIte]
 refine onCall_pure (by rfl) (ref1_Lines_ok b1) (by exact .inr rfl) ?_
 try simp -implicitDefEqProofs only [go_sem, Bool.false_and, Nat.reduceEqDiff, Nat.reduceAdd, ↓reduceIte]
 refine runR_seq ?_
 refine runR_take tab_ok fol 1 ?_
 try simp -implicitDefEqProofs only [go_sem, Nat.reduceAdd, ↓reduceIte]
 rcases ite_inv H2 with ⟨c3, H4⟩ | ⟨c3, H4⟩
 ·try simp -implicitDefEqProofs only [go_sem, Nat.reduceEqDiff, Nat.reduceAdd, ↓reduceIte, c3]
  obtain rfl := Option.some.inj H4
  exact end_pure (by simp -implicitDefEqProofs only [go_sem, Nat.reduceEqDiff, ↓reduceIte, Tryz.f24] <;> rfl) (by rfl) rfl (by intro h; rfl)
 ·try simp -implicitDefEqProofs only [go_sem, c3]
  refine runR_seq ?_
  refine runR_take tab_ok fol 1 ?_
  try simp -implicitDefEqProofs only [go_sem, Nat.reduceAdd]
  refine runR_seq ?_
  refine runR_seq ?_
  refine runR_take tab_ok fol 1 ?_
  try simp -implicitDefEqProofs only [go_sem, Nat.reduceAdd]
  obtain ⟨e_, E5, H6⟩ := bind_inv H4
  refine runR_join (α := { y : List GFact // e_ = .inl y } × Nat) (fun | ⟨⟨out3, _⟩, g3⟩ => ⟨upd 8 (accV 0 g3 (List.map eGFact out3)) noFr, upd 0 (accO 7 g3 false (List.map eGFact out3)) noHp, 1⟩) ?_ ?_
  ·refine runR_block ?_
   refine runR_loop (α := { q : (Nat × (List GFact × Int)) × Nat // ref13_Parse_L1 n t15 q.1.1 q.1.2 = some e_ }) (fun | ⟨⟨⟨c, ⟨out, i⟩⟩, g⟩, _⟩ => ⟨upd 5 (.d (.sl (List.map eGLine t15.1)) false) (upd 8 (accV 0 g (List.map eGFact out)) (upd 9 (.v (.int .i64 i)) noFr)), upd 0 (accO 7 g false (List.map eGFact out)) noHp, 1⟩) (fun q => q.1.1.1) ⟨((n, ([], 0)), 0), E5⟩ ?_ ?_
   ·exact ren_mk [] (by rfl) (ru_ (ru_ (ru_ (rf_no _)))) (rh_upd rh_accN (rh_no _))
   ·rintro ⟨⟨⟨c, ⟨out, i⟩⟩, g⟩, L7⟩
    rcases c with _ | c
    ·exact nomatch (show none = some _ from L7)
    ·unfold ref13_Parse_L1 at L7
     try dsimp only at L7
     refine runR_take tab_ok fol 1 ?_
     try simp -implicitDefEqProofs only [go_sem, Nat.reduceEqDiff, Nat.reduceAdd, ↓reduceIte]
     rcases ite_inv L7 with ⟨c20, H21⟩ | ⟨c20, H21⟩
     ·try simp -implicitDefEqProofs only [go_sem, Nat.reduceEqDiff, Nat.reduceAdd, ↓reduceIte, c20]
      rcases ite_inv H21 with ⟨c22, H23⟩ | ⟨c22, H23⟩
      ·obtain ⟨x2, b24, H25⟩ := bind_inv H23
       obtain ⟨h26, h27⟩ := idx_inv b24
       try simp only [Int.reduceToNat, Int.toNat_natCast] at h27
       have h28 := map_at eGLine h27
       try simp -implicitDefEqProofs only [go_sem, Nat.reduceEqDiff, Nat.reduceAdd, reduceCtorEq, ↓reduceIte, eGLine, c22, nat_of .i64 h26, h28]
       refine Rd_endF (by rfl) ?_
       try simp -implicitDefEqProofs only [go_sem]
       obtain rfl := Option.some.inj H25
       obtain rfl := Option.some.inj H6
       exact end_pure (by simp -implicitDefEqProofs only [go_sem, Nat.reduceEqDiff, ↓reduceIte, Tryz.f24] <;> rfl) (by rfl) rfl (by intro h; rfl)
      ·obtain ⟨x3, b30, H31⟩ := bind_inv H23
       obtain ⟨h32, h33⟩ := idx_inv b30
       try simp only [Int.reduceToNat, Int.toNat_natCast] at h33
       have h34 := map_at eGLine h33
       obtain ⟨t412, b36, H37⟩ := bind_inv H31
       try simp -implicitDefEqProofs only [go_sem, Nat.reduceEqDiff, Nat.reduceAdd, ↓reduceIte, eGLine, c22, nat_of .i64 h32, h34]
       refine onCall_pure (by rfl) (ref13_Fact_ok b36) (by exact .inr rfl) ?_
       try simp -implicitDefEqProofs only [go_sem, Bool.false_and, Nat.reduceEqDiff, Nat.reduceAdd, ↓reduceIte, eGFact]
       rcases ite_inv H37 with ⟨c38, H39⟩ | ⟨c38, H39⟩
       ·try simp -implicitDefEqProofs only [go_sem, Nat.reduceEqDiff, Nat.reduceAdd, ↓reduceIte, c38]
        obtain rfl := Option.some.inj H39
        obtain rfl := Option.some.inj H6
        exact end_pure (by simp -implicitDefEqProofs only [go_sem, Nat.reduceEqDiff, ↓reduceIte, Tryz.f24] <;> rfl) (by rfl) rfl (by intro h; rfl)
       ·obtain ⟨l, b40, H41⟩ := bind_inv H39
        obtain ⟨h42, h43⟩ := app_inv b40
        have h42 : out.length + 1 ≤ 4294967296 := h42
        have h44 : List.map eGFact out ++ [[.v (.int .i64 t412.1.kind), .v (.string t412.1.a), .v (.string t412.1.b), .v (.string t412.1.c), .v (.int .i64 t412.1.n_), .sl (List.map eS t412.1.l), .v (.int .i64 t412.1.at_)]] = List.map eGFact l := app_map eGFact h43
        have h45 : out.length + 1 = l.length := app_len h43
        have h46 : l.length ≤ 4294967296 := by omega
        have q47 : 0 < l.length := by omega
        try simp -implicitDefEqProofs only [go_sem, Nat.reduceLT, Nat.reduceEqDiff, Nat.reduceAdd, Nat.reduceMul, Nat.reduceLeDiff, reduceCtorEq, ↓reduceIte, c38, h44, h45, h46]
        rcases out with _ | ⟨q0, q1⟩
        ·try simp only [List.map_nil, accI, accN]
         exact ⟨⟨((c, (l, (IntKind.i64.wrap (i + 1)))), 0), H41⟩, ren_mk [(0, 25)] (by rfl) (ru_ (rf_upd (by exact ren_accP (by rfl) q47) (ru_ (rf_no _)))) (rh_upd (by exact rh_accP (by rfl) q47 (by rfl)) (rh_no _)), Nat.lt_succ_self _⟩
        ·try simp only [List.map_cons, accI, accN]
         exact ⟨⟨((c, (l, (IntKind.i64.wrap (i + 1)))), (g + 1)), H41⟩, ren_mk [(0, 0)] (by rfl) (ru_ (rf_upd (by exact ren_accP (by rfl) q47) (ru_ (rf_no _)))) (rh_upd (by exact rh_accP (by rfl) q47 (by rfl)) (rh_no _)), Nat.lt_succ_self _⟩
     ·try simp -implicitDefEqProofs only [go_sem, ↓reduceIte, c20]
      obtain rfl := Option.some.inj H21
      exact ⟨⟨⟨out, rfl⟩, g⟩, ren_mk [(0, 0)] (by rfl) (rn_ (rf_no _)) (ra_ (rh_no _))⟩
  ·rintro ⟨⟨out3, he48⟩, g3⟩
   replace he48 := he48.symm
   subst he48
   try dsimp only at H6
   refine runR_take tab_ok fol 1 ?_
   try simp -implicitDefEqProofs only [go_sem, Nat.reduceAdd, ↓reduceIte]
   obtain rfl := Option.some.inj H6
   exact end_pure (by simp -implicitDefEqProofs only [go_sem, Nat.reduceEqDiff, ↓reduceIte, Tryz.f24] <;> rfl) (by simp -implicitDefEqProofs only [go_sem, ↓reduceIte]; rfl) rfl (by intro h; rfl)
def law1_Nm (_ : Nat) (n_ : Int) : Option ByteArray :=
 (idx [{ data := #[97] }, { data := #[98] }, { data := #[99] }, { data := #[100] }, { data := #[97, 98] }, { data := #[98, 45, 49] }, { data := #[120, 46, 121] }, { data := #[48] }] (IntKind.i64.wrap (an n_ 7 : Int))).bind fun x =>
 some x
theorem law1_Nm_ok {n : Nat} {n_ : Int} {r : ByteArray} (H : law1_Nm n n_ = some r) : PureOK Tryz.prog 78 [D.v (.int .i64 n_)] (D.v (.string r)) true := by
 unfold law1_Nm at H
 refine pure_runR (tab := tab) tab_ok Tryz.func78 rfl (by kernel_rfl) (by kernel_rfl) (by simp [Tryz.f78]) ?_
 refine runR_take tab_ok fol 1 ?_
 obtain ⟨x, b1, H2⟩ := bind_inv H
 obtain ⟨h3, h4⟩ := idx_inv b1
 try simp only [Int.reduceToNat, Int.toNat_natCast] at h4
 have h5 := map_at eS h4
 simp only [List.map_cons, List.map_nil, eS] at h5
 have h6 := at_lt h4
 simp only [List.length_cons, List.length_nil, Nat.reduceAdd] at h6
 try simp -implicitDefEqProofs only [go_sem, Nat.reduceLT, Nat.reduceEqDiff, Nat.reduceAdd, Nat.reduceLeDiff, reduceCtorEq, ↓reduceIte, nat_of .i64 h3, h5, h6]
 obtain rfl := Option.some.inj H2
 exact end_pure (by simp -implicitDefEqProofs only [go_sem, ↓reduceIte, Tryz.f78] <;> rfl) (by rfl) rfl (by intro h; rfl)
end Go.Proofs.YtkkhgdmmbhpckaaGreat.Ab
