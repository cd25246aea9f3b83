/-
  Functions, read off the code.
-/
import Derived.Test.YtdckfddlcmkdlaaRtb
namespace Go.Proofs.Ytdckfddlcmkdlaa.Ab
open Go.RowKit
def ref1_Minus_L1 (n : Nat) (t10 : List GTuple) (t12 : List GTuple) : Nat → (List GTuple × Int) → Option (List GTuple)
  | 0, _ => none
  | c + 1, (out, i) =>
    (if (decide (i < (t10.length : Int))) then
      (idx t10 i).bind fun x2 =>
      (ref1_Has n t12 x2).bind fun t242 =>
      (if t242 then
        ref1_Minus_L1 n t10 t12 c (out, (IntKind.i64.wrap (i + 1)))
      else
        (app out [x2]).bind fun l2 =>
        ref1_Minus_L1 n t10 t12 c (l2, (IntKind.i64.wrap (i + 1))))
    else
      some out)
def ref1_Minus_L1_f (n : Nat) (_ : List GTuple) (t12 : List GTuple) (st : List GTuple) (x2 : GTuple) (k : List GTuple → Option (List GTuple)) : Option (List GTuple) :=
  match st with
  | out =>
    (ref1_Has n t12 x2).bind fun t242 =>
    (if t242 then
      k out
    else
      (app out [x2]).bind fun l2 =>
      k l2)
def ref1_Minus_L1_e (_ : Nat) (_ : List GTuple) (_ : List GTuple) (st : List GTuple) : Option (List GTuple) :=
  match st with
  | out => some out
theorem ref1_Minus_L1_list (n : Nat) (t10 : List GTuple) (t12 : List GTuple) (hx : t10.length < 4611686018427387904) (c : Nat) (st : List GTuple) (ix : Nat) (hi : ix ≤ t10.length) (hc : t10.length - ix < c) : ref1_Minus_L1 n t10 t12 c (match st, (ix : Int) with | out, ix => (out, ix)) = foldK (ref1_Minus_L1_f n t10 t12) (ref1_Minus_L1_e n t10 t12) (t10.drop ix) st :=
  loop_list (fun c st ix => ref1_Minus_L1 n t10 t12 c (match st, ix with | out, ix => (out, ix))) t10 (ref1_Minus_L1_f n t10 t12) (ref1_Minus_L1_e n t10 t12) (fun _ _ _ => rfl) hx c st ix hi hc

def ref1_Minus (n : Nat) (a : List GTuple) (l : List GTuple) : Option (List GTuple) :=
  (ref1_Of n a).bind fun t10 =>
  (ref1_Of n l).bind fun t12 =>
  (
    ref1_Minus_L1 n t10 t12 n ([], 0) : Option (List GTuple)).bind fun out3 =>
  some out3
theorem ref1_Minus_ok {n : Nat} {a : List GTuple} {l : List GTuple} {r : List GTuple} (H : ref1_Minus n a l = some r) : PureOK Try.prog 25 [D.sl (List.map eGTuple a), D.sl (List.map eGTuple l)] (D.sl (List.map eGTuple r)) true := by
  unfold ref1_Minus at H
  refine pure_runR (tab := tab) tab_ok Try.func25 rfl (by kernel_rfl) (by kernel_rfl) (by simp [Try.f25]) ?_
  refine runR_seq ?_
  refine runR_take tab_ok fol 1 ?_
  try simp -implicitDefEqProofs only [go_sem]
  refine runR_seq ?_
  refine runR_take tab_ok fol 1 ?_
  obtain ⟨t10, b1, H2⟩ := bind_inv H
  try simp -implicitDefEqProofs only [go_sem, Nat.reduceAdd, reduceCtorEq, ↓reduceIte]
  refine onCall_pure (by first | rfl | (simp -implicitDefEqProofs only [go_sem, Int.reduceToNat, Int.reduceLT, Int.reduceLE, Int.reduceBEq, Int.reduceBNe, Nat.reduceLT, Nat.reduceBEq, Int.reduceEq, Nat.reduceEqDiff, Nat.reduceAdd, Nat.reduceSub, Nat.reduceMul, Nat.reduceLeDiff, reduceCtorEq, ↓reduceIte, eGTuple, eGObj, eGSub]; done) | (simp -implicitDefEqProofs only [go_sem, Int.reduceToNat, Int.reduceLT, Int.reduceLE, Int.reduceBEq, Int.reduceBNe, Nat.reduceLT, Nat.reduceBEq, Int.reduceEq, Nat.reduceEqDiff, Nat.reduceAdd, Nat.reduceSub, Nat.reduceMul, Nat.reduceLeDiff, reduceCtorEq, ↓reduceIte, eGTuple, eGObj, eGSub]; rfl)) (ref1_Of_ok b1) (by first | exact .inr rfl | exact .inl rfl) ?_
  obtain ⟨t12, b3, H4⟩ := bind_inv H2
  try simp -implicitDefEqProofs only [go_sem, Nat.reduceEqDiff, Nat.reduceAdd, ↓reduceIte]
  refine onCall_pure (by first | rfl | (simp -implicitDefEqProofs only [go_sem, Int.reduceToNat, Int.reduceLT, Int.reduceLE, Int.reduceBEq, Int.reduceBNe, Nat.reduceLT, Nat.reduceBEq, Int.reduceEq, Nat.reduceEqDiff, Nat.reduceAdd, Nat.reduceSub, Nat.reduceMul, Nat.reduceLeDiff, reduceCtorEq, ↓reduceIte, eGTuple, eGObj, eGSub]; done) | (simp -implicitDefEqProofs only [go_sem, Int.reduceToNat, Int.reduceLT, Int.reduceLE, Int.reduceBEq, Int.reduceBNe, Nat.reduceLT, Nat.reduceBEq, Int.reduceEq, Nat.reduceEqDiff, Nat.reduceAdd, Nat.reduceSub, Nat.reduceMul, Nat.reduceLeDiff, reduceCtorEq, ↓reduceIte, eGTuple, eGObj, eGSub]; rfl)) (ref1_Of_ok b3) (by first | exact .inr rfl | exact .inl rfl) ?_
  try simp -implicitDefEqProofs only [go_sem, Nat.reduceEqDiff, Nat.reduceAdd, ↓reduceIte]
  refine runR_seq ?_
  refine runR_take tab_ok fol 1 ?_
  try simp -implicitDefEqProofs only [go_sem, Nat.reduceAdd]
  refine runR_seq ?_
  refine runR_seq ?_
  refine runR_take tab_ok fol 1 ?_
  try simp -implicitDefEqProofs only [go_sem, Nat.reduceAdd]
  obtain ⟨e_, E5, H6⟩ := bind_inv H4
  refine runR_join (α := { y : List GTuple // e_ = y } × Nat) (fun | ⟨⟨out3, _⟩, g3⟩ => ⟨upd 7 (accV 0 g3 (List.map eGTuple out3)) noFr, upd 0 (accO 6 g3 false (List.map eGTuple out3)) noHp, 1⟩) ?_ ?_
  · refine runR_block ?_
    refine runR_loop (α := { q : (Nat × (List GTuple × Int)) × Nat // ref1_Minus_L1 n t10 t12 q.1.1 q.1.2 = some e_ }) (fun | ⟨⟨⟨c, ⟨out, i⟩⟩, g⟩, _⟩ => ⟨upd 5 (.d (.sl (List.map eGTuple t10)) false) (upd 6 (.d (.sl (List.map eGTuple t12)) false) (upd 7 (accV 0 g (List.map eGTuple out)) (upd 8 (.v (.int .i64 i)) noFr))), upd 0 (accO 6 g false (List.map eGTuple out)) noHp, 1⟩) (fun q => q.1.1.1) ⟨((n, ([], 0)), 0), E5⟩ ?_ ?_
    · exact ren_mk [] (by rfl) (rf_upd (by rfl) (rf_upd (by rfl) (rf_upd (by rfl) (rf_upd (by rfl) (rf_no _))))) (rh_upd rh_accN (rh_no _))
    · rintro ⟨⟨⟨c, ⟨out, i⟩⟩, g⟩, L7⟩
      rcases c with _ | c
      · exact nomatch (show none = some _ from L7)
      · unfold ref1_Minus_L1 at L7
        try dsimp only at L7
        refine runR_take tab_ok fol 1 ?_
        try simp -implicitDefEqProofs only [go_sem, Nat.reduceEqDiff, Nat.reduceAdd, ↓reduceIte]
        rcases ite_inv L7 with ⟨c20, H21⟩ | ⟨c20, H21⟩
        · obtain ⟨x2, b22, H23⟩ := bind_inv H21
          obtain ⟨h24, h25⟩ := idx_inv b22
          try simp only [Int.reduceToNat, Int.toNat_natCast] at h25
          have h26 := map_at eGTuple h25
          obtain ⟨t242, b28, H29⟩ := bind_inv H23
          try simp -implicitDefEqProofs only [go_sem, Nat.reduceEqDiff, Nat.reduceAdd, ↓reduceIte, eGTuple, c20, nat_of .i64 h24, h26]
          refine onCall_pure (by first | rfl | (simp -implicitDefEqProofs only [go_sem, Int.reduceToNat, Int.reduceLT, Int.reduceLE, Int.reduceBEq, Int.reduceBNe, Nat.reduceLT, Nat.reduceBEq, Int.reduceEq, Nat.reduceEqDiff, Nat.reduceAdd, Nat.reduceSub, Nat.reduceMul, Nat.reduceLeDiff, reduceCtorEq, ↓reduceIte, eGTuple, eGObj, eGSub, c20, nat_of .i64 h24, h26]; done) | (simp -implicitDefEqProofs only [go_sem, Int.reduceToNat, Int.reduceLT, Int.reduceLE, Int.reduceBEq, Int.reduceBNe, Nat.reduceLT, Nat.reduceBEq, Int.reduceEq, Nat.reduceEqDiff, Nat.reduceAdd, Nat.reduceSub, Nat.reduceMul, Nat.reduceLeDiff, reduceCtorEq, ↓reduceIte, eGTuple, eGObj, eGSub, c20, nat_of .i64 h24, h26]; rfl)) (ref1_Has_ok b28) (by first | exact .inr rfl | exact .inl rfl) ?_
          try simp -implicitDefEqProofs only [go_sem, Nat.reduceAdd, ↓reduceIte]
          rcases ite_inv H29 with ⟨c30, H31⟩ | ⟨c30, H31⟩
          · try simp -implicitDefEqProofs only [go_sem, Nat.reduceEqDiff, Nat.reduceAdd, ↓reduceIte, c30]
            exact ⟨⟨((c, (out, (IntKind.i64.wrap (i + 1)))), g), H31⟩, ren_mk [(0, 0)] (by rfl) (rf_upd (by rfl) (rf_upd (by rfl) (rf_upd (ren_acc (by rfl)) (rf_upd (by rfl) (rf_no _))))) (rh_upd (rh_acc (by rfl) (by rfl)) (rh_no _)), Nat.lt_succ_self _⟩
          · obtain ⟨l2, b32, H33⟩ := bind_inv H31
            obtain ⟨h34, h35⟩ := app_inv b32
            have h34 : out.length + 1 ≤ 4294967296 := h34
            have h36 : List.map eGTuple out ++ [[.v (.string x2.obj.type_), .v (.string x2.obj.id_), .v (.string x2.rel), .v (.string x2.sub_.type_), .v (.string x2.sub_.id_), .v (.string x2.sub_.rel)]] = List.map eGTuple l2 := app_map eGTuple h35
            have h37 : out.length + 1 = l2.length := app_len h35
            have h38 : l2.length ≤ 4294967296 := by omega
            have q39 : 0 < l2.length := by omega
            try simp -implicitDefEqProofs only [go_sem, Nat.reduceLT, Nat.reduceEqDiff, Nat.reduceAdd, Nat.reduceMul, Nat.reduceLeDiff, reduceCtorEq, ↓reduceIte, eGTuple, nat_of .i64 h24, h26, c30, h36, h37, h38]
            rcases out with _ | ⟨q0, q1⟩
            · try simp only [List.map_nil, accI, accN]
              exact ⟨⟨((c, (l2, (IntKind.i64.wrap (i + 1)))), 0), H33⟩, ren_mk [(0, 18)] (by rfl) (rf_upd (by rfl) (rf_upd (by rfl) (rf_upd (ren_accP (by rfl) q39) (rf_upd (by rfl) (rf_no _))))) (rh_upd (rh_accP (by rfl) q39 (by rfl)) (rh_no _)), Nat.lt_succ_self _⟩
            · try simp only [List.map_cons, accI, accN]
              exact ⟨⟨((c, (l2, (IntKind.i64.wrap (i + 1)))), (g + 1)), H33⟩, ren_mk [(0, 0)] (by rfl) (rf_upd (by rfl) (rf_upd (by rfl) (rf_upd (ren_accP (by rfl) q39) (rf_upd (by rfl) (rf_no _))))) (rh_upd (rh_accP (by rfl) q39 (by rfl)) (rh_no _)), Nat.lt_succ_self _⟩
        · try simp -implicitDefEqProofs only [go_sem, ↓reduceIte, c20]
          obtain rfl := Option.some.inj H21
          exact ⟨⟨⟨out, rfl⟩, g⟩, ren_mk [(0, 0)] (by rfl) (rf_upd (ren_acc (by rfl)) (rf_no _)) (rh_upd (rh_acc (by rfl) (by rfl)) (rh_no _))⟩
  · rintro ⟨⟨out3, he40⟩, g3⟩
    replace he40 := he40.symm
    subst he40
    try dsimp only at H6
    refine runR_take tab_ok fol 1 ?_
    try simp -implicitDefEqProofs only [go_sem, Nat.reduceAdd, ↓reduceIte]
    obtain rfl := Option.some.inj H6
    exact end_pure (by first | (simp -implicitDefEqProofs only [go_sem, ↓reduceIte, Try.f25] <;> rfl) | rfl) (by first | rfl | (simp -implicitDefEqProofs only [go_sem, ↓reduceIte]; done) | (simp -implicitDefEqProofs only [go_sem, ↓reduceIte]; rfl)) rfl (by intro h; first | rfl | cases h)
def law3_RowsTells_L2 (n : Nat) (t12 : List GTuple) (t832 : List GTuple) : Nat → Int → Option ((Unit) ⊕ Bool)
  | 0, _ => none
  | c + 1, t133 =>
    (if (decide (t133 < (t12.length : Int))) then
      (idx t12 t133).bind fun x4 =>
      (rows_Has n t832 x4).bind fun t954 =>
      (ref1_Has n t832 x4).bind fun t1014 =>
      (if (t954 == t1014) then
        law3_RowsTells_L2 n t12 t832 c (IntKind.i64.wrap (t133 + 1))
      else
        some (.inr false))
    else
      some (.inl ()))
def law3_RowsTells_L2_f (n : Nat) (_ : List GTuple) (t832 : List GTuple) (st : Unit) (x4 : GTuple) (k : Unit → Option ((Unit) ⊕ Bool)) : Option ((Unit) ⊕ Bool) :=
  match st with
  | _ =>
    (rows_Has n t832 x4).bind fun t954 =>
    (ref1_Has n t832 x4).bind fun t1014 =>
    (if (t954 == t1014) then
      k ()
    else
      some (.inr false))
def law3_RowsTells_L2_e (_ : Nat) (_ : List GTuple) (_ : List GTuple) (st : Unit) : Option ((Unit) ⊕ Bool) :=
  match st with
  | _ => some (.inl ())
theorem law3_RowsTells_L2_list (n : Nat) (t12 : List GTuple) (t832 : List GTuple) (hx : t12.length < 4611686018427387904) (c : Nat) (st : Unit) (ix : Nat) (hi : ix ≤ t12.length) (hc : t12.length - ix < c) : law3_RowsTells_L2 n t12 t832 c (match st, (ix : Int) with | _, ix => ix) = foldK (law3_RowsTells_L2_f n t12 t832) (law3_RowsTells_L2_e n t12 t832) (t12.drop ix) st :=
  loop_list (fun c st ix => law3_RowsTells_L2 n t12 t832 c (match st, ix with | _, ix => ix)) t12 (law3_RowsTells_L2_f n t12 t832) (law3_RowsTells_L2_e n t12 t832) (fun _ _ _ => rfl) hx c st ix hi hc

def law3_RowsTells_L1 (n : Nat) (t2 : List Int) (t3 : List Int) : Nat → (List GTuple × List GTuple × Int) → Option ((Unit) ⊕ Bool)
  | 0, _ => none
  | c + 1, (t02, t12, t9) =>
    (if (decide (t9 < 2)) then
      (rows_Diff n t02 t12).bind fun t302 =>
      (
        (rows_Of n t02).bind fun t342 =>
        (ref1_Of n t02).bind fun t362 =>
        (ref1_Same n t342 t362).bind fun t372 =>
        (if t372 then
          (rows_Is n t02).bind fun t412 =>
          (ref1_Is n t02).bind fun t432 =>
          (if (t412 == t432) then
            (rows_Plus n t02 t12).bind fun t492 =>
            (ref1_Plus n t02 t12).bind fun t522 =>
            (ref1_Same n t492 t522).bind fun t532 =>
            (if t532 then
              (rows_Minus n t02 t12).bind fun t592 =>
              (ref1_Minus n t02 t12).bind fun t622 =>
              (ref1_Same n t592 t622).bind fun t632 =>
              (if t632 then
                (ref1_Minus n t12 t02).bind fun t702 =>
                (ref1_Same n t302.1 t702).bind fun t712 =>
                (if t712 then
                  (ref1_Minus n t02 t12).bind fun t782 =>
                  (ref1_Same n t302.2 t782).bind fun t792 =>
                  some (!t792)
                else
                  some true)
              else
                some true)
            else
              some true)
          else
            some true)
        else
          some true) : Option (Bool)).bind fun t812 =>
      (if t812 then
        some (.inr false)
      else
        (ref1_Of n t02).bind fun t832 =>
        (
          law3_RowsTells_L2 n t12 t832 n 0 : Option ((Unit) ⊕ Bool)).bind fun
          | .inl _ =>
            (law2_Tames n t2).bind fun t1042 =>
            (law2_Tames n t3).bind fun t1062 =>
            law3_RowsTells_L1 n t2 t3 c (t1042, t1062, (IntKind.i64.wrap (t9 + 1)))
          | .inr r => some (.inr r))
    else
      some (.inl ()))

def law3_RowsTells (n : Nat) (t0 : List GTuple) (t1 : List GTuple) (t2 : List Int) (t3 : List Int) : Option Bool :=
  (
    (if (decide (60 < (t0.length : Int))) then
      some true
    else
      some (decide (60 < (t1.length : Int)))) : Option (Bool)).bind fun t21 =>
  (if t21 then
    (law3_awake n).bind fun t22 =>
    some t22
  else
    (
      law3_RowsTells_L1 n t2 t3 n (t0, t1, 0) : Option ((Unit) ⊕ Bool)).bind fun
      | .inl _ =>
        (law3_awake n).bind fun t107 =>
        some t107
      | .inr r => some r)
set_option maxHeartbeats 8000000 in
theorem law3_RowsTells_ok {n : Nat} {t0 : List GTuple} {t1 : List GTuple} {t2 : List Int} {t3 : List Int} {r : Bool} (H : law3_RowsTells n t0 t1 t2 t3 = some r) : PureOK Try.prog 4 [D.sl (List.map eGTuple t0), D.sl (List.map eGTuple t1), D.sl (List.map eI t2), D.sl (List.map eI t3)] (D.v (.bool r)) true := by
  unfold law3_RowsTells at H
  refine pure_runR (tab := tab) tab_ok Try.func4 rfl (by kernel_rfl) (by kernel_rfl) (by simp [Try.f4]) ?_
  refine runR_seq ?_
  refine runR_take tab_ok fol 1 ?_
  try simp -implicitDefEqProofs only [go_sem]
  refine runR_seq ?_
  refine runR_seq ?_
  obtain ⟨e_, E1, H2⟩ := bind_inv H
  refine runR_join (α := { y : Bool // e_ = y }) (fun | ⟨t21, _⟩ => ⟨upd 0 (.d (.sl (List.map eGTuple t0)) true) (upd 1 (.d (.sl (List.map eGTuple t1)) true) (upd 2 (.d (.sl (List.map eI t2)) true) (upd 3 (.d (.sl (List.map eI t3)) true) (upd 21 (.v (.bool t21)) noFr)))), noHp, 0⟩) ?_ ?_
  · refine runR_take tab_ok fol 1 ?_
    try simp -implicitDefEqProofs only [go_sem, Nat.reduceAdd, reduceCtorEq, ↓reduceIte]
    rcases ite_inv E1 with ⟨c3, H4⟩ | ⟨c3, H4⟩
    · try simp -implicitDefEqProofs only [go_sem, Nat.reduceEqDiff, Nat.reduceAdd, ↓reduceIte, c3]
      obtain rfl := Option.some.inj H4
      exact ⟨⟨true, rfl⟩, ren_mk [] (by rfl) (rf_upd (by rfl) (rf_upd (by rfl) (rf_upd (by rfl) (rf_upd (by rfl) (rf_upd (by rfl) (rf_no _)))))) (rh_no _)⟩
    · try simp -implicitDefEqProofs only [go_sem, Nat.reduceEqDiff, Nat.reduceAdd, ↓reduceIte, c3]
      obtain rfl := Option.some.inj H4
      exact ⟨⟨(decide (60 < (t1.length : Int))), rfl⟩, ren_mk [] (by rfl) (rf_upd (by rfl) (rf_upd (by rfl) (rf_upd (by rfl) (rf_upd (by rfl) (rf_upd (by rfl) (rf_no _)))))) (rh_no _)⟩
  · rintro ⟨t21, he187⟩
    replace he187 := he187.symm
    subst he187
    try dsimp only at H2
    refine runR_take tab_ok fol 1 ?_
    try simp -implicitDefEqProofs only [go_sem, Nat.reduceEqDiff, reduceCtorEq, ↓reduceIte]
    rcases ite_inv H2 with ⟨c5, H6⟩ | ⟨c5, H6⟩
    · obtain ⟨t22, b7, H8⟩ := bind_inv H6
      try simp -implicitDefEqProofs only [go_sem, Nat.reduceAdd, c5]
      refine onCall_pure (by first | rfl | (simp -implicitDefEqProofs only [go_sem, Int.reduceToNat, Int.reduceLT, Int.reduceLE, Int.reduceBEq, Int.reduceBNe, Nat.reduceLT, Nat.reduceBEq, Int.reduceEq, Nat.reduceEqDiff, Nat.reduceAdd, Nat.reduceSub, Nat.reduceMul, Nat.reduceLeDiff, reduceCtorEq, ↓reduceIte, eGTuple, eGObj, eGSub, c5]; done) | (simp -implicitDefEqProofs only [go_sem, Int.reduceToNat, Int.reduceLT, Int.reduceLE, Int.reduceBEq, Int.reduceBNe, Nat.reduceLT, Nat.reduceBEq, Int.reduceEq, Nat.reduceEqDiff, Nat.reduceAdd, Nat.reduceSub, Nat.reduceMul, Nat.reduceLeDiff, reduceCtorEq, ↓reduceIte, eGTuple, eGObj, eGSub, c5]; rfl)) (law3_awake_ok b7) (by first | exact .inr rfl | exact .inl rfl) ?_
      try simp -implicitDefEqProofs only [go_sem, Nat.reduceAdd, ↓reduceIte]
      obtain rfl := Option.some.inj H8
      exact end_pure (by first | (simp -implicitDefEqProofs only [go_sem, ↓reduceIte, Try.f4] <;> rfl) | rfl) (by first | rfl | (simp -implicitDefEqProofs only [go_sem, Int.reduceToNat, Int.reduceLT, Int.reduceLE, Int.reduceBEq, Int.reduceBNe, Nat.reduceLT, Nat.reduceBEq, Int.reduceEq, Nat.reduceEqDiff, Nat.reduceAdd, Nat.reduceSub, Nat.reduceMul, Nat.reduceLeDiff, reduceCtorEq, ↓reduceIte, eGTuple, eGObj, eGSub, c5]; done) | (simp -implicitDefEqProofs only [go_sem, Int.reduceToNat, Int.reduceLT, Int.reduceLE, Int.reduceBEq, Int.reduceBNe, Nat.reduceLT, Nat.reduceBEq, Int.reduceEq, Nat.reduceEqDiff, Nat.reduceAdd, Nat.reduceSub, Nat.reduceMul, Nat.reduceLeDiff, reduceCtorEq, ↓reduceIte, eGTuple, eGObj, eGSub, c5]; rfl)) rfl (by intro h; first | rfl | cases h)
    · try simp -implicitDefEqProofs only [go_sem, c5]
      refine runR_seq ?_
      refine runR_seq ?_
      refine runR_take tab_ok fol 1 ?_
      try simp -implicitDefEqProofs only [go_sem]
      obtain ⟨e_2, E9, H10⟩ := bind_inv H6
      refine runR_join (α := { y : Unit // e_2 = .inl y }) (fun | ⟨_, _⟩ => ⟨noFr, noHp, 0⟩) ?_ ?_
      · refine runR_block ?_
        refine runR_loop (α := { q : Nat × (List GTuple × List GTuple × Int) // law3_RowsTells_L1 n t2 t3 q.1 q.2 = some e_2 }) (fun | ⟨⟨c, ⟨t02, t12, t9⟩⟩, _⟩ => ⟨upd 0 (.d (.sl (List.map eGTuple t02)) true) (upd 1 (.d (.sl (List.map eGTuple t12)) true) (upd 2 (.d (.sl (List.map eI t2)) true) (upd 3 (.d (.sl (List.map eI t3)) true) (upd 9 (.v (.int .i64 t9)) noFr)))), noHp, 0⟩) (fun q => q.1.1) ⟨(n, (t0, t1, 0)), E9⟩ ?_ ?_
        · exact ren_mk [] (by rfl) (rf_upd (by rfl) (rf_upd (by rfl) (rf_upd (by rfl) (rf_upd (by rfl) (rf_upd (by rfl) (rf_no _)))))) (rh_no _)
        · rintro ⟨⟨c, ⟨t02, t12, t9⟩⟩, L11⟩
          rcases c with _ | c
          · exact nomatch (show none = some _ from L11)
          · unfold law3_RowsTells_L1 at L11
            try dsimp only at L11
            refine runR_seq ?_
            refine runR_take tab_ok fol 1 ?_
            try simp -implicitDefEqProofs only [go_sem, Nat.reduceEqDiff, Nat.reduceAdd, reduceCtorEq, ↓reduceIte]
            rcases ite_inv L11 with ⟨c97, H98⟩ | ⟨c97, H98⟩
            · try simp -implicitDefEqProofs only [go_sem, c97]
              refine runR_seq ?_
              refine runR_block ?_
              refine runR_seq ?_
              refine runR_take tab_ok fol 1 ?_
              obtain ⟨t302, b99, H100⟩ := bind_inv H98
              try simp -implicitDefEqProofs only [go_sem, Nat.reduceEqDiff, Nat.reduceAdd, reduceCtorEq, ↓reduceIte]
              refine onCall_pure (by first | rfl | (simp -implicitDefEqProofs only [go_sem, Int.reduceToNat, Int.reduceLT, Int.reduceLE, Int.reduceBEq, Int.reduceBNe, Nat.reduceLT, Nat.reduceBEq, Int.reduceEq, Nat.reduceEqDiff, Nat.reduceAdd, Nat.reduceSub, Nat.reduceMul, Nat.reduceLeDiff, reduceCtorEq, ↓reduceIte, eGTuple, eGObj, eGSub, c97]; done) | (simp -implicitDefEqProofs only [go_sem, Int.reduceToNat, Int.reduceLT, Int.reduceLE, Int.reduceBEq, Int.reduceBNe, Nat.reduceLT, Nat.reduceBEq, Int.reduceEq, Nat.reduceEqDiff, Nat.reduceAdd, Nat.reduceSub, Nat.reduceMul, Nat.reduceLeDiff, reduceCtorEq, ↓reduceIte, eGTuple, eGObj, eGSub, c97]; rfl)) (rows_Diff_ok b99) (by first | exact .inr rfl | exact .inl rfl) ?_
              try simp -implicitDefEqProofs only [go_sem, Nat.reduceEqDiff, Nat.reduceAdd, ↓reduceIte]
              refine runR_seq ?_
              refine runR_seq ?_
              obtain ⟨e_5, E101, H102⟩ := bind_inv H100
              refine runR_join (α := { y : Bool // e_5 = y }) (fun | ⟨t812, _⟩ => ⟨upd 0 (.d (.sl (List.map eGTuple t02)) true) (upd 1 (.d (.sl (List.map eGTuple t12)) true) (upd 2 (.d (.sl (List.map eI t2)) true) (upd 3 (.d (.sl (List.map eI t3)) true) (upd 9 (.v (.int .i64 t9)) (upd 81 (.v (.bool t812)) noFr))))), noHp, 0⟩) ?_ ?_
              · refine runR_take tab_ok fol 1 ?_
                obtain ⟨t342, b103, H104⟩ := bind_inv E101
                try simp -implicitDefEqProofs only [go_sem, Nat.reduceAdd, reduceCtorEq, ↓reduceIte]
                refine onCall_pure (by first | rfl | (simp -implicitDefEqProofs only [go_sem, Int.reduceToNat, Int.reduceLT, Int.reduceLE, Int.reduceBEq, Int.reduceBNe, Nat.reduceLT, Nat.reduceBEq, Int.reduceEq, Nat.reduceEqDiff, Nat.reduceAdd, Nat.reduceSub, Nat.reduceMul, Nat.reduceLeDiff, reduceCtorEq, ↓reduceIte, eGTuple, eGObj, eGSub]; done) | (simp -implicitDefEqProofs only [go_sem, Int.reduceToNat, Int.reduceLT, Int.reduceLE, Int.reduceBEq, Int.reduceBNe, Nat.reduceLT, Nat.reduceBEq, Int.reduceEq, Nat.reduceEqDiff, Nat.reduceAdd, Nat.reduceSub, Nat.reduceMul, Nat.reduceLeDiff, reduceCtorEq, ↓reduceIte, eGTuple, eGObj, eGSub]; rfl)) (rows_Of_ok b103) (by first | exact .inr rfl | exact .inl rfl) ?_
                obtain ⟨t362, b105, H106⟩ := bind_inv H104
                try simp -implicitDefEqProofs only [go_sem, Nat.reduceAdd, reduceCtorEq, ↓reduceIte]
                refine onCall_pure (by first | rfl | (simp -implicitDefEqProofs only [go_sem, Int.reduceToNat, Int.reduceLT, Int.reduceLE, Int.reduceBEq, Int.reduceBNe, Nat.reduceLT, Nat.reduceBEq, Int.reduceEq, Nat.reduceEqDiff, Nat.reduceAdd, Nat.reduceSub, Nat.reduceMul, Nat.reduceLeDiff, reduceCtorEq, ↓reduceIte, eGTuple, eGObj, eGSub]; done) | (simp -implicitDefEqProofs only [go_sem, Int.reduceToNat, Int.reduceLT, Int.reduceLE, Int.reduceBEq, Int.reduceBNe, Nat.reduceLT, Nat.reduceBEq, Int.reduceEq, Nat.reduceEqDiff, Nat.reduceAdd, Nat.reduceSub, Nat.reduceMul, Nat.reduceLeDiff, reduceCtorEq, ↓reduceIte, eGTuple, eGObj, eGSub]; rfl)) (ref1_Of_ok b105) (by first | exact .inr rfl | exact .inl rfl) ?_
                obtain ⟨t372, b107, H108⟩ := bind_inv H106
                try simp -implicitDefEqProofs only [go_sem, Nat.reduceEqDiff, Nat.reduceAdd, ↓reduceIte]
                refine onCall_pure (by first | rfl | (simp -implicitDefEqProofs only [go_sem, Int.reduceToNat, Int.reduceLT, Int.reduceLE, Int.reduceBEq, Int.reduceBNe, Nat.reduceLT, Nat.reduceBEq, Int.reduceEq, Nat.reduceEqDiff, Nat.reduceAdd, Nat.reduceSub, Nat.reduceMul, Nat.reduceLeDiff, reduceCtorEq, ↓reduceIte, eGTuple, eGObj, eGSub]; done) | (simp -implicitDefEqProofs only [go_sem, Int.reduceToNat, Int.reduceLT, Int.reduceLE, Int.reduceBEq, Int.reduceBNe, Nat.reduceLT, Nat.reduceBEq, Int.reduceEq, Nat.reduceEqDiff, Nat.reduceAdd, Nat.reduceSub, Nat.reduceMul, Nat.reduceLeDiff, reduceCtorEq, ↓reduceIte, eGTuple, eGObj, eGSub]; rfl)) (ref1_Same_ok b107) (by first | exact .inr rfl | exact .inl rfl) ?_
                try simp -implicitDefEqProofs only [go_sem, Nat.reduceAdd, ↓reduceIte]
                rcases ite_inv H108 with ⟨c109, H110⟩ | ⟨c109, H110⟩
                · obtain ⟨t412, b111, H112⟩ := bind_inv H110
                  try simp -implicitDefEqProofs only [go_sem, Nat.reduceEqDiff, Nat.reduceAdd, reduceCtorEq, ↓reduceIte, c109]
                  refine onCall_pure (by first | rfl | (simp -implicitDefEqProofs only [go_sem, Int.reduceToNat, Int.reduceLT, Int.reduceLE, Int.reduceBEq, Int.reduceBNe, Nat.reduceLT, Nat.reduceBEq, Int.reduceEq, Nat.reduceEqDiff, Nat.reduceAdd, Nat.reduceSub, Nat.reduceMul, Nat.reduceLeDiff, reduceCtorEq, ↓reduceIte, eGTuple, eGObj, eGSub, c109]; done) | (simp -implicitDefEqProofs only [go_sem, Int.reduceToNat, Int.reduceLT, Int.reduceLE, Int.reduceBEq, Int.reduceBNe, Nat.reduceLT, Nat.reduceBEq, Int.reduceEq, Nat.reduceEqDiff, Nat.reduceAdd, Nat.reduceSub, Nat.reduceMul, Nat.reduceLeDiff, reduceCtorEq, ↓reduceIte, eGTuple, eGObj, eGSub, c109]; rfl)) (rows_Is_ok b111) (by first | exact .inr rfl | exact .inl rfl) ?_
                  obtain ⟨t432, b113, H114⟩ := bind_inv H112
                  try simp -implicitDefEqProofs only [go_sem, Nat.reduceEqDiff, Nat.reduceAdd, reduceCtorEq, ↓reduceIte]
                  refine onCall_pure (by first | rfl | (simp -implicitDefEqProofs only [go_sem, Int.reduceToNat, Int.reduceLT, Int.reduceLE, Int.reduceBEq, Int.reduceBNe, Nat.reduceLT, Nat.reduceBEq, Int.reduceEq, Nat.reduceEqDiff, Nat.reduceAdd, Nat.reduceSub, Nat.reduceMul, Nat.reduceLeDiff, reduceCtorEq, ↓reduceIte, eGTuple, eGObj, eGSub, c109]; done) | (simp -implicitDefEqProofs only [go_sem, Int.reduceToNat, Int.reduceLT, Int.reduceLE, Int.reduceBEq, Int.reduceBNe, Nat.reduceLT, Nat.reduceBEq, Int.reduceEq, Nat.reduceEqDiff, Nat.reduceAdd, Nat.reduceSub, Nat.reduceMul, Nat.reduceLeDiff, reduceCtorEq, ↓reduceIte, eGTuple, eGObj, eGSub, c109]; rfl)) (ref1_Is_ok b113) (by first | exact .inr rfl | exact .inl rfl) ?_
                  try simp -implicitDefEqProofs only [go_sem, Nat.reduceEqDiff, Nat.reduceAdd, ↓reduceIte]
                  rcases ite_inv H114 with ⟨c115, H116⟩ | ⟨c115, H116⟩
                  · obtain ⟨t492, b117, H118⟩ := bind_inv H116
                    try simp -implicitDefEqProofs only [go_sem, Nat.reduceEqDiff, Nat.reduceAdd, reduceCtorEq, ↓reduceIte, c115]
                    refine onCall_pure (by first | rfl | (simp -implicitDefEqProofs only [go_sem, Int.reduceToNat, Int.reduceLT, Int.reduceLE, Int.reduceBEq, Int.reduceBNe, Nat.reduceLT, Nat.reduceBEq, Int.reduceEq, Nat.reduceEqDiff, Nat.reduceAdd, Nat.reduceSub, Nat.reduceMul, Nat.reduceLeDiff, reduceCtorEq, ↓reduceIte, eGTuple, eGObj, eGSub, c109, c115]; done) | (simp -implicitDefEqProofs only [go_sem, Int.reduceToNat, Int.reduceLT, Int.reduceLE, Int.reduceBEq, Int.reduceBNe, Nat.reduceLT, Nat.reduceBEq, Int.reduceEq, Nat.reduceEqDiff, Nat.reduceAdd, Nat.reduceSub, Nat.reduceMul, Nat.reduceLeDiff, reduceCtorEq, ↓reduceIte, eGTuple, eGObj, eGSub, c109, c115]; rfl)) (rows_Plus_ok b117) (by first | exact .inr rfl | exact .inl rfl) ?_
                    obtain ⟨t522, b119, H120⟩ := bind_inv H118
                    try simp -implicitDefEqProofs only [go_sem, Nat.reduceEqDiff, Nat.reduceAdd, reduceCtorEq, ↓reduceIte]
                    refine onCall_pure (by first | rfl | (simp -implicitDefEqProofs only [go_sem, Int.reduceToNat, Int.reduceLT, Int.reduceLE, Int.reduceBEq, Int.reduceBNe, Nat.reduceLT, Nat.reduceBEq, Int.reduceEq, Nat.reduceEqDiff, Nat.reduceAdd, Nat.reduceSub, Nat.reduceMul, Nat.reduceLeDiff, reduceCtorEq, ↓reduceIte, eGTuple, eGObj, eGSub, c109, c115]; done) | (simp -implicitDefEqProofs only [go_sem, Int.reduceToNat, Int.reduceLT, Int.reduceLE, Int.reduceBEq, Int.reduceBNe, Nat.reduceLT, Nat.reduceBEq, Int.reduceEq, Nat.reduceEqDiff, Nat.reduceAdd, Nat.reduceSub, Nat.reduceMul, Nat.reduceLeDiff, reduceCtorEq, ↓reduceIte, eGTuple, eGObj, eGSub, c109, c115]; rfl)) (ref1_Plus_ok b119) (by first | exact .inr rfl | exact .inl rfl) ?_
                    obtain ⟨t532, b121, H122⟩ := bind_inv H120
                    try simp -implicitDefEqProofs only [go_sem, Nat.reduceEqDiff, Nat.reduceAdd, ↓reduceIte]
                    refine onCall_pure (by first | rfl | (simp -implicitDefEqProofs only [go_sem, Int.reduceToNat, Int.reduceLT, Int.reduceLE, Int.reduceBEq, Int.reduceBNe, Nat.reduceLT, Nat.reduceBEq, Int.reduceEq, Nat.reduceEqDiff, Nat.reduceAdd, Nat.reduceSub, Nat.reduceMul, Nat.reduceLeDiff, reduceCtorEq, ↓reduceIte, eGTuple, eGObj, eGSub, c109, c115]; done) | (simp -implicitDefEqProofs only [go_sem, Int.reduceToNat, Int.reduceLT, Int.reduceLE, Int.reduceBEq, Int.reduceBNe, Nat.reduceLT, Nat.reduceBEq, Int.reduceEq, Nat.reduceEqDiff, Nat.reduceAdd, Nat.reduceSub, Nat.reduceMul, Nat.reduceLeDiff, reduceCtorEq, ↓reduceIte, eGTuple, eGObj, eGSub, c109, c115]; rfl)) (ref1_Same_ok b121) (by first | exact .inr rfl | exact .inl rfl) ?_
                    try simp -implicitDefEqProofs only [go_sem, Nat.reduceEqDiff, Nat.reduceAdd, ↓reduceIte]
                    rcases ite_inv H122 with ⟨c123, H124⟩ | ⟨c123, H124⟩
                    · obtain ⟨t592, b125, H126⟩ := bind_inv H124
                      try simp -implicitDefEqProofs only [go_sem, Nat.reduceEqDiff, Nat.reduceAdd, reduceCtorEq, ↓reduceIte, c123]
                      refine onCall_pure (by first | rfl | (simp -implicitDefEqProofs only [go_sem, Int.reduceToNat, Int.reduceLT, Int.reduceLE, Int.reduceBEq, Int.reduceBNe, Nat.reduceLT, Nat.reduceBEq, Int.reduceEq, Nat.reduceEqDiff, Nat.reduceAdd, Nat.reduceSub, Nat.reduceMul, Nat.reduceLeDiff, reduceCtorEq, ↓reduceIte, eGTuple, eGObj, eGSub, c109, c115, c123]; done) | (simp -implicitDefEqProofs only [go_sem, Int.reduceToNat, Int.reduceLT, Int.reduceLE, Int.reduceBEq, Int.reduceBNe, Nat.reduceLT, Nat.reduceBEq, Int.reduceEq, Nat.reduceEqDiff, Nat.reduceAdd, Nat.reduceSub, Nat.reduceMul, Nat.reduceLeDiff, reduceCtorEq, ↓reduceIte, eGTuple, eGObj, eGSub, c109, c115, c123]; rfl)) (rows_Minus_ok b125) (by first | exact .inr rfl | exact .inl rfl) ?_
                      obtain ⟨t622, b127, H128⟩ := bind_inv H126
                      try simp -implicitDefEqProofs only [go_sem, Nat.reduceEqDiff, Nat.reduceAdd, reduceCtorEq, ↓reduceIte]
                      refine onCall_pure (by first | rfl | (simp -implicitDefEqProofs only [go_sem, Int.reduceToNat, Int.reduceLT, Int.reduceLE, Int.reduceBEq, Int.reduceBNe, Nat.reduceLT, Nat.reduceBEq, Int.reduceEq, Nat.reduceEqDiff, Nat.reduceAdd, Nat.reduceSub, Nat.reduceMul, Nat.reduceLeDiff, reduceCtorEq, ↓reduceIte, eGTuple, eGObj, eGSub, c109, c115, c123]; done) | (simp -implicitDefEqProofs only [go_sem, Int.reduceToNat, Int.reduceLT, Int.reduceLE, Int.reduceBEq, Int.reduceBNe, Nat.reduceLT, Nat.reduceBEq, Int.reduceEq, Nat.reduceEqDiff, Nat.reduceAdd, Nat.reduceSub, Nat.reduceMul, Nat.reduceLeDiff, reduceCtorEq, ↓reduceIte, eGTuple, eGObj, eGSub, c109, c115, c123]; rfl)) (ref1_Minus_ok b127) (by first | exact .inr rfl | exact .inl rfl) ?_
                      obtain ⟨t632, b129, H130⟩ := bind_inv H128
                      try simp -implicitDefEqProofs only [go_sem, Nat.reduceEqDiff, Nat.reduceAdd, ↓reduceIte]
                      refine onCall_pure (by first | rfl | (simp -implicitDefEqProofs only [go_sem, Int.reduceToNat, Int.reduceLT, Int.reduceLE, Int.reduceBEq, Int.reduceBNe, Nat.reduceLT, Nat.reduceBEq, Int.reduceEq, Nat.reduceEqDiff, Nat.reduceAdd, Nat.reduceSub, Nat.reduceMul, Nat.reduceLeDiff, reduceCtorEq, ↓reduceIte, eGTuple, eGObj, eGSub, c109, c115, c123]; done) | (simp -implicitDefEqProofs only [go_sem, Int.reduceToNat, Int.reduceLT, Int.reduceLE, Int.reduceBEq, Int.reduceBNe, Nat.reduceLT, Nat.reduceBEq, Int.reduceEq, Nat.reduceEqDiff, Nat.reduceAdd, Nat.reduceSub, Nat.reduceMul, Nat.reduceLeDiff, reduceCtorEq, ↓reduceIte, eGTuple, eGObj, eGSub, c109, c115, c123]; rfl)) (ref1_Same_ok b129) (by first | exact .inr rfl | exact .inl rfl) ?_
                      try simp -implicitDefEqProofs only [go_sem, Nat.reduceEqDiff, Nat.reduceAdd, ↓reduceIte]
                      rcases ite_inv H130 with ⟨c131, H132⟩ | ⟨c131, H132⟩
                      · obtain ⟨t702, b133, H134⟩ := bind_inv H132
                        try simp -implicitDefEqProofs only [go_sem, Nat.reduceEqDiff, Nat.reduceAdd, reduceCtorEq, ↓reduceIte, c131]
                        refine onCall_pure (by first | rfl | (simp -implicitDefEqProofs only [go_sem, Int.reduceToNat, Int.reduceLT, Int.reduceLE, Int.reduceBEq, Int.reduceBNe, Nat.reduceLT, Nat.reduceBEq, Int.reduceEq, Nat.reduceEqDiff, Nat.reduceAdd, Nat.reduceSub, Nat.reduceMul, Nat.reduceLeDiff, reduceCtorEq, ↓reduceIte, eGTuple, eGObj, eGSub, c109, c115, c123, c131]; done) | (simp -implicitDefEqProofs only [go_sem, Int.reduceToNat, Int.reduceLT, Int.reduceLE, Int.reduceBEq, Int.reduceBNe, Nat.reduceLT, Nat.reduceBEq, Int.reduceEq, Nat.reduceEqDiff, Nat.reduceAdd, Nat.reduceSub, Nat.reduceMul, Nat.reduceLeDiff, reduceCtorEq, ↓reduceIte, eGTuple, eGObj, eGSub, c109, c115, c123, c131]; rfl)) (ref1_Minus_ok b133) (by first | exact .inr rfl | exact .inl rfl) ?_
                        obtain ⟨t712, b135, H136⟩ := bind_inv H134
                        try simp -implicitDefEqProofs only [go_sem, Nat.reduceEqDiff, Nat.reduceAdd, ↓reduceIte]
                        refine onCall_pure (by first | rfl | (simp -implicitDefEqProofs only [go_sem, Int.reduceToNat, Int.reduceLT, Int.reduceLE, Int.reduceBEq, Int.reduceBNe, Nat.reduceLT, Nat.reduceBEq, Int.reduceEq, Nat.reduceEqDiff, Nat.reduceAdd, Nat.reduceSub, Nat.reduceMul, Nat.reduceLeDiff, reduceCtorEq, ↓reduceIte, eGTuple, eGObj, eGSub, c109, c115, c123, c131]; done) | (simp -implicitDefEqProofs only [go_sem, Int.reduceToNat, Int.reduceLT, Int.reduceLE, Int.reduceBEq, Int.reduceBNe, Nat.reduceLT, Nat.reduceBEq, Int.reduceEq, Nat.reduceEqDiff, Nat.reduceAdd, Nat.reduceSub, Nat.reduceMul, Nat.reduceLeDiff, reduceCtorEq, ↓reduceIte, eGTuple, eGObj, eGSub, c109, c115, c123, c131]; rfl)) (ref1_Same_ok b135) (by first | exact .inr rfl | exact .inl rfl) ?_
                        try simp -implicitDefEqProofs only [go_sem, Nat.reduceEqDiff, Nat.reduceAdd, ↓reduceIte]
                        rcases ite_inv H136 with ⟨c137, H138⟩ | ⟨c137, H138⟩
                        · obtain ⟨t782, b139, H140⟩ := bind_inv H138
                          try simp -implicitDefEqProofs only [go_sem, Nat.reduceEqDiff, Nat.reduceAdd, reduceCtorEq, ↓reduceIte, c137]
                          refine onCall_pure (by first | rfl | (simp -implicitDefEqProofs only [go_sem, Int.reduceToNat, Int.reduceLT, Int.reduceLE, Int.reduceBEq, Int.reduceBNe, Nat.reduceLT, Nat.reduceBEq, Int.reduceEq, Nat.reduceEqDiff, Nat.reduceAdd, Nat.reduceSub, Nat.reduceMul, Nat.reduceLeDiff, reduceCtorEq, ↓reduceIte, eGTuple, eGObj, eGSub, c109, c115, c123, c131, c137]; done) | (simp -implicitDefEqProofs only [go_sem, Int.reduceToNat, Int.reduceLT, Int.reduceLE, Int.reduceBEq, Int.reduceBNe, Nat.reduceLT, Nat.reduceBEq, Int.reduceEq, Nat.reduceEqDiff, Nat.reduceAdd, Nat.reduceSub, Nat.reduceMul, Nat.reduceLeDiff, reduceCtorEq, ↓reduceIte, eGTuple, eGObj, eGSub, c109, c115, c123, c131, c137]; rfl)) (ref1_Minus_ok b139) (by first | exact .inr rfl | exact .inl rfl) ?_
                          obtain ⟨t792, b141, H142⟩ := bind_inv H140
                          try simp -implicitDefEqProofs only [go_sem, Nat.reduceEqDiff, Nat.reduceAdd, ↓reduceIte]
                          refine onCall_pure (by first | rfl | (simp -implicitDefEqProofs only [go_sem, Int.reduceToNat, Int.reduceLT, Int.reduceLE, Int.reduceBEq, Int.reduceBNe, Nat.reduceLT, Nat.reduceBEq, Int.reduceEq, Nat.reduceEqDiff, Nat.reduceAdd, Nat.reduceSub, Nat.reduceMul, Nat.reduceLeDiff, reduceCtorEq, ↓reduceIte, eGTuple, eGObj, eGSub, c109, c115, c123, c131, c137]; done) | (simp -implicitDefEqProofs only [go_sem, Int.reduceToNat, Int.reduceLT, Int.reduceLE, Int.reduceBEq, Int.reduceBNe, Nat.reduceLT, Nat.reduceBEq, Int.reduceEq, Nat.reduceEqDiff, Nat.reduceAdd, Nat.reduceSub, Nat.reduceMul, Nat.reduceLeDiff, reduceCtorEq, ↓reduceIte, eGTuple, eGObj, eGSub, c109, c115, c123, c131, c137]; rfl)) (ref1_Same_ok b141) (by first | exact .inr rfl | exact .inl rfl) ?_
                          try simp -implicitDefEqProofs only [go_sem, Nat.reduceEqDiff, Nat.reduceAdd, ↓reduceIte]
                          obtain rfl := Option.some.inj H142
                          exact ⟨⟨(!t792), rfl⟩, ren_mk [] (by rfl) (rf_upd (by rfl) (rf_upd (by rfl) (rf_upd (by rfl) (rf_upd (by rfl) (rf_upd (by rfl) (rf_upd (by rfl) (rf_no _))))))) (rh_no _)⟩
                        · try simp -implicitDefEqProofs only [go_sem, Nat.reduceEqDiff, Nat.reduceAdd, ↓reduceIte, c137]
                          obtain rfl := Option.some.inj H138
                          exact ⟨⟨true, rfl⟩, ren_mk [] (by rfl) (rf_upd (by rfl) (rf_upd (by rfl) (rf_upd (by rfl) (rf_upd (by rfl) (rf_upd (by rfl) (rf_upd (by rfl) (rf_no _))))))) (rh_no _)⟩
                      · try simp -implicitDefEqProofs only [go_sem, Nat.reduceEqDiff, Nat.reduceAdd, ↓reduceIte, c131]
                        obtain rfl := Option.some.inj H132
                        exact ⟨⟨true, rfl⟩, ren_mk [] (by rfl) (rf_upd (by rfl) (rf_upd (by rfl) (rf_upd (by rfl) (rf_upd (by rfl) (rf_upd (by rfl) (rf_upd (by rfl) (rf_no _))))))) (rh_no _)⟩
                    · try simp -implicitDefEqProofs only [go_sem, Nat.reduceEqDiff, Nat.reduceAdd, ↓reduceIte, c123]
                      obtain rfl := Option.some.inj H124
                      exact ⟨⟨true, rfl⟩, ren_mk [] (by rfl) (rf_upd (by rfl) (rf_upd (by rfl) (rf_upd (by rfl) (rf_upd (by rfl) (rf_upd (by rfl) (rf_upd (by rfl) (rf_no _))))))) (rh_no _)⟩
                  · try simp -implicitDefEqProofs only [go_sem, Nat.reduceEqDiff, Nat.reduceAdd, ↓reduceIte, c115]
                    obtain rfl := Option.some.inj H116
                    exact ⟨⟨true, rfl⟩, ren_mk [] (by rfl) (rf_upd (by rfl) (rf_upd (by rfl) (rf_upd (by rfl) (rf_upd (by rfl) (rf_upd (by rfl) (rf_upd (by rfl) (rf_no _))))))) (rh_no _)⟩
                · try simp -implicitDefEqProofs only [go_sem, Nat.reduceEqDiff, Nat.reduceAdd, ↓reduceIte, c109]
                  obtain rfl := Option.some.inj H110
                  exact ⟨⟨true, rfl⟩, ren_mk [] (by rfl) (rf_upd (by rfl) (rf_upd (by rfl) (rf_upd (by rfl) (rf_upd (by rfl) (rf_upd (by rfl) (rf_upd (by rfl) (rf_no _))))))) (rh_no _)⟩
              · rintro ⟨t812, he183⟩
                replace he183 := he183.symm
                subst he183
                try dsimp only at H102
                refine runR_take tab_ok fol 1 ?_
                try simp -implicitDefEqProofs only [go_sem, Nat.reduceEqDiff, reduceCtorEq, ↓reduceIte]
                rcases ite_inv H102 with ⟨c143, H144⟩ | ⟨c143, H144⟩
                · try simp -implicitDefEqProofs only [go_sem, c143]
                  obtain rfl := Option.some.inj H144
                  obtain rfl := Option.some.inj H10
                  exact end_pure (by first | (simp -implicitDefEqProofs only [go_sem, ↓reduceIte, Try.f4] <;> rfl) | rfl) (by first | rfl | (simp -implicitDefEqProofs only [go_sem, Int.reduceToNat, Int.reduceLT, Int.reduceLE, Int.reduceBEq, Int.reduceBNe, Nat.reduceLT, Nat.reduceBEq, Int.reduceEq, Nat.reduceEqDiff, Nat.reduceAdd, Nat.reduceSub, Nat.reduceMul, Nat.reduceLeDiff, reduceCtorEq, ↓reduceIte, eGTuple, eGObj, eGSub, c143]; done) | (simp -implicitDefEqProofs only [go_sem, Int.reduceToNat, Int.reduceLT, Int.reduceLE, Int.reduceBEq, Int.reduceBNe, Nat.reduceLT, Nat.reduceBEq, Int.reduceEq, Nat.reduceEqDiff, Nat.reduceAdd, Nat.reduceSub, Nat.reduceMul, Nat.reduceLeDiff, reduceCtorEq, ↓reduceIte, eGTuple, eGObj, eGSub, c143]; rfl)) rfl (by intro h; first | rfl | cases h)
                · try simp -implicitDefEqProofs only [go_sem, c143]
                  refine runR_seq ?_
                  refine runR_take tab_ok fol 1 ?_
                  obtain ⟨t832, b145, H146⟩ := bind_inv H144
                  try simp -implicitDefEqProofs only [go_sem, Nat.reduceAdd, ↓reduceIte]
                  refine onCall_pure (by first | rfl | (simp -implicitDefEqProofs only [go_sem, Int.reduceToNat, Int.reduceLT, Int.reduceLE, Int.reduceBEq, Int.reduceBNe, Nat.reduceLT, Nat.reduceBEq, Int.reduceEq, Nat.reduceEqDiff, Nat.reduceAdd, Nat.reduceSub, Nat.reduceMul, Nat.reduceLeDiff, reduceCtorEq, ↓reduceIte, eGTuple, eGObj, eGSub, c143]; done) | (simp -implicitDefEqProofs only [go_sem, Int.reduceToNat, Int.reduceLT, Int.reduceLE, Int.reduceBEq, Int.reduceBNe, Nat.reduceLT, Nat.reduceBEq, Int.reduceEq, Nat.reduceEqDiff, Nat.reduceAdd, Nat.reduceSub, Nat.reduceMul, Nat.reduceLeDiff, reduceCtorEq, ↓reduceIte, eGTuple, eGObj, eGSub, c143]; rfl)) (ref1_Of_ok b145) (by first | exact .inr rfl | exact .inl rfl) ?_
                  try simp -implicitDefEqProofs only [go_sem, Nat.reduceAdd, ↓reduceIte]
                  refine runR_seq ?_
                  refine runR_seq ?_
                  refine runR_take tab_ok fol 1 ?_
                  try simp -implicitDefEqProofs only [go_sem, Nat.reduceAdd]
                  obtain ⟨e_6, E147, H148⟩ := bind_inv H146
                  refine runR_join (α := { y : Unit // e_6 = .inl y }) (fun | ⟨_, _⟩ => ⟨upd 2 (.d (.sl (List.map eI t2)) true) (upd 3 (.d (.sl (List.map eI t3)) true) (upd 9 (.v (.int .i64 t9)) noFr)), noHp, 0⟩) ?_ ?_
                  · refine runR_block ?_
                    refine runR_loop (α := { q : Nat × Int // law3_RowsTells_L2 n t12 t832 q.1 q.2 = some e_6 }) (fun | ⟨⟨c, t133⟩, _⟩ => ⟨upd 1 (.d (.sl (List.map eGTuple t12)) true) (upd 2 (.d (.sl (List.map eI t2)) true) (upd 3 (.d (.sl (List.map eI t3)) true) (upd 9 (.v (.int .i64 t9)) (upd 12 (.d (.sl (List.map eGTuple t832)) false) (upd 13 (.v (.int .i64 t133)) noFr))))), noHp, 0⟩) (fun q => q.1.1) ⟨(n, 0), E147⟩ ?_ ?_
                    · exact ren_mk [] (by rfl) (rf_upd (by rfl) (rf_upd (by rfl) (rf_upd (by rfl) (rf_upd (by rfl) (rf_upd (by rfl) (rf_upd (by rfl) (rf_no _))))))) (rh_no _)
                    · rintro ⟨⟨c, t133⟩, L149⟩
                      rcases c with _ | c
                      · exact nomatch (show none = some _ from L149)
                      · unfold law3_RowsTells_L2 at L149
                        try dsimp only at L149
                        refine runR_take tab_ok fol 1 ?_
                        try simp -implicitDefEqProofs only [go_sem, Nat.reduceEqDiff, Nat.reduceAdd, ↓reduceIte]
                        rcases ite_inv L149 with ⟨c164, H165⟩ | ⟨c164, H165⟩
                        · obtain ⟨x4, b166, H167⟩ := bind_inv H165
                          obtain ⟨h168, h169⟩ := idx_inv b166
                          try simp only [Int.reduceToNat, Int.toNat_natCast] at h169
                          have h170 := map_at eGTuple h169
                          obtain ⟨t954, b172, H173⟩ := bind_inv H167
                          try simp -implicitDefEqProofs only [go_sem, Nat.reduceEqDiff, Nat.reduceAdd, ↓reduceIte, eGTuple, c164, nat_of .i64 h168, h170]
                          refine onCallD_pure (by first | rfl | (simp -implicitDefEqProofs only [go_sem, Int.reduceToNat, Int.reduceLT, Int.reduceLE, Int.reduceBEq, Int.reduceBNe, Nat.reduceLT, Nat.reduceBEq, Int.reduceEq, Nat.reduceEqDiff, Nat.reduceAdd, Nat.reduceSub, Nat.reduceMul, Nat.reduceLeDiff, reduceCtorEq, ↓reduceIte, eGTuple, eGObj, eGSub, c164, nat_of .i64 h168, h170]; done) | (simp -implicitDefEqProofs only [go_sem, Int.reduceToNat, Int.reduceLT, Int.reduceLE, Int.reduceBEq, Int.reduceBNe, Nat.reduceLT, Nat.reduceBEq, Int.reduceEq, Nat.reduceEqDiff, Nat.reduceAdd, Nat.reduceSub, Nat.reduceMul, Nat.reduceLeDiff, reduceCtorEq, ↓reduceIte, eGTuple, eGObj, eGSub, c164, nat_of .i64 h168, h170]; rfl)) (rows_Has_ok b172) (by first | exact .inr rfl | exact .inl rfl) ?_
                          obtain ⟨t1014, b174, H175⟩ := bind_inv H173
                          try simp -implicitDefEqProofs only [go_sem, Nat.reduceEqDiff, Nat.reduceAdd, ↓reduceIte, eGTuple, nat_of .i64 h168, h170]
                          refine onCallD_pure (by first | rfl | (simp -implicitDefEqProofs only [go_sem, Int.reduceToNat, Int.reduceLT, Int.reduceLE, Int.reduceBEq, Int.reduceBNe, Nat.reduceLT, Nat.reduceBEq, Int.reduceEq, Nat.reduceEqDiff, Nat.reduceAdd, Nat.reduceSub, Nat.reduceMul, Nat.reduceLeDiff, reduceCtorEq, ↓reduceIte, eGTuple, eGObj, eGSub, c164, nat_of .i64 h168, h170]; done) | (simp -implicitDefEqProofs only [go_sem, Int.reduceToNat, Int.reduceLT, Int.reduceLE, Int.reduceBEq, Int.reduceBNe, Nat.reduceLT, Nat.reduceBEq, Int.reduceEq, Nat.reduceEqDiff, Nat.reduceAdd, Nat.reduceSub, Nat.reduceMul, Nat.reduceLeDiff, reduceCtorEq, ↓reduceIte, eGTuple, eGObj, eGSub, c164, nat_of .i64 h168, h170]; rfl)) (ref1_Has_ok b174) (by first | exact .inr rfl | exact .inl rfl) ?_
                          try simp -implicitDefEqProofs only [go_sem, Nat.reduceEqDiff, Nat.reduceAdd, ↓reduceIte]
                          refine Rd_endF (by rfl) ?_
                          try simp -implicitDefEqProofs only [go_sem, ↓reduceIte]
                          rcases ite_inv H175 with ⟨c176, H177⟩ | ⟨c176, H177⟩
                          · try simp -implicitDefEqProofs only [go_sem, Nat.reduceEqDiff, Nat.reduceAdd, ↓reduceIte, c176]
                            exact ⟨⟨(c, (IntKind.i64.wrap (t133 + 1))), H177⟩, ren_mk [] (by rfl) (rf_upd (by rfl) (rf_upd (by rfl) (rf_upd (by rfl) (rf_upd (by rfl) (rf_upd (by rfl) (rf_upd (by rfl) (rf_no _))))))) (rh_no _), Nat.lt_succ_self _⟩
                          · try simp -implicitDefEqProofs only [go_sem, Nat.reduceAdd, c176]
                            obtain rfl := Option.some.inj H177
                            obtain rfl := Option.some.inj H148
                            obtain rfl := Option.some.inj H10
                            exact end_pure (by first | (simp -implicitDefEqProofs only [go_sem, ↓reduceIte, Try.f4] <;> rfl) | rfl) (by first | rfl | (simp -implicitDefEqProofs only [go_sem, Int.reduceToNat, Int.reduceLT, Int.reduceLE, Int.reduceBEq, Int.reduceBNe, Nat.reduceLT, Nat.reduceBEq, Int.reduceEq, Nat.reduceEqDiff, Nat.reduceAdd, Nat.reduceSub, Nat.reduceMul, Nat.reduceLeDiff, reduceCtorEq, ↓reduceIte, eGTuple, eGObj, eGSub, c164, nat_of .i64 h168, h170, c176]; done) | (simp -implicitDefEqProofs only [go_sem, Int.reduceToNat, Int.reduceLT, Int.reduceLE, Int.reduceBEq, Int.reduceBNe, Nat.reduceLT, Nat.reduceBEq, Int.reduceEq, Nat.reduceEqDiff, Nat.reduceAdd, Nat.reduceSub, Nat.reduceMul, Nat.reduceLeDiff, reduceCtorEq, ↓reduceIte, eGTuple, eGObj, eGSub, c164, nat_of .i64 h168, h170, c176]; rfl)) rfl (by intro h; first | rfl | cases h)
                        · try simp -implicitDefEqProofs only [go_sem, ↓reduceIte, c164]
                          obtain rfl := Option.some.inj H165
                          exact ⟨⟨(), rfl⟩, ren_mk [] (by rfl) (rf_upd (by rfl) (rf_upd (by rfl) (rf_upd (by rfl) (rf_no _)))) (rh_no _)⟩
                  · rintro ⟨_, he182⟩
                    replace he182 := he182.symm
                    subst he182
                    try dsimp only at H148
                    refine runR_take tab_ok fol 3 ?_
                    obtain ⟨t1042, b178, H179⟩ := bind_inv H148
                    try simp -implicitDefEqProofs only [go_sem, Nat.reduceAdd, ↓reduceIte]
                    refine onCall_pureAW (by first | rfl | (simp -implicitDefEqProofs only [go_sem, Int.reduceToNat, Int.reduceLT, Int.reduceLE, Int.reduceBEq, Int.reduceBNe, Nat.reduceLT, Nat.reduceBEq, Int.reduceEq, Nat.reduceEqDiff, Nat.reduceAdd, Nat.reduceSub, Nat.reduceMul, Nat.reduceLeDiff, reduceCtorEq, ↓reduceIte, eGTuple, eGObj, eGSub]; done) | (simp -implicitDefEqProofs only [go_sem, Int.reduceToNat, Int.reduceLT, Int.reduceLE, Int.reduceBEq, Int.reduceBNe, Nat.reduceLT, Nat.reduceBEq, Int.reduceEq, Nat.reduceEqDiff, Nat.reduceAdd, Nat.reduceSub, Nat.reduceMul, Nat.reduceLeDiff, reduceCtorEq, ↓reduceIte, eGTuple, eGObj, eGSub]; rfl)) (PureA.of_pure (law2_Tames_ok b178)) (by first | exact .inr rfl | exact .inl rfl) ?_
                    obtain ⟨t1062, b180, H181⟩ := bind_inv H179
                    try simp -implicitDefEqProofs only [go_sem, Nat.reduceEqDiff, Nat.reduceAdd, ↓reduceIte]
                    refine onCall_pureAW (by first | rfl | (simp -implicitDefEqProofs only [go_sem, Int.reduceToNat, Int.reduceLT, Int.reduceLE, Int.reduceBEq, Int.reduceBNe, Nat.reduceLT, Nat.reduceBEq, Int.reduceEq, Nat.reduceEqDiff, Nat.reduceAdd, Nat.reduceSub, Nat.reduceMul, Nat.reduceLeDiff, reduceCtorEq, ↓reduceIte, eGTuple, eGObj, eGSub]; done) | (simp -implicitDefEqProofs only [go_sem, Int.reduceToNat, Int.reduceLT, Int.reduceLE, Int.reduceBEq, Int.reduceBNe, Nat.reduceLT, Nat.reduceBEq, Int.reduceEq, Nat.reduceEqDiff, Nat.reduceAdd, Nat.reduceSub, Nat.reduceMul, Nat.reduceLeDiff, reduceCtorEq, ↓reduceIte, eGTuple, eGObj, eGSub]; rfl)) (PureA.of_pure (law2_Tames_ok b180)) (by first | exact .inr rfl | exact .inl rfl) ?_
                    try simp -implicitDefEqProofs only [go_sem, Nat.reduceEqDiff, Nat.reduceAdd, reduceCtorEq, ↓reduceIte]
                    exact ⟨⟨(c, (t1042, t1062, (IntKind.i64.wrap (t9 + 1)))), H181⟩, ren_mk [] (by rfl) (rf_upd (by rfl) (rf_upd (by rfl) (rf_upd (by rfl) (rf_upd (by rfl) (rf_upd (by rfl) (rf_no _)))))) (rh_no _), Nat.lt_succ_self _⟩
            · try simp -implicitDefEqProofs only [go_sem, ↓reduceIte, c97]
              obtain rfl := Option.some.inj H98
              exact ⟨⟨(), rfl⟩, ren_mk [] (by rfl) (rf_no _) (rh_no _)⟩
      · rintro ⟨_, he186⟩
        replace he186 := he186.symm
        subst he186
        try dsimp only at H10
        refine runR_take tab_ok fol 1 ?_
        obtain ⟨t107, b184, H185⟩ := bind_inv H10
        try simp -implicitDefEqProofs only [go_sem, Nat.reduceAdd]
        refine onCall_pure (by first | rfl | (simp -implicitDefEqProofs only [go_sem, Int.reduceToNat, Int.reduceLT, Int.reduceLE, Int.reduceBEq, Int.reduceBNe, Nat.reduceLT, Nat.reduceBEq, Int.reduceEq, Nat.reduceEqDiff, Nat.reduceAdd, Nat.reduceSub, Nat.reduceMul, Nat.reduceLeDiff, reduceCtorEq, ↓reduceIte, eGTuple, eGObj, eGSub]; done) | (simp -implicitDefEqProofs only [go_sem, Int.reduceToNat, Int.reduceLT, Int.reduceLE, Int.reduceBEq, Int.reduceBNe, Nat.reduceLT, Nat.reduceBEq, Int.reduceEq, Nat.reduceEqDiff, Nat.reduceAdd, Nat.reduceSub, Nat.reduceMul, Nat.reduceLeDiff, reduceCtorEq, ↓reduceIte, eGTuple, eGObj, eGSub]; rfl)) (law3_awake_ok b184) (by first | exact .inr rfl | exact .inl rfl) ?_
        try simp -implicitDefEqProofs only [go_sem, Nat.reduceAdd, ↓reduceIte]
        obtain rfl := Option.some.inj H185
        exact end_pure (by first | (simp -implicitDefEqProofs only [go_sem, ↓reduceIte, Try.f4] <;> rfl) | rfl) (by first | rfl | (simp -implicitDefEqProofs only [go_sem, Int.reduceToNat, Int.reduceLT, Int.reduceLE, Int.reduceBEq, Int.reduceBNe, Nat.reduceLT, Nat.reduceBEq, Int.reduceEq, Nat.reduceEqDiff, Nat.reduceAdd, Nat.reduceSub, Nat.reduceMul, Nat.reduceLeDiff, reduceCtorEq, ↓reduceIte, eGTuple, eGObj, eGSub]; done) | (simp -implicitDefEqProofs only [go_sem, Int.reduceToNat, Int.reduceLT, Int.reduceLE, Int.reduceBEq, Int.reduceBNe, Nat.reduceLT, Nat.reduceBEq, Int.reduceEq, Nat.reduceEqDiff, Nat.reduceAdd, Nat.reduceSub, Nat.reduceMul, Nat.reduceLeDiff, reduceCtorEq, ↓reduceIte, eGTuple, eGObj, eGSub]; rfl)) rfl (by intro h; first | rfl | cases h)
end Go.Proofs.Ytdckfddlcmkdlaa.Ab
