/-
  Functions, read off the code.
-/
import Derived.Test.YtkkhgdmmbhpckaaNms
import Derived.Test.YtkkhgdmmbhpckaaSce
namespace Go.Proofs.Ytkkhgdmmbhpckaa.Ab
open Go.RowKit
def law15_SessGives_L1 (n : Nat) (t29 : List GFact × Int × Int) : Nat → (List ByteArray × List GPair × List GPair × List GGrant × Int) → Option (List ByteArray × List GPair × List GPair × List GGrant)
  | 0, _ => none
  | c + 1, (t70, t72, t73, t74, t11) =>
    (if (decide (t11 < (t29.1.length : Int))) then
      (idx t29.1 t11).bind fun x2 =>
      (if (x2.kind == 1) then
        (app t70 [x2.a]).bind fun l =>
        law15_SessGives_L1 n t29 c (l, t72, t73, t74, (IntKind.i64.wrap (t11 + 1)))
      else
        (if (x2.kind == 3) then
          (app t72 [(⟨x2.a, x2.b⟩ : GPair)]).bind fun l2 =>
          law15_SessGives_L1 n t29 c (t70, l2, t73, t74, (IntKind.i64.wrap (t11 + 1)))
        else
          (if (x2.kind == 4) then
            (app t73 [(⟨x2.a, x2.b⟩ : GPair)]).bind fun l3 =>
            law15_SessGives_L1 n t29 c (t70, t72, l3, t74, (IntKind.i64.wrap (t11 + 1)))
          else
            (if (x2.kind == 5) then
              (app t74 [(⟨x2.a, x2.b, x2.c⟩ : GGrant)]).bind fun l4 =>
              law15_SessGives_L1 n t29 c (t70, t72, t73, l4, (IntKind.i64.wrap (t11 + 1)))
            else
              law15_SessGives_L1 n t29 c (t70, t72, t73, t74, (IntKind.i64.wrap (t11 + 1)))))))
    else
      some (t70, t72, t73, t74))

def law15_SessGives_L2 (n : Nat) (t703 : List ByteArray) (t116 : GAsk) : Nat → (Bool × Int) → Option (Bool)
  | 0, _ => none
  | c + 1, (t20, t21) =>
    (if (decide (t21 < (t703.length : Int))) then
      (if t20 then
        law15_SessGives_L2 n t703 t116 c (true, (IntKind.i64.wrap (t21 + 1)))
      else
        (idx t703 t21).bind fun x6 =>
        law15_SessGives_L2 n t703 t116 c ((x6.toList == t116.who.toList), (IntKind.i64.wrap (t21 + 1))))
    else
      some t20)

def law15_SessGives_L3 (n : Nat) (x3 : ByteArray) (t196 : List ByteArray) : Nat → (Bool × Int) → Option (Bool)
  | 0, _ => none
  | c + 1, (t22, t24) =>
    (if (decide (t24 < (t196.length : Int))) then
      (if t22 then
        law15_SessGives_L3 n x3 t196 c (true, (IntKind.i64.wrap (t24 + 1)))
      else
        (idx t196 t24).bind fun x8 =>
        law15_SessGives_L3 n x3 t196 c ((x8.toList == x3.toList), (IntKind.i64.wrap (t24 + 1))))
    else
      some t22)

def law15_SessGives (n : Nat) (t0 : List Int) (t1 : Int) (t2 : Int) : Option Bool :=
  (law13_File n t0 true).bind fun t28 =>
  (ref13_Parse n t28).bind fun t29 =>
  (
    law15_SessGives_L1 n t29 n ([], [], [], [], 0) : Option (List ByteArray × List GPair × List GPair × List GGrant)).bind fun (t703, t723, t733, t743) =>
  (law15_Ask n t2).bind fun t116 =>
  (idx [{ data := #[114] }, { data := #[115] }, { data := #[116] }, { data := #[113] }] (IntKind.i64.wrap (an t1 3 : Int))).bind fun x3 =>
  (idx [{ data := #[114] }, { data := #[115] }, { data := #[116] }, { data := #[113] }] (IntKind.i64.wrap (an (sh t1 2) 3 : Int))).bind fun x4 =>
  (sess_May n (⟨t703, [], t723, t733, t743, [], [], []⟩ : GRoles) t116.who t116.act t116.obj).bind fun t135 =>
  (app [] t733).bind fun _ =>
  (app t733 [(⟨t116.who, x3⟩ : GPair)]).bind fun l6 =>
  (app [] t723).bind fun _ =>
  (app t723 [(⟨x3, x4⟩ : GPair)]).bind fun l8 =>
  (app [] t743).bind fun _ =>
  (app t743 [(⟨x3, t116.act, t116.obj⟩ : GGrant)]).bind fun l10 =>
  (
    law15_SessGives_L2 n t703 t116 n (false, 0) : Option (Bool)).bind fun t203 =>
  (sess_Roles n (⟨t703, [], t723, t733, t743, [], [], []⟩ : GRoles) t116.who).bind fun t196 =>
  (
    law15_SessGives_L3 n x3 t196 n (false, 0) : Option (Bool)).bind fun t223 =>
  (
    (if t135 then
      (sess_May n (⟨t703, [], t723, l6, t743, [], [], []⟩ : GRoles) t116.who t116.act t116.obj).bind fun t221 =>
      (if t221 then
        (sess_May n (⟨t703, [], l8, t733, t743, [], [], []⟩ : GRoles) t116.who t116.act t116.obj).bind fun t231 =>
        (if t231 then
          (sess_May n (⟨t703, [], t723, t733, l10, [], [], []⟩ : GRoles) t116.who t116.act t116.obj).bind fun t2422 =>
          (if t2422 then
            (sess_May n (⟨t703, [], t723, [], t743, [], [], []⟩ : GRoles) t116.who t116.act t116.obj).bind fun t254 =>
            (if t254 then
              some (true, true)
            else
              some (true, (!t203)))
          else
            some (true, true))
        else
          some (true, true))
      else
        some (true, true))
    else
      (sess_May n (⟨t703, [], t723, [], t743, [], [], []⟩ : GRoles) t116.who t116.act t116.obj).bind fun t2542 =>
      (if t2542 then
        some (false, true)
      else
        some (false, false))) : Option (Bool × Bool)).bind fun (t15, t262) =>
  (if t262 then
    some false
  else
    (sess_May n (⟨t703, [], t723, t733, l10, [], [], []⟩ : GRoles) t116.who t116.act t116.obj).bind fun t270 =>
    (if t15 then
      (if (t270 == true) then
        (if t203 then
          (ref1_Texts n t196).bind fun t287 =>
          (ref1_SameTexts n t196 t287).bind fun t288 =>
          (if t288 then
            (law15_awake n).bind fun t291 =>
            some t291
          else
            some false)
        else
          (if ((t196.length : Int) == 0) then
            (ref1_Texts n t196).bind fun t2872 =>
            (ref1_SameTexts n t196 t2872).bind fun t2882 =>
            (if t2882 then
              (law15_awake n).bind fun t2912 =>
              some t2912
            else
              some false)
          else
            some false))
      else
        some false)
    else
      (if (t270 == t223) then
        (if t203 then
          (ref1_Texts n t196).bind fun t2873 =>
          (ref1_SameTexts n t196 t2873).bind fun t2883 =>
          (if t2883 then
            (law15_awake n).bind fun t2913 =>
            some t2913
          else
            some false)
        else
          (if ((t196.length : Int) == 0) then
            (ref1_Texts n t196).bind fun t2874 =>
            (ref1_SameTexts n t196 t2874).bind fun t2884 =>
            (if t2884 then
              (law15_awake n).bind fun t2914 =>
              some t2914
            else
              some false)
          else
            some false))
      else
        some false)))
set_option maxHeartbeats 8000000 in
theorem law15_SessGives_ok {n : Nat} {t0 : List Int} {t1 : Int} {t2 : Int} {r : Bool} (H : law15_SessGives n t0 t1 t2 = some r) : PureOK Try.prog 7 [D.sl (List.map eI t0), D.v (.int .i64 t1), D.v (.int .i64 t2)] (D.v (.bool r)) true := by
  unfold law15_SessGives at H
  refine pure_runR (tab := tab) tab_ok Try.func7 rfl (by kernel_rfl) (by kernel_rfl) (by simp [Try.f7]) ?_
  refine runR_seq ?_
  refine runR_take tab_ok fol 1 ?_
  try simp -implicitDefEqProofs only [go_sem]
  refine runR_seq ?_
  refine runR_take tab_ok fol 1 ?_
  try simp -implicitDefEqProofs only [go_sem, Nat.reduceEqDiff, Nat.reduceAdd, ↓reduceIte]
  refine runR_seq ?_
  refine runR_take tab_ok fol 1 ?_
  obtain ⟨t28, b1, H2⟩ := bind_inv H
  try simp -implicitDefEqProofs only [go_sem, Nat.reduceAdd, reduceCtorEq, ↓reduceIte]
  refine onCall_pure (by first | rfl | (simp -implicitDefEqProofs only [go_sem, Bool.false_and, Int.reduceToNat, Int.reduceLT, Int.reduceLE, Int.reduceBEq, Int.reduceBNe, Nat.reduceLT, Nat.reduceBEq, Int.reduceEq, Nat.reduceEqDiff, Nat.reduceAdd, Nat.reduceSub, Nat.reduceMul, Nat.reduceLeDiff, reduceCtorEq, ↓reduceIte, eGWord, eGLine, eGFact, eGAsk, eGPair, eGRoles, eGGrant]; done) | (simp -implicitDefEqProofs only [go_sem, Bool.false_and, Int.reduceToNat, Int.reduceLT, Int.reduceLE, Int.reduceBEq, Int.reduceBNe, Nat.reduceLT, Nat.reduceBEq, Int.reduceEq, Nat.reduceEqDiff, Nat.reduceAdd, Nat.reduceSub, Nat.reduceMul, Nat.reduceLeDiff, reduceCtorEq, ↓reduceIte, eGWord, eGLine, eGFact, eGAsk, eGPair, eGRoles, eGGrant]; rfl)) (law13_File_ok b1) (by first | exact .inr rfl | exact .inl rfl) ?_
  obtain ⟨t29, b3, H4⟩ := bind_inv H2
  try simp -implicitDefEqProofs only [go_sem, Bool.false_and, Nat.reduceAdd, ↓reduceIte]
  refine onCall_pure (by first | rfl | (simp -implicitDefEqProofs only [go_sem, Bool.false_and, Int.reduceToNat, Int.reduceLT, Int.reduceLE, Int.reduceBEq, Int.reduceBNe, Nat.reduceLT, Nat.reduceBEq, Int.reduceEq, Nat.reduceEqDiff, Nat.reduceAdd, Nat.reduceSub, Nat.reduceMul, Nat.reduceLeDiff, reduceCtorEq, ↓reduceIte, eGWord, eGLine, eGFact, eGAsk, eGPair, eGRoles, eGGrant]; done) | (simp -implicitDefEqProofs only [go_sem, Bool.false_and, Int.reduceToNat, Int.reduceLT, Int.reduceLE, Int.reduceBEq, Int.reduceBNe, Nat.reduceLT, Nat.reduceBEq, Int.reduceEq, Nat.reduceEqDiff, Nat.reduceAdd, Nat.reduceSub, Nat.reduceMul, Nat.reduceLeDiff, reduceCtorEq, ↓reduceIte, eGWord, eGLine, eGFact, eGAsk, eGPair, eGRoles, eGGrant]; rfl)) (ref13_Parse_ok b3) (by first | exact .inr rfl | exact .inl rfl) ?_
  try simp -implicitDefEqProofs only [go_sem, Bool.false_and, Nat.reduceEqDiff, Nat.reduceAdd, ↓reduceIte]
  refine runR_seq ?_
  refine runR_seq ?_
  refine runR_take tab_ok fol 1 ?_
  try simp -implicitDefEqProofs only [go_sem, Nat.reduceAdd]
  obtain ⟨e_, E5, H6⟩ := bind_inv H4
  refine runR_join (α := { y : List ByteArray × List GPair × List GPair × List GGrant // e_ = y } × Nat × Nat × Nat × Nat) (fun | ⟨⟨⟨t703, t723, t733, t743⟩, _⟩, ⟨g9, g10, g11, g12⟩⟩ => ⟨upd 1 (.v (.int .i64 t1)) (upd 2 (.v (.int .i64 t2)) (upd 7 (.pt 0 0) noFr)), upd 0 (some (.bx [accV 1 g9 (List.map eS t703), .v (.slice none 0 0), accV 2 g10 (List.map eGPair t723), accV 3 g11 (List.map eGPair t733), accV 4 g12 (List.map eGGrant t743), .v (.slice none 0 0), .v (.slice none 0 0), .v (.slice none 0 0)])) (upd 1 (accO 1 g9 false (List.map eS t703)) (upd 2 (accO 2 g10 false (List.map eGPair t723)) (upd 3 (accO 2 g11 false (List.map eGPair t733)) (upd 4 (accO 3 g12 false (List.map eGGrant t743)) noHp)))), 5⟩) ?_ ?_
  · refine runR_block ?_
    refine runR_loop (α := { q : (Nat × (List ByteArray × List GPair × List GPair × List GGrant × Int)) × Nat × Nat × Nat × Nat // law15_SessGives_L1 n t29 q.1.1 q.1.2 = some e_ }) (fun | ⟨⟨⟨c, ⟨t70, t72, t73, t74, t11⟩⟩, ⟨g, g2, g3, g4⟩⟩, _⟩ => ⟨upd 1 (.v (.int .i64 t1)) (upd 2 (.v (.int .i64 t2)) (upd 7 (.pt 0 0) (upd 8 (.d (.sl (List.map eGFact t29.1)) false) (upd 11 (.v (.int .i64 t11)) noFr)))), upd 0 (some (.bx [accV 1 g (List.map eS t70), .v (.slice none 0 0), accV 2 g2 (List.map eGPair t72), accV 3 g3 (List.map eGPair t73), accV 4 g4 (List.map eGGrant t74), .v (.slice none 0 0), .v (.slice none 0 0), .v (.slice none 0 0)])) (upd 1 (accO 1 g false (List.map eS t70)) (upd 2 (accO 2 g2 false (List.map eGPair t72)) (upd 3 (accO 2 g3 false (List.map eGPair t73)) (upd 4 (accO 3 g4 false (List.map eGGrant t74)) noHp)))), 5⟩) (fun q => q.1.1.1) ⟨((n, ([], [], [], [], 0)), (0, 0, 0, 0)), E5⟩ ?_ ?_
    · exact ren_mk [(0, 2)] (by rfl) (rf_upd (by rfl) (rf_upd (by rfl) (rf_upd (by rfl) (rf_upd (by rfl) (rf_upd (by rfl) (rf_no _)))))) (rh_upd (rh_one (by rfl) (renO_bx (renL_cons (by rfl) (renL_cons (by rfl) (renL_cons (by rfl) (renL_cons (by rfl) (renL_cons (by rfl) (renL_cons (by rfl) (renL_cons (by rfl) (renL_cons (by rfl) (renL_nil _)))))))))) (by rfl)) (rh_upd rh_accN (rh_upd rh_accN (rh_upd rh_accN (rh_upd rh_accN (rh_no _))))))
    · rintro ⟨⟨⟨c, ⟨t70, t72, t73, t74, t11⟩⟩, ⟨g, g2, g3, g4⟩⟩, L7⟩
      rcases c with _ | c
      · exact nomatch (show none = some _ from L7)
      · unfold law15_SessGives_L1 at L7
        try dsimp only at L7
        refine runR_take tab_ok fol 1 ?_
        try simp -implicitDefEqProofs only [go_sem, Nat.reduceEqDiff, Nat.reduceAdd, ↓reduceIte]
        rcases ite_inv L7 with ⟨c24, H25⟩ | ⟨c24, H25⟩
        · obtain ⟨x2, b26, H27⟩ := bind_inv H25
          obtain ⟨h28, h29⟩ := idx_inv b26
          try simp only [Int.reduceToNat, Int.toNat_natCast] at h29
          have h30 := map_at eGFact h29
          try simp -implicitDefEqProofs only [go_sem, Nat.reduceEqDiff, Nat.reduceAdd, reduceCtorEq, ↓reduceIte, eGFact, c24, nat_of .i64 h28, h30]
          rcases ite_inv H27 with ⟨c32, H33⟩ | ⟨c32, H33⟩
          · obtain ⟨l, b34, H35⟩ := bind_inv H33
            obtain ⟨h36, h37⟩ := app_inv b34
            have h36 : t70.length + 1 ≤ 4294967296 := h36
            have h38 : List.map eS t70 ++ [[.v (.string x2.a)]] = List.map eS l := app_map eS h37
            have h39 : t70.length + 1 = l.length := app_len h37
            have h40 : l.length ≤ 4294967296 := by omega
            have q41 : 0 < l.length := by omega
            try simp -implicitDefEqProofs only [go_sem, Nat.reduceLT, Nat.reduceEqDiff, Nat.reduceAdd, Nat.reduceLeDiff, reduceCtorEq, ↓reduceIte, eGFact, nat_of .i64 h28, h30, c32, h38, h39, h40, accI_ne]
            refine Rd_endF (by (cases t70 <;> rfl)) ?_
            try simp -implicitDefEqProofs only [go_sem, Nat.reduceEqDiff, Nat.reduceAdd, ↓reduceIte]
            rcases t70 with _ | ⟨q0, q1⟩
            · try simp only [List.map_nil, accI, accN]
              exact ⟨⟨((c, (l, t72, t73, t74, (IntKind.i64.wrap (t11 + 1)))), (0, g2, g3, g4)), H35⟩, ren_mk [(0, 0), (1, 24), (2, 2), (3, 3), (4, 4)] (by rfl) (rf_upd (by rfl) (rf_upd (by rfl) (rf_upd (by rfl) (rf_upd (by rfl) (rf_upd (by rfl) (rf_no _)))))) (rh_upd (rh_one (by rfl) (renO_bx (renL_cons (by first | exact ren_accP (by rfl) q41 | rfl) (renL_cons (by rfl) (renL_cons (ren_acc (by rfl)) (renL_cons (ren_acc (by rfl)) (renL_cons (ren_acc (by rfl)) (renL_cons (by rfl) (renL_cons (by rfl) (renL_cons (by rfl) (renL_nil _)))))))))) (by rfl)) (rh_upd (by first | exact rh_accP (by rfl) q41 (by rfl) | exact rh_one (by rfl) (by rfl) (by rfl)) (rh_upd (rh_acc (by rfl) (by rfl)) (rh_upd (rh_acc (by rfl) (by rfl)) (rh_upd (rh_acc (by rfl) (by rfl)) (rh_no _)))))), Nat.lt_succ_self _⟩
            · try simp only [List.map_cons, accI, accN]
              exact ⟨⟨((c, (l, t72, t73, t74, (IntKind.i64.wrap (t11 + 1)))), ((g + 1), g2, g3, g4)), H35⟩, ren_mk [(0, 0), (1, 1), (2, 2), (3, 3), (4, 4)] (by rfl) (rf_upd (by rfl) (rf_upd (by rfl) (rf_upd (by rfl) (rf_upd (by rfl) (rf_upd (by rfl) (rf_no _)))))) (rh_upd (rh_one (by rfl) (renO_bx (renL_cons (by first | exact ren_accP (by rfl) q41 | rfl) (renL_cons (by rfl) (renL_cons (ren_acc (by rfl)) (renL_cons (ren_acc (by rfl)) (renL_cons (ren_acc (by rfl)) (renL_cons (by rfl) (renL_cons (by rfl) (renL_cons (by rfl) (renL_nil _)))))))))) (by rfl)) (rh_upd (by first | exact rh_accP (by rfl) q41 (by rfl) | exact rh_one (by rfl) (by rfl) (by rfl)) (rh_upd (rh_acc (by rfl) (by rfl)) (rh_upd (rh_acc (by rfl) (by rfl)) (rh_upd (rh_acc (by rfl) (by rfl)) (rh_no _)))))), Nat.lt_succ_self _⟩
          · try simp -implicitDefEqProofs only [go_sem, Nat.reduceEqDiff, Nat.reduceAdd, ↓reduceIte, c32]
            rcases ite_inv H33 with ⟨c42, H43⟩ | ⟨c42, H43⟩
            · obtain ⟨l2, b44, H45⟩ := bind_inv H43
              obtain ⟨h46, h47⟩ := app_inv b44
              have h46 : t72.length + 1 ≤ 4294967296 := h46
              have h48 : List.map eGPair t72 ++ [[.v (.string x2.a), .v (.string x2.b)]] = List.map eGPair l2 := app_map eGPair h47
              have h49 : t72.length + 1 = l2.length := app_len h47
              have h50 : l2.length ≤ 4294967296 := by omega
              have q51 : 0 < l2.length := by omega
              try simp -implicitDefEqProofs only [go_sem, Nat.reduceLT, Nat.reduceEqDiff, Nat.reduceAdd, Nat.reduceMul, Nat.reduceLeDiff, reduceCtorEq, ↓reduceIte, eGFact, nat_of .i64 h28, h30, c42, h48, h49, h50, accI_ne]
              refine Rd_endF (by (cases t72 <;> rfl)) ?_
              try simp -implicitDefEqProofs only [go_sem, Nat.reduceEqDiff, Nat.reduceAdd, ↓reduceIte]
              rcases t72 with _ | ⟨q0, q1⟩
              · try simp only [List.map_nil, accI, accN]
                exact ⟨⟨((c, (t70, l2, t73, t74, (IntKind.i64.wrap (t11 + 1)))), (g, 0, g3, g4)), H45⟩, ren_mk [(0, 0), (1, 1), (2, 32), (3, 3), (4, 4)] (by rfl) (rf_upd (by rfl) (rf_upd (by rfl) (rf_upd (by rfl) (rf_upd (by rfl) (rf_upd (by rfl) (rf_no _)))))) (rh_upd (rh_one (by rfl) (renO_bx (renL_cons (ren_acc (by rfl)) (renL_cons (by rfl) (renL_cons (by first | exact ren_accP (by rfl) q51 | rfl) (renL_cons (ren_acc (by rfl)) (renL_cons (ren_acc (by rfl)) (renL_cons (by rfl) (renL_cons (by rfl) (renL_cons (by rfl) (renL_nil _)))))))))) (by rfl)) (rh_upd (rh_acc (by rfl) (by rfl)) (rh_upd (by first | exact rh_accP (by rfl) q51 (by rfl) | exact rh_one (by rfl) (by rfl) (by rfl)) (rh_upd (rh_acc (by rfl) (by rfl)) (rh_upd (rh_acc (by rfl) (by rfl)) (rh_no _)))))), Nat.lt_succ_self _⟩
              · try simp only [List.map_cons, accI, accN]
                exact ⟨⟨((c, (t70, l2, t73, t74, (IntKind.i64.wrap (t11 + 1)))), (g, (g2 + 1), g3, g4)), H45⟩, ren_mk [(0, 0), (1, 1), (2, 2), (3, 3), (4, 4)] (by rfl) (rf_upd (by rfl) (rf_upd (by rfl) (rf_upd (by rfl) (rf_upd (by rfl) (rf_upd (by rfl) (rf_no _)))))) (rh_upd (rh_one (by rfl) (renO_bx (renL_cons (ren_acc (by rfl)) (renL_cons (by rfl) (renL_cons (by first | exact ren_accP (by rfl) q51 | rfl) (renL_cons (ren_acc (by rfl)) (renL_cons (ren_acc (by rfl)) (renL_cons (by rfl) (renL_cons (by rfl) (renL_cons (by rfl) (renL_nil _)))))))))) (by rfl)) (rh_upd (rh_acc (by rfl) (by rfl)) (rh_upd (by first | exact rh_accP (by rfl) q51 (by rfl) | exact rh_one (by rfl) (by rfl) (by rfl)) (rh_upd (rh_acc (by rfl) (by rfl)) (rh_upd (rh_acc (by rfl) (by rfl)) (rh_no _)))))), Nat.lt_succ_self _⟩
            · try simp -implicitDefEqProofs only [go_sem, Nat.reduceEqDiff, Nat.reduceAdd, ↓reduceIte, c42]
              rcases ite_inv H43 with ⟨c52, H53⟩ | ⟨c52, H53⟩
              · obtain ⟨l3, b54, H55⟩ := bind_inv H53
                obtain ⟨h56, h57⟩ := app_inv b54
                have h56 : t73.length + 1 ≤ 4294967296 := h56
                have h58 : List.map eGPair t73 ++ [[.v (.string x2.a), .v (.string x2.b)]] = List.map eGPair l3 := app_map eGPair h57
                have h59 : t73.length + 1 = l3.length := app_len h57
                have h60 : l3.length ≤ 4294967296 := by omega
                have q61 : 0 < l3.length := by omega
                try simp -implicitDefEqProofs only [go_sem, Nat.reduceLT, Nat.reduceEqDiff, Nat.reduceAdd, Nat.reduceMul, Nat.reduceLeDiff, reduceCtorEq, ↓reduceIte, eGFact, nat_of .i64 h28, h30, c52, h58, h59, h60, accI_ne]
                refine Rd_endF (by (cases t73 <;> rfl)) ?_
                try simp -implicitDefEqProofs only [go_sem, Nat.reduceEqDiff, Nat.reduceAdd, ↓reduceIte]
                rcases t73 with _ | ⟨q0, q1⟩
                · try simp only [List.map_nil, accI, accN]
                  exact ⟨⟨((c, (t70, t72, l3, t74, (IntKind.i64.wrap (t11 + 1)))), (g, g2, 0, g4)), H55⟩, ren_mk [(0, 0), (1, 1), (2, 2), (3, 34), (4, 4)] (by rfl) (rf_upd (by rfl) (rf_upd (by rfl) (rf_upd (by rfl) (rf_upd (by rfl) (rf_upd (by rfl) (rf_no _)))))) (rh_upd (rh_one (by rfl) (renO_bx (renL_cons (ren_acc (by rfl)) (renL_cons (by rfl) (renL_cons (ren_acc (by rfl)) (renL_cons (by first | exact ren_accP (by rfl) q61 | rfl) (renL_cons (ren_acc (by rfl)) (renL_cons (by rfl) (renL_cons (by rfl) (renL_cons (by rfl) (renL_nil _)))))))))) (by rfl)) (rh_upd (rh_acc (by rfl) (by rfl)) (rh_upd (rh_acc (by rfl) (by rfl)) (rh_upd (by first | exact rh_accP (by rfl) q61 (by rfl) | exact rh_one (by rfl) (by rfl) (by rfl)) (rh_upd (rh_acc (by rfl) (by rfl)) (rh_no _)))))), Nat.lt_succ_self _⟩
                · try simp only [List.map_cons, accI, accN]
                  exact ⟨⟨((c, (t70, t72, l3, t74, (IntKind.i64.wrap (t11 + 1)))), (g, g2, (g3 + 1), g4)), H55⟩, ren_mk [(0, 0), (1, 1), (2, 2), (3, 3), (4, 4)] (by rfl) (rf_upd (by rfl) (rf_upd (by rfl) (rf_upd (by rfl) (rf_upd (by rfl) (rf_upd (by rfl) (rf_no _)))))) (rh_upd (rh_one (by rfl) (renO_bx (renL_cons (ren_acc (by rfl)) (renL_cons (by rfl) (renL_cons (ren_acc (by rfl)) (renL_cons (by first | exact ren_accP (by rfl) q61 | rfl) (renL_cons (ren_acc (by rfl)) (renL_cons (by rfl) (renL_cons (by rfl) (renL_cons (by rfl) (renL_nil _)))))))))) (by rfl)) (rh_upd (rh_acc (by rfl) (by rfl)) (rh_upd (rh_acc (by rfl) (by rfl)) (rh_upd (by first | exact rh_accP (by rfl) q61 (by rfl) | exact rh_one (by rfl) (by rfl) (by rfl)) (rh_upd (rh_acc (by rfl) (by rfl)) (rh_no _)))))), Nat.lt_succ_self _⟩
              · try simp -implicitDefEqProofs only [go_sem, Nat.reduceEqDiff, Nat.reduceAdd, ↓reduceIte, c52]
                rcases ite_inv H53 with ⟨c62, H63⟩ | ⟨c62, H63⟩
                · obtain ⟨l4, b64, H65⟩ := bind_inv H63
                  obtain ⟨h66, h67⟩ := app_inv b64
                  have h66 : t74.length + 1 ≤ 4294967296 := h66
                  have h68 : List.map eGGrant t74 ++ [[.v (.string x2.a), .v (.string x2.b), .v (.string x2.c)]] = List.map eGGrant l4 := app_map eGGrant h67
                  have h69 : t74.length + 1 = l4.length := app_len h67
                  have h70 : l4.length ≤ 4294967296 := by omega
                  have q71 : 0 < l4.length := by omega
                  try simp -implicitDefEqProofs only [go_sem, Nat.reduceLT, Nat.reduceEqDiff, Nat.reduceAdd, Nat.reduceMul, Nat.reduceLeDiff, reduceCtorEq, ↓reduceIte, eGFact, nat_of .i64 h28, h30, c62, h68, h69, h70, accI_ne]
                  refine Rd_endF (by (cases t74 <;> rfl)) ?_
                  try simp -implicitDefEqProofs only [go_sem, Nat.reduceEqDiff, Nat.reduceAdd, ↓reduceIte]
                  rcases t74 with _ | ⟨q0, q1⟩
                  · try simp only [List.map_nil, accI, accN]
                    exact ⟨⟨((c, (t70, t72, t73, l4, (IntKind.i64.wrap (t11 + 1)))), (g, g2, g3, 0)), H65⟩, ren_mk [(0, 0), (1, 1), (2, 2), (3, 3), (4, 41)] (by rfl) (rf_upd (by rfl) (rf_upd (by rfl) (rf_upd (by rfl) (rf_upd (by rfl) (rf_upd (by rfl) (rf_no _)))))) (rh_upd (rh_one (by rfl) (renO_bx (renL_cons (ren_acc (by rfl)) (renL_cons (by rfl) (renL_cons (ren_acc (by rfl)) (renL_cons (ren_acc (by rfl)) (renL_cons (by first | exact ren_accP (by rfl) q71 | rfl) (renL_cons (by rfl) (renL_cons (by rfl) (renL_cons (by rfl) (renL_nil _)))))))))) (by rfl)) (rh_upd (rh_acc (by rfl) (by rfl)) (rh_upd (rh_acc (by rfl) (by rfl)) (rh_upd (rh_acc (by rfl) (by rfl)) (rh_upd (by first | exact rh_accP (by rfl) q71 (by rfl) | exact rh_one (by rfl) (by rfl) (by rfl)) (rh_no _)))))), Nat.lt_succ_self _⟩
                  · try simp only [List.map_cons, accI, accN]
                    exact ⟨⟨((c, (t70, t72, t73, l4, (IntKind.i64.wrap (t11 + 1)))), (g, g2, g3, (g4 + 1))), H65⟩, ren_mk [(0, 0), (1, 1), (2, 2), (3, 3), (4, 4)] (by rfl) (rf_upd (by rfl) (rf_upd (by rfl) (rf_upd (by rfl) (rf_upd (by rfl) (rf_upd (by rfl) (rf_no _)))))) (rh_upd (rh_one (by rfl) (renO_bx (renL_cons (ren_acc (by rfl)) (renL_cons (by rfl) (renL_cons (ren_acc (by rfl)) (renL_cons (ren_acc (by rfl)) (renL_cons (by first | exact ren_accP (by rfl) q71 | rfl) (renL_cons (by rfl) (renL_cons (by rfl) (renL_cons (by rfl) (renL_nil _)))))))))) (by rfl)) (rh_upd (rh_acc (by rfl) (by rfl)) (rh_upd (rh_acc (by rfl) (by rfl)) (rh_upd (rh_acc (by rfl) (by rfl)) (rh_upd (by first | exact rh_accP (by rfl) q71 (by rfl) | exact rh_one (by rfl) (by rfl) (by rfl)) (rh_no _)))))), Nat.lt_succ_self _⟩
                · try simp -implicitDefEqProofs only [go_sem, Nat.reduceEqDiff, Nat.reduceAdd, ↓reduceIte, c62]
                  exact ⟨⟨((c, (t70, t72, t73, t74, (IntKind.i64.wrap (t11 + 1)))), (g, g2, g3, g4)), H63⟩, ren_mk [(0, 0), (1, 1), (2, 2), (3, 3), (4, 4)] (by rfl) (rf_upd (by rfl) (rf_upd (by rfl) (rf_upd (by rfl) (rf_upd (by rfl) (rf_upd (by rfl) (rf_no _)))))) (rh_upd (rh_one (by rfl) (renO_bx (renL_cons (ren_acc (by rfl)) (renL_cons (by rfl) (renL_cons (ren_acc (by rfl)) (renL_cons (ren_acc (by rfl)) (renL_cons (ren_acc (by rfl)) (renL_cons (by rfl) (renL_cons (by rfl) (renL_cons (by rfl) (renL_nil _)))))))))) (by rfl)) (rh_upd (rh_acc (by rfl) (by rfl)) (rh_upd (rh_acc (by rfl) (by rfl)) (rh_upd (rh_acc (by rfl) (by rfl)) (rh_upd (rh_acc (by rfl) (by rfl)) (rh_no _)))))), Nat.lt_succ_self _⟩
        · try simp -implicitDefEqProofs only [go_sem, ↓reduceIte, c24]
          obtain rfl := Option.some.inj H25
          exact ⟨⟨⟨(t70, t72, t73, t74), rfl⟩, (g, g2, g3, g4)⟩, ren_mk [(0, 0), (1, 1), (2, 2), (3, 3), (4, 4)] (by rfl) (rf_upd (by rfl) (rf_upd (by rfl) (rf_upd (by rfl) (rf_no _)))) (rh_upd (rh_one (by rfl) (renO_bx (renL_cons (ren_acc (by rfl)) (renL_cons (by rfl) (renL_cons (ren_acc (by rfl)) (renL_cons (ren_acc (by rfl)) (renL_cons (ren_acc (by rfl)) (renL_cons (by rfl) (renL_cons (by rfl) (renL_cons (by rfl) (renL_nil _)))))))))) (by rfl)) (rh_upd (rh_acc (by rfl) (by rfl)) (rh_upd (rh_acc (by rfl) (by rfl)) (rh_upd (rh_acc (by rfl) (by rfl)) (rh_upd (rh_acc (by rfl) (by rfl)) (rh_no _))))))⟩
  · rintro ⟨⟨⟨t703, t723, t733, t743⟩, he253⟩, ⟨g9, g10, g11, g12⟩⟩
    replace he253 := he253.symm
    subst he253
    try dsimp only at H6
    refine runR_seq ?_
    refine runR_take tab_ok fol 1 ?_
    obtain ⟨t116, b72, H73⟩ := bind_inv H6
    try simp -implicitDefEqProofs only [go_sem, Nat.reduceEqDiff, Nat.reduceAdd, ↓reduceIte]
    refine onCall_pure (by first | rfl | (simp -implicitDefEqProofs only [go_sem, Bool.false_and, Int.reduceToNat, Int.reduceLT, Int.reduceLE, Int.reduceBEq, Int.reduceBNe, Nat.reduceLT, Nat.reduceBEq, Int.reduceEq, Nat.reduceEqDiff, Nat.reduceAdd, Nat.reduceSub, Nat.reduceMul, Nat.reduceLeDiff, reduceCtorEq, ↓reduceIte, eGWord, eGLine, eGFact, eGAsk, eGPair, eGRoles, eGGrant]; done) | (simp -implicitDefEqProofs only [go_sem, Bool.false_and, Int.reduceToNat, Int.reduceLT, Int.reduceLE, Int.reduceBEq, Int.reduceBNe, Nat.reduceLT, Nat.reduceBEq, Int.reduceEq, Nat.reduceEqDiff, Nat.reduceAdd, Nat.reduceSub, Nat.reduceMul, Nat.reduceLeDiff, reduceCtorEq, ↓reduceIte, eGWord, eGLine, eGFact, eGAsk, eGPair, eGRoles, eGGrant]; rfl)) (law15_Ask_ok b72) (by first | exact .inr rfl | exact .inl rfl) ?_
    try simp -implicitDefEqProofs only [go_sem, Bool.false_and, Nat.reduceEqDiff, Nat.reduceAdd, ↓reduceIte, eGAsk]
    refine runR_seq ?_
    refine runR_take tab_ok fol 1 ?_
    obtain ⟨x3, b74, H75⟩ := bind_inv H73
    obtain ⟨h76, h77⟩ := idx_inv b74
    try simp only [Int.reduceToNat, Int.toNat_natCast] at h77
    have h78 := map_at eS h77
    simp only [List.map_cons, List.map_nil, eS] at h78
    have h79 := at_lt h77
    simp only [List.length_cons, List.length_nil, Nat.reduceAdd] at h79
    obtain ⟨x4, b80, H81⟩ := bind_inv H75
    obtain ⟨h82, h83⟩ := idx_inv b80
    try simp only [Int.reduceToNat, Int.toNat_natCast] at h83
    have h84 := map_at eS h83
    simp only [List.map_cons, List.map_nil, eS] at h84
    have h85 := at_lt h83
    simp only [List.length_cons, List.length_nil, Nat.reduceAdd] at h85
    try simp -implicitDefEqProofs only [go_sem, Int.reduceToNat, Int.reduceLT, Nat.reduceLT, Nat.reduceEqDiff, Nat.reduceAdd, Nat.reduceLeDiff, ↓reduceIte, nat_of .i64 h76, h78, h79, nat_of .i64 h82, h84, h85]
    refine Rd_endF (by rfl) ?_
    try simp -implicitDefEqProofs only [go_sem]
    refine runR_seq ?_
    refine runR_take tab_ok fol 1 ?_
    obtain ⟨t135, b86, H87⟩ := bind_inv H81
    try simp -implicitDefEqProofs only [go_sem, Nat.reduceEqDiff, Nat.reduceAdd, reduceCtorEq, ↓reduceIte]
    refine onCall_pure (by first | rfl | (simp -implicitDefEqProofs only [go_sem, Nat.reduceEqDiff, reduceCtorEq, ↓reduceIte, eGRoles]; done) | (simp -implicitDefEqProofs only [go_sem, Nat.reduceEqDiff, reduceCtorEq, ↓reduceIte, eGRoles]; rfl)) (sess_May_ok b86) (by first | exact .inr rfl | exact .inl rfl) ?_
    try simp -implicitDefEqProofs only [go_sem, Bool.false_and, Nat.reduceAdd, ↓reduceIte]
    refine runR_seq ?_
    refine runR_take tab_ok fol 1 ?_
    try simp -implicitDefEqProofs only [go_sem, Nat.reduceEqDiff, Nat.reduceAdd, reduceCtorEq, ↓reduceIte]
    refine Rd_endF (by rfl) ?_
    try simp -implicitDefEqProofs only [go_sem]
    refine runR_seq ?_
    refine runR_take tab_ok fol 1 ?_
    obtain ⟨l5, b88, H89⟩ := bind_inv H87
    obtain ⟨h90, h91⟩ := app_inv b88
    have h91 : t733 = l5 := h91
    subst h91
    have h90 : t733.length ≤ 4294967296 := by have := h90; simpa using this
    obtain ⟨l6, b94, H95⟩ := bind_inv H89
    obtain ⟨h96, h97⟩ := app_inv b94
    have h96 : t733.length + 1 ≤ 4294967296 := h96
    have h98 : List.map eGPair t733 ++ [[.v (.string t116.who), .v (.string x3)]] = List.map eGPair l6 := app_map eGPair h97
    have h99 : t733.length + 1 = l6.length := app_len h97
    have h100 : l6.length ≤ 4294967296 := by omega
    have q101 : 0 < l6.length := by omega
    try simp -implicitDefEqProofs only [go_sem, Nat.reduceLT, Nat.reduceEqDiff, Nat.reduceAdd, Nat.reduceMul, Nat.reduceLeDiff, reduceCtorEq, ↓reduceIte, chk_map (n := 2) (f := eGPair) (fun _ => rfl) t733, h90, List.take_succ_cons, List.take_zero, h98, h99, h100]
    refine Rd_endF (by (cases t733 <;> rfl)) ?_
    try simp -implicitDefEqProofs only [go_sem]
    refine runR_seq ?_
    refine runR_take tab_ok fol 1 ?_
    obtain ⟨l7, b102, H103⟩ := bind_inv H95
    obtain ⟨h104, h105⟩ := app_inv b102
    have h105 : t723 = l7 := h105
    subst h105
    have h104 : t723.length ≤ 4294967296 := by have := h104; simpa using this
    obtain ⟨l8, b108, H109⟩ := bind_inv H103
    obtain ⟨h110, h111⟩ := app_inv b108
    have h110 : t723.length + 1 ≤ 4294967296 := h110
    have h112 : List.map eGPair t723 ++ [[.v (.string x3), .v (.string x4)]] = List.map eGPair l8 := app_map eGPair h111
    have h113 : t723.length + 1 = l8.length := app_len h111
    have h114 : l8.length ≤ 4294967296 := by omega
    have q115 : 0 < l8.length := by omega
    try simp -implicitDefEqProofs only [go_sem, Nat.reduceLT, Nat.reduceEqDiff, Nat.reduceAdd, Nat.reduceMul, Nat.reduceLeDiff, reduceCtorEq, ↓reduceIte, List.take_succ_cons, List.take_zero, chk_map (n := 2) (f := eGPair) (fun _ => rfl) t723, h104, List.take_succ_cons, List.take_zero, h112, h113, h114]
    refine runR_seq ?_
    refine runR_take tab_ok fol 1 ?_
    obtain ⟨l9, b116, H117⟩ := bind_inv H109
    obtain ⟨h118, h119⟩ := app_inv b116
    have h119 : t743 = l9 := h119
    subst h119
    have h118 : t743.length ≤ 4294967296 := by have := h118; simpa using this
    obtain ⟨l10, b122, H123⟩ := bind_inv H117
    obtain ⟨h124, h125⟩ := app_inv b122
    have h124 : t743.length + 1 ≤ 4294967296 := h124
    have h126 : List.map eGGrant t743 ++ [[.v (.string x3), .v (.string t116.act), .v (.string t116.obj)]] = List.map eGGrant l10 := app_map eGGrant h125
    have h127 : t743.length + 1 = l10.length := app_len h125
    have h128 : l10.length ≤ 4294967296 := by omega
    have q129 : 0 < l10.length := by omega
    try simp -implicitDefEqProofs only [go_sem, Nat.reduceLT, Nat.reduceEqDiff, Nat.reduceAdd, Nat.reduceMul, Nat.reduceLeDiff, reduceCtorEq, ↓reduceIte, List.take_succ_cons, List.take_zero, List.take_succ_cons, List.take_zero, chk_map (n := 3) (f := eGGrant) (fun _ => rfl) t743, h118, List.take_succ_cons, List.take_zero, h126, h127, h128]
    refine Rd_endF (by (cases t743 <;> rfl)) ?_
    try simp -implicitDefEqProofs only [go_sem]
    refine runR_seq ?_
    refine runR_take tab_ok fol 1 ?_
    try simp -implicitDefEqProofs only [go_sem, Nat.reduceEqDiff, Nat.reduceAdd, Nat.reduceLeDiff, reduceCtorEq, ↓reduceIte, List.take_succ_cons, List.take_zero, List.take_succ_cons, List.take_zero, List.take_succ_cons, List.take_zero]
    refine runR_seq ?_
    refine runR_take tab_ok fol 1 ?_
    try simp -implicitDefEqProofs only [go_sem, Nat.reduceAdd, List.take_succ_cons, List.take_zero, List.take_succ_cons, List.take_zero, List.take_succ_cons, List.take_zero]
    refine runR_seq ?_
    refine runR_seq ?_
    refine runR_take tab_ok fol 1 ?_
    try simp -implicitDefEqProofs only [go_sem, Nat.reduceAdd, List.take_succ_cons, List.take_zero, List.take_succ_cons, List.take_zero, List.take_succ_cons, List.take_zero]
    obtain ⟨e_2, E130, H131⟩ := bind_inv H123
    refine runR_join (α := { y : Bool // e_2 = y } × Nat × Nat × Nat × Nat) (fun | ⟨⟨t203, _⟩, ⟨g25, g26, g27, g28⟩⟩ => ⟨upd 7 (.pt 0 0) (upd 12 (.pt 5 0) (upd 13 (.v (.string x3)) (upd 15 (.v (.bool t135)) (upd 16 (.pt 6 0) (upd 17 (.pt 8 0) (upd 18 (.pt 10 0) (upd 19 (.pt 12 0) (upd 20 (.v (.bool t203)) noFr)))))))), upd 0 (some (.bx [accV 1 g25 (List.map eS t703), .v (.slice none 0 0), accV 2 g26 (List.map eGPair t723), accV 3 g27 (List.map eGPair t733), accV 4 g28 (List.map eGGrant t743), .v (.slice none 0 0), .v (.slice none 0 0), .v (.slice none 0 0)])) (upd 1 (accO 1 g25 false (List.map eS t703)) (upd 2 (accO 2 g26 false (List.map eGPair t723)) (upd 3 (accO 2 g27 false (List.map eGPair t733)) (upd 4 (accO 3 g28 false (List.map eGGrant t743)) (upd 5 (some (.bx [.v (.bool t116.session), .v (.string t116.who), .v (.string t116.act), .v (.string t116.obj)])) (upd 6 (some (.bx [accV 1 g25 (List.map eS t703), .v (.slice none 0 0), accV 2 g26 (List.map eGPair t723), .so 7 2 0 (l6.length), accV 4 g28 (List.map eGGrant t743), .v (.slice none 0 0), .v (.slice none 0 0), .v (.slice none 0 0)])) (upd 7 (some (.rw (List.map eGPair l6) 2 2 false false)) (upd 8 (some (.bx [accV 1 g25 (List.map eS t703), .v (.slice none 0 0), .so 9 2 0 (l8.length), accV 3 g27 (List.map eGPair t733), accV 4 g28 (List.map eGGrant t743), .v (.slice none 0 0), .v (.slice none 0 0), .v (.slice none 0 0)])) (upd 9 (some (.rw (List.map eGPair l8) 2 2 false false)) (upd 10 (some (.bx [accV 1 g25 (List.map eS t703), .v (.slice none 0 0), accV 2 g26 (List.map eGPair t723), accV 3 g27 (List.map eGPair t733), .so 11 2 0 (l10.length), .v (.slice none 0 0), .v (.slice none 0 0), .v (.slice none 0 0)])) (upd 11 (some (.rw (List.map eGGrant l10) 3 2 false false)) (upd 12 (some (.bx [accV 1 g25 (List.map eS t703), .v (.slice none 0 0), accV 2 g26 (List.map eGPair t723), .v (.slice none 0 0), accV 4 g28 (List.map eGGrant t743), .v (.slice none 0 0), .v (.slice none 0 0), .v (.slice none 0 0)])) noHp)))))))))))), 13⟩) ?_ ?_
    · refine runR_block ?_
      refine runR_loop (α := { q : (Nat × (Bool × Int)) × Nat × Nat × Nat × Nat // law15_SessGives_L2 n t703 t116 q.1.1 q.1.2 = some e_2 }) (fun | ⟨⟨⟨c, ⟨t20, t21⟩⟩, ⟨g17, g18, g19, g20⟩⟩, _⟩ => ⟨upd 7 (.pt 0 0) (upd 12 (.pt 5 0) (upd 13 (.v (.string x3)) (upd 15 (.v (.bool t135)) (upd 16 (.pt 6 0) (upd 17 (.pt 8 0) (upd 18 (.pt 10 0) (upd 19 (.pt 12 0) (upd 20 (.v (.bool t20)) (upd 21 (.v (.int .i64 t21)) noFr))))))))), upd 0 (some (.bx [accV 1 g17 (List.map eS t703), .v (.slice none 0 0), accV 2 g18 (List.map eGPair t723), accV 3 g19 (List.map eGPair t733), accV 4 g20 (List.map eGGrant t743), .v (.slice none 0 0), .v (.slice none 0 0), .v (.slice none 0 0)])) (upd 1 (accO 1 g17 false (List.map eS t703)) (upd 2 (accO 2 g18 false (List.map eGPair t723)) (upd 3 (accO 2 g19 false (List.map eGPair t733)) (upd 4 (accO 3 g20 false (List.map eGGrant t743)) (upd 5 (some (.bx [.v (.bool t116.session), .v (.string t116.who), .v (.string t116.act), .v (.string t116.obj)])) (upd 6 (some (.bx [accV 1 g17 (List.map eS t703), .v (.slice none 0 0), accV 2 g18 (List.map eGPair t723), .so 7 2 0 (l6.length), accV 4 g20 (List.map eGGrant t743), .v (.slice none 0 0), .v (.slice none 0 0), .v (.slice none 0 0)])) (upd 7 (some (.rw (List.map eGPair l6) 2 2 false false)) (upd 8 (some (.bx [accV 1 g17 (List.map eS t703), .v (.slice none 0 0), .so 9 2 0 (l8.length), accV 3 g19 (List.map eGPair t733), accV 4 g20 (List.map eGGrant t743), .v (.slice none 0 0), .v (.slice none 0 0), .v (.slice none 0 0)])) (upd 9 (some (.rw (List.map eGPair l8) 2 2 false false)) (upd 10 (some (.bx [accV 1 g17 (List.map eS t703), .v (.slice none 0 0), accV 2 g18 (List.map eGPair t723), accV 3 g19 (List.map eGPair t733), .so 11 2 0 (l10.length), .v (.slice none 0 0), .v (.slice none 0 0), .v (.slice none 0 0)])) (upd 11 (some (.rw (List.map eGGrant l10) 3 2 false false)) (upd 12 (some (.bx [accV 1 g17 (List.map eS t703), .v (.slice none 0 0), accV 2 g18 (List.map eGPair t723), .v (.slice none 0 0), accV 4 g20 (List.map eGGrant t743), .v (.slice none 0 0), .v (.slice none 0 0), .v (.slice none 0 0)])) noHp)))))))))))), 13⟩) (fun q => q.1.1.1) ⟨((n, (false, 0)), (g9, g10, g11, g12)), E130⟩ ?_ ?_
      · exact ren_mk [(0, 0), (1, 1), (2, 2), (3, 3), (4, 4), (5, 7), (6, 35), (7, 43), (8, 36), (9, 55), (10, 37), (11, 66), (12, 38)] (by rfl) (rf_upd (by rfl) (rf_upd (by rfl) (rf_upd (by rfl) (rf_upd (by rfl) (rf_upd (by rfl) (rf_upd (by rfl) (rf_upd (by rfl) (rf_upd (by rfl) (rf_upd (by rfl) (rf_upd (by rfl) (rf_no _))))))))))) (rh_upd (rh_one (by rfl) (renO_bx (renL_cons (ren_acc (by rfl)) (renL_cons (by rfl) (renL_cons (ren_acc (by rfl)) (renL_cons (ren_acc (by rfl)) (renL_cons (ren_acc (by rfl)) (renL_cons (by rfl) (renL_cons (by rfl) (renL_cons (by rfl) (renL_nil _)))))))))) (by rfl)) (rh_upd (rh_acc (by rfl) (by rfl)) (rh_upd (rh_acc (by rfl) (by rfl)) (rh_upd (rh_acc (by rfl) (by rfl)) (rh_upd (rh_acc (by rfl) (by rfl)) (rh_upd (rh_one (by rfl) (by rfl) (by rfl)) (rh_upd (rh_one (by rfl) (renO_bx (renL_cons (ren_acc (by rfl)) (renL_cons (by rfl) (renL_cons (ren_acc (by rfl)) (renL_cons (by rfl) (renL_cons (ren_acc (by rfl)) (renL_cons (by rfl) (renL_cons (by rfl) (renL_cons (by rfl) (renL_nil _)))))))))) (by rfl)) (rh_upd (rh_one (by rfl) (by rfl) (by rfl)) (rh_upd (rh_one (by rfl) (renO_bx (renL_cons (ren_acc (by rfl)) (renL_cons (by rfl) (renL_cons (by rfl) (renL_cons (ren_acc (by rfl)) (renL_cons (ren_acc (by rfl)) (renL_cons (by rfl) (renL_cons (by rfl) (renL_cons (by rfl) (renL_nil _)))))))))) (by rfl)) (rh_upd (rh_one (by rfl) (by rfl) (by rfl)) (rh_upd (rh_one (by rfl) (renO_bx (renL_cons (ren_acc (by rfl)) (renL_cons (by rfl) (renL_cons (ren_acc (by rfl)) (renL_cons (ren_acc (by rfl)) (renL_cons (by rfl) (renL_cons (by rfl) (renL_cons (by rfl) (renL_cons (by rfl) (renL_nil _)))))))))) (by rfl)) (rh_upd (rh_one (by rfl) (by rfl) (by rfl)) (rh_upd (rh_one (by rfl) (renO_bx (renL_cons (ren_acc (by rfl)) (renL_cons (by rfl) (renL_cons (ren_acc (by rfl)) (renL_cons (by rfl) (renL_cons (ren_acc (by rfl)) (renL_cons (by rfl) (renL_cons (by rfl) (renL_cons (by rfl) (renL_nil _)))))))))) (by rfl)) (rh_no _))))))))))))))
      · rintro ⟨⟨⟨c, ⟨t20, t21⟩⟩, ⟨g17, g18, g19, g20⟩⟩, L132⟩
        rcases c with _ | c
        · exact nomatch (show none = some _ from L132)
        · unfold law15_SessGives_L2 at L132
          try dsimp only at L132
          refine runR_take tab_ok fol 1 ?_
          try simp -implicitDefEqProofs only [go_sem, Nat.reduceEqDiff, Nat.reduceAdd, reduceCtorEq, ↓reduceIte]
          rcases ite_inv L132 with ⟨c142, H143⟩ | ⟨c142, H143⟩
          · try simp -implicitDefEqProofs only [go_sem, Nat.reduceEqDiff, Nat.reduceAdd, ↓reduceIte, c142]
            rcases ite_inv H143 with ⟨c144, H145⟩ | ⟨c144, H145⟩
            · try simp -implicitDefEqProofs only [go_sem, Nat.reduceEqDiff, Nat.reduceAdd, ↓reduceIte, c144]
              refine Rd_endF (by rfl) ?_
              try simp -implicitDefEqProofs only [go_sem, Nat.reduceEqDiff, Nat.reduceAdd, ↓reduceIte]
              exact ⟨⟨((c, (true, (IntKind.i64.wrap (t21 + 1)))), (g17, g18, g19, g20)), H145⟩, ren_mk [(0, 0), (1, 1), (2, 2), (3, 3), (4, 4), (5, 5), (6, 6), (7, 7), (8, 8), (9, 9), (10, 10), (11, 11), (12, 12)] (by rfl) (rf_upd (by rfl) (rf_upd (by rfl) (rf_upd (by rfl) (rf_upd (by rfl) (rf_upd (by rfl) (rf_upd (by rfl) (rf_upd (by rfl) (rf_upd (by rfl) (rf_upd (by rfl) (rf_upd (by rfl) (rf_no _))))))))))) (rh_upd (rh_one (by rfl) (renO_bx (renL_cons (ren_acc (by rfl)) (renL_cons (by rfl) (renL_cons (ren_acc (by rfl)) (renL_cons (ren_acc (by rfl)) (renL_cons (ren_acc (by rfl)) (renL_cons (by rfl) (renL_cons (by rfl) (renL_cons (by rfl) (renL_nil _)))))))))) (by rfl)) (rh_upd (rh_acc (by rfl) (by rfl)) (rh_upd (rh_acc (by rfl) (by rfl)) (rh_upd (rh_acc (by rfl) (by rfl)) (rh_upd (rh_acc (by rfl) (by rfl)) (rh_upd (rh_one (by rfl) (by rfl) (by rfl)) (rh_upd (rh_one (by rfl) (renO_bx (renL_cons (ren_acc (by rfl)) (renL_cons (by rfl) (renL_cons (ren_acc (by rfl)) (renL_cons (by rfl) (renL_cons (ren_acc (by rfl)) (renL_cons (by rfl) (renL_cons (by rfl) (renL_cons (by rfl) (renL_nil _)))))))))) (by rfl)) (rh_upd (rh_one (by rfl) (by rfl) (by rfl)) (rh_upd (rh_one (by rfl) (renO_bx (renL_cons (ren_acc (by rfl)) (renL_cons (by rfl) (renL_cons (by rfl) (renL_cons (ren_acc (by rfl)) (renL_cons (ren_acc (by rfl)) (renL_cons (by rfl) (renL_cons (by rfl) (renL_cons (by rfl) (renL_nil _)))))))))) (by rfl)) (rh_upd (rh_one (by rfl) (by rfl) (by rfl)) (rh_upd (rh_one (by rfl) (renO_bx (renL_cons (ren_acc (by rfl)) (renL_cons (by rfl) (renL_cons (ren_acc (by rfl)) (renL_cons (ren_acc (by rfl)) (renL_cons (by rfl) (renL_cons (by rfl) (renL_cons (by rfl) (renL_cons (by rfl) (renL_nil _)))))))))) (by rfl)) (rh_upd (rh_one (by rfl) (by rfl) (by rfl)) (rh_upd (rh_one (by rfl) (renO_bx (renL_cons (ren_acc (by rfl)) (renL_cons (by rfl) (renL_cons (ren_acc (by rfl)) (renL_cons (by rfl) (renL_cons (ren_acc (by rfl)) (renL_cons (by rfl) (renL_cons (by rfl) (renL_cons (by rfl) (renL_nil _)))))))))) (by rfl)) (rh_no _)))))))))))))), Nat.lt_succ_self _⟩
            · obtain ⟨x6, b146, H147⟩ := bind_inv H145
              obtain ⟨h148, h149⟩ := idx_inv b146
              try simp only [Int.reduceToNat, Int.toNat_natCast] at h149
              have h150 := map_at eS h149
              have h151 := at_lt h149
              have q152 : 0 < t703.length := by omega
              try simp -implicitDefEqProofs only [go_sem, Nat.reduceEqDiff, Nat.reduceAdd, reduceCtorEq, ↓reduceIte, c144, nat_of .i64 h148, h150, h151, accV_pos (f := eS) q152, accO_pos (f := eS) q152]
              refine Rd_endF (by rfl) ?_
              try simp -implicitDefEqProofs only [go_sem, Nat.reduceEqDiff, Nat.reduceAdd, ↓reduceIte]
              exact ⟨⟨((c, ((x6.toList == t116.who.toList), (IntKind.i64.wrap (t21 + 1)))), (g17, g18, g19, g20)), H147⟩, ren_mk [(0, 0), (1, 1), (2, 2), (3, 3), (4, 4), (5, 5), (6, 6), (7, 7), (8, 8), (9, 9), (10, 10), (11, 11), (12, 12)] (by rfl) (rf_upd (by rfl) (rf_upd (by rfl) (rf_upd (by rfl) (rf_upd (by rfl) (rf_upd (by rfl) (rf_upd (by rfl) (rf_upd (by rfl) (rf_upd (by rfl) (rf_upd (by rfl) (rf_upd (by rfl) (rf_no _))))))))))) (rh_upd (rh_one (by rfl) (renO_bx (renL_cons (by first | exact ren_accP (by rfl) q152 | rfl) (renL_cons (by rfl) (renL_cons (ren_acc (by rfl)) (renL_cons (ren_acc (by rfl)) (renL_cons (ren_acc (by rfl)) (renL_cons (by rfl) (renL_cons (by rfl) (renL_cons (by rfl) (renL_nil _)))))))))) (by rfl)) (rh_upd (by first | exact rh_accP (by rfl) q152 (by rfl) | exact rh_one (by rfl) (by rfl) (by rfl)) (rh_upd (rh_acc (by rfl) (by rfl)) (rh_upd (rh_acc (by rfl) (by rfl)) (rh_upd (rh_acc (by rfl) (by rfl)) (rh_upd (rh_one (by rfl) (by rfl) (by rfl)) (rh_upd (rh_one (by rfl) (renO_bx (renL_cons (by first | exact ren_accP (by rfl) q152 | rfl) (renL_cons (by rfl) (renL_cons (ren_acc (by rfl)) (renL_cons (by rfl) (renL_cons (ren_acc (by rfl)) (renL_cons (by rfl) (renL_cons (by rfl) (renL_cons (by rfl) (renL_nil _)))))))))) (by rfl)) (rh_upd (rh_one (by rfl) (by rfl) (by rfl)) (rh_upd (rh_one (by rfl) (renO_bx (renL_cons (by first | exact ren_accP (by rfl) q152 | rfl) (renL_cons (by rfl) (renL_cons (by rfl) (renL_cons (ren_acc (by rfl)) (renL_cons (ren_acc (by rfl)) (renL_cons (by rfl) (renL_cons (by rfl) (renL_cons (by rfl) (renL_nil _)))))))))) (by rfl)) (rh_upd (rh_one (by rfl) (by rfl) (by rfl)) (rh_upd (rh_one (by rfl) (renO_bx (renL_cons (by first | exact ren_accP (by rfl) q152 | rfl) (renL_cons (by rfl) (renL_cons (ren_acc (by rfl)) (renL_cons (ren_acc (by rfl)) (renL_cons (by rfl) (renL_cons (by rfl) (renL_cons (by rfl) (renL_cons (by rfl) (renL_nil _)))))))))) (by rfl)) (rh_upd (rh_one (by rfl) (by rfl) (by rfl)) (rh_upd (rh_one (by rfl) (renO_bx (renL_cons (by first | exact ren_accP (by rfl) q152 | rfl) (renL_cons (by rfl) (renL_cons (ren_acc (by rfl)) (renL_cons (by rfl) (renL_cons (ren_acc (by rfl)) (renL_cons (by rfl) (renL_cons (by rfl) (renL_cons (by rfl) (renL_nil _)))))))))) (by rfl)) (rh_no _)))))))))))))), Nat.lt_succ_self _⟩
          · try simp -implicitDefEqProofs only [go_sem, ↓reduceIte, c142]
            obtain rfl := Option.some.inj H143
            exact ⟨⟨⟨t20, rfl⟩, (g17, g18, g19, g20)⟩, ren_mk [(0, 0), (1, 1), (2, 2), (3, 3), (4, 4), (5, 5), (6, 6), (7, 7), (8, 8), (9, 9), (10, 10), (11, 11), (12, 12)] (by rfl) (rf_upd (by rfl) (rf_upd (by rfl) (rf_upd (by rfl) (rf_upd (by rfl) (rf_upd (by rfl) (rf_upd (by rfl) (rf_upd (by rfl) (rf_upd (by rfl) (rf_upd (by rfl) (rf_no _)))))))))) (rh_upd (rh_one (by rfl) (renO_bx (renL_cons (ren_acc (by rfl)) (renL_cons (by rfl) (renL_cons (ren_acc (by rfl)) (renL_cons (ren_acc (by rfl)) (renL_cons (ren_acc (by rfl)) (renL_cons (by rfl) (renL_cons (by rfl) (renL_cons (by rfl) (renL_nil _)))))))))) (by rfl)) (rh_upd (rh_acc (by rfl) (by rfl)) (rh_upd (rh_acc (by rfl) (by rfl)) (rh_upd (rh_acc (by rfl) (by rfl)) (rh_upd (rh_acc (by rfl) (by rfl)) (rh_upd (rh_one (by rfl) (by rfl) (by rfl)) (rh_upd (rh_one (by rfl) (renO_bx (renL_cons (ren_acc (by rfl)) (renL_cons (by rfl) (renL_cons (ren_acc (by rfl)) (renL_cons (by rfl) (renL_cons (ren_acc (by rfl)) (renL_cons (by rfl) (renL_cons (by rfl) (renL_cons (by rfl) (renL_nil _)))))))))) (by rfl)) (rh_upd (rh_one (by rfl) (by rfl) (by rfl)) (rh_upd (rh_one (by rfl) (renO_bx (renL_cons (ren_acc (by rfl)) (renL_cons (by rfl) (renL_cons (by rfl) (renL_cons (ren_acc (by rfl)) (renL_cons (ren_acc (by rfl)) (renL_cons (by rfl) (renL_cons (by rfl) (renL_cons (by rfl) (renL_nil _)))))))))) (by rfl)) (rh_upd (rh_one (by rfl) (by rfl) (by rfl)) (rh_upd (rh_one (by rfl) (renO_bx (renL_cons (ren_acc (by rfl)) (renL_cons (by rfl) (renL_cons (ren_acc (by rfl)) (renL_cons (ren_acc (by rfl)) (renL_cons (by rfl) (renL_cons (by rfl) (renL_cons (by rfl) (renL_cons (by rfl) (renL_nil _)))))))))) (by rfl)) (rh_upd (rh_one (by rfl) (by rfl) (by rfl)) (rh_upd (rh_one (by rfl) (renO_bx (renL_cons (ren_acc (by rfl)) (renL_cons (by rfl) (renL_cons (ren_acc (by rfl)) (renL_cons (by rfl) (renL_cons (ren_acc (by rfl)) (renL_cons (by rfl) (renL_cons (by rfl) (renL_cons (by rfl) (renL_nil _)))))))))) (by rfl)) (rh_no _))))))))))))))⟩
    · rintro ⟨⟨t203, he252⟩, ⟨g25, g26, g27, g28⟩⟩
      replace he252 := he252.symm
      subst he252
      try dsimp only at H131
      refine runR_seq ?_
      refine runR_take tab_ok fol 1 ?_
      try simp -implicitDefEqProofs only [go_sem, Nat.reduceAdd]
      refine runR_seq ?_
      refine runR_take tab_ok fol 1 ?_
      obtain ⟨t196, b153, H154⟩ := bind_inv H131
      try simp -implicitDefEqProofs only [go_sem, Nat.reduceEqDiff, Nat.reduceAdd, reduceCtorEq, ↓reduceIte]
      refine onCall_pure (by first | rfl | (simp -implicitDefEqProofs only [go_sem, Nat.reduceEqDiff, reduceCtorEq, ↓reduceIte, eGRoles]; done) | (simp -implicitDefEqProofs only [go_sem, Nat.reduceEqDiff, reduceCtorEq, ↓reduceIte, eGRoles]; rfl)) (sess_Roles_ok b153) (by first | exact .inr rfl | exact .inl rfl) ?_
      try simp -implicitDefEqProofs only [go_sem, Bool.false_and, Nat.reduceAdd, ↓reduceIte]
      refine runR_seq ?_
      refine runR_seq ?_
      refine runR_take tab_ok fol 1 ?_
      try simp -implicitDefEqProofs only [go_sem, Nat.reduceAdd]
      obtain ⟨e_3, E155, H156⟩ := bind_inv H154
      refine runR_join (α := { y : Bool // e_3 = y } × Nat × Nat × Nat × Nat) (fun | ⟨⟨t223, _⟩, ⟨g41, g42, g43, g44⟩⟩ => ⟨upd 12 (.pt 0 0) (upd 15 (.v (.bool t135)) (upd 16 (.pt 1 0) (upd 17 (.pt 6 0) (upd 18 (.pt 9 0) (upd 19 (.pt 11 0) (upd 20 (.v (.bool t203)) (upd 22 (.v (.bool t223)) (upd 23 (.d (.sl (List.map eS t196)) false) noFr)))))))), upd 0 (some (.bx [.v (.bool t116.session), .v (.string t116.who), .v (.string t116.act), .v (.string t116.obj)])) (upd 1 (some (.bx [accV 2 g41 (List.map eS t703), .v (.slice none 0 0), accV 3 g42 (List.map eGPair t723), .so 4 2 0 (l6.length), accV 5 g43 (List.map eGGrant t743), .v (.slice none 0 0), .v (.slice none 0 0), .v (.slice none 0 0)])) (upd 2 (accO 1 g41 false (List.map eS t703)) (upd 3 (accO 2 g42 false (List.map eGPair t723)) (upd 4 (some (.rw (List.map eGPair l6) 2 2 false false)) (upd 5 (accO 3 g43 false (List.map eGGrant t743)) (upd 6 (some (.bx [accV 2 g41 (List.map eS t703), .v (.slice none 0 0), .so 7 2 0 (l8.length), accV 8 g44 (List.map eGPair t733), accV 5 g43 (List.map eGGrant t743), .v (.slice none 0 0), .v (.slice none 0 0), .v (.slice none 0 0)])) (upd 7 (some (.rw (List.map eGPair l8) 2 2 false false)) (upd 8 (accO 2 g44 false (List.map eGPair t733)) (upd 9 (some (.bx [accV 2 g41 (List.map eS t703), .v (.slice none 0 0), accV 3 g42 (List.map eGPair t723), accV 8 g44 (List.map eGPair t733), .so 10 2 0 (l10.length), .v (.slice none 0 0), .v (.slice none 0 0), .v (.slice none 0 0)])) (upd 10 (some (.rw (List.map eGGrant l10) 3 2 false false)) (upd 11 (some (.bx [accV 2 g41 (List.map eS t703), .v (.slice none 0 0), accV 3 g42 (List.map eGPair t723), .v (.slice none 0 0), accV 5 g43 (List.map eGGrant t743), .v (.slice none 0 0), .v (.slice none 0 0), .v (.slice none 0 0)])) noHp))))))))))), 12⟩) ?_ ?_
      · refine runR_block ?_
        refine runR_loop (α := { q : (Nat × (Bool × Int)) × Nat × Nat × Nat × Nat // law15_SessGives_L3 n x3 t196 q.1.1 q.1.2 = some e_3 }) (fun | ⟨⟨⟨c, ⟨t22, t24⟩⟩, ⟨g33, g34, g35, g36⟩⟩, _⟩ => ⟨upd 12 (.pt 0 0) (upd 13 (.v (.string x3)) (upd 15 (.v (.bool t135)) (upd 16 (.pt 1 0) (upd 17 (.pt 6 0) (upd 18 (.pt 9 0) (upd 19 (.pt 11 0) (upd 20 (.v (.bool t203)) (upd 22 (.v (.bool t22)) (upd 23 (.d (.sl (List.map eS t196)) false) (upd 24 (.v (.int .i64 t24)) noFr)))))))))), upd 0 (some (.bx [.v (.bool t116.session), .v (.string t116.who), .v (.string t116.act), .v (.string t116.obj)])) (upd 1 (some (.bx [accV 2 g33 (List.map eS t703), .v (.slice none 0 0), accV 3 g34 (List.map eGPair t723), .so 4 2 0 (l6.length), accV 5 g35 (List.map eGGrant t743), .v (.slice none 0 0), .v (.slice none 0 0), .v (.slice none 0 0)])) (upd 2 (accO 1 g33 false (List.map eS t703)) (upd 3 (accO 2 g34 false (List.map eGPair t723)) (upd 4 (some (.rw (List.map eGPair l6) 2 2 false false)) (upd 5 (accO 3 g35 false (List.map eGGrant t743)) (upd 6 (some (.bx [accV 2 g33 (List.map eS t703), .v (.slice none 0 0), .so 7 2 0 (l8.length), accV 8 g36 (List.map eGPair t733), accV 5 g35 (List.map eGGrant t743), .v (.slice none 0 0), .v (.slice none 0 0), .v (.slice none 0 0)])) (upd 7 (some (.rw (List.map eGPair l8) 2 2 false false)) (upd 8 (accO 2 g36 false (List.map eGPair t733)) (upd 9 (some (.bx [accV 2 g33 (List.map eS t703), .v (.slice none 0 0), accV 3 g34 (List.map eGPair t723), accV 8 g36 (List.map eGPair t733), .so 10 2 0 (l10.length), .v (.slice none 0 0), .v (.slice none 0 0), .v (.slice none 0 0)])) (upd 10 (some (.rw (List.map eGGrant l10) 3 2 false false)) (upd 11 (some (.bx [accV 2 g33 (List.map eS t703), .v (.slice none 0 0), accV 3 g34 (List.map eGPair t723), .v (.slice none 0 0), accV 5 g35 (List.map eGGrant t743), .v (.slice none 0 0), .v (.slice none 0 0), .v (.slice none 0 0)])) noHp))))))))))), 12⟩) (fun q => q.1.1.1) ⟨((n, (false, 0)), (g25, g26, g28, g27)), E155⟩ ?_ ?_
        · exact ren_mk [(0, 5), (1, 6), (2, 1), (3, 2), (4, 7), (5, 4), (6, 8), (7, 9), (8, 3), (9, 10), (10, 11), (11, 12)] (by rfl) (rf_upd (by rfl) (rf_upd (by rfl) (rf_upd (by rfl) (rf_upd (by rfl) (rf_upd (by rfl) (rf_upd (by rfl) (rf_upd (by rfl) (rf_upd (by rfl) (rf_upd (by rfl) (rf_upd (by rfl) (rf_upd (by rfl) (rf_no _)))))))))))) (rh_upd (rh_one (by rfl) (by rfl) (by rfl)) (rh_upd (rh_one (by rfl) (renO_bx (renL_cons (ren_acc (by rfl)) (renL_cons (by rfl) (renL_cons (ren_acc (by rfl)) (renL_cons (by rfl) (renL_cons (ren_acc (by rfl)) (renL_cons (by rfl) (renL_cons (by rfl) (renL_cons (by rfl) (renL_nil _)))))))))) (by rfl)) (rh_upd (rh_acc (by rfl) (by rfl)) (rh_upd (rh_acc (by rfl) (by rfl)) (rh_upd (rh_one (by rfl) (by rfl) (by rfl)) (rh_upd (rh_acc (by rfl) (by rfl)) (rh_upd (rh_one (by rfl) (renO_bx (renL_cons (ren_acc (by rfl)) (renL_cons (by rfl) (renL_cons (by rfl) (renL_cons (ren_acc (by rfl)) (renL_cons (ren_acc (by rfl)) (renL_cons (by rfl) (renL_cons (by rfl) (renL_cons (by rfl) (renL_nil _)))))))))) (by rfl)) (rh_upd (rh_one (by rfl) (by rfl) (by rfl)) (rh_upd (rh_acc (by rfl) (by rfl)) (rh_upd (rh_one (by rfl) (renO_bx (renL_cons (ren_acc (by rfl)) (renL_cons (by rfl) (renL_cons (ren_acc (by rfl)) (renL_cons (ren_acc (by rfl)) (renL_cons (by rfl) (renL_cons (by rfl) (renL_cons (by rfl) (renL_cons (by rfl) (renL_nil _)))))))))) (by rfl)) (rh_upd (rh_one (by rfl) (by rfl) (by rfl)) (rh_upd (rh_one (by rfl) (renO_bx (renL_cons (ren_acc (by rfl)) (renL_cons (by rfl) (renL_cons (ren_acc (by rfl)) (renL_cons (by rfl) (renL_cons (ren_acc (by rfl)) (renL_cons (by rfl) (renL_cons (by rfl) (renL_cons (by rfl) (renL_nil _)))))))))) (by rfl)) (rh_no _)))))))))))))
        · rintro ⟨⟨⟨c, ⟨t22, t24⟩⟩, ⟨g33, g34, g35, g36⟩⟩, L157⟩
          rcases c with _ | c
          · exact nomatch (show none = some _ from L157)
          · unfold law15_SessGives_L3 at L157
            try dsimp only at L157
            refine runR_take tab_ok fol 1 ?_
            try simp -implicitDefEqProofs only [go_sem, Nat.reduceEqDiff, Nat.reduceAdd, ↓reduceIte]
            rcases ite_inv L157 with ⟨c166, H167⟩ | ⟨c166, H167⟩
            · try simp -implicitDefEqProofs only [go_sem, Nat.reduceEqDiff, Nat.reduceAdd, ↓reduceIte, c166]
              rcases ite_inv H167 with ⟨c168, H169⟩ | ⟨c168, H169⟩
              · try simp -implicitDefEqProofs only [go_sem, Nat.reduceEqDiff, Nat.reduceAdd, ↓reduceIte, c168]
                exact ⟨⟨((c, (true, (IntKind.i64.wrap (t24 + 1)))), (g33, g34, g35, g36)), H169⟩, ren_mk [(0, 0), (1, 1), (2, 2), (3, 3), (4, 4), (5, 5), (6, 6), (7, 7), (8, 8), (9, 9), (10, 10), (11, 11)] (by rfl) (rf_upd (by rfl) (rf_upd (by rfl) (rf_upd (by rfl) (rf_upd (by rfl) (rf_upd (by rfl) (rf_upd (by rfl) (rf_upd (by rfl) (rf_upd (by rfl) (rf_upd (by rfl) (rf_upd (by rfl) (rf_upd (by rfl) (rf_no _)))))))))))) (rh_upd (rh_one (by rfl) (by rfl) (by rfl)) (rh_upd (rh_one (by rfl) (renO_bx (renL_cons (ren_acc (by rfl)) (renL_cons (by rfl) (renL_cons (ren_acc (by rfl)) (renL_cons (by rfl) (renL_cons (ren_acc (by rfl)) (renL_cons (by rfl) (renL_cons (by rfl) (renL_cons (by rfl) (renL_nil _)))))))))) (by rfl)) (rh_upd (rh_acc (by rfl) (by rfl)) (rh_upd (rh_acc (by rfl) (by rfl)) (rh_upd (rh_one (by rfl) (by rfl) (by rfl)) (rh_upd (rh_acc (by rfl) (by rfl)) (rh_upd (rh_one (by rfl) (renO_bx (renL_cons (ren_acc (by rfl)) (renL_cons (by rfl) (renL_cons (by rfl) (renL_cons (ren_acc (by rfl)) (renL_cons (ren_acc (by rfl)) (renL_cons (by rfl) (renL_cons (by rfl) (renL_cons (by rfl) (renL_nil _)))))))))) (by rfl)) (rh_upd (rh_one (by rfl) (by rfl) (by rfl)) (rh_upd (rh_acc (by rfl) (by rfl)) (rh_upd (rh_one (by rfl) (renO_bx (renL_cons (ren_acc (by rfl)) (renL_cons (by rfl) (renL_cons (ren_acc (by rfl)) (renL_cons (ren_acc (by rfl)) (renL_cons (by rfl) (renL_cons (by rfl) (renL_cons (by rfl) (renL_cons (by rfl) (renL_nil _)))))))))) (by rfl)) (rh_upd (rh_one (by rfl) (by rfl) (by rfl)) (rh_upd (rh_one (by rfl) (renO_bx (renL_cons (ren_acc (by rfl)) (renL_cons (by rfl) (renL_cons (ren_acc (by rfl)) (renL_cons (by rfl) (renL_cons (ren_acc (by rfl)) (renL_cons (by rfl) (renL_cons (by rfl) (renL_cons (by rfl) (renL_nil _)))))))))) (by rfl)) (rh_no _))))))))))))), Nat.lt_succ_self _⟩
              · obtain ⟨x8, b170, H171⟩ := bind_inv H169
                obtain ⟨h172, h173⟩ := idx_inv b170
                try simp only [Int.reduceToNat, Int.toNat_natCast] at h173
                have h174 := map_at eS h173
                try simp -implicitDefEqProofs only [go_sem, Nat.reduceEqDiff, Nat.reduceAdd, ↓reduceIte, c168, nat_of .i64 h172, h174]
                exact ⟨⟨((c, ((x8.toList == x3.toList), (IntKind.i64.wrap (t24 + 1)))), (g33, g34, g35, g36)), H171⟩, ren_mk [(0, 0), (1, 1), (2, 2), (3, 3), (4, 4), (5, 5), (6, 6), (7, 7), (8, 8), (9, 9), (10, 10), (11, 11)] (by rfl) (rf_upd (by rfl) (rf_upd (by rfl) (rf_upd (by rfl) (rf_upd (by rfl) (rf_upd (by rfl) (rf_upd (by rfl) (rf_upd (by rfl) (rf_upd (by rfl) (rf_upd (by rfl) (rf_upd (by rfl) (rf_upd (by rfl) (rf_no _)))))))))))) (rh_upd (rh_one (by rfl) (by rfl) (by rfl)) (rh_upd (rh_one (by rfl) (renO_bx (renL_cons (ren_acc (by rfl)) (renL_cons (by rfl) (renL_cons (ren_acc (by rfl)) (renL_cons (by rfl) (renL_cons (ren_acc (by rfl)) (renL_cons (by rfl) (renL_cons (by rfl) (renL_cons (by rfl) (renL_nil _)))))))))) (by rfl)) (rh_upd (rh_acc (by rfl) (by rfl)) (rh_upd (rh_acc (by rfl) (by rfl)) (rh_upd (rh_one (by rfl) (by rfl) (by rfl)) (rh_upd (rh_acc (by rfl) (by rfl)) (rh_upd (rh_one (by rfl) (renO_bx (renL_cons (ren_acc (by rfl)) (renL_cons (by rfl) (renL_cons (by rfl) (renL_cons (ren_acc (by rfl)) (renL_cons (ren_acc (by rfl)) (renL_cons (by rfl) (renL_cons (by rfl) (renL_cons (by rfl) (renL_nil _)))))))))) (by rfl)) (rh_upd (rh_one (by rfl) (by rfl) (by rfl)) (rh_upd (rh_acc (by rfl) (by rfl)) (rh_upd (rh_one (by rfl) (renO_bx (renL_cons (ren_acc (by rfl)) (renL_cons (by rfl) (renL_cons (ren_acc (by rfl)) (renL_cons (ren_acc (by rfl)) (renL_cons (by rfl) (renL_cons (by rfl) (renL_cons (by rfl) (renL_cons (by rfl) (renL_nil _)))))))))) (by rfl)) (rh_upd (rh_one (by rfl) (by rfl) (by rfl)) (rh_upd (rh_one (by rfl) (renO_bx (renL_cons (ren_acc (by rfl)) (renL_cons (by rfl) (renL_cons (ren_acc (by rfl)) (renL_cons (by rfl) (renL_cons (ren_acc (by rfl)) (renL_cons (by rfl) (renL_cons (by rfl) (renL_cons (by rfl) (renL_nil _)))))))))) (by rfl)) (rh_no _))))))))))))), Nat.lt_succ_self _⟩
            · try simp -implicitDefEqProofs only [go_sem, ↓reduceIte, c166]
              obtain rfl := Option.some.inj H167
              exact ⟨⟨⟨t22, rfl⟩, (g33, g34, g35, g36)⟩, ren_mk [(0, 0), (1, 1), (2, 2), (3, 3), (4, 4), (5, 5), (6, 6), (7, 7), (8, 8), (9, 9), (10, 10), (11, 11)] (by rfl) (rf_upd (by rfl) (rf_upd (by rfl) (rf_upd (by rfl) (rf_upd (by rfl) (rf_upd (by rfl) (rf_upd (by rfl) (rf_upd (by rfl) (rf_upd (by rfl) (rf_upd (by rfl) (rf_no _)))))))))) (rh_upd (rh_one (by rfl) (by rfl) (by rfl)) (rh_upd (rh_one (by rfl) (renO_bx (renL_cons (ren_acc (by rfl)) (renL_cons (by rfl) (renL_cons (ren_acc (by rfl)) (renL_cons (by rfl) (renL_cons (ren_acc (by rfl)) (renL_cons (by rfl) (renL_cons (by rfl) (renL_cons (by rfl) (renL_nil _)))))))))) (by rfl)) (rh_upd (rh_acc (by rfl) (by rfl)) (rh_upd (rh_acc (by rfl) (by rfl)) (rh_upd (rh_one (by rfl) (by rfl) (by rfl)) (rh_upd (rh_acc (by rfl) (by rfl)) (rh_upd (rh_one (by rfl) (renO_bx (renL_cons (ren_acc (by rfl)) (renL_cons (by rfl) (renL_cons (by rfl) (renL_cons (ren_acc (by rfl)) (renL_cons (ren_acc (by rfl)) (renL_cons (by rfl) (renL_cons (by rfl) (renL_cons (by rfl) (renL_nil _)))))))))) (by rfl)) (rh_upd (rh_one (by rfl) (by rfl) (by rfl)) (rh_upd (rh_acc (by rfl) (by rfl)) (rh_upd (rh_one (by rfl) (renO_bx (renL_cons (ren_acc (by rfl)) (renL_cons (by rfl) (renL_cons (ren_acc (by rfl)) (renL_cons (ren_acc (by rfl)) (renL_cons (by rfl) (renL_cons (by rfl) (renL_cons (by rfl) (renL_cons (by rfl) (renL_nil _)))))))))) (by rfl)) (rh_upd (rh_one (by rfl) (by rfl) (by rfl)) (rh_upd (rh_one (by rfl) (renO_bx (renL_cons (ren_acc (by rfl)) (renL_cons (by rfl) (renL_cons (ren_acc (by rfl)) (renL_cons (by rfl) (renL_cons (ren_acc (by rfl)) (renL_cons (by rfl) (renL_cons (by rfl) (renL_cons (by rfl) (renL_nil _)))))))))) (by rfl)) (rh_no _)))))))))))))⟩
      · rintro ⟨⟨t223, he251⟩, ⟨g41, g42, g43, g44⟩⟩
        replace he251 := he251.symm
        subst he251
        try dsimp only at H156
        refine runR_seq ?_
        refine runR_seq ?_
        obtain ⟨e_4, E176, H177⟩ := bind_inv H156
        refine runR_join (α := { y : Bool × Bool // e_4 = y } × Nat × Nat × Nat) (fun | ⟨⟨⟨t15, t262⟩, _⟩, ⟨g45, g46, g47⟩⟩ => ⟨upd 12 (.pt 0 0) (upd 15 (.v (.bool t15)) (upd 18 (.pt 1 0) (upd 20 (.v (.bool t203)) (upd 22 (.v (.bool t223)) (upd 23 (.d (.sl (List.map eS t196)) false) (upd 262 (.v (.bool t262)) noFr)))))), upd 0 (some (.bx [.v (.bool t116.session), .v (.string t116.who), .v (.string t116.act), .v (.string t116.obj)])) (upd 1 (some (.bx [accV 2 g45 (List.map eS t703), .v (.slice none 0 0), accV 3 g46 (List.map eGPair t723), accV 4 g47 (List.map eGPair t733), .so 5 2 0 (l10.length), .v (.slice none 0 0), .v (.slice none 0 0), .v (.slice none 0 0)])) (upd 2 (accO 1 g45 false (List.map eS t703)) (upd 3 (accO 2 g46 false (List.map eGPair t723)) (upd 4 (accO 2 g47 false (List.map eGPair t733)) (upd 5 (some (.rw (List.map eGGrant l10) 3 2 false false)) noHp))))), 6⟩) ?_ ?_
        · refine runR_take tab_ok fol 1 ?_
          try simp -implicitDefEqProofs only [go_sem, Nat.reduceEqDiff, Nat.reduceAdd, ↓reduceIte]
          rcases ite_inv E176 with ⟨c178, H179⟩ | ⟨c178, H179⟩
          · obtain ⟨t221, b180, H181⟩ := bind_inv H179
            try simp -implicitDefEqProofs only [go_sem, Nat.reduceEqDiff, Nat.reduceAdd, reduceCtorEq, ↓reduceIte, c178]
            refine onCall_pure (by first | rfl | (simp -implicitDefEqProofs only [go_sem, Nat.reduceEqDiff, reduceCtorEq, ↓reduceIte, eGRoles]; done) | (simp -implicitDefEqProofs only [go_sem, Nat.reduceEqDiff, reduceCtorEq, ↓reduceIte, eGRoles]; rfl)) (sess_May_ok b180) (by first | exact .inr rfl | exact .inl rfl) ?_
            try simp -implicitDefEqProofs only [go_sem, Bool.false_and, Nat.reduceEqDiff, Nat.reduceAdd, ↓reduceIte]
            rcases ite_inv H181 with ⟨c182, H183⟩ | ⟨c182, H183⟩
            · obtain ⟨t231, b184, H185⟩ := bind_inv H183
              try simp -implicitDefEqProofs only [go_sem, Nat.reduceEqDiff, Nat.reduceAdd, reduceCtorEq, ↓reduceIte, c182]
              refine onCall_pure (by first | rfl | (simp -implicitDefEqProofs only [go_sem, Nat.reduceEqDiff, reduceCtorEq, ↓reduceIte, eGRoles]; done) | (simp -implicitDefEqProofs only [go_sem, Nat.reduceEqDiff, reduceCtorEq, ↓reduceIte, eGRoles]; rfl)) (sess_May_ok b184) (by first | exact .inr rfl | exact .inl rfl) ?_
              try simp -implicitDefEqProofs only [go_sem, Bool.false_and, Nat.reduceEqDiff, Nat.reduceAdd, ↓reduceIte]
              rcases ite_inv H185 with ⟨c186, H187⟩ | ⟨c186, H187⟩
              · obtain ⟨t2422, b188, H189⟩ := bind_inv H187
                try simp -implicitDefEqProofs only [go_sem, Nat.reduceEqDiff, Nat.reduceAdd, reduceCtorEq, ↓reduceIte, c186]
                refine onCall_pure (by first | rfl | (simp -implicitDefEqProofs only [go_sem, Nat.reduceEqDiff, reduceCtorEq, ↓reduceIte, eGRoles]; done) | (simp -implicitDefEqProofs only [go_sem, Nat.reduceEqDiff, reduceCtorEq, ↓reduceIte, eGRoles]; rfl)) (sess_May_ok b188) (by first | exact .inr rfl | exact .inl rfl) ?_
                try simp -implicitDefEqProofs only [go_sem, Bool.false_and, Nat.reduceEqDiff, Nat.reduceAdd, ↓reduceIte]
                rcases ite_inv H189 with ⟨c190, H191⟩ | ⟨c190, H191⟩
                · obtain ⟨t254, b192, H193⟩ := bind_inv H191
                  try simp -implicitDefEqProofs only [go_sem, Nat.reduceEqDiff, Nat.reduceAdd, reduceCtorEq, ↓reduceIte, c190]
                  refine onCall_pure (by first | rfl | (simp -implicitDefEqProofs only [go_sem, Nat.reduceEqDiff, reduceCtorEq, ↓reduceIte, eGRoles]; done) | (simp -implicitDefEqProofs only [go_sem, Nat.reduceEqDiff, reduceCtorEq, ↓reduceIte, eGRoles]; rfl)) (sess_May_ok b192) (by first | exact .inr rfl | exact .inl rfl) ?_
                  try simp -implicitDefEqProofs only [go_sem, Bool.false_and, Nat.reduceEqDiff, Nat.reduceAdd, ↓reduceIte]
                  rcases ite_inv H193 with ⟨c194, H195⟩ | ⟨c194, H195⟩
                  · try simp -implicitDefEqProofs only [go_sem, Nat.reduceEqDiff, Nat.reduceAdd, ↓reduceIte, c194]
                    obtain rfl := Option.some.inj H195
                    exact ⟨⟨⟨(true, true), rfl⟩, (g41, g42, g44)⟩, ren_mk [(0, 0), (1, 9), (2, 2), (3, 3), (4, 8), (5, 10)] (by rfl) (rf_upd (by rfl) (rf_upd (by rfl) (rf_upd (by rfl) (rf_upd (by rfl) (rf_upd (by rfl) (rf_upd (by rfl) (rf_upd (by rfl) (rf_no _)))))))) (rh_upd (rh_one (by rfl) (by rfl) (by rfl)) (rh_upd (rh_one (by rfl) (renO_bx (renL_cons (ren_acc (by rfl)) (renL_cons (by rfl) (renL_cons (ren_acc (by rfl)) (renL_cons (ren_acc (by rfl)) (renL_cons (by rfl) (renL_cons (by rfl) (renL_cons (by rfl) (renL_cons (by rfl) (renL_nil _)))))))))) (by rfl)) (rh_upd (rh_acc (by rfl) (by rfl)) (rh_upd (rh_acc (by rfl) (by rfl)) (rh_upd (rh_acc (by rfl) (by rfl)) (rh_upd (rh_one (by rfl) (by rfl) (by rfl)) (rh_no _)))))))⟩
                  · try simp -implicitDefEqProofs only [go_sem, Nat.reduceEqDiff, Nat.reduceAdd, ↓reduceIte, c194]
                    obtain rfl := Option.some.inj H195
                    exact ⟨⟨⟨(true, (!t203)), rfl⟩, (g41, g42, g44)⟩, ren_mk [(0, 0), (1, 9), (2, 2), (3, 3), (4, 8), (5, 10)] (by rfl) (rf_upd (by rfl) (rf_upd (by rfl) (rf_upd (by rfl) (rf_upd (by rfl) (rf_upd (by rfl) (rf_upd (by rfl) (rf_upd (by rfl) (rf_no _)))))))) (rh_upd (rh_one (by rfl) (by rfl) (by rfl)) (rh_upd (rh_one (by rfl) (renO_bx (renL_cons (ren_acc (by rfl)) (renL_cons (by rfl) (renL_cons (ren_acc (by rfl)) (renL_cons (ren_acc (by rfl)) (renL_cons (by rfl) (renL_cons (by rfl) (renL_cons (by rfl) (renL_cons (by rfl) (renL_nil _)))))))))) (by rfl)) (rh_upd (rh_acc (by rfl) (by rfl)) (rh_upd (rh_acc (by rfl) (by rfl)) (rh_upd (rh_acc (by rfl) (by rfl)) (rh_upd (rh_one (by rfl) (by rfl) (by rfl)) (rh_no _)))))))⟩
                · try simp -implicitDefEqProofs only [go_sem, Nat.reduceEqDiff, Nat.reduceAdd, ↓reduceIte, c190]
                  obtain rfl := Option.some.inj H191
                  exact ⟨⟨⟨(true, true), rfl⟩, (g41, g42, g44)⟩, ren_mk [(0, 0), (1, 9), (2, 2), (3, 3), (4, 8), (5, 10)] (by rfl) (rf_upd (by rfl) (rf_upd (by rfl) (rf_upd (by rfl) (rf_upd (by rfl) (rf_upd (by rfl) (rf_upd (by rfl) (rf_upd (by rfl) (rf_no _)))))))) (rh_upd (rh_one (by rfl) (by rfl) (by rfl)) (rh_upd (rh_one (by rfl) (renO_bx (renL_cons (ren_acc (by rfl)) (renL_cons (by rfl) (renL_cons (ren_acc (by rfl)) (renL_cons (ren_acc (by rfl)) (renL_cons (by rfl) (renL_cons (by rfl) (renL_cons (by rfl) (renL_cons (by rfl) (renL_nil _)))))))))) (by rfl)) (rh_upd (rh_acc (by rfl) (by rfl)) (rh_upd (rh_acc (by rfl) (by rfl)) (rh_upd (rh_acc (by rfl) (by rfl)) (rh_upd (rh_one (by rfl) (by rfl) (by rfl)) (rh_no _)))))))⟩
              · try simp -implicitDefEqProofs only [go_sem, Nat.reduceEqDiff, Nat.reduceAdd, ↓reduceIte, c186]
                obtain rfl := Option.some.inj H187
                exact ⟨⟨⟨(true, true), rfl⟩, (g41, g42, g44)⟩, ren_mk [(0, 0), (1, 9), (2, 2), (3, 3), (4, 8), (5, 10)] (by rfl) (rf_upd (by rfl) (rf_upd (by rfl) (rf_upd (by rfl) (rf_upd (by rfl) (rf_upd (by rfl) (rf_upd (by rfl) (rf_upd (by rfl) (rf_no _)))))))) (rh_upd (rh_one (by rfl) (by rfl) (by rfl)) (rh_upd (rh_one (by rfl) (renO_bx (renL_cons (ren_acc (by rfl)) (renL_cons (by rfl) (renL_cons (ren_acc (by rfl)) (renL_cons (ren_acc (by rfl)) (renL_cons (by rfl) (renL_cons (by rfl) (renL_cons (by rfl) (renL_cons (by rfl) (renL_nil _)))))))))) (by rfl)) (rh_upd (rh_acc (by rfl) (by rfl)) (rh_upd (rh_acc (by rfl) (by rfl)) (rh_upd (rh_acc (by rfl) (by rfl)) (rh_upd (rh_one (by rfl) (by rfl) (by rfl)) (rh_no _)))))))⟩
            · try simp -implicitDefEqProofs only [go_sem, Nat.reduceEqDiff, Nat.reduceAdd, ↓reduceIte, c182]
              obtain rfl := Option.some.inj H183
              exact ⟨⟨⟨(true, true), rfl⟩, (g41, g42, g44)⟩, ren_mk [(0, 0), (1, 9), (2, 2), (3, 3), (4, 8), (5, 10)] (by rfl) (rf_upd (by rfl) (rf_upd (by rfl) (rf_upd (by rfl) (rf_upd (by rfl) (rf_upd (by rfl) (rf_upd (by rfl) (rf_upd (by rfl) (rf_no _)))))))) (rh_upd (rh_one (by rfl) (by rfl) (by rfl)) (rh_upd (rh_one (by rfl) (renO_bx (renL_cons (ren_acc (by rfl)) (renL_cons (by rfl) (renL_cons (ren_acc (by rfl)) (renL_cons (ren_acc (by rfl)) (renL_cons (by rfl) (renL_cons (by rfl) (renL_cons (by rfl) (renL_cons (by rfl) (renL_nil _)))))))))) (by rfl)) (rh_upd (rh_acc (by rfl) (by rfl)) (rh_upd (rh_acc (by rfl) (by rfl)) (rh_upd (rh_acc (by rfl) (by rfl)) (rh_upd (rh_one (by rfl) (by rfl) (by rfl)) (rh_no _)))))))⟩
          · obtain ⟨t2542, b196, H197⟩ := bind_inv H179
            try simp -implicitDefEqProofs only [go_sem, Nat.reduceEqDiff, Nat.reduceAdd, reduceCtorEq, ↓reduceIte, c178]
            refine onCall_pure (by first | rfl | (simp -implicitDefEqProofs only [go_sem, Nat.reduceEqDiff, reduceCtorEq, ↓reduceIte, eGRoles]; done) | (simp -implicitDefEqProofs only [go_sem, Nat.reduceEqDiff, reduceCtorEq, ↓reduceIte, eGRoles]; rfl)) (sess_May_ok b196) (by first | exact .inr rfl | exact .inl rfl) ?_
            try simp -implicitDefEqProofs only [go_sem, Bool.false_and, Nat.reduceEqDiff, Nat.reduceAdd, ↓reduceIte]
            rcases ite_inv H197 with ⟨c198, H199⟩ | ⟨c198, H199⟩
            · try simp -implicitDefEqProofs only [go_sem, Nat.reduceEqDiff, Nat.reduceAdd, ↓reduceIte, c198]
              obtain rfl := Option.some.inj H199
              exact ⟨⟨⟨(false, true), rfl⟩, (g41, g42, g44)⟩, ren_mk [(0, 0), (1, 9), (2, 2), (3, 3), (4, 8), (5, 10)] (by rfl) (rf_upd (by rfl) (rf_upd (by rfl) (rf_upd (by rfl) (rf_upd (by rfl) (rf_upd (by rfl) (rf_upd (by rfl) (rf_upd (by rfl) (rf_no _)))))))) (rh_upd (rh_one (by rfl) (by rfl) (by rfl)) (rh_upd (rh_one (by rfl) (renO_bx (renL_cons (ren_acc (by rfl)) (renL_cons (by rfl) (renL_cons (ren_acc (by rfl)) (renL_cons (ren_acc (by rfl)) (renL_cons (by rfl) (renL_cons (by rfl) (renL_cons (by rfl) (renL_cons (by rfl) (renL_nil _)))))))))) (by rfl)) (rh_upd (rh_acc (by rfl) (by rfl)) (rh_upd (rh_acc (by rfl) (by rfl)) (rh_upd (rh_acc (by rfl) (by rfl)) (rh_upd (rh_one (by rfl) (by rfl) (by rfl)) (rh_no _)))))))⟩
            · try simp -implicitDefEqProofs only [go_sem, Nat.reduceEqDiff, Nat.reduceAdd, ↓reduceIte, c198]
              obtain rfl := Option.some.inj H199
              exact ⟨⟨⟨(false, false), rfl⟩, (g41, g42, g44)⟩, ren_mk [(0, 0), (1, 9), (2, 2), (3, 3), (4, 8), (5, 10)] (by rfl) (rf_upd (by rfl) (rf_upd (by rfl) (rf_upd (by rfl) (rf_upd (by rfl) (rf_upd (by rfl) (rf_upd (by rfl) (rf_upd (by rfl) (rf_no _)))))))) (rh_upd (rh_one (by rfl) (by rfl) (by rfl)) (rh_upd (rh_one (by rfl) (renO_bx (renL_cons (ren_acc (by rfl)) (renL_cons (by rfl) (renL_cons (ren_acc (by rfl)) (renL_cons (ren_acc (by rfl)) (renL_cons (by rfl) (renL_cons (by rfl) (renL_cons (by rfl) (renL_cons (by rfl) (renL_nil _)))))))))) (by rfl)) (rh_upd (rh_acc (by rfl) (by rfl)) (rh_upd (rh_acc (by rfl) (by rfl)) (rh_upd (rh_acc (by rfl) (by rfl)) (rh_upd (rh_one (by rfl) (by rfl) (by rfl)) (rh_no _)))))))⟩
        · rintro ⟨⟨⟨t15, t262⟩, he250⟩, ⟨g45, g46, g47⟩⟩
          replace he250 := he250.symm
          subst he250
          try dsimp only at H177
          refine runR_take tab_ok fol 2 ?_
          try simp -implicitDefEqProofs only [go_sem, Nat.reduceEqDiff, ↓reduceIte]
          rcases ite_inv H177 with ⟨c200, H201⟩ | ⟨c200, H201⟩
          · try simp -implicitDefEqProofs only [go_sem, Nat.reduceAdd, c200]
            obtain rfl := Option.some.inj H201
            exact end_pure (by first | (simp -implicitDefEqProofs only [go_sem, ↓reduceIte, Try.f7] <;> rfl) | rfl) (by first | rfl | (simp -implicitDefEqProofs only [go_sem, Bool.false_and, Int.reduceToNat, Int.reduceLT, Int.reduceLE, Int.reduceBEq, Int.reduceBNe, Nat.reduceLT, Nat.reduceBEq, Int.reduceEq, Nat.reduceEqDiff, Nat.reduceAdd, Nat.reduceSub, Nat.reduceMul, Nat.reduceLeDiff, reduceCtorEq, ↓reduceIte, eGWord, eGLine, eGFact, eGAsk, eGPair, eGRoles, eGGrant, c200]; done) | (simp -implicitDefEqProofs only [go_sem, Bool.false_and, Int.reduceToNat, Int.reduceLT, Int.reduceLE, Int.reduceBEq, Int.reduceBNe, Nat.reduceLT, Nat.reduceBEq, Int.reduceEq, Nat.reduceEqDiff, Nat.reduceAdd, Nat.reduceSub, Nat.reduceMul, Nat.reduceLeDiff, reduceCtorEq, ↓reduceIte, eGWord, eGLine, eGFact, eGAsk, eGPair, eGRoles, eGGrant, c200]; rfl)) rfl (by intro h; first | rfl | cases h)
          · obtain ⟨t270, b202, H203⟩ := bind_inv H201
            try simp -implicitDefEqProofs only [go_sem, Nat.reduceEqDiff, Nat.reduceAdd, reduceCtorEq, ↓reduceIte, c200]
            refine onCall_pure (by first | rfl | (simp -implicitDefEqProofs only [go_sem, Nat.reduceEqDiff, reduceCtorEq, ↓reduceIte, eGRoles]; done) | (simp -implicitDefEqProofs only [go_sem, Nat.reduceEqDiff, reduceCtorEq, ↓reduceIte, eGRoles]; rfl)) (sess_May_ok b202) (by first | exact .inr rfl | exact .inl rfl) ?_
            try simp -implicitDefEqProofs only [go_sem, Bool.false_and, Nat.reduceEqDiff, Nat.reduceAdd, ↓reduceIte]
            rcases ite_inv H203 with ⟨c204, H205⟩ | ⟨c204, H205⟩
            · try simp -implicitDefEqProofs only [go_sem, Nat.reduceEqDiff, Nat.reduceAdd, ↓reduceIte, c204]
              rcases ite_inv H205 with ⟨c206, H207⟩ | ⟨c206, H207⟩
              · try simp -implicitDefEqProofs only [go_sem, Nat.reduceEqDiff, Nat.reduceAdd, ↓reduceIte, c206]
                rcases ite_inv H207 with ⟨c208, H209⟩ | ⟨c208, H209⟩
                · obtain ⟨t287, b210, H211⟩ := bind_inv H209
                  try simp -implicitDefEqProofs only [go_sem, Nat.reduceEqDiff, Nat.reduceAdd, ↓reduceIte, c208]
                  refine onCall_pure (by first | rfl | (simp -implicitDefEqProofs only [go_sem, Bool.false_and, Int.reduceToNat, Int.reduceLT, Int.reduceLE, Int.reduceBEq, Int.reduceBNe, Nat.reduceLT, Nat.reduceBEq, Int.reduceEq, Nat.reduceEqDiff, Nat.reduceAdd, Nat.reduceSub, Nat.reduceMul, Nat.reduceLeDiff, reduceCtorEq, ↓reduceIte, eGWord, eGLine, eGFact, eGAsk, eGPair, eGRoles, eGGrant, c200, c204, c206, c208]; done) | (simp -implicitDefEqProofs only [go_sem, Bool.false_and, Int.reduceToNat, Int.reduceLT, Int.reduceLE, Int.reduceBEq, Int.reduceBNe, Nat.reduceLT, Nat.reduceBEq, Int.reduceEq, Nat.reduceEqDiff, Nat.reduceAdd, Nat.reduceSub, Nat.reduceMul, Nat.reduceLeDiff, reduceCtorEq, ↓reduceIte, eGWord, eGLine, eGFact, eGAsk, eGPair, eGRoles, eGGrant, c200, c204, c206, c208]; rfl)) (ref1_Texts_ok b210) (by first | exact .inr rfl | exact .inl rfl) ?_
                  obtain ⟨t288, b212, H213⟩ := bind_inv H211
                  try simp -implicitDefEqProofs only [go_sem, Bool.false_and, Nat.reduceEqDiff, Nat.reduceAdd, ↓reduceIte]
                  refine onCall_pure (by first | rfl | (simp -implicitDefEqProofs only [go_sem, Bool.false_and, Int.reduceToNat, Int.reduceLT, Int.reduceLE, Int.reduceBEq, Int.reduceBNe, Nat.reduceLT, Nat.reduceBEq, Int.reduceEq, Nat.reduceEqDiff, Nat.reduceAdd, Nat.reduceSub, Nat.reduceMul, Nat.reduceLeDiff, reduceCtorEq, ↓reduceIte, eGWord, eGLine, eGFact, eGAsk, eGPair, eGRoles, eGGrant, c200, c204, c206, c208]; done) | (simp -implicitDefEqProofs only [go_sem, Bool.false_and, Int.reduceToNat, Int.reduceLT, Int.reduceLE, Int.reduceBEq, Int.reduceBNe, Nat.reduceLT, Nat.reduceBEq, Int.reduceEq, Nat.reduceEqDiff, Nat.reduceAdd, Nat.reduceSub, Nat.reduceMul, Nat.reduceLeDiff, reduceCtorEq, ↓reduceIte, eGWord, eGLine, eGFact, eGAsk, eGPair, eGRoles, eGGrant, c200, c204, c206, c208]; rfl)) (ref1_SameTexts_ok b212) (by first | exact .inr rfl | exact .inl rfl) ?_
                  try simp -implicitDefEqProofs only [go_sem, Bool.false_and, Nat.reduceEqDiff, Nat.reduceAdd, ↓reduceIte]
                  rcases ite_inv H213 with ⟨c214, H215⟩ | ⟨c214, H215⟩
                  · obtain ⟨t291, b216, H217⟩ := bind_inv H215
                    try simp -implicitDefEqProofs only [go_sem, Nat.reduceAdd, ↓reduceIte, c214]
                    refine onCall_pure (by first | rfl | (simp -implicitDefEqProofs only [go_sem, Bool.false_and, Int.reduceToNat, Int.reduceLT, Int.reduceLE, Int.reduceBEq, Int.reduceBNe, Nat.reduceLT, Nat.reduceBEq, Int.reduceEq, Nat.reduceEqDiff, Nat.reduceAdd, Nat.reduceSub, Nat.reduceMul, Nat.reduceLeDiff, reduceCtorEq, ↓reduceIte, eGWord, eGLine, eGFact, eGAsk, eGPair, eGRoles, eGGrant, c200, c204, c206, c208, c214]; done) | (simp -implicitDefEqProofs only [go_sem, Bool.false_and, Int.reduceToNat, Int.reduceLT, Int.reduceLE, Int.reduceBEq, Int.reduceBNe, Nat.reduceLT, Nat.reduceBEq, Int.reduceEq, Nat.reduceEqDiff, Nat.reduceAdd, Nat.reduceSub, Nat.reduceMul, Nat.reduceLeDiff, reduceCtorEq, ↓reduceIte, eGWord, eGLine, eGFact, eGAsk, eGPair, eGRoles, eGGrant, c200, c204, c206, c208, c214]; rfl)) (law15_awake_ok b216) (by first | exact .inr rfl | exact .inl rfl) ?_
                    try simp -implicitDefEqProofs only [go_sem, Bool.false_and, Nat.reduceEqDiff, Nat.reduceAdd, ↓reduceIte]
                    obtain rfl := Option.some.inj H217
                    exact end_pure (by first | (simp -implicitDefEqProofs only [go_sem, ↓reduceIte, Try.f7] <;> rfl) | rfl) (by first | rfl | (simp -implicitDefEqProofs only [go_sem, Bool.false_and, Int.reduceToNat, Int.reduceLT, Int.reduceLE, Int.reduceBEq, Int.reduceBNe, Nat.reduceLT, Nat.reduceBEq, Int.reduceEq, Nat.reduceEqDiff, Nat.reduceAdd, Nat.reduceSub, Nat.reduceMul, Nat.reduceLeDiff, reduceCtorEq, ↓reduceIte, eGWord, eGLine, eGFact, eGAsk, eGPair, eGRoles, eGGrant, c200, c204, c206, c208, c214]; done) | (simp -implicitDefEqProofs only [go_sem, Bool.false_and, Int.reduceToNat, Int.reduceLT, Int.reduceLE, Int.reduceBEq, Int.reduceBNe, Nat.reduceLT, Nat.reduceBEq, Int.reduceEq, Nat.reduceEqDiff, Nat.reduceAdd, Nat.reduceSub, Nat.reduceMul, Nat.reduceLeDiff, reduceCtorEq, ↓reduceIte, eGWord, eGLine, eGFact, eGAsk, eGPair, eGRoles, eGGrant, c200, c204, c206, c208, c214]; rfl)) rfl (by intro h; first | rfl | cases h)
                  · try simp -implicitDefEqProofs only [go_sem, Nat.reduceEqDiff, Nat.reduceAdd, ↓reduceIte, c214]
                    obtain rfl := Option.some.inj H215
                    exact end_pure (by first | (simp -implicitDefEqProofs only [go_sem, ↓reduceIte, Try.f7] <;> rfl) | rfl) (by first | rfl | (simp -implicitDefEqProofs only [go_sem, Bool.false_and, Int.reduceToNat, Int.reduceLT, Int.reduceLE, Int.reduceBEq, Int.reduceBNe, Nat.reduceLT, Nat.reduceBEq, Int.reduceEq, Nat.reduceEqDiff, Nat.reduceAdd, Nat.reduceSub, Nat.reduceMul, Nat.reduceLeDiff, reduceCtorEq, ↓reduceIte, eGWord, eGLine, eGFact, eGAsk, eGPair, eGRoles, eGGrant, c200, c204, c206, c208, c214]; done) | (simp -implicitDefEqProofs only [go_sem, Bool.false_and, Int.reduceToNat, Int.reduceLT, Int.reduceLE, Int.reduceBEq, Int.reduceBNe, Nat.reduceLT, Nat.reduceBEq, Int.reduceEq, Nat.reduceEqDiff, Nat.reduceAdd, Nat.reduceSub, Nat.reduceMul, Nat.reduceLeDiff, reduceCtorEq, ↓reduceIte, eGWord, eGLine, eGFact, eGAsk, eGPair, eGRoles, eGGrant, c200, c204, c206, c208, c214]; rfl)) rfl (by intro h; first | rfl | cases h)
                · try simp -implicitDefEqProofs only [go_sem, Nat.reduceEqDiff, Nat.reduceAdd, ↓reduceIte, c208]
                  rcases ite_inv H209 with ⟨c218, H219⟩ | ⟨c218, H219⟩
                  · obtain ⟨t2872, b220, H221⟩ := bind_inv H219
                    try simp -implicitDefEqProofs only [go_sem, Nat.reduceEqDiff, Nat.reduceAdd, ↓reduceIte, c218]
                    refine onCall_pure (by first | rfl | (simp -implicitDefEqProofs only [go_sem, Bool.false_and, Int.reduceToNat, Int.reduceLT, Int.reduceLE, Int.reduceBEq, Int.reduceBNe, Nat.reduceLT, Nat.reduceBEq, Int.reduceEq, Nat.reduceEqDiff, Nat.reduceAdd, Nat.reduceSub, Nat.reduceMul, Nat.reduceLeDiff, reduceCtorEq, ↓reduceIte, eGWord, eGLine, eGFact, eGAsk, eGPair, eGRoles, eGGrant, c200, c204, c206, c208, c218]; done) | (simp -implicitDefEqProofs only [go_sem, Bool.false_and, Int.reduceToNat, Int.reduceLT, Int.reduceLE, Int.reduceBEq, Int.reduceBNe, Nat.reduceLT, Nat.reduceBEq, Int.reduceEq, Nat.reduceEqDiff, Nat.reduceAdd, Nat.reduceSub, Nat.reduceMul, Nat.reduceLeDiff, reduceCtorEq, ↓reduceIte, eGWord, eGLine, eGFact, eGAsk, eGPair, eGRoles, eGGrant, c200, c204, c206, c208, c218]; rfl)) (ref1_Texts_ok b220) (by first | exact .inr rfl | exact .inl rfl) ?_
                    obtain ⟨t2882, b222, H223⟩ := bind_inv H221
                    try simp -implicitDefEqProofs only [go_sem, Bool.false_and, Nat.reduceEqDiff, Nat.reduceAdd, ↓reduceIte]
                    refine onCall_pure (by first | rfl | (simp -implicitDefEqProofs only [go_sem, Bool.false_and, Int.reduceToNat, Int.reduceLT, Int.reduceLE, Int.reduceBEq, Int.reduceBNe, Nat.reduceLT, Nat.reduceBEq, Int.reduceEq, Nat.reduceEqDiff, Nat.reduceAdd, Nat.reduceSub, Nat.reduceMul, Nat.reduceLeDiff, reduceCtorEq, ↓reduceIte, eGWord, eGLine, eGFact, eGAsk, eGPair, eGRoles, eGGrant, c200, c204, c206, c208, c218]; done) | (simp -implicitDefEqProofs only [go_sem, Bool.false_and, Int.reduceToNat, Int.reduceLT, Int.reduceLE, Int.reduceBEq, Int.reduceBNe, Nat.reduceLT, Nat.reduceBEq, Int.reduceEq, Nat.reduceEqDiff, Nat.reduceAdd, Nat.reduceSub, Nat.reduceMul, Nat.reduceLeDiff, reduceCtorEq, ↓reduceIte, eGWord, eGLine, eGFact, eGAsk, eGPair, eGRoles, eGGrant, c200, c204, c206, c208, c218]; rfl)) (ref1_SameTexts_ok b222) (by first | exact .inr rfl | exact .inl rfl) ?_
                    try simp -implicitDefEqProofs only [go_sem, Bool.false_and, Nat.reduceEqDiff, Nat.reduceAdd, ↓reduceIte]
                    rcases ite_inv H223 with ⟨c224, H225⟩ | ⟨c224, H225⟩
                    · obtain ⟨t2912, b226, H227⟩ := bind_inv H225
                      try simp -implicitDefEqProofs only [go_sem, Nat.reduceAdd, ↓reduceIte, c224]
                      refine onCall_pure (by first | rfl | (simp -implicitDefEqProofs only [go_sem, Bool.false_and, Int.reduceToNat, Int.reduceLT, Int.reduceLE, Int.reduceBEq, Int.reduceBNe, Nat.reduceLT, Nat.reduceBEq, Int.reduceEq, Nat.reduceEqDiff, Nat.reduceAdd, Nat.reduceSub, Nat.reduceMul, Nat.reduceLeDiff, reduceCtorEq, ↓reduceIte, eGWord, eGLine, eGFact, eGAsk, eGPair, eGRoles, eGGrant, c200, c204, c206, c208, c218, c224]; done) | (simp -implicitDefEqProofs only [go_sem, Bool.false_and, Int.reduceToNat, Int.reduceLT, Int.reduceLE, Int.reduceBEq, Int.reduceBNe, Nat.reduceLT, Nat.reduceBEq, Int.reduceEq, Nat.reduceEqDiff, Nat.reduceAdd, Nat.reduceSub, Nat.reduceMul, Nat.reduceLeDiff, reduceCtorEq, ↓reduceIte, eGWord, eGLine, eGFact, eGAsk, eGPair, eGRoles, eGGrant, c200, c204, c206, c208, c218, c224]; rfl)) (law15_awake_ok b226) (by first | exact .inr rfl | exact .inl rfl) ?_
                      try simp -implicitDefEqProofs only [go_sem, Bool.false_and, Nat.reduceEqDiff, Nat.reduceAdd, ↓reduceIte]
                      obtain rfl := Option.some.inj H227
                      exact end_pure (by first | (simp -implicitDefEqProofs only [go_sem, ↓reduceIte, Try.f7] <;> rfl) | rfl) (by first | rfl | (simp -implicitDefEqProofs only [go_sem, Bool.false_and, Int.reduceToNat, Int.reduceLT, Int.reduceLE, Int.reduceBEq, Int.reduceBNe, Nat.reduceLT, Nat.reduceBEq, Int.reduceEq, Nat.reduceEqDiff, Nat.reduceAdd, Nat.reduceSub, Nat.reduceMul, Nat.reduceLeDiff, reduceCtorEq, ↓reduceIte, eGWord, eGLine, eGFact, eGAsk, eGPair, eGRoles, eGGrant, c200, c204, c206, c208, c218, c224]; done) | (simp -implicitDefEqProofs only [go_sem, Bool.false_and, Int.reduceToNat, Int.reduceLT, Int.reduceLE, Int.reduceBEq, Int.reduceBNe, Nat.reduceLT, Nat.reduceBEq, Int.reduceEq, Nat.reduceEqDiff, Nat.reduceAdd, Nat.reduceSub, Nat.reduceMul, Nat.reduceLeDiff, reduceCtorEq, ↓reduceIte, eGWord, eGLine, eGFact, eGAsk, eGPair, eGRoles, eGGrant, c200, c204, c206, c208, c218, c224]; rfl)) rfl (by intro h; first | rfl | cases h)
                    · try simp -implicitDefEqProofs only [go_sem, Nat.reduceEqDiff, Nat.reduceAdd, ↓reduceIte, c224]
                      obtain rfl := Option.some.inj H225
                      exact end_pure (by first | (simp -implicitDefEqProofs only [go_sem, ↓reduceIte, Try.f7] <;> rfl) | rfl) (by first | rfl | (simp -implicitDefEqProofs only [go_sem, Bool.false_and, Int.reduceToNat, Int.reduceLT, Int.reduceLE, Int.reduceBEq, Int.reduceBNe, Nat.reduceLT, Nat.reduceBEq, Int.reduceEq, Nat.reduceEqDiff, Nat.reduceAdd, Nat.reduceSub, Nat.reduceMul, Nat.reduceLeDiff, reduceCtorEq, ↓reduceIte, eGWord, eGLine, eGFact, eGAsk, eGPair, eGRoles, eGGrant, c200, c204, c206, c208, c218, c224]; done) | (simp -implicitDefEqProofs only [go_sem, Bool.false_and, Int.reduceToNat, Int.reduceLT, Int.reduceLE, Int.reduceBEq, Int.reduceBNe, Nat.reduceLT, Nat.reduceBEq, Int.reduceEq, Nat.reduceEqDiff, Nat.reduceAdd, Nat.reduceSub, Nat.reduceMul, Nat.reduceLeDiff, reduceCtorEq, ↓reduceIte, eGWord, eGLine, eGFact, eGAsk, eGPair, eGRoles, eGGrant, c200, c204, c206, c208, c218, c224]; rfl)) rfl (by intro h; first | rfl | cases h)
                  · try simp -implicitDefEqProofs only [go_sem, Nat.reduceEqDiff, Nat.reduceAdd, ↓reduceIte, c218]
                    obtain rfl := Option.some.inj H219
                    exact end_pure (by first | (simp -implicitDefEqProofs only [go_sem, ↓reduceIte, Try.f7] <;> rfl) | rfl) (by first | rfl | (simp -implicitDefEqProofs only [go_sem, Bool.false_and, Int.reduceToNat, Int.reduceLT, Int.reduceLE, Int.reduceBEq, Int.reduceBNe, Nat.reduceLT, Nat.reduceBEq, Int.reduceEq, Nat.reduceEqDiff, Nat.reduceAdd, Nat.reduceSub, Nat.reduceMul, Nat.reduceLeDiff, reduceCtorEq, ↓reduceIte, eGWord, eGLine, eGFact, eGAsk, eGPair, eGRoles, eGGrant, c200, c204, c206, c208, c218]; done) | (simp -implicitDefEqProofs only [go_sem, Bool.false_and, Int.reduceToNat, Int.reduceLT, Int.reduceLE, Int.reduceBEq, Int.reduceBNe, Nat.reduceLT, Nat.reduceBEq, Int.reduceEq, Nat.reduceEqDiff, Nat.reduceAdd, Nat.reduceSub, Nat.reduceMul, Nat.reduceLeDiff, reduceCtorEq, ↓reduceIte, eGWord, eGLine, eGFact, eGAsk, eGPair, eGRoles, eGGrant, c200, c204, c206, c208, c218]; rfl)) rfl (by intro h; first | rfl | cases h)
              · try simp -implicitDefEqProofs only [go_sem, Nat.reduceEqDiff, Nat.reduceAdd, ↓reduceIte, c206]
                obtain rfl := Option.some.inj H207
                exact end_pure (by first | (simp -implicitDefEqProofs only [go_sem, ↓reduceIte, Try.f7] <;> rfl) | rfl) (by first | rfl | (simp -implicitDefEqProofs only [go_sem, Bool.false_and, Int.reduceToNat, Int.reduceLT, Int.reduceLE, Int.reduceBEq, Int.reduceBNe, Nat.reduceLT, Nat.reduceBEq, Int.reduceEq, Nat.reduceEqDiff, Nat.reduceAdd, Nat.reduceSub, Nat.reduceMul, Nat.reduceLeDiff, reduceCtorEq, ↓reduceIte, eGWord, eGLine, eGFact, eGAsk, eGPair, eGRoles, eGGrant, c200, c204, c206]; done) | (simp -implicitDefEqProofs only [go_sem, Bool.false_and, Int.reduceToNat, Int.reduceLT, Int.reduceLE, Int.reduceBEq, Int.reduceBNe, Nat.reduceLT, Nat.reduceBEq, Int.reduceEq, Nat.reduceEqDiff, Nat.reduceAdd, Nat.reduceSub, Nat.reduceMul, Nat.reduceLeDiff, reduceCtorEq, ↓reduceIte, eGWord, eGLine, eGFact, eGAsk, eGPair, eGRoles, eGGrant, c200, c204, c206]; rfl)) rfl (by intro h; first | rfl | cases h)
            · try simp -implicitDefEqProofs only [go_sem, Nat.reduceEqDiff, Nat.reduceAdd, ↓reduceIte, c204]
              rcases ite_inv H205 with ⟨c228, H229⟩ | ⟨c228, H229⟩
              · try simp -implicitDefEqProofs only [go_sem, Nat.reduceEqDiff, Nat.reduceAdd, ↓reduceIte, c228]
                rcases ite_inv H229 with ⟨c230, H231⟩ | ⟨c230, H231⟩
                · obtain ⟨t2873, b232, H233⟩ := bind_inv H231
                  try simp -implicitDefEqProofs only [go_sem, Nat.reduceEqDiff, Nat.reduceAdd, ↓reduceIte, c230]
                  refine onCall_pure (by first | rfl | (simp -implicitDefEqProofs only [go_sem, Bool.false_and, Int.reduceToNat, Int.reduceLT, Int.reduceLE, Int.reduceBEq, Int.reduceBNe, Nat.reduceLT, Nat.reduceBEq, Int.reduceEq, Nat.reduceEqDiff, Nat.reduceAdd, Nat.reduceSub, Nat.reduceMul, Nat.reduceLeDiff, reduceCtorEq, ↓reduceIte, eGWord, eGLine, eGFact, eGAsk, eGPair, eGRoles, eGGrant, c200, c204, c228, c230]; done) | (simp -implicitDefEqProofs only [go_sem, Bool.false_and, Int.reduceToNat, Int.reduceLT, Int.reduceLE, Int.reduceBEq, Int.reduceBNe, Nat.reduceLT, Nat.reduceBEq, Int.reduceEq, Nat.reduceEqDiff, Nat.reduceAdd, Nat.reduceSub, Nat.reduceMul, Nat.reduceLeDiff, reduceCtorEq, ↓reduceIte, eGWord, eGLine, eGFact, eGAsk, eGPair, eGRoles, eGGrant, c200, c204, c228, c230]; rfl)) (ref1_Texts_ok b232) (by first | exact .inr rfl | exact .inl rfl) ?_
                  obtain ⟨t2883, b234, H235⟩ := bind_inv H233
                  try simp -implicitDefEqProofs only [go_sem, Bool.false_and, Nat.reduceEqDiff, Nat.reduceAdd, ↓reduceIte]
                  refine onCall_pure (by first | rfl | (simp -implicitDefEqProofs only [go_sem, Bool.false_and, Int.reduceToNat, Int.reduceLT, Int.reduceLE, Int.reduceBEq, Int.reduceBNe, Nat.reduceLT, Nat.reduceBEq, Int.reduceEq, Nat.reduceEqDiff, Nat.reduceAdd, Nat.reduceSub, Nat.reduceMul, Nat.reduceLeDiff, reduceCtorEq, ↓reduceIte, eGWord, eGLine, eGFact, eGAsk, eGPair, eGRoles, eGGrant, c200, c204, c228, c230]; done) | (simp -implicitDefEqProofs only [go_sem, Bool.false_and, Int.reduceToNat, Int.reduceLT, Int.reduceLE, Int.reduceBEq, Int.reduceBNe, Nat.reduceLT, Nat.reduceBEq, Int.reduceEq, Nat.reduceEqDiff, Nat.reduceAdd, Nat.reduceSub, Nat.reduceMul, Nat.reduceLeDiff, reduceCtorEq, ↓reduceIte, eGWord, eGLine, eGFact, eGAsk, eGPair, eGRoles, eGGrant, c200, c204, c228, c230]; rfl)) (ref1_SameTexts_ok b234) (by first | exact .inr rfl | exact .inl rfl) ?_
                  try simp -implicitDefEqProofs only [go_sem, Bool.false_and, Nat.reduceEqDiff, Nat.reduceAdd, ↓reduceIte]
                  rcases ite_inv H235 with ⟨c236, H237⟩ | ⟨c236, H237⟩
                  · obtain ⟨t2913, b238, H239⟩ := bind_inv H237
                    try simp -implicitDefEqProofs only [go_sem, Nat.reduceAdd, ↓reduceIte, c236]
                    refine onCall_pure (by first | rfl | (simp -implicitDefEqProofs only [go_sem, Bool.false_and, Int.reduceToNat, Int.reduceLT, Int.reduceLE, Int.reduceBEq, Int.reduceBNe, Nat.reduceLT, Nat.reduceBEq, Int.reduceEq, Nat.reduceEqDiff, Nat.reduceAdd, Nat.reduceSub, Nat.reduceMul, Nat.reduceLeDiff, reduceCtorEq, ↓reduceIte, eGWord, eGLine, eGFact, eGAsk, eGPair, eGRoles, eGGrant, c200, c204, c228, c230, c236]; done) | (simp -implicitDefEqProofs only [go_sem, Bool.false_and, Int.reduceToNat, Int.reduceLT, Int.reduceLE, Int.reduceBEq, Int.reduceBNe, Nat.reduceLT, Nat.reduceBEq, Int.reduceEq, Nat.reduceEqDiff, Nat.reduceAdd, Nat.reduceSub, Nat.reduceMul, Nat.reduceLeDiff, reduceCtorEq, ↓reduceIte, eGWord, eGLine, eGFact, eGAsk, eGPair, eGRoles, eGGrant, c200, c204, c228, c230, c236]; rfl)) (law15_awake_ok b238) (by first | exact .inr rfl | exact .inl rfl) ?_
                    try simp -implicitDefEqProofs only [go_sem, Bool.false_and, Nat.reduceEqDiff, Nat.reduceAdd, ↓reduceIte]
                    obtain rfl := Option.some.inj H239
                    exact end_pure (by first | (simp -implicitDefEqProofs only [go_sem, ↓reduceIte, Try.f7] <;> rfl) | rfl) (by first | rfl | (simp -implicitDefEqProofs only [go_sem, Bool.false_and, Int.reduceToNat, Int.reduceLT, Int.reduceLE, Int.reduceBEq, Int.reduceBNe, Nat.reduceLT, Nat.reduceBEq, Int.reduceEq, Nat.reduceEqDiff, Nat.reduceAdd, Nat.reduceSub, Nat.reduceMul, Nat.reduceLeDiff, reduceCtorEq, ↓reduceIte, eGWord, eGLine, eGFact, eGAsk, eGPair, eGRoles, eGGrant, c200, c204, c228, c230, c236]; done) | (simp -implicitDefEqProofs only [go_sem, Bool.false_and, Int.reduceToNat, Int.reduceLT, Int.reduceLE, Int.reduceBEq, Int.reduceBNe, Nat.reduceLT, Nat.reduceBEq, Int.reduceEq, Nat.reduceEqDiff, Nat.reduceAdd, Nat.reduceSub, Nat.reduceMul, Nat.reduceLeDiff, reduceCtorEq, ↓reduceIte, eGWord, eGLine, eGFact, eGAsk, eGPair, eGRoles, eGGrant, c200, c204, c228, c230, c236]; rfl)) rfl (by intro h; first | rfl | cases h)
                  · try simp -implicitDefEqProofs only [go_sem, Nat.reduceEqDiff, Nat.reduceAdd, ↓reduceIte, c236]
                    obtain rfl := Option.some.inj H237
                    exact end_pure (by first | (simp -implicitDefEqProofs only [go_sem, ↓reduceIte, Try.f7] <;> rfl) | rfl) (by first | rfl | (simp -implicitDefEqProofs only [go_sem, Bool.false_and, Int.reduceToNat, Int.reduceLT, Int.reduceLE, Int.reduceBEq, Int.reduceBNe, Nat.reduceLT, Nat.reduceBEq, Int.reduceEq, Nat.reduceEqDiff, Nat.reduceAdd, Nat.reduceSub, Nat.reduceMul, Nat.reduceLeDiff, reduceCtorEq, ↓reduceIte, eGWord, eGLine, eGFact, eGAsk, eGPair, eGRoles, eGGrant, c200, c204, c228, c230, c236]; done) | (simp -implicitDefEqProofs only [go_sem, Bool.false_and, Int.reduceToNat, Int.reduceLT, Int.reduceLE, Int.reduceBEq, Int.reduceBNe, Nat.reduceLT, Nat.reduceBEq, Int.reduceEq, Nat.reduceEqDiff, Nat.reduceAdd, Nat.reduceSub, Nat.reduceMul, Nat.reduceLeDiff, reduceCtorEq, ↓reduceIte, eGWord, eGLine, eGFact, eGAsk, eGPair, eGRoles, eGGrant, c200, c204, c228, c230, c236]; rfl)) rfl (by intro h; first | rfl | cases h)
                · try simp -implicitDefEqProofs only [go_sem, Nat.reduceEqDiff, Nat.reduceAdd, ↓reduceIte, c230]
                  rcases ite_inv H231 with ⟨c240, H241⟩ | ⟨c240, H241⟩
                  · obtain ⟨t2874, b242, H243⟩ := bind_inv H241
                    try simp -implicitDefEqProofs only [go_sem, Nat.reduceEqDiff, Nat.reduceAdd, ↓reduceIte, c240]
                    refine onCall_pure (by first | rfl | (simp -implicitDefEqProofs only [go_sem, Bool.false_and, Int.reduceToNat, Int.reduceLT, Int.reduceLE, Int.reduceBEq, Int.reduceBNe, Nat.reduceLT, Nat.reduceBEq, Int.reduceEq, Nat.reduceEqDiff, Nat.reduceAdd, Nat.reduceSub, Nat.reduceMul, Nat.reduceLeDiff, reduceCtorEq, ↓reduceIte, eGWord, eGLine, eGFact, eGAsk, eGPair, eGRoles, eGGrant, c200, c204, c228, c230, c240]; done) | (simp -implicitDefEqProofs only [go_sem, Bool.false_and, Int.reduceToNat, Int.reduceLT, Int.reduceLE, Int.reduceBEq, Int.reduceBNe, Nat.reduceLT, Nat.reduceBEq, Int.reduceEq, Nat.reduceEqDiff, Nat.reduceAdd, Nat.reduceSub, Nat.reduceMul, Nat.reduceLeDiff, reduceCtorEq, ↓reduceIte, eGWord, eGLine, eGFact, eGAsk, eGPair, eGRoles, eGGrant, c200, c204, c228, c230, c240]; rfl)) (ref1_Texts_ok b242) (by first | exact .inr rfl | exact .inl rfl) ?_
                    obtain ⟨t2884, b244, H245⟩ := bind_inv H243
                    try simp -implicitDefEqProofs only [go_sem, Bool.false_and, Nat.reduceEqDiff, Nat.reduceAdd, ↓reduceIte]
                    refine onCall_pure (by first | rfl | (simp -implicitDefEqProofs only [go_sem, Bool.false_and, Int.reduceToNat, Int.reduceLT, Int.reduceLE, Int.reduceBEq, Int.reduceBNe, Nat.reduceLT, Nat.reduceBEq, Int.reduceEq, Nat.reduceEqDiff, Nat.reduceAdd, Nat.reduceSub, Nat.reduceMul, Nat.reduceLeDiff, reduceCtorEq, ↓reduceIte, eGWord, eGLine, eGFact, eGAsk, eGPair, eGRoles, eGGrant, c200, c204, c228, c230, c240]; done) | (simp -implicitDefEqProofs only [go_sem, Bool.false_and, Int.reduceToNat, Int.reduceLT, Int.reduceLE, Int.reduceBEq, Int.reduceBNe, Nat.reduceLT, Nat.reduceBEq, Int.reduceEq, Nat.reduceEqDiff, Nat.reduceAdd, Nat.reduceSub, Nat.reduceMul, Nat.reduceLeDiff, reduceCtorEq, ↓reduceIte, eGWord, eGLine, eGFact, eGAsk, eGPair, eGRoles, eGGrant, c200, c204, c228, c230, c240]; rfl)) (ref1_SameTexts_ok b244) (by first | exact .inr rfl | exact .inl rfl) ?_
                    try simp -implicitDefEqProofs only [go_sem, Bool.false_and, Nat.reduceEqDiff, Nat.reduceAdd, ↓reduceIte]
                    rcases ite_inv H245 with ⟨c246, H247⟩ | ⟨c246, H247⟩
                    · obtain ⟨t2914, b248, H249⟩ := bind_inv H247
                      try simp -implicitDefEqProofs only [go_sem, Nat.reduceAdd, ↓reduceIte, c246]
                      refine onCall_pure (by first | rfl | (simp -implicitDefEqProofs only [go_sem, Bool.false_and, Int.reduceToNat, Int.reduceLT, Int.reduceLE, Int.reduceBEq, Int.reduceBNe, Nat.reduceLT, Nat.reduceBEq, Int.reduceEq, Nat.reduceEqDiff, Nat.reduceAdd, Nat.reduceSub, Nat.reduceMul, Nat.reduceLeDiff, reduceCtorEq, ↓reduceIte, eGWord, eGLine, eGFact, eGAsk, eGPair, eGRoles, eGGrant, c200, c204, c228, c230, c240, c246]; done) | (simp -implicitDefEqProofs only [go_sem, Bool.false_and, Int.reduceToNat, Int.reduceLT, Int.reduceLE, Int.reduceBEq, Int.reduceBNe, Nat.reduceLT, Nat.reduceBEq, Int.reduceEq, Nat.reduceEqDiff, Nat.reduceAdd, Nat.reduceSub, Nat.reduceMul, Nat.reduceLeDiff, reduceCtorEq, ↓reduceIte, eGWord, eGLine, eGFact, eGAsk, eGPair, eGRoles, eGGrant, c200, c204, c228, c230, c240, c246]; rfl)) (law15_awake_ok b248) (by first | exact .inr rfl | exact .inl rfl) ?_
                      try simp -implicitDefEqProofs only [go_sem, Bool.false_and, Nat.reduceEqDiff, Nat.reduceAdd, ↓reduceIte]
                      obtain rfl := Option.some.inj H249
                      exact end_pure (by first | (simp -implicitDefEqProofs only [go_sem, ↓reduceIte, Try.f7] <;> rfl) | rfl) (by first | rfl | (simp -implicitDefEqProofs only [go_sem, Bool.false_and, Int.reduceToNat, Int.reduceLT, Int.reduceLE, Int.reduceBEq, Int.reduceBNe, Nat.reduceLT, Nat.reduceBEq, Int.reduceEq, Nat.reduceEqDiff, Nat.reduceAdd, Nat.reduceSub, Nat.reduceMul, Nat.reduceLeDiff, reduceCtorEq, ↓reduceIte, eGWord, eGLine, eGFact, eGAsk, eGPair, eGRoles, eGGrant, c200, c204, c228, c230, c240, c246]; done) | (simp -implicitDefEqProofs only [go_sem, Bool.false_and, Int.reduceToNat, Int.reduceLT, Int.reduceLE, Int.reduceBEq, Int.reduceBNe, Nat.reduceLT, Nat.reduceBEq, Int.reduceEq, Nat.reduceEqDiff, Nat.reduceAdd, Nat.reduceSub, Nat.reduceMul, Nat.reduceLeDiff, reduceCtorEq, ↓reduceIte, eGWord, eGLine, eGFact, eGAsk, eGPair, eGRoles, eGGrant, c200, c204, c228, c230, c240, c246]; rfl)) rfl (by intro h; first | rfl | cases h)
                    · try simp -implicitDefEqProofs only [go_sem, Nat.reduceEqDiff, Nat.reduceAdd, ↓reduceIte, c246]
                      obtain rfl := Option.some.inj H247
                      exact end_pure (by first | (simp -implicitDefEqProofs only [go_sem, ↓reduceIte, Try.f7] <;> rfl) | rfl) (by first | rfl | (simp -implicitDefEqProofs only [go_sem, Bool.false_and, Int.reduceToNat, Int.reduceLT, Int.reduceLE, Int.reduceBEq, Int.reduceBNe, Nat.reduceLT, Nat.reduceBEq, Int.reduceEq, Nat.reduceEqDiff, Nat.reduceAdd, Nat.reduceSub, Nat.reduceMul, Nat.reduceLeDiff, reduceCtorEq, ↓reduceIte, eGWord, eGLine, eGFact, eGAsk, eGPair, eGRoles, eGGrant, c200, c204, c228, c230, c240, c246]; done) | (simp -implicitDefEqProofs only [go_sem, Bool.false_and, Int.reduceToNat, Int.reduceLT, Int.reduceLE, Int.reduceBEq, Int.reduceBNe, Nat.reduceLT, Nat.reduceBEq, Int.reduceEq, Nat.reduceEqDiff, Nat.reduceAdd, Nat.reduceSub, Nat.reduceMul, Nat.reduceLeDiff, reduceCtorEq, ↓reduceIte, eGWord, eGLine, eGFact, eGAsk, eGPair, eGRoles, eGGrant, c200, c204, c228, c230, c240, c246]; rfl)) rfl (by intro h; first | rfl | cases h)
                  · try simp -implicitDefEqProofs only [go_sem, Nat.reduceEqDiff, Nat.reduceAdd, ↓reduceIte, c240]
                    obtain rfl := Option.some.inj H241
                    exact end_pure (by first | (simp -implicitDefEqProofs only [go_sem, ↓reduceIte, Try.f7] <;> rfl) | rfl) (by first | rfl | (simp -implicitDefEqProofs only [go_sem, Bool.false_and, Int.reduceToNat, Int.reduceLT, Int.reduceLE, Int.reduceBEq, Int.reduceBNe, Nat.reduceLT, Nat.reduceBEq, Int.reduceEq, Nat.reduceEqDiff, Nat.reduceAdd, Nat.reduceSub, Nat.reduceMul, Nat.reduceLeDiff, reduceCtorEq, ↓reduceIte, eGWord, eGLine, eGFact, eGAsk, eGPair, eGRoles, eGGrant, c200, c204, c228, c230, c240]; done) | (simp -implicitDefEqProofs only [go_sem, Bool.false_and, Int.reduceToNat, Int.reduceLT, Int.reduceLE, Int.reduceBEq, Int.reduceBNe, Nat.reduceLT, Nat.reduceBEq, Int.reduceEq, Nat.reduceEqDiff, Nat.reduceAdd, Nat.reduceSub, Nat.reduceMul, Nat.reduceLeDiff, reduceCtorEq, ↓reduceIte, eGWord, eGLine, eGFact, eGAsk, eGPair, eGRoles, eGGrant, c200, c204, c228, c230, c240]; rfl)) rfl (by intro h; first | rfl | cases h)
              · try simp -implicitDefEqProofs only [go_sem, Nat.reduceEqDiff, Nat.reduceAdd, ↓reduceIte, c228]
                obtain rfl := Option.some.inj H229
                exact end_pure (by first | (simp -implicitDefEqProofs only [go_sem, ↓reduceIte, Try.f7] <;> rfl) | rfl) (by first | rfl | (simp -implicitDefEqProofs only [go_sem, Bool.false_and, Int.reduceToNat, Int.reduceLT, Int.reduceLE, Int.reduceBEq, Int.reduceBNe, Nat.reduceLT, Nat.reduceBEq, Int.reduceEq, Nat.reduceEqDiff, Nat.reduceAdd, Nat.reduceSub, Nat.reduceMul, Nat.reduceLeDiff, reduceCtorEq, ↓reduceIte, eGWord, eGLine, eGFact, eGAsk, eGPair, eGRoles, eGGrant, c200, c204, c228]; done) | (simp -implicitDefEqProofs only [go_sem, Bool.false_and, Int.reduceToNat, Int.reduceLT, Int.reduceLE, Int.reduceBEq, Int.reduceBNe, Nat.reduceLT, Nat.reduceBEq, Int.reduceEq, Nat.reduceEqDiff, Nat.reduceAdd, Nat.reduceSub, Nat.reduceMul, Nat.reduceLeDiff, reduceCtorEq, ↓reduceIte, eGWord, eGLine, eGFact, eGAsk, eGPair, eGRoles, eGGrant, c200, c204, c228]; rfl)) rfl (by intro h; first | rfl | cases h)
end Go.Proofs.Ytkkhgdmmbhpckaa.Ab
