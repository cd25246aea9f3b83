/-
  Functions, read off the code.
-/
import Derived.Test.YtkkhgdmmbhpckaaLrs
import Derived.Test.YtkkhgdmmbhpckaaGrm
namespace Go.Proofs.Ytkkhgdmmbhpckaa.Ab
open Go.RowKit
noncomputable def law24_GlobRules_L1 (n : Nat) (t24 : GPolicy) (t26 : GAsk) (t28 : GPolicy) : Nat → (Bool × Int) → Option ((Bool) ⊕ Bool)
  | 0, _ => none
  | c + 1, (t10, t11) =>
    (if (decide (t11 < (t28.stmts.length : Int))) then
      (app [] t24.stmts).bind fun _ =>
      (idx t28.stmts t11).bind fun x2 =>
      (app t24.stmts [x2]).bind fun l4 =>
      (glob_May n (⟨t24.users, t24.actions, t24.resources, t24.groups, l4, t24.bounds⟩ : GPolicy) t26.who t26.act t26.obj).bind fun t642 =>
      (if x2.deny then
        (if t642 then
          (if t10 then
            law24_GlobRules_L1 n t24 t26 t28 c (true, (IntKind.i64.wrap (t11 + 1)))
          else
            some (.inr false))
        else
          law24_GlobRules_L1 n t24 t26 t28 c (t10, (IntKind.i64.wrap (t11 + 1))))
      else
        (if t10 then
          (if t642 then
            law24_GlobRules_L1 n t24 t26 t28 c (true, (IntKind.i64.wrap (t11 + 1)))
          else
            some (.inr false))
        else
          law24_GlobRules_L1 n t24 t26 t28 c (false, (IntKind.i64.wrap (t11 + 1)))))
    else
      some (.inl t10))

noncomputable def law24_GlobRules_L2 (n : Nat) (t24 : GPolicy) (t26 : GAsk) : Nat → (Bool × Int) → Option (Bool)
  | 0, _ => none
  | c + 1, (t14, t15) =>
    (if (decide (t15 < (t24.bounds.length : Int))) then
      (if t14 then
        (idx t24.bounds t15).bind fun x4 =>
        law24_GlobRules_L2 n t24 t26 c ((!(x4.user.toList == t26.who.toList)), (IntKind.i64.wrap (t15 + 1)))
      else
        law24_GlobRules_L2 n t24 t26 c (false, (IntKind.i64.wrap (t15 + 1))))
    else
      some t14)

noncomputable def law24_GlobRules_L3 (n : Nat) (t24 : GPolicy) (t26 : GAsk) (t28 : GPolicy) : Nat → (Bool × Bool × Int) → Option ((Bool) ⊕ Bool)
  | 0, _ => none
  | c + 1, (t104, t144, t16) =>
    (if (decide (t16 < (t28.bounds.length : Int))) then
      (app [] t24.bounds).bind fun _ =>
      (idx t28.bounds t16).bind fun x6 =>
      (app t24.bounds [x6]).bind fun l8 =>
      (glob_May n (⟨t24.users, t24.actions, t24.resources, t24.groups, t24.stmts, l8⟩ : GPolicy) t26.who t26.act t26.obj).bind fun t1402 =>
      (if t144 then
        (if t1402 then
          (if t104 then
            (if (x6.user.toList == t26.who.toList) then
              law24_GlobRules_L3 n t24 t26 t28 c (true, true, (IntKind.i64.wrap (t16 + 1)))
            else
              law24_GlobRules_L3 n t24 t26 t28 c (true, true, (IntKind.i64.wrap (t16 + 1))))
          else
            some (.inr false))
        else
          (if (x6.user.toList == t26.who.toList) then
            law24_GlobRules_L3 n t24 t26 t28 c (t104, true, (IntKind.i64.wrap (t16 + 1)))
          else
            (if (false == t104) then
              law24_GlobRules_L3 n t24 t26 t28 c (t104, true, (IntKind.i64.wrap (t16 + 1)))
            else
              some (.inr false))))
      else
        (if (x6.user.toList == t26.who.toList) then
          law24_GlobRules_L3 n t24 t26 t28 c (t104, false, (IntKind.i64.wrap (t16 + 1)))
        else
          (if (t1402 == t104) then
            law24_GlobRules_L3 n t24 t26 t28 c (t104, false, (IntKind.i64.wrap (t16 + 1)))
          else
            some (.inr false))))
    else
      some (.inl t104))

noncomputable def law24_GlobRules_L4 (n : Nat) (t24 : GPolicy) : Nat → (List GStmt × Int) → Option (List GStmt)
  | 0, _ => none
  | c + 1, (t194, t20) =>
    (if (decide (t20 < (t24.stmts.length : Int))) then
      (idx t24.stmts t20).bind fun x8 =>
      (if x8.deny then
        (app t194 [(⟨x8.sid, true, x8.users, x8.groups, x8.actions, x8.resources⟩ : GStmt)]).bind fun l9 =>
        law24_GlobRules_L4 n t24 c (l9, (IntKind.i64.wrap (t20 + 1)))
      else
        law24_GlobRules_L4 n t24 c (t194, (IntKind.i64.wrap (t20 + 1))))
    else
      some t194)
noncomputable def law24_GlobRules_L4_f (_ : Nat) (_ : GPolicy) (st : List GStmt) (x8 : GStmt) (k : List GStmt → Option (List GStmt)) : Option (List GStmt) :=
  match st with
  | t194 =>
    (if x8.deny then
      (app t194 [(⟨x8.sid, true, x8.users, x8.groups, x8.actions, x8.resources⟩ : GStmt)]).bind fun l9 =>
      k l9
    else
      k t194)
noncomputable def law24_GlobRules_L4_e (_ : Nat) (_ : GPolicy) (st : List GStmt) : Option (List GStmt) :=
  match st with
  | t194 => some t194
theorem law24_GlobRules_L4_list (n : Nat) (t24 : GPolicy) (hx : t24.stmts.length < 4611686018427387904) (c : Nat) (st : List GStmt) (ix : Nat) (hi : ix ≤ t24.stmts.length) (hc : t24.stmts.length - ix < c) : law24_GlobRules_L4 n t24 c (match st, (ix : Int) with | t194, ix => (t194, ix)) = foldK (law24_GlobRules_L4_f n t24) (law24_GlobRules_L4_e n t24) (t24.stmts.drop ix) st :=
  loop_list (fun c st ix => law24_GlobRules_L4 n t24 c (match st, ix with | t194, ix => (t194, ix))) t24.stmts (law24_GlobRules_L4_f n t24) (law24_GlobRules_L4_e n t24) (fun _ _ _ => rfl) hx c st ix hi hc

noncomputable def law24_GlobRules (n : Nat) (t0 : List Int) (t1 : List Int) (t2 : Int) : Option Bool :=
  (law23_Made n t0).bind fun t24 =>
  (law24_Ask n t2).bind fun t26 =>
  (law23_Made n t1).bind fun t28 =>
  (glob_May n t24 t26.who t26.act t26.obj).bind fun t36 =>
  (
    law24_GlobRules_L1 n t24 t26 t28 n (t36, 0) : Option ((Bool) ⊕ Bool)).bind fun
    | .inl t103 =>
      (
        law24_GlobRules_L2 n t24 t26 n (true, 0) : Option (Bool)).bind fun t143 =>
      (
        law24_GlobRules_L3 n t24 t26 t28 n (t103, t143, 0) : Option ((Bool) ⊕ Bool)).bind fun
        | .inl t106 =>
          (
            law24_GlobRules_L4 n t24 n ([], 0) : Option (List GStmt)).bind fun t1943 =>
          (
            (if (t26.who.toList == ({ data := #[120] } : ByteArray).toList) then
              some (t1943, false)
            else
              (if (t26.act.toList == ({ data := #[122] } : ByteArray).toList) then
                some (t1943, false)
              else
                some (t1943, (!(t26.obj.toList == ({ data := #[99] } : ByteArray).toList))))) : Option (List GStmt × Bool)).bind fun (t1944, t22) =>
          (glob_May n (⟨t24.users, t24.actions, t24.resources, t24.groups, t1944, t24.bounds⟩ : GPolicy) t26.who t26.act t26.obj).bind fun t223 =>
          (if t223 then
            some false
          else
            (glob_May n (⟨t24.users, t24.actions, t24.resources, [], [(⟨{ data := #[97] }, false, t24.users, [], [{ data := #[42] }], [{ data := #[42] }]⟩ : GStmt)], []⟩ : GPolicy) t26.who t26.act t26.obj).bind fun t233 =>
            (if (t233 == t22) then
              (if t106 then
                (if t22 then
                  (law24_awake n).bind fun t245 =>
                  some t245
                else
                  some false)
              else
                (law24_awake n).bind fun t2452 =>
                some t2452)
            else
              some false))
        | .inr r => some r
    | .inr r => some r
set_option maxHeartbeats 8000000 in
theorem law24_GlobRules_ok {n : Nat} {t0 : List Int} {t1 : List Int} {t2 : Int} {r : Bool} (H : law24_GlobRules n t0 t1 t2 = some r) : PureOK Try.prog 6 [D.sl (List.map eI t0), D.sl (List.map eI t1), D.v (.int .i64 t2)] (D.v (.bool r)) true := by
  unfold law24_GlobRules at H
  refine pure_runR (tab := tab) tab_ok Try.func6 rfl (by kernel_rfl) (by kernel_rfl) (by simp [Try.f6]) ?_
  refine runR_seq ?_
  refine runR_take tab_ok fol 1 ?_
  try simp -implicitDefEqProofs only [go_sem]
  refine runR_seq ?_
  refine runR_take tab_ok fol 1 ?_
  obtain ⟨t24, b1, H2⟩ := bind_inv H
  try simp -implicitDefEqProofs only [go_sem, Nat.reduceAdd, reduceCtorEq, ↓reduceIte]
  refine onCall_pure (by first | rfl | (simp -implicitDefEqProofs only [go_sem, Int.reduceToNat, Int.reduceLT, Int.reduceLE, Int.reduceBEq, Int.reduceBNe, Nat.reduceLT, Nat.reduceBEq, Int.reduceEq, Nat.reduceEqDiff, Nat.reduceAdd, Nat.reduceSub, Nat.reduceMul, Nat.reduceLeDiff, reduceCtorEq, ↓reduceIte, eGPolicy, eGAsk]; done) | (simp -implicitDefEqProofs only [go_sem, Int.reduceToNat, Int.reduceLT, Int.reduceLE, Int.reduceBEq, Int.reduceBNe, Nat.reduceLT, Nat.reduceBEq, Int.reduceEq, Nat.reduceEqDiff, Nat.reduceAdd, Nat.reduceSub, Nat.reduceMul, Nat.reduceLeDiff, reduceCtorEq, ↓reduceIte, eGPolicy, eGAsk]; rfl)) (law23_Made_ok b1) (by first | exact .inr rfl | exact .inl rfl) ?_
  obtain ⟨t26, b3, H4⟩ := bind_inv H2
  try simp -implicitDefEqProofs only [go_sem, Nat.reduceEqDiff, Nat.reduceAdd, ↓reduceIte, eGPolicy]
  refine onCall_pure (by first | rfl | (simp -implicitDefEqProofs only [go_sem, Int.reduceToNat, Int.reduceLT, Int.reduceLE, Int.reduceBEq, Int.reduceBNe, Nat.reduceLT, Nat.reduceBEq, Int.reduceEq, Nat.reduceEqDiff, Nat.reduceAdd, Nat.reduceSub, Nat.reduceMul, Nat.reduceLeDiff, reduceCtorEq, ↓reduceIte, eGPolicy, eGAsk]; done) | (simp -implicitDefEqProofs only [go_sem, Int.reduceToNat, Int.reduceLT, Int.reduceLE, Int.reduceBEq, Int.reduceBNe, Nat.reduceLT, Nat.reduceBEq, Int.reduceEq, Nat.reduceEqDiff, Nat.reduceAdd, Nat.reduceSub, Nat.reduceMul, Nat.reduceLeDiff, reduceCtorEq, ↓reduceIte, eGPolicy, eGAsk]; rfl)) (law24_Ask_ok b3) (by first | exact .inr rfl | exact .inl rfl) ?_
  try simp -implicitDefEqProofs only [go_sem, Nat.reduceEqDiff, Nat.reduceAdd, ↓reduceIte, eGAsk]
  refine runR_seq ?_
  refine runR_take tab_ok fol 1 ?_
  obtain ⟨t28, b5, H6⟩ := bind_inv H4
  try simp -implicitDefEqProofs only [go_sem, Nat.reduceEqDiff, Nat.reduceAdd, ↓reduceIte]
  refine onCall_pure (by first | rfl | (simp -implicitDefEqProofs only [go_sem, Int.reduceToNat, Int.reduceLT, Int.reduceLE, Int.reduceBEq, Int.reduceBNe, Nat.reduceLT, Nat.reduceBEq, Int.reduceEq, Nat.reduceEqDiff, Nat.reduceAdd, Nat.reduceSub, Nat.reduceMul, Nat.reduceLeDiff, reduceCtorEq, ↓reduceIte, eGPolicy, eGAsk]; done) | (simp -implicitDefEqProofs only [go_sem, Int.reduceToNat, Int.reduceLT, Int.reduceLE, Int.reduceBEq, Int.reduceBNe, Nat.reduceLT, Nat.reduceBEq, Int.reduceEq, Nat.reduceEqDiff, Nat.reduceAdd, Nat.reduceSub, Nat.reduceMul, Nat.reduceLeDiff, reduceCtorEq, ↓reduceIte, eGPolicy, eGAsk]; rfl)) (law23_Made_ok b5) (by first | exact .inr rfl | exact .inl rfl) ?_
  try simp -implicitDefEqProofs only [go_sem, Nat.reduceEqDiff, Nat.reduceAdd, ↓reduceIte, eGPolicy]
  refine runR_seq ?_
  refine runR_take tab_ok fol 1 ?_
  obtain ⟨t36, b7, H8⟩ := bind_inv H6
  try simp -implicitDefEqProofs only [go_sem, Nat.reduceEqDiff, Nat.reduceAdd, reduceCtorEq, ↓reduceIte]
  refine onCall_pure (by first | rfl | (simp -implicitDefEqProofs only [go_sem, Int.reduceToNat, Int.reduceLT, Int.reduceLE, Int.reduceBEq, Int.reduceBNe, Nat.reduceLT, Nat.reduceBEq, Int.reduceEq, Nat.reduceEqDiff, Nat.reduceAdd, Nat.reduceSub, Nat.reduceMul, Nat.reduceLeDiff, reduceCtorEq, ↓reduceIte, eGPolicy, eGAsk]; done) | (simp -implicitDefEqProofs only [go_sem, Int.reduceToNat, Int.reduceLT, Int.reduceLE, Int.reduceBEq, Int.reduceBNe, Nat.reduceLT, Nat.reduceBEq, Int.reduceEq, Nat.reduceEqDiff, Nat.reduceAdd, Nat.reduceSub, Nat.reduceMul, Nat.reduceLeDiff, reduceCtorEq, ↓reduceIte, eGPolicy, eGAsk]; rfl)) (glob_May_ok b7) (by first | exact .inr rfl | exact .inl rfl) ?_
  try simp -implicitDefEqProofs only [go_sem, Nat.reduceAdd, ↓reduceIte]
  refine runR_seq ?_
  refine runR_seq ?_
  refine runR_take tab_ok fol 1 ?_
  try simp -implicitDefEqProofs only [go_sem, Nat.reduceAdd]
  obtain ⟨e_, E9, H10⟩ := bind_inv H8
  refine runR_join (α := { y : Bool // e_ = .inl y }) (fun | ⟨t103, _⟩ => ⟨upd 7 (.pt 0 0) (upd 8 (.pt 1 0) (upd 9 (.pt 2 0) (upd 10 (.v (.bool t103)) noFr))), upd 0 (some (.bx [.d (.sl (List.map eS t24.users)) false, .d (.sl (List.map eS t24.actions)) false, .d (.sl (List.map eS t24.resources)) false, .d (.sl (List.map eGGroup t24.groups)) false, .d (.sl (List.map eGStmt t24.stmts)) false, .d (.sl (List.map eGBound t24.bounds)) false])) (upd 1 (some (.bx [.v (.bool t26.session), .v (.string t26.who), .v (.string t26.act), .v (.string t26.obj)])) (upd 2 (some (.bx [.d (.sl (List.map eS t28.users)) false, .d (.sl (List.map eS t28.actions)) false, .d (.sl (List.map eS t28.resources)) false, .d (.sl (List.map eGGroup t28.groups)) false, .d (.sl (List.map eGStmt t28.stmts)) false, .d (.sl (List.map eGBound t28.bounds)) false])) noHp)), 3⟩) ?_ ?_
  · refine runR_block ?_
    refine runR_loop (α := { q : Nat × (Bool × Int) // law24_GlobRules_L1 n t24 t26 t28 q.1 q.2 = some e_ }) (fun | ⟨⟨c, ⟨t10, t11⟩⟩, _⟩ => ⟨upd 7 (.pt 0 0) (upd 8 (.pt 1 0) (upd 9 (.pt 2 0) (upd 10 (.v (.bool t10)) (upd 11 (.v (.int .i64 t11)) noFr)))), upd 0 (some (.bx [.d (.sl (List.map eS t24.users)) false, .d (.sl (List.map eS t24.actions)) false, .d (.sl (List.map eS t24.resources)) false, .d (.sl (List.map eGGroup t24.groups)) false, .d (.sl (List.map eGStmt t24.stmts)) false, .d (.sl (List.map eGBound t24.bounds)) false])) (upd 1 (some (.bx [.v (.bool t26.session), .v (.string t26.who), .v (.string t26.act), .v (.string t26.obj)])) (upd 2 (some (.bx [.d (.sl (List.map eS t28.users)) false, .d (.sl (List.map eS t28.actions)) false, .d (.sl (List.map eS t28.resources)) false, .d (.sl (List.map eGGroup t28.groups)) false, .d (.sl (List.map eGStmt t28.stmts)) false, .d (.sl (List.map eGBound t28.bounds)) false])) noHp)), 3⟩) (fun q => q.1.1) ⟨(n, (t36, 0)), E9⟩ ?_ ?_
    · exact ren_mk [(0, 5), (1, 6), (2, 11)] (by rfl) (rf_upd (by rfl) (rf_upd (by rfl) (rf_upd (by rfl) (rf_upd (by rfl) (rf_upd (by rfl) (rf_no _)))))) (rh_upd (rh_one (by rfl) (by rfl) (by rfl)) (rh_upd (rh_one (by rfl) (by rfl) (by rfl)) (rh_upd (rh_one (by rfl) (by rfl) (by rfl)) (rh_no _))))
    · rintro ⟨⟨c, ⟨t10, t11⟩⟩, L11⟩
      rcases c with _ | c
      · exact nomatch (show none = some _ from L11)
      · unfold law24_GlobRules_L1 at L11
        try dsimp only at L11
        refine runR_take tab_ok fol 1 ?_
        try simp -implicitDefEqProofs only [go_sem, Nat.reduceEqDiff, Nat.reduceAdd, reduceCtorEq, ↓reduceIte]
        rcases ite_inv L11 with ⟨c46, H47⟩ | ⟨c46, H47⟩
        · obtain ⟨l3, b48, H49⟩ := bind_inv H47
          obtain ⟨h50, h51⟩ := app_inv b48
          have h51 : t24.stmts = l3 := h51
          subst h51
          have h50 : t24.stmts.length ≤ 4294967296 := by have := h50; simpa using this
          obtain ⟨x2, b54, H55⟩ := bind_inv H49
          obtain ⟨h56, h57⟩ := idx_inv b54
          try simp only [Int.reduceToNat, Int.toNat_natCast] at h57
          have h58 := map_at eGStmt h57
          obtain ⟨l4, b60, H61⟩ := bind_inv H55
          obtain ⟨h62, h63⟩ := app_inv b60
          have h62 : t24.stmts.length + 1 ≤ 4294967296 := h62
          have h64 : List.map eGStmt t24.stmts ++ [[.v (.string x2.sid), .v (.bool x2.deny), .sl (List.map eS x2.users), .sl (List.map eS x2.groups), .sl (List.map eS x2.actions), .sl (List.map eS x2.resources)]] = List.map eGStmt l4 := app_map eGStmt h63
          have h65 : t24.stmts.length + 1 = l4.length := app_len h63
          have h66 : l4.length ≤ 4294967296 := by omega
          have q67 : 0 < l4.length := by omega
          try simp -implicitDefEqProofs only [go_sem, Nat.reduceLT, Nat.reduceEqDiff, Nat.reduceAdd, Nat.reduceMul, Nat.reduceLeDiff, reduceCtorEq, ↓reduceIte, eGStmt, c46, chk_map (n := 6) (f := eGStmt) (fun _ => rfl) t24.stmts, h50, List.take_succ_cons, List.take_zero, nat_of .i64 h56, h58, h64, h65, h66]
          refine Rd_endF (by rfl) ?_
          obtain ⟨t642, b68, H69⟩ := bind_inv H61
          try simp -implicitDefEqProofs only [go_sem, Nat.reduceEqDiff, Nat.reduceAdd, reduceCtorEq, ↓reduceIte, List.take_succ_cons, List.take_zero]
          refine onCall_pure (by first | rfl | (simp -implicitDefEqProofs only [go_sem, Nat.reduceEqDiff, ↓reduceIte, eGPolicy]; done) | (simp -implicitDefEqProofs only [go_sem, Nat.reduceEqDiff, ↓reduceIte, eGPolicy]; rfl)) (glob_May_ok b68) (by first | exact .inr rfl | exact .inl rfl) ?_
          try simp -implicitDefEqProofs only [go_sem, Nat.reduceEqDiff, Nat.reduceAdd, reduceCtorEq, ↓reduceIte, eGStmt, nat_of .i64 h56, h58]
          rcases ite_inv H69 with ⟨c70, H71⟩ | ⟨c70, H71⟩
          · try simp -implicitDefEqProofs only [go_sem, Nat.reduceEqDiff, Nat.reduceAdd, ↓reduceIte, c70]
            rcases ite_inv H71 with ⟨c72, H73⟩ | ⟨c72, H73⟩
            · try simp -implicitDefEqProofs only [go_sem, Nat.reduceEqDiff, Nat.reduceAdd, ↓reduceIte, c72]
              rcases ite_inv H73 with ⟨c74, H75⟩ | ⟨c74, H75⟩
              · try simp -implicitDefEqProofs only [go_sem, Nat.reduceEqDiff, Nat.reduceAdd, reduceCtorEq, ↓reduceIte, eGStmt, nat_of .i64 h56, h58, c70, c74]
                exact ⟨⟨(c, (true, (IntKind.i64.wrap (t11 + 1)))), H75⟩, ren_mk [(0, 0), (1, 1), (2, 2)] (by rfl) (rf_upd (by rfl) (rf_upd (by rfl) (rf_upd (by rfl) (rf_upd (by rfl) (rf_upd (by rfl) (rf_no _)))))) (rh_upd (rh_one (by rfl) (by rfl) (by rfl)) (rh_upd (rh_one (by rfl) (by rfl) (by rfl)) (rh_upd (rh_one (by rfl) (by rfl) (by rfl)) (rh_no _)))), Nat.lt_succ_self _⟩
              · try simp -implicitDefEqProofs only [go_sem, Nat.reduceEqDiff, Nat.reduceAdd, ↓reduceIte, c74]
                obtain rfl := Option.some.inj H75
                obtain rfl := Option.some.inj H10
                exact end_pure (by first | (simp -implicitDefEqProofs only [go_sem, ↓reduceIte, Try.f6] <;> rfl) | rfl) (by first | rfl | (simp -implicitDefEqProofs only [go_sem, Int.reduceToNat, Int.reduceLT, Int.reduceLE, Int.reduceBEq, Int.reduceBNe, Nat.reduceLT, Nat.reduceBEq, Int.reduceEq, Nat.reduceEqDiff, Nat.reduceAdd, Nat.reduceSub, Nat.reduceMul, Nat.reduceLeDiff, reduceCtorEq, ↓reduceIte, eGPolicy, eGAsk, eGStmt, c46, chk_map (n := 6) (f := eGStmt) (fun _ => rfl) t24.stmts, h50, List.take_succ_cons, List.take_zero, nat_of .i64 h56, h58, h62, h64, h65, h66, c70, c72, c74]; done) | (simp -implicitDefEqProofs only [go_sem, Int.reduceToNat, Int.reduceLT, Int.reduceLE, Int.reduceBEq, Int.reduceBNe, Nat.reduceLT, Nat.reduceBEq, Int.reduceEq, Nat.reduceEqDiff, Nat.reduceAdd, Nat.reduceSub, Nat.reduceMul, Nat.reduceLeDiff, reduceCtorEq, ↓reduceIte, eGPolicy, eGAsk, eGStmt, c46, chk_map (n := 6) (f := eGStmt) (fun _ => rfl) t24.stmts, h50, List.take_succ_cons, List.take_zero, nat_of .i64 h56, h58, h62, h64, h65, h66, c70, c72, c74]; rfl)) rfl (by intro h; first | rfl | cases h)
            · try simp -implicitDefEqProofs only [go_sem, Nat.reduceEqDiff, Nat.reduceAdd, reduceCtorEq, ↓reduceIte, eGStmt, nat_of .i64 h56, h58, c70, c72]
              exact ⟨⟨(c, (t10, (IntKind.i64.wrap (t11 + 1)))), H73⟩, ren_mk [(0, 0), (1, 1), (2, 2)] (by rfl) (rf_upd (by rfl) (rf_upd (by rfl) (rf_upd (by rfl) (rf_upd (by rfl) (rf_upd (by rfl) (rf_no _)))))) (rh_upd (rh_one (by rfl) (by rfl) (by rfl)) (rh_upd (rh_one (by rfl) (by rfl) (by rfl)) (rh_upd (rh_one (by rfl) (by rfl) (by rfl)) (rh_no _)))), Nat.lt_succ_self _⟩
          · try simp -implicitDefEqProofs only [go_sem, Nat.reduceEqDiff, Nat.reduceAdd, reduceCtorEq, ↓reduceIte, eGStmt, nat_of .i64 h56, h58, c70]
            rcases ite_inv H71 with ⟨c76, H77⟩ | ⟨c76, H77⟩
            · try simp -implicitDefEqProofs only [go_sem, Nat.reduceEqDiff, Nat.reduceAdd, ↓reduceIte, c76]
              rcases ite_inv H77 with ⟨c78, H79⟩ | ⟨c78, H79⟩
              · try simp -implicitDefEqProofs only [go_sem, Nat.reduceEqDiff, Nat.reduceAdd, ↓reduceIte, c78]
                exact ⟨⟨(c, (true, (IntKind.i64.wrap (t11 + 1)))), H79⟩, ren_mk [(0, 0), (1, 1), (2, 2)] (by rfl) (rf_upd (by rfl) (rf_upd (by rfl) (rf_upd (by rfl) (rf_upd (by rfl) (rf_upd (by rfl) (rf_no _)))))) (rh_upd (rh_one (by rfl) (by rfl) (by rfl)) (rh_upd (rh_one (by rfl) (by rfl) (by rfl)) (rh_upd (rh_one (by rfl) (by rfl) (by rfl)) (rh_no _)))), Nat.lt_succ_self _⟩
              · try simp -implicitDefEqProofs only [go_sem, Nat.reduceAdd, c78]
                obtain rfl := Option.some.inj H79
                obtain rfl := Option.some.inj H10
                exact end_pure (by first | (simp -implicitDefEqProofs only [go_sem, ↓reduceIte, Try.f6] <;> rfl) | rfl) (by first | rfl | (simp -implicitDefEqProofs only [go_sem, Int.reduceToNat, Int.reduceLT, Int.reduceLE, Int.reduceBEq, Int.reduceBNe, Nat.reduceLT, Nat.reduceBEq, Int.reduceEq, Nat.reduceEqDiff, Nat.reduceAdd, Nat.reduceSub, Nat.reduceMul, Nat.reduceLeDiff, reduceCtorEq, ↓reduceIte, eGPolicy, eGAsk, eGStmt, c46, chk_map (n := 6) (f := eGStmt) (fun _ => rfl) t24.stmts, h50, List.take_succ_cons, List.take_zero, nat_of .i64 h56, h58, h62, h64, h65, h66, c70, c76, c78]; done) | (simp -implicitDefEqProofs only [go_sem, Int.reduceToNat, Int.reduceLT, Int.reduceLE, Int.reduceBEq, Int.reduceBNe, Nat.reduceLT, Nat.reduceBEq, Int.reduceEq, Nat.reduceEqDiff, Nat.reduceAdd, Nat.reduceSub, Nat.reduceMul, Nat.reduceLeDiff, reduceCtorEq, ↓reduceIte, eGPolicy, eGAsk, eGStmt, c46, chk_map (n := 6) (f := eGStmt) (fun _ => rfl) t24.stmts, h50, List.take_succ_cons, List.take_zero, nat_of .i64 h56, h58, h62, h64, h65, h66, c70, c76, c78]; rfl)) rfl (by intro h; first | rfl | cases h)
            · try simp -implicitDefEqProofs only [go_sem, Nat.reduceEqDiff, Nat.reduceAdd, ↓reduceIte, c76]
              exact ⟨⟨(c, (false, (IntKind.i64.wrap (t11 + 1)))), H77⟩, ren_mk [(0, 0), (1, 1), (2, 2)] (by rfl) (rf_upd (by rfl) (rf_upd (by rfl) (rf_upd (by rfl) (rf_upd (by rfl) (rf_upd (by rfl) (rf_no _)))))) (rh_upd (rh_one (by rfl) (by rfl) (by rfl)) (rh_upd (rh_one (by rfl) (by rfl) (by rfl)) (rh_upd (rh_one (by rfl) (by rfl) (by rfl)) (rh_no _)))), Nat.lt_succ_self _⟩
        · try simp -implicitDefEqProofs only [go_sem, ↓reduceIte, c46]
          obtain rfl := Option.some.inj H47
          exact ⟨⟨t10, rfl⟩, ren_mk [(0, 0), (1, 1), (2, 2)] (by rfl) (rf_upd (by rfl) (rf_upd (by rfl) (rf_upd (by rfl) (rf_upd (by rfl) (rf_no _))))) (rh_upd (rh_one (by rfl) (by rfl) (by rfl)) (rh_upd (rh_one (by rfl) (by rfl) (by rfl)) (rh_upd (rh_one (by rfl) (by rfl) (by rfl)) (rh_no _))))⟩
  · rintro ⟨t103, he241⟩
    replace he241 := he241.symm
    subst he241
    try dsimp only at H10
    refine runR_seq ?_
    refine runR_take tab_ok fol 1 ?_
    try simp -implicitDefEqProofs only [go_sem, Nat.reduceAdd]
    refine runR_seq ?_
    refine runR_seq ?_
    refine runR_take tab_ok fol 1 ?_
    try simp -implicitDefEqProofs only [go_sem, Nat.reduceAdd]
    obtain ⟨e_2, E80, H81⟩ := bind_inv H10
    refine runR_join (α := { y : Bool // e_2 = y }) (fun | ⟨t143, _⟩ => ⟨upd 7 (.pt 0 0) (upd 8 (.pt 1 0) (upd 9 (.pt 2 0) (upd 10 (.v (.bool t103)) (upd 14 (.v (.bool t143)) noFr)))), upd 0 (some (.bx [.d (.sl (List.map eS t24.users)) false, .d (.sl (List.map eS t24.actions)) false, .d (.sl (List.map eS t24.resources)) false, .d (.sl (List.map eGGroup t24.groups)) false, .d (.sl (List.map eGStmt t24.stmts)) false, .d (.sl (List.map eGBound t24.bounds)) false])) (upd 1 (some (.bx [.v (.bool t26.session), .v (.string t26.who), .v (.string t26.act), .v (.string t26.obj)])) (upd 2 (some (.bx [.d (.sl (List.map eS t28.users)) false, .d (.sl (List.map eS t28.actions)) false, .d (.sl (List.map eS t28.resources)) false, .d (.sl (List.map eGGroup t28.groups)) false, .d (.sl (List.map eGStmt t28.stmts)) false, .d (.sl (List.map eGBound t28.bounds)) false])) noHp)), 3⟩) ?_ ?_
    · refine runR_block ?_
      refine runR_loop (α := { q : Nat × (Bool × Int) // law24_GlobRules_L2 n t24 t26 q.1 q.2 = some e_2 }) (fun | ⟨⟨c, ⟨t14, t15⟩⟩, _⟩ => ⟨upd 7 (.pt 0 0) (upd 8 (.pt 1 0) (upd 9 (.pt 2 0) (upd 10 (.v (.bool t103)) (upd 14 (.v (.bool t14)) (upd 15 (.v (.int .i64 t15)) noFr))))), upd 0 (some (.bx [.d (.sl (List.map eS t24.users)) false, .d (.sl (List.map eS t24.actions)) false, .d (.sl (List.map eS t24.resources)) false, .d (.sl (List.map eGGroup t24.groups)) false, .d (.sl (List.map eGStmt t24.stmts)) false, .d (.sl (List.map eGBound t24.bounds)) false])) (upd 1 (some (.bx [.v (.bool t26.session), .v (.string t26.who), .v (.string t26.act), .v (.string t26.obj)])) (upd 2 (some (.bx [.d (.sl (List.map eS t28.users)) false, .d (.sl (List.map eS t28.actions)) false, .d (.sl (List.map eS t28.resources)) false, .d (.sl (List.map eGGroup t28.groups)) false, .d (.sl (List.map eGStmt t28.stmts)) false, .d (.sl (List.map eGBound t28.bounds)) false])) noHp)), 3⟩) (fun q => q.1.1) ⟨(n, (true, 0)), E80⟩ ?_ ?_
      · exact ren_mk [(0, 0), (1, 1), (2, 2)] (by rfl) (rf_upd (by rfl) (rf_upd (by rfl) (rf_upd (by rfl) (rf_upd (by rfl) (rf_upd (by rfl) (rf_upd (by rfl) (rf_no _))))))) (rh_upd (rh_one (by rfl) (by rfl) (by rfl)) (rh_upd (rh_one (by rfl) (by rfl) (by rfl)) (rh_upd (rh_one (by rfl) (by rfl) (by rfl)) (rh_no _))))
      · rintro ⟨⟨c, ⟨t14, t15⟩⟩, L82⟩
        rcases c with _ | c
        · exact nomatch (show none = some _ from L82)
        · unfold law24_GlobRules_L2 at L82
          try dsimp only at L82
          refine runR_take tab_ok fol 1 ?_
          try simp -implicitDefEqProofs only [go_sem, Nat.reduceEqDiff, Nat.reduceAdd, reduceCtorEq, ↓reduceIte]
          rcases ite_inv L82 with ⟨c91, H92⟩ | ⟨c91, H92⟩
          · try simp -implicitDefEqProofs only [go_sem, Nat.reduceEqDiff, Nat.reduceAdd, ↓reduceIte, c91]
            rcases ite_inv H92 with ⟨c93, H94⟩ | ⟨c93, H94⟩
            · obtain ⟨x4, b95, H96⟩ := bind_inv H94
              obtain ⟨h97, h98⟩ := idx_inv b95
              try simp only [Int.reduceToNat, Int.toNat_natCast] at h98
              have h99 := map_at eGBound h98
              try simp -implicitDefEqProofs only [go_sem, Nat.reduceEqDiff, Nat.reduceAdd, reduceCtorEq, ↓reduceIte, eGBound, c93, nat_of .i64 h97, h99]
              refine Rd_endF (by rfl) ?_
              try simp -implicitDefEqProofs only [go_sem, Nat.reduceEqDiff, Nat.reduceAdd, ↓reduceIte]
              exact ⟨⟨(c, ((!(x4.user.toList == t26.who.toList)), (IntKind.i64.wrap (t15 + 1)))), H96⟩, ren_mk [(0, 0), (1, 1), (2, 2)] (by rfl) (rf_upd (by rfl) (rf_upd (by rfl) (rf_upd (by rfl) (rf_upd (by rfl) (rf_upd (by rfl) (rf_upd (by rfl) (rf_no _))))))) (rh_upd (rh_one (by rfl) (by rfl) (by rfl)) (rh_upd (rh_one (by rfl) (by rfl) (by rfl)) (rh_upd (rh_one (by rfl) (by rfl) (by rfl)) (rh_no _)))), Nat.lt_succ_self _⟩
            · try simp -implicitDefEqProofs only [go_sem, Nat.reduceEqDiff, Nat.reduceAdd, ↓reduceIte, c93]
              refine Rd_endF (by rfl) ?_
              try simp -implicitDefEqProofs only [go_sem, Nat.reduceEqDiff, Nat.reduceAdd, ↓reduceIte]
              exact ⟨⟨(c, (false, (IntKind.i64.wrap (t15 + 1)))), H94⟩, ren_mk [(0, 0), (1, 1), (2, 2)] (by rfl) (rf_upd (by rfl) (rf_upd (by rfl) (rf_upd (by rfl) (rf_upd (by rfl) (rf_upd (by rfl) (rf_upd (by rfl) (rf_no _))))))) (rh_upd (rh_one (by rfl) (by rfl) (by rfl)) (rh_upd (rh_one (by rfl) (by rfl) (by rfl)) (rh_upd (rh_one (by rfl) (by rfl) (by rfl)) (rh_no _)))), Nat.lt_succ_self _⟩
          · try simp -implicitDefEqProofs only [go_sem, ↓reduceIte, c91]
            obtain rfl := Option.some.inj H92
            exact ⟨⟨t14, rfl⟩, ren_mk [(0, 0), (1, 1), (2, 2)] (by rfl) (rf_upd (by rfl) (rf_upd (by rfl) (rf_upd (by rfl) (rf_upd (by rfl) (rf_upd (by rfl) (rf_no _)))))) (rh_upd (rh_one (by rfl) (by rfl) (by rfl)) (rh_upd (rh_one (by rfl) (by rfl) (by rfl)) (rh_upd (rh_one (by rfl) (by rfl) (by rfl)) (rh_no _))))⟩
    · rintro ⟨t143, he240⟩
      replace he240 := he240.symm
      subst he240
      try dsimp only at H81
      refine runR_seq ?_
      refine runR_seq ?_
      refine runR_take tab_ok fol 1 ?_
      try simp -implicitDefEqProofs only [go_sem, Nat.reduceAdd]
      obtain ⟨e_3, E101, H102⟩ := bind_inv H81
      refine runR_join (α := { y : Bool // e_3 = .inl y }) (fun | ⟨t106, _⟩ => ⟨upd 7 (.pt 0 0) (upd 8 (.pt 1 0) (upd 10 (.v (.bool t106)) noFr)), upd 0 (some (.bx [.d (.sl (List.map eS t24.users)) false, .d (.sl (List.map eS t24.actions)) false, .d (.sl (List.map eS t24.resources)) false, .d (.sl (List.map eGGroup t24.groups)) false, .d (.sl (List.map eGStmt t24.stmts)) false, .d (.sl (List.map eGBound t24.bounds)) false])) (upd 1 (some (.bx [.v (.bool t26.session), .v (.string t26.who), .v (.string t26.act), .v (.string t26.obj)])) noHp), 2⟩) ?_ ?_
      · refine runR_block ?_
        refine runR_loop (α := { q : Nat × (Bool × Bool × Int) // law24_GlobRules_L3 n t24 t26 t28 q.1 q.2 = some e_3 }) (fun | ⟨⟨c, ⟨t104, t144, t16⟩⟩, _⟩ => ⟨upd 7 (.pt 0 0) (upd 8 (.pt 1 0) (upd 9 (.pt 2 0) (upd 10 (.v (.bool t104)) (upd 14 (.v (.bool t144)) (upd 16 (.v (.int .i64 t16)) noFr))))), upd 0 (some (.bx [.d (.sl (List.map eS t24.users)) false, .d (.sl (List.map eS t24.actions)) false, .d (.sl (List.map eS t24.resources)) false, .d (.sl (List.map eGGroup t24.groups)) false, .d (.sl (List.map eGStmt t24.stmts)) false, .d (.sl (List.map eGBound t24.bounds)) false])) (upd 1 (some (.bx [.v (.bool t26.session), .v (.string t26.who), .v (.string t26.act), .v (.string t26.obj)])) (upd 2 (some (.bx [.d (.sl (List.map eS t28.users)) false, .d (.sl (List.map eS t28.actions)) false, .d (.sl (List.map eS t28.resources)) false, .d (.sl (List.map eGGroup t28.groups)) false, .d (.sl (List.map eGStmt t28.stmts)) false, .d (.sl (List.map eGBound t28.bounds)) false])) noHp)), 3⟩) (fun q => q.1.1) ⟨(n, (t103, t143, 0)), E101⟩ ?_ ?_
        · exact ren_mk [(0, 0), (1, 1), (2, 2)] (by rfl) (rf_upd (by rfl) (rf_upd (by rfl) (rf_upd (by rfl) (rf_upd (by rfl) (rf_upd (by rfl) (rf_upd (by rfl) (rf_no _))))))) (rh_upd (rh_one (by rfl) (by rfl) (by rfl)) (rh_upd (rh_one (by rfl) (by rfl) (by rfl)) (rh_upd (rh_one (by rfl) (by rfl) (by rfl)) (rh_no _))))
        · rintro ⟨⟨c, ⟨t104, t144, t16⟩⟩, L103⟩
          rcases c with _ | c
          · exact nomatch (show none = some _ from L103)
          · unfold law24_GlobRules_L3 at L103
            try dsimp only at L103
            refine runR_take tab_ok fol 1 ?_
            try simp -implicitDefEqProofs only [go_sem, Nat.reduceEqDiff, Nat.reduceAdd, reduceCtorEq, ↓reduceIte]
            rcases ite_inv L103 with ⟨c144, H145⟩ | ⟨c144, H145⟩
            · obtain ⟨l7, b146, H147⟩ := bind_inv H145
              obtain ⟨h148, h149⟩ := app_inv b146
              have h149 : t24.bounds = l7 := h149
              subst h149
              have h148 : t24.bounds.length ≤ 4294967296 := by have := h148; simpa using this
              obtain ⟨x6, b152, H153⟩ := bind_inv H147
              obtain ⟨h154, h155⟩ := idx_inv b152
              try simp only [Int.reduceToNat, Int.toNat_natCast] at h155
              have h156 := map_at eGBound h155
              obtain ⟨l8, b158, H159⟩ := bind_inv H153
              obtain ⟨h160, h161⟩ := app_inv b158
              have h160 : t24.bounds.length + 1 ≤ 4294967296 := h160
              have h162 : List.map eGBound t24.bounds ++ [[.v (.string x6.user), .sl (List.map eS x6.actions), .sl (List.map eS x6.resources)]] = List.map eGBound l8 := app_map eGBound h161
              have h163 : t24.bounds.length + 1 = l8.length := app_len h161
              have h164 : l8.length ≤ 4294967296 := by omega
              have q165 : 0 < l8.length := by omega
              try simp -implicitDefEqProofs only [go_sem, Nat.reduceLT, Nat.reduceEqDiff, Nat.reduceAdd, Nat.reduceMul, Nat.reduceLeDiff, reduceCtorEq, ↓reduceIte, eGBound, c144, chk_map (n := 3) (f := eGBound) (fun _ => rfl) t24.bounds, h148, List.take_succ_cons, List.take_zero, nat_of .i64 h154, h156, h162, h163, h164]
              refine Rd_endF (by rfl) ?_
              obtain ⟨t1402, b166, H167⟩ := bind_inv H159
              try simp -implicitDefEqProofs only [go_sem, Nat.reduceEqDiff, Nat.reduceAdd, reduceCtorEq, ↓reduceIte, List.take_succ_cons, List.take_zero]
              refine onCall_pure (by first | rfl | (simp -implicitDefEqProofs only [go_sem, Nat.reduceEqDiff, ↓reduceIte, eGPolicy]; done) | (simp -implicitDefEqProofs only [go_sem, Nat.reduceEqDiff, ↓reduceIte, eGPolicy]; rfl)) (glob_May_ok b166) (by first | exact .inr rfl | exact .inl rfl) ?_
              try simp -implicitDefEqProofs only [go_sem, Nat.reduceEqDiff, Nat.reduceAdd, ↓reduceIte]
              rcases ite_inv H167 with ⟨c168, H169⟩ | ⟨c168, H169⟩
              · try simp -implicitDefEqProofs only [go_sem, Nat.reduceEqDiff, Nat.reduceAdd, ↓reduceIte, c168]
                rcases ite_inv H169 with ⟨c170, H171⟩ | ⟨c170, H171⟩
                · try simp -implicitDefEqProofs only [go_sem, Nat.reduceEqDiff, Nat.reduceAdd, ↓reduceIte, c170]
                  rcases ite_inv H171 with ⟨c172, H173⟩ | ⟨c172, H173⟩
                  · try simp -implicitDefEqProofs only [go_sem, Nat.reduceEqDiff, Nat.reduceAdd, reduceCtorEq, ↓reduceIte, eGBound, nat_of .i64 h154, h156, c172]
                    rcases ite_inv H173 with ⟨c174, H175⟩ | ⟨c174, H175⟩
                    · try simp -implicitDefEqProofs only [go_sem, Nat.reduceEqDiff, Nat.reduceAdd, ↓reduceIte, c174]
                      refine Rd_endF (by rfl) ?_
                      try simp -implicitDefEqProofs only [go_sem, Nat.reduceEqDiff, Nat.reduceAdd, ↓reduceIte]
                      exact ⟨⟨(c, (true, true, (IntKind.i64.wrap (t16 + 1)))), H175⟩, ren_mk [(0, 0), (1, 1), (2, 2)] (by rfl) (rf_upd (by rfl) (rf_upd (by rfl) (rf_upd (by rfl) (rf_upd (by rfl) (rf_upd (by rfl) (rf_upd (by rfl) (rf_no _))))))) (rh_upd (rh_one (by rfl) (by rfl) (by rfl)) (rh_upd (rh_one (by rfl) (by rfl) (by rfl)) (rh_upd (rh_one (by rfl) (by rfl) (by rfl)) (rh_no _)))), Nat.lt_succ_self _⟩
                    · try simp -implicitDefEqProofs only [go_sem, Nat.reduceEqDiff, Nat.reduceAdd, ↓reduceIte, c174]
                      refine Rd_endF (by rfl) ?_
                      try simp -implicitDefEqProofs only [go_sem, Nat.reduceEqDiff, Nat.reduceAdd, ↓reduceIte]
                      exact ⟨⟨(c, (true, true, (IntKind.i64.wrap (t16 + 1)))), H175⟩, ren_mk [(0, 0), (1, 1), (2, 2)] (by rfl) (rf_upd (by rfl) (rf_upd (by rfl) (rf_upd (by rfl) (rf_upd (by rfl) (rf_upd (by rfl) (rf_upd (by rfl) (rf_no _))))))) (rh_upd (rh_one (by rfl) (by rfl) (by rfl)) (rh_upd (rh_one (by rfl) (by rfl) (by rfl)) (rh_upd (rh_one (by rfl) (by rfl) (by rfl)) (rh_no _)))), Nat.lt_succ_self _⟩
                  · try simp -implicitDefEqProofs only [go_sem, Nat.reduceEqDiff, Nat.reduceAdd, ↓reduceIte, c172]
                    refine Rd_endF (by rfl) ?_
                    try simp -implicitDefEqProofs only [go_sem, Nat.reduceAdd, ↓reduceIte]
                    obtain rfl := Option.some.inj H173
                    obtain rfl := Option.some.inj H102
                    exact end_pure (by first | (simp -implicitDefEqProofs only [go_sem, ↓reduceIte, Try.f6] <;> rfl) | rfl) (by first | rfl | (simp -implicitDefEqProofs only [go_sem, Int.reduceToNat, Int.reduceLT, Int.reduceLE, Int.reduceBEq, Int.reduceBNe, Nat.reduceLT, Nat.reduceBEq, Int.reduceEq, Nat.reduceEqDiff, Nat.reduceAdd, Nat.reduceSub, Nat.reduceMul, Nat.reduceLeDiff, reduceCtorEq, ↓reduceIte, eGPolicy, eGAsk, eGStmt, eGGroup, eGBound, c144, chk_map (n := 3) (f := eGBound) (fun _ => rfl) t24.bounds, h148, List.take_succ_cons, List.take_zero, nat_of .i64 h154, h156, h160, h162, h163, h164, c168, c170, c172]; done) | (simp -implicitDefEqProofs only [go_sem, Int.reduceToNat, Int.reduceLT, Int.reduceLE, Int.reduceBEq, Int.reduceBNe, Nat.reduceLT, Nat.reduceBEq, Int.reduceEq, Nat.reduceEqDiff, Nat.reduceAdd, Nat.reduceSub, Nat.reduceMul, Nat.reduceLeDiff, reduceCtorEq, ↓reduceIte, eGPolicy, eGAsk, eGStmt, eGGroup, eGBound, c144, chk_map (n := 3) (f := eGBound) (fun _ => rfl) t24.bounds, h148, List.take_succ_cons, List.take_zero, nat_of .i64 h154, h156, h160, h162, h163, h164, c168, c170, c172]; rfl)) rfl (by intro h; first | rfl | cases h)
                · try simp -implicitDefEqProofs only [go_sem, Nat.reduceEqDiff, Nat.reduceAdd, reduceCtorEq, ↓reduceIte, eGBound, nat_of .i64 h154, h156, c170]
                  rcases ite_inv H171 with ⟨c176, H177⟩ | ⟨c176, H177⟩
                  · try simp -implicitDefEqProofs only [go_sem, Nat.reduceEqDiff, Nat.reduceAdd, ↓reduceIte, c176]
                    refine Rd_endF (by rfl) ?_
                    try simp -implicitDefEqProofs only [go_sem, Nat.reduceEqDiff, Nat.reduceAdd, ↓reduceIte]
                    exact ⟨⟨(c, (t104, true, (IntKind.i64.wrap (t16 + 1)))), H177⟩, ren_mk [(0, 0), (1, 1), (2, 2)] (by rfl) (rf_upd (by rfl) (rf_upd (by rfl) (rf_upd (by rfl) (rf_upd (by rfl) (rf_upd (by rfl) (rf_upd (by rfl) (rf_no _))))))) (rh_upd (rh_one (by rfl) (by rfl) (by rfl)) (rh_upd (rh_one (by rfl) (by rfl) (by rfl)) (rh_upd (rh_one (by rfl) (by rfl) (by rfl)) (rh_no _)))), Nat.lt_succ_self _⟩
                  · try simp -implicitDefEqProofs only [go_sem, Nat.reduceEqDiff, Nat.reduceAdd, ↓reduceIte, c176]
                    refine Rd_endF (by rfl) ?_
                    try simp -implicitDefEqProofs only [go_sem, ↓reduceIte]
                    rcases ite_inv H177 with ⟨c178, H179⟩ | ⟨c178, H179⟩
                    · try simp -implicitDefEqProofs only [go_sem, Nat.reduceEqDiff, Nat.reduceAdd, ↓reduceIte, c178]
                      exact ⟨⟨(c, (t104, true, (IntKind.i64.wrap (t16 + 1)))), H179⟩, ren_mk [(0, 0), (1, 1), (2, 2)] (by rfl) (rf_upd (by rfl) (rf_upd (by rfl) (rf_upd (by rfl) (rf_upd (by rfl) (rf_upd (by rfl) (rf_upd (by rfl) (rf_no _))))))) (rh_upd (rh_one (by rfl) (by rfl) (by rfl)) (rh_upd (rh_one (by rfl) (by rfl) (by rfl)) (rh_upd (rh_one (by rfl) (by rfl) (by rfl)) (rh_no _)))), Nat.lt_succ_self _⟩
                    · try simp -implicitDefEqProofs only [go_sem, Nat.reduceAdd, c178]
                      obtain rfl := Option.some.inj H179
                      obtain rfl := Option.some.inj H102
                      exact end_pure (by first | (simp -implicitDefEqProofs only [go_sem, ↓reduceIte, Try.f6] <;> rfl) | rfl) (by first | rfl | (simp -implicitDefEqProofs only [go_sem, Int.reduceToNat, Int.reduceLT, Int.reduceLE, Int.reduceBEq, Int.reduceBNe, Nat.reduceLT, Nat.reduceBEq, Int.reduceEq, Nat.reduceEqDiff, Nat.reduceAdd, Nat.reduceSub, Nat.reduceMul, Nat.reduceLeDiff, reduceCtorEq, ↓reduceIte, eGPolicy, eGAsk, eGStmt, eGGroup, eGBound, c144, chk_map (n := 3) (f := eGBound) (fun _ => rfl) t24.bounds, h148, List.take_succ_cons, List.take_zero, nat_of .i64 h154, h156, h160, h162, h163, h164, c168, c170, c176, c178]; done) | (simp -implicitDefEqProofs only [go_sem, Int.reduceToNat, Int.reduceLT, Int.reduceLE, Int.reduceBEq, Int.reduceBNe, Nat.reduceLT, Nat.reduceBEq, Int.reduceEq, Nat.reduceEqDiff, Nat.reduceAdd, Nat.reduceSub, Nat.reduceMul, Nat.reduceLeDiff, reduceCtorEq, ↓reduceIte, eGPolicy, eGAsk, eGStmt, eGGroup, eGBound, c144, chk_map (n := 3) (f := eGBound) (fun _ => rfl) t24.bounds, h148, List.take_succ_cons, List.take_zero, nat_of .i64 h154, h156, h160, h162, h163, h164, c168, c170, c176, c178]; rfl)) rfl (by intro h; first | rfl | cases h)
              · try simp -implicitDefEqProofs only [go_sem, Nat.reduceEqDiff, Nat.reduceAdd, reduceCtorEq, ↓reduceIte, eGBound, nat_of .i64 h154, h156, c168]
                rcases ite_inv H169 with ⟨c180, H181⟩ | ⟨c180, H181⟩
                · try simp -implicitDefEqProofs only [go_sem, Nat.reduceEqDiff, Nat.reduceAdd, ↓reduceIte, c180]
                  refine Rd_endF (by rfl) ?_
                  try simp -implicitDefEqProofs only [go_sem, Nat.reduceEqDiff, Nat.reduceAdd, ↓reduceIte]
                  exact ⟨⟨(c, (t104, false, (IntKind.i64.wrap (t16 + 1)))), H181⟩, ren_mk [(0, 0), (1, 1), (2, 2)] (by rfl) (rf_upd (by rfl) (rf_upd (by rfl) (rf_upd (by rfl) (rf_upd (by rfl) (rf_upd (by rfl) (rf_upd (by rfl) (rf_no _))))))) (rh_upd (rh_one (by rfl) (by rfl) (by rfl)) (rh_upd (rh_one (by rfl) (by rfl) (by rfl)) (rh_upd (rh_one (by rfl) (by rfl) (by rfl)) (rh_no _)))), Nat.lt_succ_self _⟩
                · try simp -implicitDefEqProofs only [go_sem, Nat.reduceEqDiff, Nat.reduceAdd, ↓reduceIte, c180]
                  refine Rd_endF (by rfl) ?_
                  try simp -implicitDefEqProofs only [go_sem, ↓reduceIte]
                  rcases ite_inv H181 with ⟨c182, H183⟩ | ⟨c182, H183⟩
                  · try simp -implicitDefEqProofs only [go_sem, Nat.reduceEqDiff, Nat.reduceAdd, ↓reduceIte, c182]
                    exact ⟨⟨(c, (t104, false, (IntKind.i64.wrap (t16 + 1)))), H183⟩, ren_mk [(0, 0), (1, 1), (2, 2)] (by rfl) (rf_upd (by rfl) (rf_upd (by rfl) (rf_upd (by rfl) (rf_upd (by rfl) (rf_upd (by rfl) (rf_upd (by rfl) (rf_no _))))))) (rh_upd (rh_one (by rfl) (by rfl) (by rfl)) (rh_upd (rh_one (by rfl) (by rfl) (by rfl)) (rh_upd (rh_one (by rfl) (by rfl) (by rfl)) (rh_no _)))), Nat.lt_succ_self _⟩
                  · try simp -implicitDefEqProofs only [go_sem, Nat.reduceAdd, c182]
                    obtain rfl := Option.some.inj H183
                    obtain rfl := Option.some.inj H102
                    exact end_pure (by first | (simp -implicitDefEqProofs only [go_sem, ↓reduceIte, Try.f6] <;> rfl) | rfl) (by first | rfl | (simp -implicitDefEqProofs only [go_sem, Int.reduceToNat, Int.reduceLT, Int.reduceLE, Int.reduceBEq, Int.reduceBNe, Nat.reduceLT, Nat.reduceBEq, Int.reduceEq, Nat.reduceEqDiff, Nat.reduceAdd, Nat.reduceSub, Nat.reduceMul, Nat.reduceLeDiff, reduceCtorEq, ↓reduceIte, eGPolicy, eGAsk, eGStmt, eGGroup, eGBound, c144, chk_map (n := 3) (f := eGBound) (fun _ => rfl) t24.bounds, h148, List.take_succ_cons, List.take_zero, nat_of .i64 h154, h156, h160, h162, h163, h164, c168, c180, c182]; done) | (simp -implicitDefEqProofs only [go_sem, Int.reduceToNat, Int.reduceLT, Int.reduceLE, Int.reduceBEq, Int.reduceBNe, Nat.reduceLT, Nat.reduceBEq, Int.reduceEq, Nat.reduceEqDiff, Nat.reduceAdd, Nat.reduceSub, Nat.reduceMul, Nat.reduceLeDiff, reduceCtorEq, ↓reduceIte, eGPolicy, eGAsk, eGStmt, eGGroup, eGBound, c144, chk_map (n := 3) (f := eGBound) (fun _ => rfl) t24.bounds, h148, List.take_succ_cons, List.take_zero, nat_of .i64 h154, h156, h160, h162, h163, h164, c168, c180, c182]; rfl)) rfl (by intro h; first | rfl | cases h)
            · try simp -implicitDefEqProofs only [go_sem, ↓reduceIte, c144]
              obtain rfl := Option.some.inj H145
              exact ⟨⟨t104, rfl⟩, ren_mk [(0, 0), (1, 1)] (by rfl) (rf_upd (by rfl) (rf_upd (by rfl) (rf_upd (by rfl) (rf_no _)))) (rh_upd (rh_one (by rfl) (by rfl) (by rfl)) (rh_upd (rh_one (by rfl) (by rfl) (by rfl)) (rh_no _)))⟩
      · rintro ⟨t106, he239⟩
        replace he239 := he239.symm
        subst he239
        try dsimp only at H102
        refine runR_seq ?_
        refine runR_take tab_ok fol 1 ?_
        try simp -implicitDefEqProofs only [go_sem, Nat.reduceEqDiff, Nat.reduceAdd, ↓reduceIte]
        refine runR_seq ?_
        refine runR_take tab_ok fol 1 ?_
        try simp -implicitDefEqProofs only [go_sem, Nat.reduceAdd, Nat.reduceLeDiff, reduceCtorEq, ↓reduceIte]
        refine runR_seq ?_
        refine runR_seq ?_
        refine runR_take tab_ok fol 1 ?_
        try simp -implicitDefEqProofs only [go_sem, Nat.reduceAdd]
        obtain ⟨e_4, E184, H185⟩ := bind_inv H102
        refine runR_join (α := { y : List GStmt // e_4 = y } × Nat) (fun | ⟨⟨t1943, _⟩, g3⟩ => ⟨upd 7 (.pt 0 0) (upd 8 (.pt 1 0) (upd 10 (.v (.bool t106)) (upd 19 (.pt 2 0) noFr))), upd 0 (some (.bx [.d (.sl (List.map eS t24.users)) false, .d (.sl (List.map eS t24.actions)) false, .d (.sl (List.map eS t24.resources)) false, .d (.sl (List.map eGGroup t24.groups)) false, .d (.sl (List.map eGStmt t24.stmts)) false, .d (.sl (List.map eGBound t24.bounds)) false])) (upd 1 (some (.bx [.v (.bool t26.session), .v (.string t26.who), .v (.string t26.act), .v (.string t26.obj)])) (upd 2 (some (.bx [.d (.sl (List.map eS t24.users)) false, .d (.sl (List.map eS t24.actions)) false, .d (.sl (List.map eS t24.resources)) false, .d (.sl (List.map eGGroup t24.groups)) false, accV 3 g3 (List.map eGStmt t1943), .d (.sl (List.map eGBound t24.bounds)) false])) (upd 3 (accO 6 g3 false (List.map eGStmt t1943)) noHp))), 4⟩) ?_ ?_
        · refine runR_block ?_
          refine runR_loop (α := { q : (Nat × (List GStmt × Int)) × Nat // law24_GlobRules_L4 n t24 q.1.1 q.1.2 = some e_4 }) (fun | ⟨⟨⟨c, ⟨t194, t20⟩⟩, g⟩, _⟩ => ⟨upd 7 (.pt 0 0) (upd 8 (.pt 1 0) (upd 10 (.v (.bool t106)) (upd 19 (.pt 2 0) (upd 20 (.v (.int .i64 t20)) noFr)))), upd 0 (some (.bx [.d (.sl (List.map eS t24.users)) false, .d (.sl (List.map eS t24.actions)) false, .d (.sl (List.map eS t24.resources)) false, .d (.sl (List.map eGGroup t24.groups)) false, .d (.sl (List.map eGStmt t24.stmts)) false, .d (.sl (List.map eGBound t24.bounds)) false])) (upd 1 (some (.bx [.v (.bool t26.session), .v (.string t26.who), .v (.string t26.act), .v (.string t26.obj)])) (upd 2 (some (.bx [.d (.sl (List.map eS t24.users)) false, .d (.sl (List.map eS t24.actions)) false, .d (.sl (List.map eS t24.resources)) false, .d (.sl (List.map eGGroup t24.groups)) false, accV 3 g (List.map eGStmt t194), .d (.sl (List.map eGBound t24.bounds)) false])) (upd 3 (accO 6 g false (List.map eGStmt t194)) noHp))), 4⟩) (fun q => q.1.1.1) ⟨((n, ([], 0)), 0), E184⟩ ?_ ?_
          · exact ren_mk [(0, 0), (1, 1), (2, 3)] (by rfl) (rf_upd (by rfl) (rf_upd (by rfl) (rf_upd (by rfl) (rf_upd (by rfl) (rf_upd (by rfl) (rf_no _)))))) (rh_upd (rh_one (by rfl) (by rfl) (by rfl)) (rh_upd (rh_one (by rfl) (by rfl) (by rfl)) (rh_upd (rh_one (by rfl) (renO_bx (renL_cons (by rfl) (renL_cons (by rfl) (renL_cons (by rfl) (renL_cons (by rfl) (renL_cons (by rfl) (renL_cons (by rfl) (renL_nil _)))))))) (by rfl)) (rh_upd rh_accN (rh_no _)))))
          · rintro ⟨⟨⟨c, ⟨t194, t20⟩⟩, g⟩, L186⟩
            rcases c with _ | c
            · exact nomatch (show none = some _ from L186)
            · unfold law24_GlobRules_L4 at L186
              try dsimp only at L186
              refine runR_take tab_ok fol 1 ?_
              try simp -implicitDefEqProofs only [go_sem, Nat.reduceEqDiff, Nat.reduceAdd, reduceCtorEq, ↓reduceIte]
              rcases ite_inv L186 with ⟨c197, H198⟩ | ⟨c197, H198⟩
              · obtain ⟨x8, b199, H200⟩ := bind_inv H198
                obtain ⟨h201, h202⟩ := idx_inv b199
                try simp only [Int.reduceToNat, Int.toNat_natCast] at h202
                have h203 := map_at eGStmt h202
                try simp -implicitDefEqProofs only [go_sem, Nat.reduceEqDiff, Nat.reduceAdd, reduceCtorEq, ↓reduceIte, eGStmt, c197, nat_of .i64 h201, h203]
                rcases ite_inv H200 with ⟨c205, H206⟩ | ⟨c205, H206⟩
                · obtain ⟨l9, b207, H208⟩ := bind_inv H206
                  obtain ⟨h209, h210⟩ := app_inv b207
                  have h209 : t194.length + 1 ≤ 4294967296 := h209
                  have h211 : List.map eGStmt t194 ++ [[.v (.string x8.sid), .v (.bool true), .sl (List.map eS x8.users), .sl (List.map eS x8.groups), .sl (List.map eS x8.actions), .sl (List.map eS x8.resources)]] = List.map eGStmt l9 := app_map eGStmt h210
                  have h212 : t194.length + 1 = l9.length := app_len h210
                  have h213 : l9.length ≤ 4294967296 := by omega
                  have q214 : 0 < l9.length := by omega
                  try simp -implicitDefEqProofs only [go_sem, Nat.reduceLT, Nat.reduceEqDiff, Nat.reduceAdd, Nat.reduceMul, Nat.reduceLeDiff, reduceCtorEq, ↓reduceIte, eGStmt, nat_of .i64 h201, h203, c205, h211, h212, h213, accI_ne]
                  refine Rd_endF (by (cases t194 <;> rfl)) ?_
                  try simp -implicitDefEqProofs only [go_sem, Nat.reduceEqDiff, Nat.reduceAdd, ↓reduceIte]
                  rcases t194 with _ | ⟨q0, q1⟩
                  · try simp only [List.map_nil, accI, accN]
                    exact ⟨⟨((c, (l9, (IntKind.i64.wrap (t20 + 1)))), 0), H208⟩, ren_mk [(0, 0), (1, 1), (2, 2), (3, 23)] (by rfl) (rf_upd (by rfl) (rf_upd (by rfl) (rf_upd (by rfl) (rf_upd (by rfl) (rf_upd (by rfl) (rf_no _)))))) (rh_upd (rh_one (by rfl) (by rfl) (by rfl)) (rh_upd (rh_one (by rfl) (by rfl) (by rfl)) (rh_upd (rh_one (by rfl) (renO_bx (renL_cons (by rfl) (renL_cons (by rfl) (renL_cons (by rfl) (renL_cons (by rfl) (renL_cons (ren_accP (by rfl) q214) (renL_cons (by rfl) (renL_nil _)))))))) (by rfl)) (rh_upd (rh_accP (by rfl) q214 (by rfl)) (rh_no _))))), Nat.lt_succ_self _⟩
                  · try simp only [List.map_cons, accI, accN]
                    exact ⟨⟨((c, (l9, (IntKind.i64.wrap (t20 + 1)))), (g + 1)), H208⟩, ren_mk [(0, 0), (1, 1), (2, 2), (3, 3)] (by rfl) (rf_upd (by rfl) (rf_upd (by rfl) (rf_upd (by rfl) (rf_upd (by rfl) (rf_upd (by rfl) (rf_no _)))))) (rh_upd (rh_one (by rfl) (by rfl) (by rfl)) (rh_upd (rh_one (by rfl) (by rfl) (by rfl)) (rh_upd (rh_one (by rfl) (renO_bx (renL_cons (by rfl) (renL_cons (by rfl) (renL_cons (by rfl) (renL_cons (by rfl) (renL_cons (ren_accP (by rfl) q214) (renL_cons (by rfl) (renL_nil _)))))))) (by rfl)) (rh_upd (rh_accP (by rfl) q214 (by rfl)) (rh_no _))))), Nat.lt_succ_self _⟩
                · try simp -implicitDefEqProofs only [go_sem, Nat.reduceEqDiff, Nat.reduceAdd, ↓reduceIte, c205]
                  exact ⟨⟨((c, (t194, (IntKind.i64.wrap (t20 + 1)))), g), H206⟩, ren_mk [(0, 0), (1, 1), (2, 2), (3, 3)] (by rfl) (rf_upd (by rfl) (rf_upd (by rfl) (rf_upd (by rfl) (rf_upd (by rfl) (rf_upd (by rfl) (rf_no _)))))) (rh_upd (rh_one (by rfl) (by rfl) (by rfl)) (rh_upd (rh_one (by rfl) (by rfl) (by rfl)) (rh_upd (rh_one (by rfl) (renO_bx (renL_cons (by rfl) (renL_cons (by rfl) (renL_cons (by rfl) (renL_cons (by rfl) (renL_cons (ren_acc (by rfl)) (renL_cons (by rfl) (renL_nil _)))))))) (by rfl)) (rh_upd (rh_acc (by rfl) (by rfl)) (rh_no _))))), Nat.lt_succ_self _⟩
              · try simp -implicitDefEqProofs only [go_sem, ↓reduceIte, c197]
                obtain rfl := Option.some.inj H198
                exact ⟨⟨⟨t194, rfl⟩, g⟩, ren_mk [(0, 0), (1, 1), (2, 2), (3, 3)] (by rfl) (rf_upd (by rfl) (rf_upd (by rfl) (rf_upd (by rfl) (rf_upd (by rfl) (rf_no _))))) (rh_upd (rh_one (by rfl) (by rfl) (by rfl)) (rh_upd (rh_one (by rfl) (by rfl) (by rfl)) (rh_upd (rh_one (by rfl) (renO_bx (renL_cons (by rfl) (renL_cons (by rfl) (renL_cons (by rfl) (renL_cons (by rfl) (renL_cons (ren_acc (by rfl)) (renL_cons (by rfl) (renL_nil _)))))))) (by rfl)) (rh_upd (rh_acc (by rfl) (by rfl)) (rh_no _)))))⟩
        · rintro ⟨⟨t1943, he238⟩, g3⟩
          replace he238 := he238.symm
          subst he238
          try dsimp only at H185
          refine runR_seq ?_
          refine runR_take tab_ok fol 1 ?_
          try simp -implicitDefEqProofs only [go_sem, Nat.reduceLT, Nat.reduceEqDiff, Nat.reduceAdd, Nat.reduceMul, Nat.reduceLeDiff, reduceCtorEq, ↓reduceIte]
          refine runR_seq ?_
          obtain ⟨e_5, E215, H216⟩ := bind_inv H185
          refine runR_join (α := { y : List GStmt × Bool // e_5 = y } × Nat) (fun | ⟨⟨⟨t1944, t22⟩, _⟩, g4⟩ => ⟨upd 8 (.pt 0 0) (upd 10 (.v (.bool t106)) (upd 19 (.pt 1 0) (upd 21 (.pt 3 0) (upd 22 (.v (.bool t22)) noFr)))), upd 0 (some (.bx [.v (.bool t26.session), .v (.string t26.who), .v (.string t26.act), .v (.string t26.obj)])) (upd 1 (some (.bx [.d (.sl (List.map eS t24.users)) false, .d (.sl (List.map eS t24.actions)) false, .d (.sl (List.map eS t24.resources)) false, .d (.sl (List.map eGGroup t24.groups)) false, accV 2 g4 (List.map eGStmt t1944), .d (.sl (List.map eGBound t24.bounds)) false])) (upd 2 (accO 6 g4 false (List.map eGStmt t1944)) (upd 3 (some (.bx [.d (.sl (List.map eS t24.users)) false, .d (.sl (List.map eS t24.actions)) false, .d (.sl (List.map eS t24.resources)) false, .v (.slice none 0 0), .so 4 0 0 1, .v (.slice none 0 0)])) (upd 4 (some (.rw [[.v (.string { data := #[97] }), .v (.bool false), .sl (List.map eS t24.users), .sl [], .sl (List.map eS [{ data := #[42] }]), .sl (List.map eS [{ data := #[42] }])]] 6 0 false false)) noHp)))), 5⟩) ?_ ?_
          · refine runR_take tab_ok fol 1 ?_
            try simp -implicitDefEqProofs only [go_sem, Nat.reduceEqDiff, Nat.reduceAdd, reduceCtorEq, ↓reduceIte]
            rcases ite_inv E215 with ⟨c217, H218⟩ | ⟨c217, H218⟩
            · try simp -implicitDefEqProofs only [go_sem, Nat.reduceEqDiff, Nat.reduceAdd, ↓reduceIte, c217]
              obtain rfl := Option.some.inj H218
              exact ⟨⟨⟨(t1943, false), rfl⟩, g3⟩, ren_mk [(0, 1), (1, 2), (2, 3), (3, 17), (4, 15)] (by rfl) (rf_upd (by rfl) (rf_upd (by rfl) (rf_upd (by rfl) (rf_upd (by rfl) (rf_upd (by rfl) (rf_no _)))))) (rh_upd (rh_one (by rfl) (by rfl) (by rfl)) (rh_upd (rh_one (by rfl) (renO_bx (renL_cons (by rfl) (renL_cons (by rfl) (renL_cons (by rfl) (renL_cons (by rfl) (renL_cons (ren_acc (by rfl)) (renL_cons (by rfl) (renL_nil _)))))))) (by rfl)) (rh_upd (rh_acc (by rfl) (by rfl)) (rh_upd (rh_one (by rfl) (by rfl) (by rfl)) (rh_upd (rh_one (by rfl) (by rfl) (by rfl)) (rh_no _))))))⟩
            · try simp -implicitDefEqProofs only [go_sem, Nat.reduceEqDiff, Nat.reduceAdd, reduceCtorEq, ↓reduceIte, c217]
              rcases ite_inv H218 with ⟨c219, H220⟩ | ⟨c219, H220⟩
              · try simp -implicitDefEqProofs only [go_sem, Nat.reduceEqDiff, Nat.reduceAdd, ↓reduceIte, c219]
                obtain rfl := Option.some.inj H220
                exact ⟨⟨⟨(t1943, false), rfl⟩, g3⟩, ren_mk [(0, 1), (1, 2), (2, 3), (3, 17), (4, 15)] (by rfl) (rf_upd (by rfl) (rf_upd (by rfl) (rf_upd (by rfl) (rf_upd (by rfl) (rf_upd (by rfl) (rf_no _)))))) (rh_upd (rh_one (by rfl) (by rfl) (by rfl)) (rh_upd (rh_one (by rfl) (renO_bx (renL_cons (by rfl) (renL_cons (by rfl) (renL_cons (by rfl) (renL_cons (by rfl) (renL_cons (ren_acc (by rfl)) (renL_cons (by rfl) (renL_nil _)))))))) (by rfl)) (rh_upd (rh_acc (by rfl) (by rfl)) (rh_upd (rh_one (by rfl) (by rfl) (by rfl)) (rh_upd (rh_one (by rfl) (by rfl) (by rfl)) (rh_no _))))))⟩
              · try simp -implicitDefEqProofs only [go_sem, Nat.reduceEqDiff, Nat.reduceAdd, reduceCtorEq, ↓reduceIte, c219]
                obtain rfl := Option.some.inj H220
                exact ⟨⟨⟨(t1943, (!(t26.obj.toList == ({ data := #[99] } : ByteArray).toList))), rfl⟩, g3⟩, ren_mk [(0, 1), (1, 2), (2, 3), (3, 17), (4, 15)] (by rfl) (rf_upd (by rfl) (rf_upd (by rfl) (rf_upd (by rfl) (rf_upd (by rfl) (rf_upd (by rfl) (rf_no _)))))) (rh_upd (rh_one (by rfl) (by rfl) (by rfl)) (rh_upd (rh_one (by rfl) (renO_bx (renL_cons (by rfl) (renL_cons (by rfl) (renL_cons (by rfl) (renL_cons (by rfl) (renL_cons (ren_acc (by rfl)) (renL_cons (by rfl) (renL_nil _)))))))) (by rfl)) (rh_upd (rh_acc (by rfl) (by rfl)) (rh_upd (rh_one (by rfl) (by rfl) (by rfl)) (rh_upd (rh_one (by rfl) (by rfl) (by rfl)) (rh_no _))))))⟩
          · rintro ⟨⟨⟨t1944, t22⟩, he237⟩, g4⟩
            replace he237 := he237.symm
            subst he237
            try dsimp only at H216
            refine runR_take tab_ok fol 1 ?_
            obtain ⟨t223, b221, H222⟩ := bind_inv H216
            try simp -implicitDefEqProofs only [go_sem, Nat.reduceEqDiff, Nat.reduceAdd, reduceCtorEq, ↓reduceIte]
            refine onCall_pure (by first | rfl | (simp -implicitDefEqProofs only [go_sem, Nat.reduceEqDiff, reduceCtorEq, ↓reduceIte, eGPolicy]; done) | (simp -implicitDefEqProofs only [go_sem, Nat.reduceEqDiff, reduceCtorEq, ↓reduceIte, eGPolicy]; rfl)) (glob_May_ok b221) (by first | exact .inr rfl | exact .inl rfl) ?_
            try simp -implicitDefEqProofs only [go_sem, Nat.reduceAdd, ↓reduceIte]
            rcases ite_inv H222 with ⟨c223, H224⟩ | ⟨c223, H224⟩
            · try simp -implicitDefEqProofs only [go_sem, Nat.reduceEqDiff, Nat.reduceAdd, ↓reduceIte, c223]
              obtain rfl := Option.some.inj H224
              exact end_pure (by first | (simp -implicitDefEqProofs only [go_sem, ↓reduceIte, Try.f6] <;> rfl) | rfl) (by first | rfl | (simp -implicitDefEqProofs only [go_sem, Int.reduceToNat, Int.reduceLT, Int.reduceLE, Int.reduceBEq, Int.reduceBNe, Nat.reduceLT, Nat.reduceBEq, Int.reduceEq, Nat.reduceEqDiff, Nat.reduceAdd, Nat.reduceSub, Nat.reduceMul, Nat.reduceLeDiff, reduceCtorEq, ↓reduceIte, eGPolicy, eGAsk, eGStmt, eGGroup, eGBound, c223]; done) | (simp -implicitDefEqProofs only [go_sem, Int.reduceToNat, Int.reduceLT, Int.reduceLE, Int.reduceBEq, Int.reduceBNe, Nat.reduceLT, Nat.reduceBEq, Int.reduceEq, Nat.reduceEqDiff, Nat.reduceAdd, Nat.reduceSub, Nat.reduceMul, Nat.reduceLeDiff, reduceCtorEq, ↓reduceIte, eGPolicy, eGAsk, eGStmt, eGGroup, eGBound, c223]; rfl)) rfl (by intro h; first | rfl | cases h)
            · obtain ⟨t233, b225, H226⟩ := bind_inv H224
              try simp -implicitDefEqProofs only [go_sem, Nat.reduceEqDiff, Nat.reduceAdd, reduceCtorEq, ↓reduceIte, c223]
              refine onCall_pure (by first | rfl | (simp -implicitDefEqProofs only [go_sem, Int.reduceToNat, Int.reduceLT, Int.reduceLE, Int.reduceBEq, Int.reduceBNe, Nat.reduceLT, Nat.reduceBEq, Int.reduceEq, Nat.reduceEqDiff, Nat.reduceAdd, Nat.reduceSub, Nat.reduceMul, Nat.reduceLeDiff, reduceCtorEq, ↓reduceIte, eGPolicy, eGAsk, eGStmt, eGGroup, eGBound, c223]; done) | (simp -implicitDefEqProofs only [go_sem, Int.reduceToNat, Int.reduceLT, Int.reduceLE, Int.reduceBEq, Int.reduceBNe, Nat.reduceLT, Nat.reduceBEq, Int.reduceEq, Nat.reduceEqDiff, Nat.reduceAdd, Nat.reduceSub, Nat.reduceMul, Nat.reduceLeDiff, reduceCtorEq, ↓reduceIte, eGPolicy, eGAsk, eGStmt, eGGroup, eGBound, c223]; rfl)) (glob_May_ok b225) (by first | exact .inr rfl | exact .inl rfl) ?_
              try simp -implicitDefEqProofs only [go_sem, Nat.reduceEqDiff, Nat.reduceAdd, ↓reduceIte]
              rcases ite_inv H226 with ⟨c227, H228⟩ | ⟨c227, H228⟩
              · try simp -implicitDefEqProofs only [go_sem, Nat.reduceEqDiff, Nat.reduceAdd, ↓reduceIte, c227]
                rcases ite_inv H228 with ⟨c229, H230⟩ | ⟨c229, H230⟩
                · try simp -implicitDefEqProofs only [go_sem, Nat.reduceEqDiff, Nat.reduceAdd, ↓reduceIte, c229]
                  rcases ite_inv H230 with ⟨c231, H232⟩ | ⟨c231, H232⟩
                  · obtain ⟨t245, b233, H234⟩ := bind_inv H232
                    try simp -implicitDefEqProofs only [go_sem, Nat.reduceAdd, ↓reduceIte, c231]
                    refine onCall_pure (by first | rfl | (simp -implicitDefEqProofs only [go_sem, Int.reduceToNat, Int.reduceLT, Int.reduceLE, Int.reduceBEq, Int.reduceBNe, Nat.reduceLT, Nat.reduceBEq, Int.reduceEq, Nat.reduceEqDiff, Nat.reduceAdd, Nat.reduceSub, Nat.reduceMul, Nat.reduceLeDiff, reduceCtorEq, ↓reduceIte, eGPolicy, eGAsk, eGStmt, eGGroup, eGBound, c223, c227, c229, c231]; done) | (simp -implicitDefEqProofs only [go_sem, Int.reduceToNat, Int.reduceLT, Int.reduceLE, Int.reduceBEq, Int.reduceBNe, Nat.reduceLT, Nat.reduceBEq, Int.reduceEq, Nat.reduceEqDiff, Nat.reduceAdd, Nat.reduceSub, Nat.reduceMul, Nat.reduceLeDiff, reduceCtorEq, ↓reduceIte, eGPolicy, eGAsk, eGStmt, eGGroup, eGBound, c223, c227, c229, c231]; rfl)) (law24_awake_ok b233) (by first | exact .inr rfl | exact .inl rfl) ?_
                    try simp -implicitDefEqProofs only [go_sem, Nat.reduceEqDiff, Nat.reduceAdd, ↓reduceIte]
                    obtain rfl := Option.some.inj H234
                    exact end_pure (by first | (simp -implicitDefEqProofs only [go_sem, ↓reduceIte, Try.f6] <;> rfl) | rfl) (by first | rfl | (simp -implicitDefEqProofs only [go_sem, Int.reduceToNat, Int.reduceLT, Int.reduceLE, Int.reduceBEq, Int.reduceBNe, Nat.reduceLT, Nat.reduceBEq, Int.reduceEq, Nat.reduceEqDiff, Nat.reduceAdd, Nat.reduceSub, Nat.reduceMul, Nat.reduceLeDiff, reduceCtorEq, ↓reduceIte, eGPolicy, eGAsk, eGStmt, eGGroup, eGBound, c223, c227, c229, c231]; done) | (simp -implicitDefEqProofs only [go_sem, Int.reduceToNat, Int.reduceLT, Int.reduceLE, Int.reduceBEq, Int.reduceBNe, Nat.reduceLT, Nat.reduceBEq, Int.reduceEq, Nat.reduceEqDiff, Nat.reduceAdd, Nat.reduceSub, Nat.reduceMul, Nat.reduceLeDiff, reduceCtorEq, ↓reduceIte, eGPolicy, eGAsk, eGStmt, eGGroup, eGBound, c223, c227, c229, c231]; rfl)) rfl (by intro h; first | rfl | cases h)
                  · try simp -implicitDefEqProofs only [go_sem, Nat.reduceEqDiff, Nat.reduceAdd, ↓reduceIte, c231]
                    obtain rfl := Option.some.inj H232
                    exact end_pure (by first | (simp -implicitDefEqProofs only [go_sem, ↓reduceIte, Try.f6] <;> rfl) | rfl) (by first | rfl | (simp -implicitDefEqProofs only [go_sem, Int.reduceToNat, Int.reduceLT, Int.reduceLE, Int.reduceBEq, Int.reduceBNe, Nat.reduceLT, Nat.reduceBEq, Int.reduceEq, Nat.reduceEqDiff, Nat.reduceAdd, Nat.reduceSub, Nat.reduceMul, Nat.reduceLeDiff, reduceCtorEq, ↓reduceIte, eGPolicy, eGAsk, eGStmt, eGGroup, eGBound, c223, c227, c229, c231]; done) | (simp -implicitDefEqProofs only [go_sem, Int.reduceToNat, Int.reduceLT, Int.reduceLE, Int.reduceBEq, Int.reduceBNe, Nat.reduceLT, Nat.reduceBEq, Int.reduceEq, Nat.reduceEqDiff, Nat.reduceAdd, Nat.reduceSub, Nat.reduceMul, Nat.reduceLeDiff, reduceCtorEq, ↓reduceIte, eGPolicy, eGAsk, eGStmt, eGGroup, eGBound, c223, c227, c229, c231]; rfl)) rfl (by intro h; first | rfl | cases h)
                · obtain ⟨t2452, b235, H236⟩ := bind_inv H230
                  try simp -implicitDefEqProofs only [go_sem, Nat.reduceEqDiff, Nat.reduceAdd, ↓reduceIte, c229]
                  refine onCall_pure (by first | rfl | (simp -implicitDefEqProofs only [go_sem, Int.reduceToNat, Int.reduceLT, Int.reduceLE, Int.reduceBEq, Int.reduceBNe, Nat.reduceLT, Nat.reduceBEq, Int.reduceEq, Nat.reduceEqDiff, Nat.reduceAdd, Nat.reduceSub, Nat.reduceMul, Nat.reduceLeDiff, reduceCtorEq, ↓reduceIte, eGPolicy, eGAsk, eGStmt, eGGroup, eGBound, c223, c227, c229]; done) | (simp -implicitDefEqProofs only [go_sem, Int.reduceToNat, Int.reduceLT, Int.reduceLE, Int.reduceBEq, Int.reduceBNe, Nat.reduceLT, Nat.reduceBEq, Int.reduceEq, Nat.reduceEqDiff, Nat.reduceAdd, Nat.reduceSub, Nat.reduceMul, Nat.reduceLeDiff, reduceCtorEq, ↓reduceIte, eGPolicy, eGAsk, eGStmt, eGGroup, eGBound, c223, c227, c229]; rfl)) (law24_awake_ok b235) (by first | exact .inr rfl | exact .inl rfl) ?_
                  try simp -implicitDefEqProofs only [go_sem, Nat.reduceEqDiff, Nat.reduceAdd, ↓reduceIte]
                  obtain rfl := Option.some.inj H236
                  exact end_pure (by first | (simp -implicitDefEqProofs only [go_sem, ↓reduceIte, Try.f6] <;> rfl) | rfl) (by first | rfl | (simp -implicitDefEqProofs only [go_sem, Int.reduceToNat, Int.reduceLT, Int.reduceLE, Int.reduceBEq, Int.reduceBNe, Nat.reduceLT, Nat.reduceBEq, Int.reduceEq, Nat.reduceEqDiff, Nat.reduceAdd, Nat.reduceSub, Nat.reduceMul, Nat.reduceLeDiff, reduceCtorEq, ↓reduceIte, eGPolicy, eGAsk, eGStmt, eGGroup, eGBound, c223, c227, c229]; done) | (simp -implicitDefEqProofs only [go_sem, Int.reduceToNat, Int.reduceLT, Int.reduceLE, Int.reduceBEq, Int.reduceBNe, Nat.reduceLT, Nat.reduceBEq, Int.reduceEq, Nat.reduceEqDiff, Nat.reduceAdd, Nat.reduceSub, Nat.reduceMul, Nat.reduceLeDiff, reduceCtorEq, ↓reduceIte, eGPolicy, eGAsk, eGStmt, eGGroup, eGBound, c223, c227, c229]; rfl)) rfl (by intro h; first | rfl | cases h)
              · try simp -implicitDefEqProofs only [go_sem, Nat.reduceEqDiff, Nat.reduceAdd, ↓reduceIte, c227]
                obtain rfl := Option.some.inj H228
                exact end_pure (by first | (simp -implicitDefEqProofs only [go_sem, ↓reduceIte, Try.f6] <;> rfl) | rfl) (by first | rfl | (simp -implicitDefEqProofs only [go_sem, Int.reduceToNat, Int.reduceLT, Int.reduceLE, Int.reduceBEq, Int.reduceBNe, Nat.reduceLT, Nat.reduceBEq, Int.reduceEq, Nat.reduceEqDiff, Nat.reduceAdd, Nat.reduceSub, Nat.reduceMul, Nat.reduceLeDiff, reduceCtorEq, ↓reduceIte, eGPolicy, eGAsk, eGStmt, eGGroup, eGBound, c223, c227]; done) | (simp -implicitDefEqProofs only [go_sem, Int.reduceToNat, Int.reduceLT, Int.reduceLE, Int.reduceBEq, Int.reduceBNe, Nat.reduceLT, Nat.reduceBEq, Int.reduceEq, Nat.reduceEqDiff, Nat.reduceAdd, Nat.reduceSub, Nat.reduceMul, Nat.reduceLeDiff, reduceCtorEq, ↓reduceIte, eGPolicy, eGAsk, eGStmt, eGGroup, eGBound, c223, c227]; rfl)) rfl (by intro h; first | rfl | cases h)
end Go.Proofs.Ytkkhgdmmbhpckaa.Ab
