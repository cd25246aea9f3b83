/-
 Functions, read off the code.
-/
import Derived.Test.YtkkhgdmmbhpckaaGreatNxd
namespace Go.Proofs.YtkkhgdmmbhpckaaGreat.Ab
open Go.RowKit
def law14_NormOnce_L1 (n : Nat) (t15 : List GFact × Int × Int) : Nat → (List GFact × Int) → Option (List GFact)
 | 0, _ => none
 | c + 1, (t6, t7) =>
  (if (decide (0 ≤ t7)) then
   (idx t15.1 t7).bind fun x2 =>
   (app t6 [x2, x2]).bind fun l =>
   law14_NormOnce_L1 n t15 c (l, (IntKind.i64.wrap (t7 - 1)))
  else
   some t6)

def law14_NormOnce_L2 (n : Nat) (t38 : GRoles) (t40 : GRoles) : Nat → Int → Option ((Unit) ⊕ Bool)
 | 0, _ => none
 | c + 1, t64 =>
  (if (decide (t64 < 5)) then
   (idx [{ data := #[114] }, { data := #[115] }, { data := #[116] }, { data := #[113] }, { data := #[122] }] t64).bind fun x3 =>
   (norm_Down n t38 x3).bind fun t702 =>
   (norm_Down n t40 x3).bind fun t732 =>
   (ref1_SameTexts n t702 t732).bind fun t742 =>
   (if t742 then
    (norm_Up n t38 x3).bind fun t792 =>
    (norm_Up n t40 x3).bind fun t822 =>
    (ref1_SameTexts n t792 t822).bind fun t832 =>
    (if t832 then
     law14_NormOnce_L2 n t38 t40 c (IntKind.i64.wrap (t64 + 1))
    else
     some (.inr false))
   else
    some (.inr false))
  else
   some (.inl ()))

def law14_NormOnce (n : Nat) (t0 : List Int) : Option Bool :=
 (law13_File n t0 true).bind fun t14 =>
 (ref13_Parse n t14).bind fun t15 =>
 (
  law14_NormOnce_L1 n t15 n ([], (IntKind.i64.wrap ((t15.1.length : Int) - 1))) : Option (List GFact)).bind fun t63 =>
 (norm_Of n t15.1).bind fun t38 =>
 (norm_Normal n t38).bind fun t40 =>
 (
  (norm_Normal n t40).bind fun t42 =>
  (norm_Same n t42 t40).bind fun t44 =>
  (if t44 then
   (norm_Of n t63).bind fun t48 =>
   (norm_Normal n t48).bind fun t49 =>
   (norm_Same n t49 t40).bind fun t51 =>
   (if t51 then
    (norm_Facts n t38).bind fun t56 =>
    (norm_Of n t56).bind fun t57 =>
    (norm_Same n t57 t38).bind fun t59 =>
    some (!t59)
   else
    some true)
  else
   some true) : Option (Bool)).bind fun t61 =>
 (if t61 then
  some false
 else
  (
   law14_NormOnce_L2 n t38 t40 n 0 : Option ((Unit) ⊕ Bool)).bind fun
   | .inl _ =>
    (law14_awake n).bind fun t87 =>
    some t87
   | .inr r => some r)
set_option maxHeartbeats 8000000 in
theorem law14_NormOnce_ok {n : Nat} {t0 : List Int} {r : Bool} (H : law14_NormOnce n t0 = some r) : PureOK Tryz.prog 5 [D.sl (List.map eI t0)] (D.v (.bool r)) true := by
 unfold law14_NormOnce at H
 refine pure_runR (tab := tab) tab_ok Tryz.func5 rfl (by kernel_rfl) (by kernel_rfl) (by simp [Tryz.f5]) ?_
 refine runR_seq ?_
 refine runR_take tab_ok fol 1 ?_
 try simp -implicitDefEqProofs only [go_sem]
 refine runR_seq ?_
 refine runR_take tab_ok fol 1 ?_
 obtain ⟨t14, b1, H2⟩ := bind_inv H
 try simp -implicitDefEqProofs only [go_sem, Nat.reduceAdd, reduceCtorEq, ↓reduceIte]
 refine onCall_pure (by rfl) (law13_File_ok b1) (by exact .inr rfl) ?_
 obtain ⟨t15, b3, H4⟩ := bind_inv H2
 try simp -implicitDefEqProofs only [go_sem, Bool.false_and, Nat.reduceAdd, ↓reduceIte]
 refine onCall_pure (by rfl) (ref13_Parse_ok b3) (by exact .inr rfl) ?_
 try simp -implicitDefEqProofs only [go_sem, Bool.false_and, Nat.reduceEqDiff, Nat.reduceAdd, ↓reduceIte]
 refine runR_seq ?_
 refine runR_take tab_ok fol 1 ?_
 try simp -implicitDefEqProofs only [go_sem, Nat.reduceAdd]
 refine runR_seq ?_
 refine runR_seq ?_
 refine runR_take tab_ok fol 1 ?_
 try simp -implicitDefEqProofs only [go_sem, Nat.reduceEqDiff, Nat.reduceAdd, ↓reduceIte]
 obtain ⟨e_, E5, H6⟩ := bind_inv H4
 refine runR_join (α := { y : List GFact // e_ = y } × Nat) (fun | ⟨⟨t63, _⟩, g3⟩ => ⟨upd 3 (.d (.sl (List.map eGFact t15.1)) false) (upd 6 (accV 0 g3 (List.map eGFact t63)) noFr), upd 0 (accO 7 g3 false (List.map eGFact t63)) noHp, 1⟩) ?_ ?_
 ·refine runR_block ?_
  refine runR_loop (α := { q : (Nat × (List GFact × Int)) × Nat // law14_NormOnce_L1 n t15 q.1.1 q.1.2 = some e_ }) (fun | ⟨⟨⟨c, ⟨t6, t7⟩⟩, g⟩, _⟩ => ⟨upd 3 (.d (.sl (List.map eGFact t15.1)) false) (upd 6 (accV 0 g (List.map eGFact t6)) (upd 7 (.v (.int .i64 t7)) noFr)), upd 0 (accO 7 g false (List.map eGFact t6)) noHp, 1⟩) (fun q => q.1.1.1) ⟨((n, ([], (IntKind.i64.wrap ((t15.1.length : Int) - 1)))), 0), E5⟩ ?_ ?_
  ·exact ren_mk [] (by rfl) (ru_ (ru_ (ru_ (rf_no _)))) (rh_upd rh_accN (rh_no _))
  ·rintro ⟨⟨⟨c, ⟨t6, t7⟩⟩, g⟩, L7⟩
   rcases c with _ | c
   ·exact nomatch (show none = some _ from L7)
   ·unfold law14_NormOnce_L1 at L7
    try dsimp only at L7
    refine runR_take tab_ok fol 1 ?_
    try simp -implicitDefEqProofs only [go_sem, Nat.reduceEqDiff, Nat.reduceAdd, ↓reduceIte]
    rcases ite_inv L7 with ⟨c16, H17⟩ | ⟨c16, H17⟩
    ·obtain ⟨x2, b18, H19⟩ := bind_inv H17
     obtain ⟨h20, h21⟩ := idx_inv b18
     try simp only [Int.reduceToNat, Int.toNat_natCast] at h21
     have h22 := map_at eGFact h21
     obtain ⟨l, b24, H25⟩ := bind_inv H19
     obtain ⟨h26, h27⟩ := app_inv b24
     have h26 : t6.length + 2 ≤ 4294967296 := h26
     have h28 : List.map eGFact t6 ++ [[.v (.int .i64 x2.kind), .v (.string x2.a), .v (.string x2.b), .v (.string x2.c), .v (.int .i64 x2.n_), .sl (List.map eS x2.l), .v (.int .i64 x2.at_)], [.v (.int .i64 x2.kind), .v (.string x2.a), .v (.string x2.b), .v (.string x2.c), .v (.int .i64 x2.n_), .sl (List.map eS x2.l), .v (.int .i64 x2.at_)]] = List.map eGFact l := app_map eGFact h27
     have h29 : t6.length + 2 = l.length := app_len h27
     have h30 : l.length ≤ 4294967296 := by omega
     have q31 : 0 < l.length := by omega
     try simp -implicitDefEqProofs only [go_sem, Bool.false_and, Nat.reduceLT, Nat.reduceEqDiff, Nat.reduceAdd, Nat.reduceMul, Nat.reduceLeDiff, reduceCtorEq, ↓reduceIte, eGFact, c16, nat_of .i64 h20, h22, h28, h29, h30]
     refine Rd_endF (by (cases t6 <;> rfl)) ?_
     try simp -implicitDefEqProofs only [go_sem, Nat.reduceEqDiff, Nat.reduceAdd, ↓reduceIte]
     rcases t6 with _ | ⟨q0, q1⟩
     ·try simp only [List.map_nil, accI, accN]
      exact ⟨⟨((c, (l, (IntKind.i64.wrap (t7 - 1)))), 0), H25⟩, ren_mk [(0, 13)] (by rfl) (ru_ (rf_upd (by exact ren_accP (by rfl) q31) (ru_ (rf_no _)))) (rh_upd (by exact rh_accP (by rfl) q31 (by rfl)) (rh_no _)), Nat.lt_succ_self _⟩
     ·try simp only [List.map_cons, accI, accN]
      exact ⟨⟨((c, (l, (IntKind.i64.wrap (t7 - 1)))), (g + 1)), H25⟩, ren_mk [(0, 0)] (by rfl) (ru_ (rf_upd (by exact ren_accP (by rfl) q31) (ru_ (rf_no _)))) (rh_upd (by exact rh_accP (by rfl) q31 (by rfl)) (rh_no _)), Nat.lt_succ_self _⟩
    ·try simp -implicitDefEqProofs only [go_sem, ↓reduceIte, c16]
     obtain rfl := Option.some.inj H17
     exact ⟨⟨⟨t6, rfl⟩, g⟩, ren_mk [(0, 0)] (by rfl) (ru_ (rn_ (rf_no _))) (ra_ (rh_no _))⟩
 ·rintro ⟨⟨t63, he107⟩, g3⟩
  replace he107 := he107.symm
  subst he107
  try dsimp only at H6
  refine runR_seq ?_
  refine runR_take tab_ok fol 1 ?_
  obtain ⟨t38, b32, H33⟩ := bind_inv H6
  try simp -implicitDefEqProofs only [go_sem, Nat.reduceAdd, ↓reduceIte]
  refine onCall_pure (by rfl) (norm_Of_ok b32) (by exact .inr rfl) ?_
  try simp -implicitDefEqProofs only [go_sem, Bool.false_and, Nat.reduceEqDiff, Nat.reduceAdd, ↓reduceIte, eGRoles]
  refine runR_seq ?_
  refine runR_take tab_ok fol 1 ?_
  obtain ⟨t40, b34, H35⟩ := bind_inv H33
  try simp -implicitDefEqProofs only [go_sem, Nat.reduceAdd, ↓reduceIte]
  refine onCall_pure (by rfl) (norm_Normal_ok b34) (by exact .inr rfl) ?_
  try simp -implicitDefEqProofs only [go_sem, Bool.false_and, Nat.reduceEqDiff, Nat.reduceAdd, ↓reduceIte, eGRoles]
  refine runR_seq ?_
  refine runR_seq ?_
  obtain ⟨e_2, E36, H37⟩ := bind_inv H35
  refine runR_join (α := { y : Bool // e_2 = y }) (fun | ⟨t61, _⟩ => ⟨upd 8 (.pt 0 0) (upd 9 (.pt 1 0) (upd 61 (.v (.bool t61)) noFr)), upd 0 (some (.bx [.d (.sl (List.map eS t38.users)) false, .d (.sl (List.map eS t38.roles)) false, .d (.sl (List.map eGPair t38.inherit)) false, .d (.sl (List.map eGPair t38.assign)) false, .d (.sl (List.map eGGrant t38.grants)) false, .d (.sl (List.map eGSod t38.ssd)) false, .d (.sl (List.map eGSod t38.dsd)) false, .d (.sl (List.map eGSession t38.sessions)) false])) (upd 1 (some (.bx [.d (.sl (List.map eS t40.users)) false, .d (.sl (List.map eS t40.roles)) false, .d (.sl (List.map eGPair t40.inherit)) false, .d (.sl (List.map eGPair t40.assign)) false, .d (.sl (List.map eGGrant t40.grants)) false, .d (.sl (List.map eGSod t40.ssd)) false, .d (.sl (List.map eGSod t40.dsd)) false, .d (.sl (List.map eGSession t40.sessions)) false])) noHp), 2⟩) ?_ ?_
  ·refine runR_take tab_ok fol 1 ?_
   obtain ⟨t42, b38, H39⟩ := bind_inv E36
   try simp -implicitDefEqProofs only [go_sem, Nat.reduceAdd, ↓reduceIte]
   refine onCallD_pure (by rfl) (norm_Normal_ok b38) (by exact .inr rfl) ?_
   obtain ⟨t44, b40, H41⟩ := bind_inv H39
   try simp -implicitDefEqProofs only [go_sem, Bool.false_and, Nat.reduceEqDiff, Nat.reduceAdd, ↓reduceIte, eGRoles]
   refine onCallD_pure (by rfl) (norm_Same_ok b40) (by exact .inr rfl) ?_
   try simp -implicitDefEqProofs only [go_sem, Bool.false_and, Nat.reduceAdd, ↓reduceIte]
   rcases ite_inv H41 with ⟨c42, H43⟩ | ⟨c42, H43⟩
   ·obtain ⟨t48, b44, H45⟩ := bind_inv H43
    try simp -implicitDefEqProofs only [go_sem, Nat.reduceEqDiff, Nat.reduceAdd, ↓reduceIte, c42]
    refine onCallD_pure (by simp -implicitDefEqProofs only [go_sem, reduceCtorEq, ↓reduceIte]; rfl) (norm_Of_ok b44) (by exact .inr rfl) ?_
    obtain ⟨t49, b46, H47⟩ := bind_inv H45
    try simp -implicitDefEqProofs only [go_sem, Bool.false_and, Nat.reduceEqDiff, Nat.reduceAdd, ↓reduceIte, eGRoles]
    refine onCallD_pure (by rfl) (norm_Normal_ok b46) (by exact .inr rfl) ?_
    obtain ⟨t51, b48, H49⟩ := bind_inv H47
    try simp -implicitDefEqProofs only [go_sem, Bool.false_and, Nat.reduceEqDiff, Nat.reduceAdd, ↓reduceIte, eGRoles]
    refine onCallD_pure (by rfl) (norm_Same_ok b48) (by exact .inr rfl) ?_
    try simp -implicitDefEqProofs only [go_sem, Bool.false_and, Nat.reduceEqDiff, Nat.reduceAdd, ↓reduceIte]
    rcases ite_inv H49 with ⟨c50, H51⟩ | ⟨c50, H51⟩
    ·obtain ⟨t56, b52, H53⟩ := bind_inv H51
     try simp -implicitDefEqProofs only [go_sem, Nat.reduceEqDiff, Nat.reduceAdd, ↓reduceIte, c50]
     refine onCallD_pure (by rfl) (norm_Facts_ok b52) (by exact .inr rfl) ?_
     obtain ⟨t57, b54, H55⟩ := bind_inv H53
     try simp -implicitDefEqProofs only [go_sem, Bool.false_and, Nat.reduceEqDiff, Nat.reduceAdd, ↓reduceIte]
     refine onCallD_pure (by rfl) (norm_Of_ok b54) (by exact .inr rfl) ?_
     obtain ⟨t59, b56, H57⟩ := bind_inv H55
     try simp -implicitDefEqProofs only [go_sem, Bool.false_and, Nat.reduceEqDiff, Nat.reduceAdd, ↓reduceIte, eGRoles]
     refine onCallD_pure (by rfl) (norm_Same_ok b56) (by exact .inr rfl) ?_
     try simp -implicitDefEqProofs only [go_sem, Bool.false_and, Nat.reduceEqDiff, Nat.reduceAdd, ↓reduceIte]
     refine Rd_endF (by rfl) ?_
     try simp -implicitDefEqProofs only [go_sem]
     obtain rfl := Option.some.inj H57
     exact ⟨⟨(!t59), rfl⟩, ren_mk [(0, 3), (1, 7)] (by rfl) (ru_ (ru_ (ru_ (rf_no _)))) (ro_ (ro_ (rh_no _)))⟩
    ·try simp -implicitDefEqProofs only [go_sem, Nat.reduceEqDiff, Nat.reduceAdd, ↓reduceIte, c50]
     refine Rd_endF (by rfl) ?_
     try simp -implicitDefEqProofs only [go_sem]
     obtain rfl := Option.some.inj H51
     exact ⟨⟨true, rfl⟩, ren_mk [(0, 3), (1, 7)] (by rfl) (ru_ (ru_ (ru_ (rf_no _)))) (ro_ (ro_ (rh_no _)))⟩
   ·try simp -implicitDefEqProofs only [go_sem, Nat.reduceEqDiff, Nat.reduceAdd, ↓reduceIte, c42]
    refine Rd_endF (by rfl) ?_
    try simp -implicitDefEqProofs only [go_sem]
    obtain rfl := Option.some.inj H43
    exact ⟨⟨true, rfl⟩, ren_mk [(0, 3), (1, 7)] (by rfl) (ru_ (ru_ (ru_ (rf_no _)))) (ro_ (ro_ (rh_no _)))⟩
  ·rintro ⟨t61, he106⟩
   replace he106 := he106.symm
   subst he106
   try dsimp only at H37
   refine runR_take tab_ok fol 1 ?_
   try simp -implicitDefEqProofs only [go_sem, Nat.reduceEqDiff, ↓reduceIte]
   rcases ite_inv H37 with ⟨c58, H59⟩ | ⟨c58, H59⟩
   ·try simp -implicitDefEqProofs only [go_sem, Nat.reduceAdd, c58]
    obtain rfl := Option.some.inj H59
    exact end_pure (by simp -implicitDefEqProofs only [go_sem, ↓reduceIte, Tryz.f5] <;> rfl) (by rfl) rfl (by intro h; rfl)
   ·try simp -implicitDefEqProofs only [go_sem, c58]
    refine runR_seq ?_
    refine runR_seq ?_
    refine runR_take tab_ok fol 1 ?_
    try simp -implicitDefEqProofs only [go_sem, Nat.reduceLT, Nat.reduceAdd, Nat.reduceLeDiff, ↓reduceIte]
    obtain ⟨e_3, E60, H61⟩ := bind_inv H59
    refine runR_join (α := { y : Unit // e_3 = .inl y }) (fun | ⟨_, _⟩ => ⟨noFr, noHp, 0⟩) ?_ ?_
    ·refine runR_block ?_
     refine runR_loop (α := { q : Nat × Int // law14_NormOnce_L2 n t38 t40 q.1 q.2 = some e_3 }) (fun | ⟨⟨c, t64⟩, _⟩ => ⟨upd 8 (.pt 0 0) (upd 9 (.pt 1 0) (upd 62 (.so 2 0 0 5) (upd 63 (.v (.int .i64 5)) (upd 64 (.v (.int .i64 t64)) noFr)))), upd 0 (some (.bx [.d (.sl (List.map eS t38.users)) false, .d (.sl (List.map eS t38.roles)) false, .d (.sl (List.map eGPair t38.inherit)) false, .d (.sl (List.map eGPair t38.assign)) false, .d (.sl (List.map eGGrant t38.grants)) false, .d (.sl (List.map eGSod t38.ssd)) false, .d (.sl (List.map eGSod t38.dsd)) false, .d (.sl (List.map eGSession t38.sessions)) false])) (upd 1 (some (.bx [.d (.sl (List.map eS t40.users)) false, .d (.sl (List.map eS t40.roles)) false, .d (.sl (List.map eGPair t40.inherit)) false, .d (.sl (List.map eGPair t40.assign)) false, .d (.sl (List.map eGGrant t40.grants)) false, .d (.sl (List.map eGSod t40.ssd)) false, .d (.sl (List.map eGSod t40.dsd)) false, .d (.sl (List.map eGSession t40.sessions)) false])) (upd 2 (some (.rw [[.v (.string { data := #[114] })], [.v (.string { data := #[115] })], [.v (.string { data := #[116] })], [.v (.string { data := #[113] })], [.v (.string { data := #[122] })]] 1 0 false false)) noHp)), 3⟩) (fun q => q.1.1) ⟨(n, 0), E60⟩ ?_ ?_
     ·exact ren_mk [(0, 0), (1, 1), (2, 2)] (by rfl) (ru_ (ru_ (ru_ (ru_ (ru_ (rf_no _)))))) (ro_ (ro_ (ro_ (rh_no _))))
     ·rintro ⟨⟨c, t64⟩, L62⟩
      rcases c with _ | c
      ·exact nomatch (show none = some _ from L62)
      ·unfold law14_NormOnce_L2 at L62
       try dsimp only at L62
       refine runR_take tab_ok fol 1 ?_
       try simp -implicitDefEqProofs only [go_sem, Nat.reduceEqDiff, Nat.reduceAdd, ↓reduceIte]
       rcases ite_inv L62 with ⟨c79, H80⟩ | ⟨c79, H80⟩
       ·obtain ⟨x3, b81, H82⟩ := bind_inv H80
        obtain ⟨h83, h84⟩ := idx_inv b81
        try simp only [Int.reduceToNat, Int.toNat_natCast] at h84
        have h85 := map_at eS h84
        simp only [List.map_cons, List.map_nil, eS] at h85
        have h86 := at_lt h84
        simp only [List.length_cons, List.length_nil, Nat.reduceAdd] at h86
        obtain ⟨t702, b87, H88⟩ := bind_inv H82
        try simp -implicitDefEqProofs only [go_sem, Nat.reduceEqDiff, Nat.reduceAdd, reduceCtorEq, ↓reduceIte, c79, nat_of .i64 h83, h85, h86]
        refine onCallD_pure (by rfl) (norm_Down_ok b87) (by exact .inr rfl) ?_
        obtain ⟨t732, b89, H90⟩ := bind_inv H88
        try simp -implicitDefEqProofs only [go_sem, Bool.false_and, Nat.reduceEqDiff, Nat.reduceAdd, reduceCtorEq, ↓reduceIte]
        refine onCallD_pure (by rfl) (norm_Down_ok b89) (by exact .inr rfl) ?_
        obtain ⟨t742, b91, H92⟩ := bind_inv H90
        try simp -implicitDefEqProofs only [go_sem, Bool.false_and, Nat.reduceEqDiff, Nat.reduceAdd, ↓reduceIte]
        refine onCallD_pure (by rfl) (ref1_SameTexts_ok b91) (by exact .inr rfl) ?_
        try simp -implicitDefEqProofs only [go_sem, Bool.false_and, Nat.reduceAdd, ↓reduceIte]
        rcases ite_inv H92 with ⟨c93, H94⟩ | ⟨c93, H94⟩
        ·obtain ⟨t792, b95, H96⟩ := bind_inv H94
         try simp -implicitDefEqProofs only [go_sem, Nat.reduceEqDiff, Nat.reduceAdd, ↓reduceIte, c93]
         refine onCallD_pure (by rfl) (norm_Up_ok b95) (by exact .inr rfl) ?_
         obtain ⟨t822, b97, H98⟩ := bind_inv H96
         try simp -implicitDefEqProofs only [go_sem, Bool.false_and, Nat.reduceEqDiff, Nat.reduceAdd, reduceCtorEq, ↓reduceIte]
         refine onCallD_pure (by rfl) (norm_Up_ok b97) (by exact .inr rfl) ?_
         obtain ⟨t832, b99, H100⟩ := bind_inv H98
         try simp -implicitDefEqProofs only [go_sem, Bool.false_and, Nat.reduceEqDiff, Nat.reduceAdd, ↓reduceIte]
         refine onCallD_pure (by rfl) (ref1_SameTexts_ok b99) (by exact .inr rfl) ?_
         try simp -implicitDefEqProofs only [go_sem, Bool.false_and, Nat.reduceEqDiff, Nat.reduceAdd, ↓reduceIte]
         refine Rd_endF (by rfl) ?_
         try simp -implicitDefEqProofs only [go_sem, ↓reduceIte]
         rcases ite_inv H100 with ⟨c101, H102⟩ | ⟨c101, H102⟩
         ·try simp -implicitDefEqProofs only [go_sem, Nat.reduceEqDiff, Nat.reduceAdd, ↓reduceIte, c101]
          exact ⟨⟨(c, (IntKind.i64.wrap (t64 + 1))), H102⟩, ren_mk [(0, 0), (1, 1), (2, 2)] (by rfl) (ru_ (ru_ (ru_ (ru_ (ru_ (rf_no _)))))) (ro_ (ro_ (ro_ (rh_no _)))), Nat.lt_succ_self _⟩
         ·try simp -implicitDefEqProofs only [go_sem, Nat.reduceAdd, c101]
          obtain rfl := Option.some.inj H102
          obtain rfl := Option.some.inj H61
          exact end_pure (by simp -implicitDefEqProofs only [go_sem, ↓reduceIte, Tryz.f5] <;> rfl) (by rfl) rfl (by intro h; rfl)
        ·try simp -implicitDefEqProofs only [go_sem, Nat.reduceEqDiff, Nat.reduceAdd, ↓reduceIte, c93]
         refine Rd_endF (by rfl) ?_
         try simp -implicitDefEqProofs only [go_sem, Nat.reduceAdd, ↓reduceIte]
         obtain rfl := Option.some.inj H94
         obtain rfl := Option.some.inj H61
         exact end_pure (by simp -implicitDefEqProofs only [go_sem, ↓reduceIte, Tryz.f5] <;> rfl) (by rfl) rfl (by intro h; rfl)
       ·try simp -implicitDefEqProofs only [go_sem, ↓reduceIte, c79]
        obtain rfl := Option.some.inj H80
        exact ⟨⟨(), rfl⟩, ren_mk [] (by rfl) (rf_no _) (rh_no _)⟩
    ·rintro ⟨_, he105⟩
     replace he105 := he105.symm
     subst he105
     try dsimp only at H61
     refine runR_take tab_ok fol 1 ?_
     obtain ⟨t87, b103, H104⟩ := bind_inv H61
     try simp -implicitDefEqProofs only [go_sem, Nat.reduceAdd]
     refine onCall_pure (by rfl) (law14_awake_ok b103) (by exact .inr rfl) ?_
     try simp -implicitDefEqProofs only [go_sem, Bool.false_and, Nat.reduceAdd, ↓reduceIte]
     obtain rfl := Option.some.inj H104
     exact end_pure (by simp -implicitDefEqProofs only [go_sem, ↓reduceIte, Tryz.f5] <;> rfl) (by rfl) rfl (by intro h; rfl)
end Go.Proofs.YtkkhgdmmbhpckaaGreat.Ab
