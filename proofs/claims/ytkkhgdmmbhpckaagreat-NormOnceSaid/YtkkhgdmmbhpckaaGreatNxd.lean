/-
 Functions, read off the code.
-/
import Derived.Test.YtkkhgdmmbhpckaaGreatNxc
namespace Go.Proofs.YtkkhgdmmbhpckaaGreat.Ab
open Go.RowKit
def norm_least_L1 (n : Nat) (t9 : List GPair) (t14 : List (ByteArray × (List ByteArray))) : Nat → (List GPair × Int) → Option (List GPair)
 | 0, _ => none
 | c + 1, (out, t17) =>
  (if (decide (t17 < (t9.length : Int))) then
   (idx t9 t17).bind fun x2 =>
   (slices_ContainsFunc_string__norm_least_c1 n (mgetD x2.a [] t14) x2 t14).bind fun t272 =>
   (if t272 then
    norm_least_L1 n t9 t14 c (out, (IntKind.i64.wrap (t17 + 1)))
   else
    (app out [x2]).bind fun l2 =>
    norm_least_L1 n t9 t14 c (l2, (IntKind.i64.wrap (t17 + 1))))
  else
   some out)
def norm_least_L1_f (n : Nat) (_ : List GPair) (t14 : List (ByteArray × (List ByteArray))) (st : List GPair) (x2 : GPair) (k : List GPair → Option (List GPair)) : Option (List GPair) :=
 match st with
 | out =>
  (slices_ContainsFunc_string__norm_least_c1 n (mgetD x2.a [] t14) x2 t14).bind fun t272 =>
  (if t272 then
   k out
  else
   (app out [x2]).bind fun l2 =>
   k l2)
def norm_least_L1_e (_ : Nat) (_ : List GPair) (_ : List (ByteArray × (List ByteArray))) (st : List GPair) : Option (List GPair) :=
 match st with
 | out => some out
theorem norm_least_L1_list (n : Nat) (t9 : List GPair) (t14 : List (ByteArray × (List ByteArray))) (hx : t9.length < 4611686018427387904) (c : Nat) (st : List GPair) (ix : Nat) (hi : ix ≤ t9.length) (hc : t9.length - ix < c) : norm_least_L1 n t9 t14 c (match st, (ix : Int) with | out, ix => (out, ix)) = foldK (norm_least_L1_f n t9 t14) (norm_least_L1_e n t9 t14) (t9.drop ix) st :=
 loop_list (fun c st ix => norm_least_L1 n t9 t14 c (match st, ix with | out, ix => (out, ix))) t9 (norm_least_L1_f n t9 t14) (norm_least_L1_e n t9 t14) (fun _ _ _ => rfl) hx c st ix hi hc

def norm_least (n : Nat) (l : List GPair) : Option (List GPair) :=
 (norm_pairs n l).bind fun t9 =>
 (norm_Ring n t9).bind fun t11 =>
 (if t11 then
  some t9
 else
  (norm_below n t9).bind fun t14 =>
  (
   norm_least_L1 n t9 t14 n ([], 0) : Option (List GPair)).bind fun out3 =>
  some out3)
theorem norm_least_ok {n : Nat} {l : List GPair} {r : List GPair} (H : norm_least n l = some r) : PureOK Tryz.prog 30 [D.sl (List.map eGPair l)] (D.sl (List.map eGPair r)) true := by
 unfold norm_least at H
 refine pure_runR (tab := tab) tab_ok Tryz.func30 rfl (by kernel_rfl) (by kernel_rfl) (by simp [Tryz.f30]) ?_
 refine runR_seq ?_
 refine runR_take tab_ok fol 1 ?_
 try simp -implicitDefEqProofs only [go_sem]
 refine runR_seq ?_
 refine runR_take tab_ok fol 1 ?_
 obtain ⟨t9, b1, H2⟩ := bind_inv H
 try simp -implicitDefEqProofs only [go_sem, Nat.reduceAdd, reduceCtorEq, ↓reduceIte]
 refine onCall_pure (by rfl) (norm_pairs_ok b1) (by exact .inr rfl) ?_
 try simp -implicitDefEqProofs only [go_sem, Bool.false_and, Nat.reduceAdd, ↓reduceIte]
 refine runR_seq ?_
 refine runR_take tab_ok fol 1 ?_
 obtain ⟨t11, b3, H4⟩ := bind_inv H2
 try simp -implicitDefEqProofs only [go_sem, Nat.reduceAdd, ↓reduceIte]
 refine onCall_pure (by rfl) (norm_Ring_ok b3) (by exact .inr rfl) ?_
 try simp -implicitDefEqProofs only [go_sem, Bool.false_and, ↓reduceIte]
 rcases ite_inv H4 with ⟨c5, H6⟩ | ⟨c5, H6⟩
 ·try simp -implicitDefEqProofs only [go_sem, Nat.reduceAdd, reduceCtorEq, ↓reduceIte, c5]
  obtain rfl := Option.some.inj H6
  exact end_pure (by simp -implicitDefEqProofs only [go_sem, ↓reduceIte, Tryz.f30] <;> rfl) (by rfl) rfl (by intro h; rfl)
 ·try simp -implicitDefEqProofs only [go_sem, c5]
  refine runR_seq ?_
  refine runR_take tab_ok fol 1 ?_
  obtain ⟨t14, b7, H8⟩ := bind_inv H6
  try simp -implicitDefEqProofs only [go_sem, Nat.reduceAdd, reduceCtorEq, ↓reduceIte]
  refine onCall_pureA (by rfl) (norm_below_ok b7) (by exact .inr rfl) ?_
  try simp -implicitDefEqProofs only [go_sem, Bool.false_and, Nat.reduceEqDiff, Nat.reduceAdd, ↓reduceIte]
  refine runR_seq ?_
  refine runR_take tab_ok fol 1 ?_
  try simp -implicitDefEqProofs only [go_sem, Nat.reduceAdd]
  refine runR_seq ?_
  refine runR_seq ?_
  refine runR_take tab_ok fol 1 ?_
  try simp -implicitDefEqProofs only [go_sem, Nat.reduceAdd, reduceCtorEq, ↓reduceIte]
  obtain ⟨e_, E9, H10⟩ := bind_inv H8
  refine runR_join (α := { y : List GPair // e_ = y } × Nat) (fun | ⟨⟨out3, _⟩, g3⟩ => ⟨upd 4 (accV 0 g3 (List.map eGPair out3)) noFr, upd 0 (accO 2 g3 false (List.map eGPair out3)) noHp, 1⟩) ?_ ?_
  ·refine runR_block ?_
   refine runR_loop (α := { q : (Nat × (List GPair × Int)) × Nat // norm_least_L1 n t9 t14 q.1.1 q.1.2 = some e_ }) (fun | ⟨⟨⟨c, ⟨out, t17⟩⟩, g⟩, _⟩ => ⟨upd 3 (.pt 0 0) (upd 4 (accV 1 g (List.map eGPair out)) (upd 15 (.d (.sl (List.map eGPair t9)) false) (upd 16 (.v (.int .i64 (t9.length : Int))) (upd 17 (.v (.int .i64 t17)) noFr)))), upd 0 (some (.bx [.d (.mp (encMp Value.string false (eL eS) t14)) false])) (upd 1 (accO 2 g false (List.map eGPair out)) noHp), 2⟩) (fun q => q.1.1.1) ⟨((n, ([], 0)), 0), E9⟩ ?_ ?_
   ·exact ren_mk [(0, 8)] (by rfl) (ru_ (ru_ (ru_ (ru_ (ru_ (rf_no _)))))) (ro_ (rh_upd rh_accN (rh_no _)))
   ·rintro ⟨⟨⟨c, ⟨out, t17⟩⟩, g⟩, L11⟩
    rcases c with _ | c
    ·exact nomatch (show none = some _ from L11)
    ·unfold norm_least_L1 at L11
     try dsimp only at L11
     refine runR_take tab_ok fol 1 ?_
     try simp -implicitDefEqProofs only [go_sem, Nat.reduceEqDiff, Nat.reduceAdd, ↓reduceIte]
     rcases ite_inv L11 with ⟨c25, H26⟩ | ⟨c25, H26⟩
     ·obtain ⟨x2, b27, H28⟩ := bind_inv H26
      obtain ⟨h29, h30⟩ := idx_inv b27
      try simp only [Int.reduceToNat, Int.toNat_natCast] at h30
      have h31 := map_at eGPair h30
      have h33 : lookA (false, [.string]) (.string x2.a) (.d (.sl []) false) false (dEnts false (encMp Value.string false (eL eS) t14)) = some (.d (.sl (List.map eS (mgetD x2.a [] t14))) false, []) := lookD (b := false) (ag := false) (enc := (eL eS)) key_str x2.a ([] : List ByteArray) false t14
      obtain ⟨t272, b34, H35⟩ := bind_inv H28
      try simp -implicitDefEqProofs only [go_sem, Nat.reduceEqDiff, Nat.reduceAdd, reduceCtorEq, ↓reduceIte, eGPair, c25, nat_of .i64 h29, h31, h33]
      refine onCall_pureA (by rfl) (slices_ContainsFunc_string__norm_least_c1_ok b34) (by exact .inr rfl) ?_
      try simp -implicitDefEqProofs only [go_sem, Bool.false_and, Nat.reduceAdd, ↓reduceIte]
      rcases ite_inv H35 with ⟨c36, H37⟩ | ⟨c36, H37⟩
      ·try simp -implicitDefEqProofs only [go_sem, Nat.reduceEqDiff, Nat.reduceAdd, ↓reduceIte, c36]
       exact ⟨⟨((c, (out, (IntKind.i64.wrap (t17 + 1)))), g), H37⟩, ren_mk [(0, 0), (1, 1)] (by rfl) (ru_ (rn_ (ru_ (ru_ (ru_ (rf_no _)))))) (ro_ (ra_ (rh_no _))), Nat.lt_succ_self _⟩
      ·obtain ⟨l2, b38, H39⟩ := bind_inv H37
       obtain ⟨h40, h41⟩ := app_inv b38
       have h40 : out.length + 1 ≤ 4294967296 := h40
       have h42 : List.map eGPair out ++ [[.v (.string x2.a), .v (.string x2.b)]] = List.map eGPair l2 := app_map eGPair h41
       have h43 : out.length + 1 = l2.length := app_len h41
       have h44 : l2.length ≤ 4294967296 := by omega
       have q45 : 0 < l2.length := by omega
       try simp -implicitDefEqProofs only [go_sem, Nat.reduceLT, Nat.reduceEqDiff, Nat.reduceAdd, Nat.reduceMul, Nat.reduceLeDiff, reduceCtorEq, ↓reduceIte, c36, h42, h43, h44]
       rcases out with _ | ⟨q0, q1⟩
       ·try simp only [List.map_nil, accI, accN]
        exact ⟨⟨((c, (l2, (IntKind.i64.wrap (t17 + 1)))), 0), H39⟩, ren_mk [(0, 0), (1, 19)] (by rfl) (ru_ (rf_upd (by exact ren_accP (by rfl) q45) (ru_ (ru_ (ru_ (rf_no _)))))) (ro_ (rh_upd (by exact rh_accP (by rfl) q45 (by rfl)) (rh_no _))), Nat.lt_succ_self _⟩
       ·try simp only [List.map_cons, accI, accN]
        exact ⟨⟨((c, (l2, (IntKind.i64.wrap (t17 + 1)))), (g + 1)), H39⟩, ren_mk [(0, 0), (1, 1)] (by rfl) (ru_ (rf_upd (by exact ren_accP (by rfl) q45) (ru_ (ru_ (ru_ (rf_no _)))))) (ro_ (rh_upd (by exact rh_accP (by rfl) q45 (by rfl)) (rh_no _))), Nat.lt_succ_self _⟩
     ·try simp -implicitDefEqProofs only [go_sem, ↓reduceIte, c25]
      obtain rfl := Option.some.inj H26
      exact ⟨⟨⟨out, rfl⟩, g⟩, ren_mk [(0, 1)] (by rfl) (rn_ (rf_no _)) (ra_ (rh_no _))⟩
  ·rintro ⟨⟨out3, he46⟩, g3⟩
   replace he46 := he46.symm
   subst he46
   try dsimp only at H10
   refine runR_take tab_ok fol 1 ?_
   try simp -implicitDefEqProofs only [go_sem, Nat.reduceAdd, ↓reduceIte]
   obtain rfl := Option.some.inj H10
   exact end_pure (by simp -implicitDefEqProofs only [go_sem, ↓reduceIte, Tryz.f30] <;> rfl) (by simp -implicitDefEqProofs only [go_sem, ↓reduceIte]; rfl) rfl (by intro h; rfl)
def norm_Normal (n : Nat) (p : GRoles) : Option GRoles :=
 (norm_Once n p.users).bind fun t5 =>
 (norm_Once n p.roles).bind fun t8 =>
 (norm_least n p.inherit).bind fun t11 =>
 (norm_pairs n p.assign).bind fun t14 =>
 (norm_grants n p.grants).bind fun t17 =>
 (norm_sods n p.ssd).bind fun t20 =>
 (norm_sods n p.dsd).bind fun t23 =>
 (norm_sessions n p.sessions).bind fun t26 =>
 some (⟨t5, t8, t11, t14, t17, t20, t23, t26⟩ : GRoles)
theorem norm_Normal_ok {n : Nat} {p : GRoles} {r : GRoles} (H : norm_Normal n p = some r) : PureOK Tryz.prog 18 [D.ag (eGRoles p)] (D.ag (eGRoles r)) true := by
 unfold norm_Normal at H
 refine pure_runR (tab := tab) tab_ok Tryz.func18 rfl (by kernel_rfl) (by kernel_rfl) (by simp [Tryz.f18]) ?_
 refine runR_take tab_ok fol 1 ?_
 obtain ⟨t5, b1, H2⟩ := bind_inv H
 try simp -implicitDefEqProofs only [go_sem, Nat.reduceEqDiff, Nat.reduceAdd, reduceCtorEq, ↓reduceIte, eGRoles]
 refine onCallD_pure (by rfl) (norm_Once_ok b1) (by exact .inr rfl) ?_
 obtain ⟨t8, b3, H4⟩ := bind_inv H2
 try simp -implicitDefEqProofs only [go_sem, Bool.false_and, Nat.reduceEqDiff, Nat.reduceAdd, reduceCtorEq, ↓reduceIte]
 refine onCallD_pure (by rfl) (norm_Once_ok b3) (by exact .inr rfl) ?_
 obtain ⟨t11, b5, H6⟩ := bind_inv H4
 try simp -implicitDefEqProofs only [go_sem, Bool.false_and, Nat.reduceEqDiff, Nat.reduceAdd, reduceCtorEq, ↓reduceIte]
 refine onCallD_pure (by rfl) (norm_least_ok b5) (by exact .inr rfl) ?_
 obtain ⟨t14, b7, H8⟩ := bind_inv H6
 try simp -implicitDefEqProofs only [go_sem, Bool.false_and, Nat.reduceEqDiff, Nat.reduceAdd, reduceCtorEq, ↓reduceIte]
 refine onCallD_pure (by rfl) (norm_pairs_ok b7) (by exact .inr rfl) ?_
 obtain ⟨t17, b9, H10⟩ := bind_inv H8
 try simp -implicitDefEqProofs only [go_sem, Bool.false_and, Nat.reduceEqDiff, Nat.reduceAdd, reduceCtorEq, ↓reduceIte]
 refine onCallD_pure (by rfl) (norm_grants_ok b9) (by exact .inr rfl) ?_
 obtain ⟨t20, b11, H12⟩ := bind_inv H10
 try simp -implicitDefEqProofs only [go_sem, Bool.false_and, Nat.reduceEqDiff, Nat.reduceAdd, reduceCtorEq, ↓reduceIte]
 refine onCallD_pure (by rfl) (norm_sods_ok b11) (by exact .inr rfl) ?_
 obtain ⟨t23, b13, H14⟩ := bind_inv H12
 try simp -implicitDefEqProofs only [go_sem, Bool.false_and, Nat.reduceEqDiff, Nat.reduceAdd, reduceCtorEq, ↓reduceIte]
 refine onCallD_pure (by rfl) (norm_sods_ok b13) (by exact .inr rfl) ?_
 obtain ⟨t26, b15, H16⟩ := bind_inv H14
 try simp -implicitDefEqProofs only [go_sem, Bool.false_and, Nat.reduceEqDiff, Nat.reduceAdd, reduceCtorEq, ↓reduceIte]
 refine onCallD_pure (by rfl) (norm_sessions_ok b15) (by exact .inr rfl) ?_
 try simp -implicitDefEqProofs only [go_sem, Bool.false_and, Nat.reduceEqDiff, Nat.reduceAdd, Nat.reduceLeDiff, ↓reduceIte]
 refine Rd_endF (by rfl) ?_
 try simp -implicitDefEqProofs only [go_sem]
 obtain rfl := Option.some.inj H16
 exact end_pure (by simp -implicitDefEqProofs only [go_sem, Nat.reduceEqDiff, Nat.reduceAdd, ↓reduceIte, Tryz.f18] <;> rfl) (by rfl) rfl (by intro h; rfl)
def slices_Equal_Pair_L1 (n : Nat) (s1 : List GPair) (s2 : List GPair) : Nat → Int → Option ((Unit) ⊕ Bool)
 | 0, _ => none
 | c + 1, t13 =>
  (if (decide (t13 < (s1.length : Int))) then
   (idx s1 t13).bind fun x3 =>
   (idx s2 t13).bind fun x4 =>
   (if ((x3.a == x4.a) && (x3.b == x4.b)) then
    slices_Equal_Pair_L1 n s1 s2 c (IntKind.i64.wrap (t13 + 1))
   else
    some (.inr false))
  else
   some (.inl ()))

def slices_Equal_Pair (n : Nat) (s1 : List GPair) (s2 : List GPair) : Option Bool :=
 (if ((s1.length : Int) != (s2.length : Int)) then
  some false
 else
  (
   slices_Equal_Pair_L1 n s1 s2 n 0 : Option ((Unit) ⊕ Bool)).bind fun
   | .inl _ =>
    some true
   | .inr r => some r)
theorem slices_Equal_Pair_ok {n : Nat} {s1 : List GPair} {s2 : List GPair} {r : Bool} (H : slices_Equal_Pair n s1 s2 = some r) : PureOK Tryz.prog 41 [D.sl (List.map eGPair s1), D.sl (List.map eGPair s2)] (D.v (.bool r)) true := by
 unfold slices_Equal_Pair at H
 refine pure_runR (tab := tab) tab_ok Tryz.func41 rfl (by kernel_rfl) (by kernel_rfl) (by simp [Tryz.f41]) ?_
 refine runR_seq ?_
 refine runR_take tab_ok fol 1 ?_
 try simp -implicitDefEqProofs only [go_sem]
 refine runR_seq ?_
 refine runR_take tab_ok fol 1 ?_
 try simp -implicitDefEqProofs only [go_sem, Nat.reduceEqDiff, Nat.reduceAdd, reduceCtorEq, ↓reduceIte]
 rcases ite_inv H with ⟨c1, H2⟩ | ⟨c1, H2⟩
 ·try simp -implicitDefEqProofs only [go_sem, Nat.reduceAdd, c1]
  obtain rfl := Option.some.inj H2
  exact end_pure (by simp -implicitDefEqProofs only [go_sem, ↓reduceIte, Tryz.f41] <;> rfl) (by rfl) rfl (by intro h; rfl)
 ·try simp -implicitDefEqProofs only [go_sem, c1]
  refine runR_seq ?_
  refine runR_seq ?_
  refine runR_take tab_ok fol 1 ?_
  try simp -implicitDefEqProofs only [go_sem, Nat.reduceAdd, reduceCtorEq, ↓reduceIte]
  obtain ⟨e_, E3, H4⟩ := bind_inv H2
  refine runR_join (α := { y : Unit // e_ = .inl y }) (fun | ⟨_, _⟩ => ⟨noFr, noHp, 0⟩) ?_ ?_
  ·refine runR_block ?_
   refine runR_loop (α := { q : Nat × Int // slices_Equal_Pair_L1 n s1 s2 q.1 q.2 = some e_ }) (fun | ⟨⟨c, t13⟩, _⟩ => ⟨upd 0 (.d (.sl (List.map eGPair s1)) true) (upd 1 (.d (.sl (List.map eGPair s2)) true) (upd 12 (.v (.int .i64 (s1.length : Int))) (upd 13 (.v (.int .i64 t13)) noFr))), noHp, 0⟩) (fun q => q.1.1) ⟨(n, 0), E3⟩ ?_ ?_
   ·exact ren_mk [] (by rfl) (ru_ (ru_ (ru_ (ru_ (rf_no _))))) (rh_no _)
   ·rintro ⟨⟨c, t13⟩, L5⟩
    rcases c with _ | c
    ·exact nomatch (show none = some _ from L5)
    ·unfold slices_Equal_Pair_L1 at L5
     try dsimp only at L5
     refine runR_take tab_ok fol 1 ?_
     try simp -implicitDefEqProofs only [go_sem, Nat.reduceEqDiff, reduceCtorEq, ↓reduceIte]
     rcases ite_inv L5 with ⟨c22, H23⟩ | ⟨c22, H23⟩
     ·obtain ⟨x3, b24, H25⟩ := bind_inv H23
      obtain ⟨h26, h27⟩ := idx_inv b24
      try simp only [Int.reduceToNat, Int.toNat_natCast] at h27
      have h28 := map_at eGPair h27
      obtain ⟨x4, b30, H31⟩ := bind_inv H25
      obtain ⟨h32, h33⟩ := idx_inv b30
      try simp only [Int.reduceToNat, Int.toNat_natCast] at h33
      have h34 := map_at eGPair h33
      try simp -implicitDefEqProofs only [go_sem, Nat.reduceEqDiff, Nat.reduceAdd, reduceCtorEq, ↓reduceIte, eGPair, c22, nat_of .i64 h26, h28, h34]
      refine Rd_endF (by rfl) ?_
      try simp -implicitDefEqProofs only [go_sem, ↓reduceIte]
      rcases ite_inv H31 with ⟨c36, H37⟩ | ⟨c36, H37⟩
      ·try simp -implicitDefEqProofs only [go_sem, Nat.reduceEqDiff, Nat.reduceAdd, reduceCtorEq, ↓reduceIte, c36]
       exact ⟨⟨(c, (IntKind.i64.wrap (t13 + 1))), H37⟩, ren_mk [] (by rfl) (ru_ (ru_ (ru_ (ru_ (rf_no _))))) (rh_no _), Nat.lt_succ_self _⟩
      ·try simp -implicitDefEqProofs only [go_sem, Nat.reduceAdd, c36]
       obtain rfl := Option.some.inj H37
       obtain rfl := Option.some.inj H4
       exact end_pure (by simp -implicitDefEqProofs only [go_sem, ↓reduceIte, Tryz.f41] <;> rfl) (by rfl) rfl (by intro h; rfl)
     ·try simp -implicitDefEqProofs only [go_sem, ↓reduceIte, c22]
      obtain rfl := Option.some.inj H23
      exact ⟨⟨(), rfl⟩, ren_mk [] (by rfl) (rf_no _) (rh_no _)⟩
  ·rintro ⟨_, he38⟩
   replace he38 := he38.symm
   subst he38
   try dsimp only at H4
   refine runR_take tab_ok fol 1 ?_
   try simp -implicitDefEqProofs only [go_sem]
   obtain rfl := Option.some.inj H4
   exact end_pure (by simp -implicitDefEqProofs only [go_sem, ↓reduceIte, Tryz.f41] <;> rfl) (by rfl) rfl (by intro h; rfl)
def slices_Equal_Grant_L1 (n : Nat) (s1 : List GGrant) (s2 : List GGrant) : Nat → Int → Option ((Unit) ⊕ Bool)
 | 0, _ => none
 | c + 1, t13 =>
  (if (decide (t13 < (s1.length : Int))) then
   (idx s1 t13).bind fun x3 =>
   (idx s2 t13).bind fun x4 =>
   (if ((x3.role == x4.role) && ((x3.op == x4.op) && (x3.obj == x4.obj))) then
    slices_Equal_Grant_L1 n s1 s2 c (IntKind.i64.wrap (t13 + 1))
   else
    some (.inr false))
  else
   some (.inl ()))

def slices_Equal_Grant (n : Nat) (s1 : List GGrant) (s2 : List GGrant) : Option Bool :=
 (if ((s1.length : Int) != (s2.length : Int)) then
  some false
 else
  (
   slices_Equal_Grant_L1 n s1 s2 n 0 : Option ((Unit) ⊕ Bool)).bind fun
   | .inl _ =>
    some true
   | .inr r => some r)
theorem slices_Equal_Grant_ok {n : Nat} {s1 : List GGrant} {s2 : List GGrant} {r : Bool} (H : slices_Equal_Grant n s1 s2 = some r) : PureOK Tryz.prog 42 [D.sl (List.map eGGrant s1), D.sl (List.map eGGrant s2)] (D.v (.bool r)) true := by
 unfold slices_Equal_Grant at H
 refine pure_runR (tab := tab) tab_ok Tryz.func42 rfl (by kernel_rfl) (by kernel_rfl) (by simp [Tryz.f42]) ?_
 refine runR_seq ?_
 refine runR_take tab_ok fol 1 ?_
 try simp -implicitDefEqProofs only [go_sem]
 refine runR_seq ?_
 refine runR_take tab_ok fol 1 ?_
 try simp -implicitDefEqProofs only [go_sem, Nat.reduceEqDiff, Nat.reduceAdd, reduceCtorEq, ↓reduceIte]
 rcases ite_inv H with ⟨c1, H2⟩ | ⟨c1, H2⟩
 ·try simp -implicitDefEqProofs only [go_sem, Nat.reduceAdd, c1]
  obtain rfl := Option.some.inj H2
  exact end_pure (by simp -implicitDefEqProofs only [go_sem, ↓reduceIte, Tryz.f42] <;> rfl) (by rfl) rfl (by intro h; rfl)
 ·try simp -implicitDefEqProofs only [go_sem, c1]
  refine runR_seq ?_
  refine runR_seq ?_
  refine runR_take tab_ok fol 1 ?_
  try simp -implicitDefEqProofs only [go_sem, Nat.reduceAdd, reduceCtorEq, ↓reduceIte]
  obtain ⟨e_, E3, H4⟩ := bind_inv H2
  refine runR_join (α := { y : Unit // e_ = .inl y }) (fun | ⟨_, _⟩ => ⟨noFr, noHp, 0⟩) ?_ ?_
  ·refine runR_block ?_
   refine runR_loop (α := { q : Nat × Int // slices_Equal_Grant_L1 n s1 s2 q.1 q.2 = some e_ }) (fun | ⟨⟨c, t13⟩, _⟩ => ⟨upd 0 (.d (.sl (List.map eGGrant s1)) true) (upd 1 (.d (.sl (List.map eGGrant s2)) true) (upd 12 (.v (.int .i64 (s1.length : Int))) (upd 13 (.v (.int .i64 t13)) noFr))), noHp, 0⟩) (fun q => q.1.1) ⟨(n, 0), E3⟩ ?_ ?_
   ·exact ren_mk [] (by rfl) (ru_ (ru_ (ru_ (ru_ (rf_no _))))) (rh_no _)
   ·rintro ⟨⟨c, t13⟩, L5⟩
    rcases c with _ | c
    ·exact nomatch (show none = some _ from L5)
    ·unfold slices_Equal_Grant_L1 at L5
     try dsimp only at L5
     refine runR_take tab_ok fol 1 ?_
     try simp -implicitDefEqProofs only [go_sem, Nat.reduceEqDiff, reduceCtorEq, ↓reduceIte]
     rcases ite_inv L5 with ⟨c22, H23⟩ | ⟨c22, H23⟩
     ·obtain ⟨x3, b24, H25⟩ := bind_inv H23
      obtain ⟨h26, h27⟩ := idx_inv b24
      try simp only [Int.reduceToNat, Int.toNat_natCast] at h27
      have h28 := map_at eGGrant h27
      obtain ⟨x4, b30, H31⟩ := bind_inv H25
      obtain ⟨h32, h33⟩ := idx_inv b30
      try simp only [Int.reduceToNat, Int.toNat_natCast] at h33
      have h34 := map_at eGGrant h33
      try simp -implicitDefEqProofs only [go_sem, Nat.reduceEqDiff, Nat.reduceAdd, reduceCtorEq, ↓reduceIte, eGGrant, c22, nat_of .i64 h26, h28, h34]
      refine Rd_endF (by rfl) ?_
      try simp -implicitDefEqProofs only [go_sem, ↓reduceIte]
      rcases ite_inv H31 with ⟨c36, H37⟩ | ⟨c36, H37⟩
      ·try simp -implicitDefEqProofs only [go_sem, Nat.reduceEqDiff, Nat.reduceAdd, reduceCtorEq, ↓reduceIte, c36]
       exact ⟨⟨(c, (IntKind.i64.wrap (t13 + 1))), H37⟩, ren_mk [] (by rfl) (ru_ (ru_ (ru_ (ru_ (rf_no _))))) (rh_no _), Nat.lt_succ_self _⟩
      ·try simp -implicitDefEqProofs only [go_sem, Nat.reduceAdd, c36]
       obtain rfl := Option.some.inj H37
       obtain rfl := Option.some.inj H4
       exact end_pure (by simp -implicitDefEqProofs only [go_sem, ↓reduceIte, Tryz.f42] <;> rfl) (by rfl) rfl (by intro h; rfl)
     ·try simp -implicitDefEqProofs only [go_sem, ↓reduceIte, c22]
      obtain rfl := Option.some.inj H23
      exact ⟨⟨(), rfl⟩, ren_mk [] (by rfl) (rf_no _) (rh_no _)⟩
  ·rintro ⟨_, he38⟩
   replace he38 := he38.symm
   subst he38
   try dsimp only at H4
   refine runR_take tab_ok fol 1 ?_
   try simp -implicitDefEqProofs only [go_sem]
   obtain rfl := Option.some.inj H4
   exact end_pure (by simp -implicitDefEqProofs only [go_sem, ↓reduceIte, Tryz.f42] <;> rfl) (by rfl) rfl (by intro h; rfl)
def slices_EqualFunc___api_Sod___api_Sod_api_Sod_api_Sod___norm_sameSod_L1 (n : Nat) (s1 : List GSod) (s2 : List GSod) : Nat → Int → Option ((Unit) ⊕ Bool)
 | 0, _ => none
 | c + 1, t17 =>
  (if (decide (t17 < (s1.length : Int))) then
   (idx s1 t17).bind fun x3 =>
   (idx s2 t17).bind fun x4 =>
   (norm_sameSod n x3 x4).bind fun t292 =>
   (if t292 then
    slices_EqualFunc___api_Sod___api_Sod_api_Sod_api_Sod___norm_sameSod_L1 n s1 s2 c (IntKind.i64.wrap (t17 + 1))
   else
    some (.inr false))
  else
   some (.inl ()))

def slices_EqualFunc___api_Sod___api_Sod_api_Sod_api_Sod___norm_sameSod (n : Nat) (s1 : List GSod) (s2 : List GSod) : Option Bool :=
 (if ((s1.length : Int) != (s2.length : Int)) then
  some false
 else
  (
   slices_EqualFunc___api_Sod___api_Sod_api_Sod_api_Sod___norm_sameSod_L1 n s1 s2 n 0 : Option ((Unit) ⊕ Bool)).bind fun
   | .inl _ =>
    some true
   | .inr r => some r)
theorem slices_EqualFunc___api_Sod___api_Sod_api_Sod_api_Sod___norm_sameSod_ok {n : Nat} {s1 : List GSod} {s2 : List GSod} {r : Bool} (H : slices_EqualFunc___api_Sod___api_Sod_api_Sod_api_Sod___norm_sameSod n s1 s2 = some r) : PureA Tryz.prog 43 [.d (D.sl (List.map eGSod s1)), .d (D.sl (List.map eGSod s2)), .fn 44 []] (D.v (.bool r)) true := by
 unfold slices_EqualFunc___api_Sod___api_Sod_api_Sod_api_Sod___norm_sameSod at H
 refine pureA_runR (tab := tab) tab_ok Tryz.func43 rfl (by kernel_rfl) (by kernel_rfl) (by simp [Tryz.f43]) ?_
 refine runR_seq ?_
 refine runR_take tab_ok fol 1 ?_
 try simp -implicitDefEqProofs only [go_sem]
 refine runR_seq ?_
 refine runR_take tab_ok fol 1 ?_
 try simp -implicitDefEqProofs only [go_sem, Nat.reduceEqDiff, Nat.reduceAdd, reduceCtorEq, ↓reduceIte]
 rcases ite_inv H with ⟨c1, H2⟩ | ⟨c1, H2⟩
 ·try simp -implicitDefEqProofs only [go_sem, Nat.reduceAdd, c1]
  obtain rfl := Option.some.inj H2
  exact end_pure (by simp -implicitDefEqProofs only [go_sem, ↓reduceIte, Tryz.f43] <;> rfl) (by rfl) rfl (by intro h; rfl)
 ·try simp -implicitDefEqProofs only [go_sem, c1]
  refine runR_seq ?_
  refine runR_seq ?_
  refine runR_take tab_ok fol 1 ?_
  try simp -implicitDefEqProofs only [go_sem, Nat.reduceAdd, reduceCtorEq, ↓reduceIte]
  obtain ⟨e_, E3, H4⟩ := bind_inv H2
  refine runR_join (α := { y : Unit // e_ = .inl y }) (fun | ⟨_, _⟩ => ⟨noFr, noHp, 0⟩) ?_ ?_
  ·refine runR_block ?_
   refine runR_loop (α := { q : Nat × Int // slices_EqualFunc___api_Sod___api_Sod_api_Sod_api_Sod___norm_sameSod_L1 n s1 s2 q.1 q.2 = some e_ }) (fun | ⟨⟨c, t17⟩, _⟩ => ⟨upd 1 (.d (.sl (List.map eGSod s2)) true) (upd 2 (.fn 44 []) (upd 15 (.d (.sl (List.map eGSod s1)) true) (upd 16 (.v (.int .i64 (s1.length : Int))) (upd 17 (.v (.int .i64 t17)) noFr)))), noHp, 0⟩) (fun q => q.1.1) ⟨(n, 0), E3⟩ ?_ ?_
   ·exact ren_mk [] (by rfl) (ru_ (ru_ (ru_ (ru_ (ru_ (rf_no _)))))) (rh_no _)
   ·rintro ⟨⟨c, t17⟩, L5⟩
    rcases c with _ | c
    ·exact nomatch (show none = some _ from L5)
    ·unfold slices_EqualFunc___api_Sod___api_Sod_api_Sod_api_Sod___norm_sameSod_L1 at L5
     try dsimp only at L5
     refine runR_take tab_ok fol 1 ?_
     try simp -implicitDefEqProofs only [go_sem, Nat.reduceEqDiff, ↓reduceIte]
     rcases ite_inv L5 with ⟨c24, H25⟩ | ⟨c24, H25⟩
     ·obtain ⟨x3, b26, H27⟩ := bind_inv H25
      obtain ⟨h28, h29⟩ := idx_inv b26
      try simp only [Int.reduceToNat, Int.toNat_natCast] at h29
      have h30 := map_at eGSod h29
      obtain ⟨x4, b32, H33⟩ := bind_inv H27
      obtain ⟨h34, h35⟩ := idx_inv b32
      try simp only [Int.reduceToNat, Int.toNat_natCast] at h35
      have h36 := map_at eGSod h35
      obtain ⟨t292, b38, H39⟩ := bind_inv H33
      try simp -implicitDefEqProofs only [go_sem, Nat.reduceEqDiff, Nat.reduceAdd, ↓reduceIte, eGSod, c24, nat_of .i64 h28, h30, h36]
      refine onCall_pure (by rfl) (norm_sameSod_ok b38) (by exact .inr rfl) ?_
      try simp -implicitDefEqProofs only [go_sem, Bool.false_and, Nat.reduceAdd, ↓reduceIte]
      rcases ite_inv H39 with ⟨c40, H41⟩ | ⟨c40, H41⟩
      ·try simp -implicitDefEqProofs only [go_sem, Nat.reduceEqDiff, Nat.reduceAdd, ↓reduceIte, c40]
       exact ⟨⟨(c, (IntKind.i64.wrap (t17 + 1))), H41⟩, ren_mk [] (by rfl) (ru_ (ru_ (ru_ (ru_ (ru_ (rf_no _)))))) (rh_no _), Nat.lt_succ_self _⟩
      ·try simp -implicitDefEqProofs only [go_sem, Nat.reduceAdd, c40]
       obtain rfl := Option.some.inj H41
       obtain rfl := Option.some.inj H4
       exact end_pure (by simp -implicitDefEqProofs only [go_sem, ↓reduceIte, Tryz.f43] <;> rfl) (by rfl) rfl (by intro h; rfl)
     ·try simp -implicitDefEqProofs only [go_sem, ↓reduceIte, c24]
      obtain rfl := Option.some.inj H25
      exact ⟨⟨(), rfl⟩, ren_mk [] (by rfl) (rf_no _) (rh_no _)⟩
  ·rintro ⟨_, he42⟩
   replace he42 := he42.symm
   subst he42
   try dsimp only at H4
   refine runR_take tab_ok fol 1 ?_
   try simp -implicitDefEqProofs only [go_sem]
   obtain rfl := Option.some.inj H4
   exact end_pure (by simp -implicitDefEqProofs only [go_sem, ↓reduceIte, Tryz.f43] <;> rfl) (by rfl) rfl (by intro h; rfl)
def slices_EqualFunc___api_Session___api_Session_api_Session_api_Session___norm_sameSession_L1 (n : Nat) (s1 : List GSession) (s2 : List GSession) : Nat → Int → Option ((Unit) ⊕ Bool)
 | 0, _ => none
 | c + 1, t17 =>
  (if (decide (t17 < (s1.length : Int))) then
   (idx s1 t17).bind fun x3 =>
   (idx s2 t17).bind fun x4 =>
   (norm_sameSession n x3 x4).bind fun t292 =>
   (if t292 then
    slices_EqualFunc___api_Session___api_Session_api_Session_api_Session___norm_sameSession_L1 n s1 s2 c (IntKind.i64.wrap (t17 + 1))
   else
    some (.inr false))
  else
   some (.inl ()))

def slices_EqualFunc___api_Session___api_Session_api_Session_api_Session___norm_sameSession (n : Nat) (s1 : List GSession) (s2 : List GSession) : Option Bool :=
 (if ((s1.length : Int) != (s2.length : Int)) then
  some false
 else
  (
   slices_EqualFunc___api_Session___api_Session_api_Session_api_Session___norm_sameSession_L1 n s1 s2 n 0 : Option ((Unit) ⊕ Bool)).bind fun
   | .inl _ =>
    some true
   | .inr r => some r)
theorem slices_EqualFunc___api_Session___api_Session_api_Session_api_Session___norm_sameSession_ok {n : Nat} {s1 : List GSession} {s2 : List GSession} {r : Bool} (H : slices_EqualFunc___api_Session___api_Session_api_Session_api_Session___norm_sameSession n s1 s2 = some r) : PureA Tryz.prog 45 [.d (D.sl (List.map eGSession s1)), .d (D.sl (List.map eGSession s2)), .fn 46 []] (D.v (.bool r)) true := by
 unfold slices_EqualFunc___api_Session___api_Session_api_Session_api_Session___norm_sameSession at H
 refine pureA_runR (tab := tab) tab_ok Tryz.func45 rfl (by kernel_rfl) (by kernel_rfl) (by simp [Tryz.f45]) ?_
 refine runR_seq ?_
 refine runR_take tab_ok fol 1 ?_
 try simp -implicitDefEqProofs only [go_sem]
 refine runR_seq ?_
 refine runR_take tab_ok fol 1 ?_
 try simp -implicitDefEqProofs only [go_sem, Nat.reduceEqDiff, Nat.reduceAdd, reduceCtorEq, ↓reduceIte]
 rcases ite_inv H with ⟨c1, H2⟩ | ⟨c1, H2⟩
 ·try simp -implicitDefEqProofs only [go_sem, Nat.reduceAdd, c1]
  obtain rfl := Option.some.inj H2
  exact end_pure (by simp -implicitDefEqProofs only [go_sem, ↓reduceIte, Tryz.f45] <;> rfl) (by rfl) rfl (by intro h; rfl)
 ·try simp -implicitDefEqProofs only [go_sem, c1]
  refine runR_seq ?_
  refine runR_seq ?_
  refine runR_take tab_ok fol 1 ?_
  try simp -implicitDefEqProofs only [go_sem, Nat.reduceAdd, reduceCtorEq, ↓reduceIte]
  obtain ⟨e_, E3, H4⟩ := bind_inv H2
  refine runR_join (α := { y : Unit // e_ = .inl y }) (fun | ⟨_, _⟩ => ⟨noFr, noHp, 0⟩) ?_ ?_
  ·refine runR_block ?_
   refine runR_loop (α := { q : Nat × Int // slices_EqualFunc___api_Session___api_Session_api_Session_api_Session___norm_sameSession_L1 n s1 s2 q.1 q.2 = some e_ }) (fun | ⟨⟨c, t17⟩, _⟩ => ⟨upd 1 (.d (.sl (List.map eGSession s2)) true) (upd 2 (.fn 46 []) (upd 15 (.d (.sl (List.map eGSession s1)) true) (upd 16 (.v (.int .i64 (s1.length : Int))) (upd 17 (.v (.int .i64 t17)) noFr)))), noHp, 0⟩) (fun q => q.1.1) ⟨(n, 0), E3⟩ ?_ ?_
   ·exact ren_mk [] (by rfl) (ru_ (ru_ (ru_ (ru_ (ru_ (rf_no _)))))) (rh_no _)
   ·rintro ⟨⟨c, t17⟩, L5⟩
    rcases c with _ | c
    ·exact nomatch (show none = some _ from L5)
    ·unfold slices_EqualFunc___api_Session___api_Session_api_Session_api_Session___norm_sameSession_L1 at L5
     try dsimp only at L5
     refine runR_take tab_ok fol 1 ?_
     try simp -implicitDefEqProofs only [go_sem, Nat.reduceEqDiff, ↓reduceIte]
     rcases ite_inv L5 with ⟨c24, H25⟩ | ⟨c24, H25⟩
     ·obtain ⟨x3, b26, H27⟩ := bind_inv H25
      obtain ⟨h28, h29⟩ := idx_inv b26
      try simp only [Int.reduceToNat, Int.toNat_natCast] at h29
      have h30 := map_at eGSession h29
      obtain ⟨x4, b32, H33⟩ := bind_inv H27
      obtain ⟨h34, h35⟩ := idx_inv b32
      try simp only [Int.reduceToNat, Int.toNat_natCast] at h35
      have h36 := map_at eGSession h35
      obtain ⟨t292, b38, H39⟩ := bind_inv H33
      try simp -implicitDefEqProofs only [go_sem, Nat.reduceEqDiff, Nat.reduceAdd, ↓reduceIte, eGSession, c24, nat_of .i64 h28, h30, h36]
      refine onCall_pure (by rfl) (norm_sameSession_ok b38) (by exact .inr rfl) ?_
      try simp -implicitDefEqProofs only [go_sem, Bool.false_and, Nat.reduceAdd, ↓reduceIte]
      rcases ite_inv H39 with ⟨c40, H41⟩ | ⟨c40, H41⟩
      ·try simp -implicitDefEqProofs only [go_sem, Nat.reduceEqDiff, Nat.reduceAdd, ↓reduceIte, c40]
       exact ⟨⟨(c, (IntKind.i64.wrap (t17 + 1))), H41⟩, ren_mk [] (by rfl) (ru_ (ru_ (ru_ (ru_ (ru_ (rf_no _)))))) (rh_no _), Nat.lt_succ_self _⟩
      ·try simp -implicitDefEqProofs only [go_sem, Nat.reduceAdd, c40]
       obtain rfl := Option.some.inj H41
       obtain rfl := Option.some.inj H4
       exact end_pure (by simp -implicitDefEqProofs only [go_sem, ↓reduceIte, Tryz.f45] <;> rfl) (by rfl) rfl (by intro h; rfl)
     ·try simp -implicitDefEqProofs only [go_sem, ↓reduceIte, c24]
      obtain rfl := Option.some.inj H25
      exact ⟨⟨(), rfl⟩, ren_mk [] (by rfl) (rf_no _) (rh_no _)⟩
  ·rintro ⟨_, he42⟩
   replace he42 := he42.symm
   subst he42
   try dsimp only at H4
   refine runR_take tab_ok fol 1 ?_
   try simp -implicitDefEqProofs only [go_sem]
   obtain rfl := Option.some.inj H4
   exact end_pure (by simp -implicitDefEqProofs only [go_sem, ↓reduceIte, Tryz.f45] <;> rfl) (by rfl) rfl (by intro h; rfl)
def norm_Same (n : Nat) (a : GRoles) (b : GRoles) : Option Bool :=
 (slices_Equal_string n a.users b.users).bind fun t9 =>
 (if t9 then
  (slices_Equal_string n a.roles b.roles).bind fun t15 =>
  (if t15 then
   (slices_Equal_Pair n a.inherit b.inherit).bind fun t22 =>
   (if t22 then
    (slices_Equal_Pair n a.assign b.assign).bind fun t29 =>
    (if t29 then
     (slices_Equal_Grant n a.grants b.grants).bind fun t36 =>
     (if t36 then
      (slices_EqualFunc___api_Sod___api_Sod_api_Sod_api_Sod___norm_sameSod n a.ssd b.ssd).bind fun t43 =>
      (if t43 then
       (slices_EqualFunc___api_Sod___api_Sod_api_Sod_api_Sod___norm_sameSod n a.dsd b.dsd).bind fun t50 =>
       (if t50 then
        (slices_EqualFunc___api_Session___api_Session_api_Session_api_Session___norm_sameSession n a.sessions b.sessions).bind fun t57 =>
        some t57
       else
        some false)
      else
       some false)
     else
      some false)
    else
     some false)
   else
    some false)
  else
   some false)
 else
  some false)
theorem norm_Same_ok {n : Nat} {a : GRoles} {b : GRoles} {r : Bool} (H : norm_Same n a b = some r) : PureOK Tryz.prog 20 [D.ag (eGRoles a), D.ag (eGRoles b)] (D.v (.bool r)) true := by
 unfold norm_Same at H
 refine pure_runR (tab := tab) tab_ok Tryz.func20 rfl (by kernel_rfl) (by kernel_rfl) (by simp [Tryz.f20]) ?_
 refine runR_take tab_ok fol 1 ?_
 obtain ⟨t9, b1, H2⟩ := bind_inv H
 try simp -implicitDefEqProofs only [go_sem, Nat.reduceEqDiff, Nat.reduceAdd, reduceCtorEq, ↓reduceIte, eGRoles]
 refine onCall_pure (by rfl) (slices_Equal_string_ok b1) (by exact .inr rfl) ?_
 try simp -implicitDefEqProofs only [go_sem, Bool.false_and, Nat.reduceAdd, ↓reduceIte]
 rcases ite_inv H2 with ⟨c3, H4⟩ | ⟨c3, H4⟩
 ·obtain ⟨t15, b5, H6⟩ := bind_inv H4
  try simp -implicitDefEqProofs only [go_sem, Nat.reduceEqDiff, Nat.reduceAdd, reduceCtorEq, ↓reduceIte, c3]
  refine onCall_pure (by rfl) (slices_Equal_string_ok b5) (by exact .inr rfl) ?_
  try simp -implicitDefEqProofs only [go_sem, Bool.false_and, Nat.reduceEqDiff, Nat.reduceAdd, ↓reduceIte]
  rcases ite_inv H6 with ⟨c7, H8⟩ | ⟨c7, H8⟩
  ·obtain ⟨t22, b9, H10⟩ := bind_inv H8
   try simp -implicitDefEqProofs only [go_sem, Nat.reduceEqDiff, Nat.reduceAdd, reduceCtorEq, ↓reduceIte, c7]
   refine onCall_pure (by rfl) (slices_Equal_Pair_ok b9) (by exact .inr rfl) ?_
   try simp -implicitDefEqProofs only [go_sem, Bool.false_and, Nat.reduceEqDiff, Nat.reduceAdd, ↓reduceIte]
   rcases ite_inv H10 with ⟨c11, H12⟩ | ⟨c11, H12⟩
   ·obtain ⟨t29, b13, H14⟩ := bind_inv H12
    try simp -implicitDefEqProofs only [go_sem, Nat.reduceEqDiff, Nat.reduceAdd, reduceCtorEq, ↓reduceIte, c11]
    refine onCall_pure (by rfl) (slices_Equal_Pair_ok b13) (by exact .inr rfl) ?_
    try simp -implicitDefEqProofs only [go_sem, Bool.false_and, Nat.reduceEqDiff, Nat.reduceAdd, ↓reduceIte]
    rcases ite_inv H14 with ⟨c15, H16⟩ | ⟨c15, H16⟩
    ·obtain ⟨t36, b17, H18⟩ := bind_inv H16
     try simp -implicitDefEqProofs only [go_sem, Nat.reduceEqDiff, Nat.reduceAdd, reduceCtorEq, ↓reduceIte, c15]
     refine onCall_pure (by rfl) (slices_Equal_Grant_ok b17) (by exact .inr rfl) ?_
     try simp -implicitDefEqProofs only [go_sem, Bool.false_and, Nat.reduceEqDiff, Nat.reduceAdd, ↓reduceIte]
     rcases ite_inv H18 with ⟨c19, H20⟩ | ⟨c19, H20⟩
     ·obtain ⟨t43, b21, H22⟩ := bind_inv H20
      try simp -implicitDefEqProofs only [go_sem, Nat.reduceEqDiff, Nat.reduceAdd, reduceCtorEq, ↓reduceIte, c19]
      refine onCall_pureA (by rfl) (slices_EqualFunc___api_Sod___api_Sod_api_Sod_api_Sod___norm_sameSod_ok b21) (by exact .inr rfl) ?_
      try simp -implicitDefEqProofs only [go_sem, Bool.false_and, Nat.reduceEqDiff, Nat.reduceAdd, ↓reduceIte]
      rcases ite_inv H22 with ⟨c23, H24⟩ | ⟨c23, H24⟩
      ·obtain ⟨t50, b25, H26⟩ := bind_inv H24
       try simp -implicitDefEqProofs only [go_sem, Nat.reduceEqDiff, Nat.reduceAdd, reduceCtorEq, ↓reduceIte, c23]
       refine onCall_pureA (by rfl) (slices_EqualFunc___api_Sod___api_Sod_api_Sod_api_Sod___norm_sameSod_ok b25) (by exact .inr rfl) ?_
       try simp -implicitDefEqProofs only [go_sem, Bool.false_and, Nat.reduceEqDiff, Nat.reduceAdd, ↓reduceIte]
       rcases ite_inv H26 with ⟨c27, H28⟩ | ⟨c27, H28⟩
       ·obtain ⟨t57, b29, H30⟩ := bind_inv H28
        try simp -implicitDefEqProofs only [go_sem, Nat.reduceEqDiff, Nat.reduceAdd, reduceCtorEq, ↓reduceIte, c27]
        refine onCall_pureA (by rfl) (slices_EqualFunc___api_Session___api_Session_api_Session_api_Session___norm_sameSession_ok b29) (by exact .inr rfl) ?_
        try simp -implicitDefEqProofs only [go_sem, Bool.false_and, Nat.reduceEqDiff, Nat.reduceAdd, ↓reduceIte]
        obtain rfl := Option.some.inj H30
        exact end_pure (by simp -implicitDefEqProofs only [go_sem, ↓reduceIte, Tryz.f20] <;> rfl) (by rfl) rfl (by intro h; rfl)
       ·try simp -implicitDefEqProofs only [go_sem, Nat.reduceEqDiff, Nat.reduceAdd, ↓reduceIte, c27]
        obtain rfl := Option.some.inj H28
        exact end_pure (by simp -implicitDefEqProofs only [go_sem, ↓reduceIte, Tryz.f20] <;> rfl) (by rfl) rfl (by intro h; rfl)
      ·try simp -implicitDefEqProofs only [go_sem, Nat.reduceEqDiff, Nat.reduceAdd, ↓reduceIte, c23]
       obtain rfl := Option.some.inj H24
       exact end_pure (by simp -implicitDefEqProofs only [go_sem, ↓reduceIte, Tryz.f20] <;> rfl) (by rfl) rfl (by intro h; rfl)
     ·try simp -implicitDefEqProofs only [go_sem, Nat.reduceEqDiff, Nat.reduceAdd, ↓reduceIte, c19]
      obtain rfl := Option.some.inj H20
      exact end_pure (by simp -implicitDefEqProofs only [go_sem, ↓reduceIte, Tryz.f20] <;> rfl) (by rfl) rfl (by intro h; rfl)
    ·try simp -implicitDefEqProofs only [go_sem, Nat.reduceEqDiff, Nat.reduceAdd, ↓reduceIte, c15]
     obtain rfl := Option.some.inj H16
     exact end_pure (by simp -implicitDefEqProofs only [go_sem, ↓reduceIte, Tryz.f20] <;> rfl) (by rfl) rfl (by intro h; rfl)
   ·try simp -implicitDefEqProofs only [go_sem, Nat.reduceEqDiff, Nat.reduceAdd, ↓reduceIte, c11]
    obtain rfl := Option.some.inj H12
    exact end_pure (by simp -implicitDefEqProofs only [go_sem, ↓reduceIte, Tryz.f20] <;> rfl) (by rfl) rfl (by intro h; rfl)
  ·try simp -implicitDefEqProofs only [go_sem, Nat.reduceEqDiff, Nat.reduceAdd, ↓reduceIte, c7]
   obtain rfl := Option.some.inj H8
   exact end_pure (by simp -implicitDefEqProofs only [go_sem, ↓reduceIte, Tryz.f20] <;> rfl) (by rfl) rfl (by intro h; rfl)
 ·try simp -implicitDefEqProofs only [go_sem, Nat.reduceEqDiff, Nat.reduceAdd, ↓reduceIte, c3]
  obtain rfl := Option.some.inj H4
  exact end_pure (by simp -implicitDefEqProofs only [go_sem, ↓reduceIte, Tryz.f20] <;> rfl) (by rfl) rfl (by intro h; rfl)
end Go.Proofs.YtkkhgdmmbhpckaaGreat.Ab
