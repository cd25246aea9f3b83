/-
 Functions, read off the code.
-/
import Derived.Test.YtkkhgdmmbhpckaaGreatNms
import Derived.Test.YtkkhgdmmbhpckaaGreatKs
namespace Go.Proofs.YtkkhgdmmbhpckaaGreat.Ab
open Go.RowKit
def cmp_Or_L1 (n : Nat) (vals : List Int) : Nat → Int → Option ((Unit) ⊕ Int)
 | 0, _ => none
 | c + 1, t8 =>
  (if (decide (t8 < (vals.length : Int))) then
   (idx vals t8).bind fun x2 =>
   (if (x2 != 0) then
    some (.inr x2)
   else
    cmp_Or_L1 n vals c (IntKind.i64.wrap (t8 + 1)))
  else
   some (.inl ()))
def cmp_Or (n : Nat) (vals : List Int) : Option Int :=
 (
  cmp_Or_L1 n vals n 0 : Option ((Unit) ⊕ Int)).bind fun
  | .inl _ =>
   some 0
  | .inr r => some r
theorem cmp_Or_ok {n : Nat} {vals : List Int} {r : Int} (H : cmp_Or n vals = some r) : PureOK Tryz.prog 59 [D.sl (List.map eI vals)] (D.v (.int .i64 r)) true := by
 unfold cmp_Or at H
 refine pure_runR (tab := tab) tab_ok Tryz.func59 rfl (by kernel_rfl) (by kernel_rfl) (by simp [Tryz.f59]) ?_
 refine runR_seq ?_
 refine runR_take tab_ok fol 1 ?_
 try simp -implicitDefEqProofs only [go_sem]
 refine runR_seq ?_
 refine runR_take tab_ok fol 1 ?_
 try simp -implicitDefEqProofs only [go_sem, Nat.reduceAdd]
 refine runR_seq ?_
 refine runR_seq ?_
 refine runR_take tab_ok fol 1 ?_
 try simp -implicitDefEqProofs only [go_sem, Nat.reduceAdd, reduceCtorEq, ↓reduceIte]
 obtain ⟨e_, E1, H2⟩ := bind_inv H
 refine runR_join (α := { y : Unit // e_ = .inl y }) (fun | ⟨_, _⟩ => ⟨upd 3 (.v (.int .i64 0)) noFr, noHp, 0⟩) ?_ ?_
 ·refine runR_block ?_
  refine runR_loop (α := { q : Nat × Int // cmp_Or_L1 n vals q.1 q.2 = some e_ }) (fun | ⟨⟨c, t8⟩, _⟩ => ⟨upd 3 (.v (.int .i64 0)) (upd 6 (.d (.sl (List.map eI vals)) true) (upd 7 (.v (.int .i64 (vals.length : Int))) (upd 8 (.v (.int .i64 t8)) noFr))), noHp, 0⟩) (fun q => q.1.1) ⟨(n, 0), E1⟩ ?_ ?_
  ·exact ren_mk [] (by rfl) (ru_ (ru_ (ru_ (ru_ (rf_no _))))) (rh_no _)
  ·rintro ⟨⟨c, t8⟩, L3⟩
   rcases c with _ | c
   ·exact nomatch (show none = some _ from L3)
   ·unfold cmp_Or_L1 at L3
    try dsimp only at L3
    refine runR_take tab_ok fol 1 ?_
    try simp -implicitDefEqProofs only [go_sem, Nat.reduceEqDiff, ↓reduceIte]
    rcases ite_inv L3 with ⟨c14, H15⟩ | ⟨c14, H15⟩
    ·obtain ⟨x2, b16, H17⟩ := bind_inv H15
     obtain ⟨h18, h19⟩ := idx_inv b16
     try simp only [Int.reduceToNat, Int.toNat_natCast] at h19
     have h20 := map_at eI h19
     try simp -implicitDefEqProofs only [go_sem, Nat.reduceEqDiff, Nat.reduceAdd, ↓reduceIte, c14, nat_of .i64 h18, h20]
     rcases ite_inv H17 with ⟨c22, H23⟩ | ⟨c22, H23⟩
     ·try simp -implicitDefEqProofs only [go_sem, Nat.reduceEqDiff, Nat.reduceAdd, ↓reduceIte, c22]
      obtain rfl := Option.some.inj H23
      obtain rfl := Option.some.inj H2
      exact end_pure (by first | (simp -implicitDefEqProofs only [go_sem, ↓reduceIte, Tryz.f59] <;> rfl) | rfl) (by first | rfl | (simp -implicitDefEqProofs only [go_sem, Int.reduceToNat, Int.reduceLT, Int.reduceLE, Int.reduceBEq, Int.reduceBNe, Nat.reduceLT, Nat.reduceBEq, Int.reduceEq, Nat.reduceEqDiff, Nat.reduceAdd, Nat.reduceSub, Nat.reduceMul, Nat.reduceLeDiff, reduceCtorEq, ↓reduceIte, c14, nat_of .i64 h18, h20, c22]; done) | (simp -implicitDefEqProofs only [go_sem, Int.reduceToNat, Int.reduceLT, Int.reduceLE, Int.reduceBEq, Int.reduceBNe, Nat.reduceLT, Nat.reduceBEq, Int.reduceEq, Nat.reduceEqDiff, Nat.reduceAdd, Nat.reduceSub, Nat.reduceMul, Nat.reduceLeDiff, reduceCtorEq, ↓reduceIte, c14, nat_of .i64 h18, h20, c22]; rfl)) rfl (by intro h; first | rfl | cases h)
     ·try simp -implicitDefEqProofs only [go_sem, Nat.reduceEqDiff, Nat.reduceAdd, ↓reduceIte, c22]
      exact ⟨⟨(c, (IntKind.i64.wrap (t8 + 1))), H23⟩, ren_mk [] (by rfl) (ru_ (ru_ (ru_ (ru_ (rf_no _))))) (rh_no _), Nat.lt_succ_self _⟩
    ·try simp -implicitDefEqProofs only [go_sem, ↓reduceIte, c14]
     obtain rfl := Option.some.inj H15
     exact ⟨⟨(), rfl⟩, ren_mk [] (by rfl) (ru_ (rf_no _)) (rh_no _)⟩
 ·rintro ⟨_, he24⟩
  replace he24 := he24.symm
  subst he24
  try dsimp only at H2
  refine runR_take tab_ok fol 1 ?_
  try simp -implicitDefEqProofs only [go_sem, Nat.reduceAdd, ↓reduceIte]
  obtain rfl := Option.some.inj H2
  exact end_pure (by first | (simp -implicitDefEqProofs only [go_sem, ↓reduceIte, Tryz.f59] <;> rfl) | rfl) (by first | rfl | (simp -implicitDefEqProofs only [go_sem, Int.reduceToNat, Int.reduceLT, Int.reduceLE, Int.reduceBEq, Int.reduceBNe, Nat.reduceLT, Nat.reduceBEq, Int.reduceEq, Nat.reduceEqDiff, Nat.reduceAdd, Nat.reduceSub, Nat.reduceMul, Nat.reduceLeDiff, reduceCtorEq, ↓reduceIte]; done) | (simp -implicitDefEqProofs only [go_sem, Int.reduceToNat, Int.reduceLT, Int.reduceLE, Int.reduceBEq, Int.reduceBNe, Nat.reduceLT, Nat.reduceBEq, Int.reduceEq, Nat.reduceEqDiff, Nat.reduceAdd, Nat.reduceSub, Nat.reduceMul, Nat.reduceLeDiff, reduceCtorEq, ↓reduceIte]; rfl)) rfl (by intro h; first | rfl | cases h)
def strings_Compare (n : Nat) (a : ByteArray) (b : ByteArray) : Option Int :=
 (bytealg_CompareString n a b).bind fun t7 =>
 some t7
theorem strings_Compare_ok {n : Nat} {a : ByteArray} {b : ByteArray} {r : Int} (H : strings_Compare n a b = some r) : PureOK Tryz.prog 60 [D.v (.string a), D.v (.string b)] (D.v (.int .i64 r)) true := by
 unfold strings_Compare at H
 refine pure_runR (tab := tab) tab_ok Tryz.func60 rfl (by kernel_rfl) (by kernel_rfl) (by simp [Tryz.f60]) ?_
 refine runR_take tab_ok fol 1 ?_
 obtain ⟨t7, b1, H2⟩ := bind_inv H
 try simp -implicitDefEqProofs only [go_sem, Nat.reduceEqDiff, Nat.reduceAdd, reduceCtorEq, ↓reduceIte]
 refine onCall_pure (by first | rfl | (simp -implicitDefEqProofs only [go_sem, Int.reduceToNat, Int.reduceLT, Int.reduceLE, Int.reduceBEq, Int.reduceBNe, Nat.reduceLT, Nat.reduceBEq, Int.reduceEq, Nat.reduceEqDiff, Nat.reduceAdd, Nat.reduceSub, Nat.reduceMul, Nat.reduceLeDiff, reduceCtorEq, ↓reduceIte]; done) | (simp -implicitDefEqProofs only [go_sem, Int.reduceToNat, Int.reduceLT, Int.reduceLE, Int.reduceBEq, Int.reduceBNe, Nat.reduceLT, Nat.reduceBEq, Int.reduceEq, Nat.reduceEqDiff, Nat.reduceAdd, Nat.reduceSub, Nat.reduceMul, Nat.reduceLeDiff, reduceCtorEq, ↓reduceIte]; rfl)) (bytealg_CompareString_ok b1) (by first | exact .inr rfl | exact .inl rfl) ?_
 try simp -implicitDefEqProofs only [go_sem, Nat.reduceAdd, ↓reduceIte]
 obtain rfl := Option.some.inj H2
 exact end_pure (by first | (simp -implicitDefEqProofs only [go_sem, ↓reduceIte, Tryz.f60] <;> rfl) | rfl) (by first | rfl | (simp -implicitDefEqProofs only [go_sem, Int.reduceToNat, Int.reduceLT, Int.reduceLE, Int.reduceBEq, Int.reduceBNe, Nat.reduceLT, Nat.reduceBEq, Int.reduceEq, Nat.reduceEqDiff, Nat.reduceAdd, Nat.reduceSub, Nat.reduceMul, Nat.reduceLeDiff, reduceCtorEq, ↓reduceIte]; done) | (simp -implicitDefEqProofs only [go_sem, Int.reduceToNat, Int.reduceLT, Int.reduceLE, Int.reduceBEq, Int.reduceBNe, Nat.reduceLT, Nat.reduceBEq, Int.reduceEq, Nat.reduceEqDiff, Nat.reduceAdd, Nat.reduceSub, Nat.reduceMul, Nat.reduceLeDiff, reduceCtorEq, ↓reduceIte]; rfl)) rfl (by intro h; first | rfl | cases h)
def norm_pairs_c1 (n : Nat) (a : GPair) (b : GPair) : Option Int :=
 (strings_Compare n a.a b.a).bind fun t9 =>
 (strings_Compare n a.b b.b).bind fun t14 =>
 (cmp_Or n [t9, t14]).bind fun t16 =>
 some t16
theorem norm_pairs_c1_ok {n : Nat} {a : GPair} {b : GPair} {r : Int} (H : norm_pairs_c1 n a b = some r) : PureOK Tryz.prog 58 [D.ag (eGPair a), D.ag (eGPair b)] (D.v (.int .i64 r)) true := by
 unfold norm_pairs_c1 at H
 refine pure_runR (tab := tab) tab_ok Tryz.func58 rfl (by kernel_rfl) (by kernel_rfl) (by simp [Tryz.f58]) ?_
 refine runR_take tab_ok fol 1 ?_
 obtain ⟨t9, b1, H2⟩ := bind_inv H
 try simp -implicitDefEqProofs only [go_sem, Nat.reduceEqDiff, Nat.reduceAdd, reduceCtorEq, ↓reduceIte, eGPair]
 refine onCallD_pure (by first | rfl | (simp -implicitDefEqProofs only [go_sem, Int.reduceToNat, Int.reduceLT, Int.reduceLE, Int.reduceBEq, Int.reduceBNe, Nat.reduceLT, Nat.reduceBEq, Int.reduceEq, Nat.reduceEqDiff, Nat.reduceAdd, Nat.reduceSub, Nat.reduceMul, Nat.reduceLeDiff, reduceCtorEq, ↓reduceIte, eGPair]; done) | (simp -implicitDefEqProofs only [go_sem, Int.reduceToNat, Int.reduceLT, Int.reduceLE, Int.reduceBEq, Int.reduceBNe, Nat.reduceLT, Nat.reduceBEq, Int.reduceEq, Nat.reduceEqDiff, Nat.reduceAdd, Nat.reduceSub, Nat.reduceMul, Nat.reduceLeDiff, reduceCtorEq, ↓reduceIte, eGPair]; rfl)) (strings_Compare_ok b1) (by first | exact .inr rfl | exact .inl rfl) ?_
 obtain ⟨t14, b3, H4⟩ := bind_inv H2
 try simp -implicitDefEqProofs only [go_sem, Nat.reduceEqDiff, Nat.reduceAdd, reduceCtorEq, ↓reduceIte]
 refine onCallD_pure (by first | rfl | (simp -implicitDefEqProofs only [go_sem, Int.reduceToNat, Int.reduceLT, Int.reduceLE, Int.reduceBEq, Int.reduceBNe, Nat.reduceLT, Nat.reduceBEq, Int.reduceEq, Nat.reduceEqDiff, Nat.reduceAdd, Nat.reduceSub, Nat.reduceMul, Nat.reduceLeDiff, reduceCtorEq, ↓reduceIte, eGPair]; done) | (simp -implicitDefEqProofs only [go_sem, Int.reduceToNat, Int.reduceLT, Int.reduceLE, Int.reduceBEq, Int.reduceBNe, Nat.reduceLT, Nat.reduceBEq, Int.reduceEq, Nat.reduceEqDiff, Nat.reduceAdd, Nat.reduceSub, Nat.reduceMul, Nat.reduceLeDiff, reduceCtorEq, ↓reduceIte, eGPair]; rfl)) (strings_Compare_ok b3) (by first | exact .inr rfl | exact .inl rfl) ?_
 obtain ⟨t16, b5, H6⟩ := bind_inv H4
 try simp -implicitDefEqProofs only [go_sem, Nat.reduceLT, Nat.reduceEqDiff, Nat.reduceAdd, Nat.reduceLeDiff, ↓reduceIte]
 refine onCallD_pure (by first | rfl | (simp -implicitDefEqProofs only [go_sem, Int.reduceToNat, Int.reduceLT, Int.reduceLE, Int.reduceBEq, Int.reduceBNe, Nat.reduceLT, Nat.reduceBEq, Int.reduceEq, Nat.reduceEqDiff, Nat.reduceAdd, Nat.reduceSub, Nat.reduceMul, Nat.reduceLeDiff, reduceCtorEq, ↓reduceIte, eGPair]; done) | (simp -implicitDefEqProofs only [go_sem, Int.reduceToNat, Int.reduceLT, Int.reduceLE, Int.reduceBEq, Int.reduceBNe, Nat.reduceLT, Nat.reduceBEq, Int.reduceEq, Nat.reduceEqDiff, Nat.reduceAdd, Nat.reduceSub, Nat.reduceMul, Nat.reduceLeDiff, reduceCtorEq, ↓reduceIte, eGPair]; rfl)) (cmp_Or_ok b5) (by first | exact .inr rfl | exact .inl rfl) ?_
 try simp -implicitDefEqProofs only [go_sem, Nat.reduceAdd, ↓reduceIte]
 refine Rd_endF (by rfl) ?_
 try simp -implicitDefEqProofs only [go_sem]
 obtain rfl := Option.some.inj H6
 exact end_pure (by first | (simp -implicitDefEqProofs only [go_sem, ↓reduceIte, Tryz.f58] <;> rfl) | rfl) (by first | rfl | (simp -implicitDefEqProofs only [go_sem, Int.reduceToNat, Int.reduceLT, Int.reduceLE, Int.reduceBEq, Int.reduceBNe, Nat.reduceLT, Nat.reduceBEq, Int.reduceEq, Nat.reduceEqDiff, Nat.reduceAdd, Nat.reduceSub, Nat.reduceMul, Nat.reduceLeDiff, reduceCtorEq, ↓reduceIte, eGPair]; done) | (simp -implicitDefEqProofs only [go_sem, Int.reduceToNat, Int.reduceLT, Int.reduceLE, Int.reduceBEq, Int.reduceBNe, Nat.reduceLT, Nat.reduceBEq, Int.reduceEq, Nat.reduceEqDiff, Nat.reduceAdd, Nat.reduceSub, Nat.reduceMul, Nat.reduceLeDiff, reduceCtorEq, ↓reduceIte, eGPair]; rfl)) rfl (by intro h; first | rfl | cases h)
def norm_grants_c1 (n : Nat) (a : GGrant) (b : GGrant) : Option Int :=
 (strings_Compare n a.role b.role).bind fun t9 =>
 (strings_Compare n a.op b.op).bind fun t14 =>
 (strings_Compare n a.obj b.obj).bind fun t19 =>
 (cmp_Or n [t9, t14, t19]).bind fun t21 =>
 some t21
theorem norm_grants_c1_ok {n : Nat} {a : GGrant} {b : GGrant} {r : Int} (H : norm_grants_c1 n a b = some r) : PureOK Tryz.prog 64 [D.ag (eGGrant a), D.ag (eGGrant b)] (D.v (.int .i64 r)) true := by
 unfold norm_grants_c1 at H
 refine pure_runR (tab := tab) tab_ok Tryz.func64 rfl (by kernel_rfl) (by kernel_rfl) (by simp [Tryz.f64]) ?_
 refine runR_take tab_ok fol 1 ?_
 obtain ⟨t9, b1, H2⟩ := bind_inv H
 try simp -implicitDefEqProofs only [go_sem, Nat.reduceEqDiff, Nat.reduceAdd, reduceCtorEq, ↓reduceIte, eGGrant]
 refine onCallD_pure (by first | rfl | (simp -implicitDefEqProofs only [go_sem, Int.reduceToNat, Int.reduceLT, Int.reduceLE, Int.reduceBEq, Int.reduceBNe, Nat.reduceLT, Nat.reduceBEq, Int.reduceEq, Nat.reduceEqDiff, Nat.reduceAdd, Nat.reduceSub, Nat.reduceMul, Nat.reduceLeDiff, reduceCtorEq, ↓reduceIte, eGPair, eGGrant]; done) | (simp -implicitDefEqProofs only [go_sem, Int.reduceToNat, Int.reduceLT, Int.reduceLE, Int.reduceBEq, Int.reduceBNe, Nat.reduceLT, Nat.reduceBEq, Int.reduceEq, Nat.reduceEqDiff, Nat.reduceAdd, Nat.reduceSub, Nat.reduceMul, Nat.reduceLeDiff, reduceCtorEq, ↓reduceIte, eGPair, eGGrant]; rfl)) (strings_Compare_ok b1) (by first | exact .inr rfl | exact .inl rfl) ?_
 obtain ⟨t14, b3, H4⟩ := bind_inv H2
 try simp -implicitDefEqProofs only [go_sem, Nat.reduceEqDiff, Nat.reduceAdd, reduceCtorEq, ↓reduceIte]
 refine onCallD_pure (by first | rfl | (simp -implicitDefEqProofs only [go_sem, Int.reduceToNat, Int.reduceLT, Int.reduceLE, Int.reduceBEq, Int.reduceBNe, Nat.reduceLT, Nat.reduceBEq, Int.reduceEq, Nat.reduceEqDiff, Nat.reduceAdd, Nat.reduceSub, Nat.reduceMul, Nat.reduceLeDiff, reduceCtorEq, ↓reduceIte, eGPair, eGGrant]; done) | (simp -implicitDefEqProofs only [go_sem, Int.reduceToNat, Int.reduceLT, Int.reduceLE, Int.reduceBEq, Int.reduceBNe, Nat.reduceLT, Nat.reduceBEq, Int.reduceEq, Nat.reduceEqDiff, Nat.reduceAdd, Nat.reduceSub, Nat.reduceMul, Nat.reduceLeDiff, reduceCtorEq, ↓reduceIte, eGPair, eGGrant]; rfl)) (strings_Compare_ok b3) (by first | exact .inr rfl | exact .inl rfl) ?_
 obtain ⟨t19, b5, H6⟩ := bind_inv H4
 try simp -implicitDefEqProofs only [go_sem, Nat.reduceEqDiff, Nat.reduceAdd, reduceCtorEq, ↓reduceIte]
 refine onCallD_pure (by first | rfl | (simp -implicitDefEqProofs only [go_sem, Int.reduceToNat, Int.reduceLT, Int.reduceLE, Int.reduceBEq, Int.reduceBNe, Nat.reduceLT, Nat.reduceBEq, Int.reduceEq, Nat.reduceEqDiff, Nat.reduceAdd, Nat.reduceSub, Nat.reduceMul, Nat.reduceLeDiff, reduceCtorEq, ↓reduceIte, eGPair, eGGrant]; done) | (simp -implicitDefEqProofs only [go_sem, Int.reduceToNat, Int.reduceLT, Int.reduceLE, Int.reduceBEq, Int.reduceBNe, Nat.reduceLT, Nat.reduceBEq, Int.reduceEq, Nat.reduceEqDiff, Nat.reduceAdd, Nat.reduceSub, Nat.reduceMul, Nat.reduceLeDiff, reduceCtorEq, ↓reduceIte, eGPair, eGGrant]; rfl)) (strings_Compare_ok b5) (by first | exact .inr rfl | exact .inl rfl) ?_
 obtain ⟨t21, b7, H8⟩ := bind_inv H6
 try simp -implicitDefEqProofs only [go_sem, Nat.reduceLT, Nat.reduceEqDiff, Nat.reduceAdd, Nat.reduceLeDiff, ↓reduceIte]
 refine onCallD_pure (by first | rfl | (simp -implicitDefEqProofs only [go_sem, Int.reduceToNat, Int.reduceLT, Int.reduceLE, Int.reduceBEq, Int.reduceBNe, Nat.reduceLT, Nat.reduceBEq, Int.reduceEq, Nat.reduceEqDiff, Nat.reduceAdd, Nat.reduceSub, Nat.reduceMul, Nat.reduceLeDiff, reduceCtorEq, ↓reduceIte, eGPair, eGGrant]; done) | (simp -implicitDefEqProofs only [go_sem, Int.reduceToNat, Int.reduceLT, Int.reduceLE, Int.reduceBEq, Int.reduceBNe, Nat.reduceLT, Nat.reduceBEq, Int.reduceEq, Nat.reduceEqDiff, Nat.reduceAdd, Nat.reduceSub, Nat.reduceMul, Nat.reduceLeDiff, reduceCtorEq, ↓reduceIte, eGPair, eGGrant]; rfl)) (cmp_Or_ok b7) (by first | exact .inr rfl | exact .inl rfl) ?_
 try simp -implicitDefEqProofs only [go_sem, Nat.reduceAdd, ↓reduceIte]
 refine Rd_endF (by rfl) ?_
 try simp -implicitDefEqProofs only [go_sem]
 obtain rfl := Option.some.inj H8
 exact end_pure (by first | (simp -implicitDefEqProofs only [go_sem, ↓reduceIte, Tryz.f64] <;> rfl) | rfl) (by first | rfl | (simp -implicitDefEqProofs only [go_sem, Int.reduceToNat, Int.reduceLT, Int.reduceLE, Int.reduceBEq, Int.reduceBNe, Nat.reduceLT, Nat.reduceBEq, Int.reduceEq, Nat.reduceEqDiff, Nat.reduceAdd, Nat.reduceSub, Nat.reduceMul, Nat.reduceLeDiff, reduceCtorEq, ↓reduceIte, eGPair, eGGrant]; done) | (simp -implicitDefEqProofs only [go_sem, Int.reduceToNat, Int.reduceLT, Int.reduceLE, Int.reduceBEq, Int.reduceBNe, Nat.reduceLT, Nat.reduceBEq, Int.reduceEq, Nat.reduceEqDiff, Nat.reduceAdd, Nat.reduceSub, Nat.reduceMul, Nat.reduceLeDiff, reduceCtorEq, ↓reduceIte, eGPair, eGGrant]; rfl)) rfl (by intro h; first | rfl | cases h)
end Go.Proofs.YtkkhgdmmbhpckaaGreat.Ab
