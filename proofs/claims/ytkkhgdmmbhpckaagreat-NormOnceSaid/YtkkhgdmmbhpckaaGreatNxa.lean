/-
 Functions, read off the code.
-/
import Derived.Test.YtkkhgdmmbhpckaaGreatNms
import Derived.Test.YtkkhgdmmbhpckaaGreatRpg
import Derived.Test.YtkkhgdmmbhpckaaGreatSes
import Derived.Test.YtkkhgdmmbhpckaaGreatCpd
import Derived.Test.YtkkhgdmmbhpckaaGreatCpe
import Derived.Test.YtkkhgdmmbhpckaaGreatScc
import Derived.Test.YtkkhgdmmbhpckaaGreatNak
namespace Go.Proofs.YtkkhgdmmbhpckaaGreat.Ab
open Go.RowKit
def norm_sods_L1 (n : Nat) (l : List GSod) : Nat → (List GSod × Int) → Option (List GSod)
 | 0, _ => none
 | c + 1, (out, t8) =>
  (if (decide (t8 < (l.length : Int))) then
   (idx l t8).bind fun x2 =>
   (norm_Once n x2.roles).bind fun t192 =>
   (app out [(⟨x2.name, x2.n_, t192⟩ : GSod)]).bind fun l2 =>
   norm_sods_L1 n l c (l2, (IntKind.i64.wrap (t8 + 1)))
  else
   some out)
def norm_sods_L1_f (n : Nat) (_ : List GSod) (st : List GSod) (x2 : GSod) (k : List GSod → Option (List GSod)) : Option (List GSod) :=
 match st with
 | out =>
  (norm_Once n x2.roles).bind fun t192 =>
  (app out [(⟨x2.name, x2.n_, t192⟩ : GSod)]).bind fun l2 =>
  k l2
def norm_sods_L1_e (_ : Nat) (_ : List GSod) (st : List GSod) : Option (List GSod) :=
 match st with
 | out => some out
theorem norm_sods_L1_list (n : Nat) (l : List GSod) (hx : l.length < 4611686018427387904) (c : Nat) (st : List GSod) (ix : Nat) (hi : ix ≤ l.length) (hc : l.length - ix < c) : norm_sods_L1 n l c (match st, (ix : Int) with | out, ix => (out, ix)) = foldK (norm_sods_L1_f n l) (norm_sods_L1_e n l) (l.drop ix) st :=
 loop_list (fun c st ix => norm_sods_L1 n l c (match st, ix with | out, ix => (out, ix))) l (norm_sods_L1_f n l) (norm_sods_L1_e n l) (fun _ _ _ => rfl) hx c st ix hi hc

def norm_sods (n : Nat) (l : List GSod) : Option (List GSod) :=
 (
  norm_sods_L1 n l n ([], 0) : Option (List GSod)).bind fun out3 =>
 (if (decide (out3.length = 0)) then
  some []
 else
  (sort_Sod n out3).bind fun l3 =>
  (cpt_Sod n l3).bind fun l4 =>
  some l4)
theorem norm_sods_ok {n : Nat} {l : List GSod} {r : List GSod} (H : norm_sods n l = some r) : PureOK Tryz.prog 33 [D.sl (List.map eGSod l)] (D.sl (List.map eGSod r)) true := by
 unfold norm_sods at H
 refine pure_runR (tab := tab) tab_ok Tryz.func33 rfl (by kernel_rfl) (by kernel_rfl) (by simp [Tryz.f33]) ?_
 refine runR_seq ?_
 refine runR_take tab_ok fol 1 ?_
 try simp -implicitDefEqProofs only [go_sem]
 refine runR_seq ?_
 refine runR_take tab_ok fol 1 ?_
 try simp -implicitDefEqProofs only [go_sem, Nat.reduceAdd]
 refine runR_seq ?_
 refine runR_seq ?_
 refine runR_take tab_ok fol 1 ?_
 try simp -implicitDefEqProofs only [go_sem, Nat.reduceAdd, reduceCtorEq, ↓reduceIte]
 obtain ⟨e_, E1, H2⟩ := bind_inv H
 refine runR_join (α := { y : List GSod // e_ = y } × Nat) (fun | ⟨⟨out3, _⟩, g3⟩ => ⟨upd 3 (accV 0 g3 (List.map eGSod out3)) noFr, upd 0 (accO 3 g3 false (List.map eGSod out3)) noHp, 1⟩) ?_ ?_
 ·refine runR_block ?_
  refine runR_loop (α := { q : (Nat × (List GSod × Int)) × Nat // norm_sods_L1 n l q.1.1 q.1.2 = some e_ }) (fun | ⟨⟨⟨c, ⟨out, t8⟩⟩, g⟩, _⟩ => ⟨upd 3 (accV 0 g (List.map eGSod out)) (upd 6 (.d (.sl (List.map eGSod l)) true) (upd 7 (.v (.int .i64 (l.length : Int))) (upd 8 (.v (.int .i64 t8)) noFr))), upd 0 (accO 3 g false (List.map eGSod out)) noHp, 1⟩) (fun q => q.1.1.1) ⟨((n, ([], 0)), 0), E1⟩ ?_ ?_
  ·exact ren_mk [] (by rfl) (ru_ (ru_ (ru_ (ru_ (rf_no _))))) (rh_upd rh_accN (rh_no _))
  ·rintro ⟨⟨⟨c, ⟨out, t8⟩⟩, g⟩, L3⟩
   rcases c with _ | c
   ·exact nomatch (show none = some _ from L3)
   ·unfold norm_sods_L1 at L3
    try dsimp only at L3
    refine runR_take tab_ok fol 1 ?_
    try simp -implicitDefEqProofs only [go_sem, Nat.reduceEqDiff, Nat.reduceAdd, ↓reduceIte]
    rcases ite_inv L3 with ⟨c14, H15⟩ | ⟨c14, H15⟩
    ·obtain ⟨x2, b16, H17⟩ := bind_inv H15
     obtain ⟨h18, h19⟩ := idx_inv b16
     try simp only [Int.reduceToNat, Int.toNat_natCast] at h19
     have h20 := map_at eGSod h19
     obtain ⟨t192, b22, H23⟩ := bind_inv H17
     try simp -implicitDefEqProofs only [go_sem, Nat.reduceEqDiff, Nat.reduceAdd, reduceCtorEq, ↓reduceIte, eGSod, c14, nat_of .i64 h18, h20]
     refine onCallD_pure (by rfl) (norm_Once_ok b22) (by exact .inr rfl) ?_
     obtain ⟨l2, b24, H25⟩ := bind_inv H23
     obtain ⟨h26, h27⟩ := app_inv b24
     have h26 : out.length + 1 ≤ 4294967296 := h26
     have h28 : List.map eGSod out ++ [[.v (.string x2.name), .v (.int .i64 x2.n_), .sl (List.map eS t192)]] = List.map eGSod l2 := app_map eGSod h27
     have h29 : out.length + 1 = l2.length := app_len h27
     have h30 : l2.length ≤ 4294967296 := by omega
     have q31 : 0 < l2.length := by omega
     try simp -implicitDefEqProofs only [go_sem, Bool.false_and, Nat.reduceLT, Nat.reduceEqDiff, Nat.reduceAdd, Nat.reduceMul, Nat.reduceLeDiff, reduceCtorEq, ↓reduceIte, h28, h29, h30]
     refine Rd_endF (by (cases out <;> rfl)) ?_
     try simp -implicitDefEqProofs only [go_sem, Nat.reduceEqDiff, Nat.reduceAdd, ↓reduceIte]
     rcases out with _ | ⟨q0, q1⟩
     ·try simp only [List.map_nil, accI, accN]
      exact ⟨⟨((c, (l2, (IntKind.i64.wrap (t8 + 1)))), 0), H25⟩, ren_mk [(0, 16)] (by rfl) (rf_upd (by exact ren_accP (by rfl) q31) (ru_ (ru_ (ru_ (rf_no _))))) (rh_upd (by exact rh_accP (by rfl) q31 (by rfl)) (rh_no _)), Nat.lt_succ_self _⟩
     ·try simp only [List.map_cons, accI, accN]
      exact ⟨⟨((c, (l2, (IntKind.i64.wrap (t8 + 1)))), (g + 1)), H25⟩, ren_mk [(0, 0)] (by rfl) (rf_upd (by exact ren_accP (by rfl) q31) (ru_ (ru_ (ru_ (rf_no _))))) (rh_upd (by exact rh_accP (by rfl) q31 (by rfl)) (rh_no _)), Nat.lt_succ_self _⟩
    ·try simp -implicitDefEqProofs only [go_sem, ↓reduceIte, c14]
     obtain rfl := Option.some.inj H15
     exact ⟨⟨⟨out, rfl⟩, g⟩, ren_mk [(0, 0)] (by rfl) (rn_ (rf_no _)) (ra_ (rh_no _))⟩
 ·rintro ⟨⟨out3, he59⟩, g3⟩
  replace he59 := he59.symm
  subst he59
  try dsimp only at H2
  refine runR_take tab_ok fol 1 ?_
  try simp -implicitDefEqProofs only [go_sem, Nat.reduceAdd, ↓reduceIte]
  rcases ite_inv H2 with ⟨c35, H36⟩ | ⟨c35, H36⟩
  ·have e37 : out3 = [] := List.eq_nil_of_length_eq_zero (of_decide_eq_true c35)
   subst e37
   simp only [List.map_nil, accV_nil, accO_nil]
   try simp only [accK, accB]
   try simp -implicitDefEqProofs only [go_sem, Bool.false_and, Int.reduceToNat, Int.reduceLT, Int.reduceLE, Int.reduceBEq, Int.reduceBNe, Nat.reduceLT, Nat.reduceBEq, Int.reduceEq, Nat.reduceEqDiff, Nat.reduceAdd, Nat.reduceSub, Nat.reduceMul, Nat.reduceLeDiff, reduceCtorEq, ↓reduceIte, eGPair, eGGrant, eGSod, eGSession, eGWord, eGLine, eGFact]
   refine onCall_inl (InlOK.mono sort_Sod_n ?_)
   rintro v38 hp39 nx40 ⟨rfl, rfl, rfl⟩
   try simp -implicitDefEqProofs only [go_sem, Nat.reduceEqDiff, Nat.reduceAdd, ↓reduceIte]
   refine onCall_inl (InlOK.mono cpt_Sod_n ?_)
   rintro v41 hp42 nx43 ⟨rfl, rfl⟩
   try simp -implicitDefEqProofs only [go_sem, Nat.reduceAdd, ↓reduceIte]
   obtain rfl := Option.some.inj H36
   exact end_pure (by simp -implicitDefEqProofs only [go_sem, ↓reduceIte, Tryz.f33] <;> rfl) (by rfl) rfl (by intro h; rfl)
  ·have q44 : 0 < out3.length := by have := of_decide_eq_false c35; omega
   have h45 : ∀ i, accK i (List.map eGSod out3) = [i] := fun i => by cases hx : out3 with | nil => (rw [hx] at q44; simp at q44) | cons a r => rfl
   have h46 : ∀ b, accB b (List.map eGSod out3) = b := fun b => by cases hx : out3 with | nil => (rw [hx] at q44; simp at q44) | cons a r => rfl
   obtain ⟨l3, b50, H51⟩ := bind_inv H36
   try simp -implicitDefEqProofs only [go_sem, accV_pos (f := eGSod) q44, accO_pos (f := eGSod) q44]
   have h52 := sort_Sod_len b50
   refine onCall_inl (InlOK.mono (sort_Sod_in b50 (by rfl)) ?_)
   rintro v47 hp48 nx49 ⟨rfl, rfl, rfl⟩
   try rw [h52]
   obtain ⟨l4, b56, H57⟩ := bind_inv H51
   try simp -implicitDefEqProofs only [go_sem, Nat.reduceEqDiff, Nat.reduceAdd, ↓reduceIte]
   refine onCall_inl (InlOK.mono (cpt_Sod_in b56 (by rfl)) ?_)
   rintro v53 hp54 nx55 ⟨rfl, rfl⟩
   try simp -implicitDefEqProofs only [go_sem, Nat.reduceAdd, ↓reduceIte]
   obtain rfl := Option.some.inj H57
   exact end_pure (by simp -implicitDefEqProofs only [go_sem, ↓reduceIte, Tryz.f33] <;> rfl) (by simp -implicitDefEqProofs only [go_sem, ↓reduceIte]; rfl) rfl (by intro h; rfl)
def norm_sessions_L1 (n : Nat) (l : List GSession) : Nat → (List GSession × Int) → Option (List GSession)
 | 0, _ => none
 | c + 1, (out, t8) =>
  (if (decide (t8 < (l.length : Int))) then
   (idx l t8).bind fun x2 =>
   (norm_Once n x2.roles).bind fun t192 =>
   (app out [(⟨x2.name, x2.user, t192⟩ : GSession)]).bind fun l2 =>
   norm_sessions_L1 n l c (l2, (IntKind.i64.wrap (t8 + 1)))
  else
   some out)
def norm_sessions_L1_f (n : Nat) (_ : List GSession) (st : List GSession) (x2 : GSession) (k : List GSession → Option (List GSession)) : Option (List GSession) :=
 match st with
 | out =>
  (norm_Once n x2.roles).bind fun t192 =>
  (app out [(⟨x2.name, x2.user, t192⟩ : GSession)]).bind fun l2 =>
  k l2
def norm_sessions_L1_e (_ : Nat) (_ : List GSession) (st : List GSession) : Option (List GSession) :=
 match st with
 | out => some out
theorem norm_sessions_L1_list (n : Nat) (l : List GSession) (hx : l.length < 4611686018427387904) (c : Nat) (st : List GSession) (ix : Nat) (hi : ix ≤ l.length) (hc : l.length - ix < c) : norm_sessions_L1 n l c (match st, (ix : Int) with | out, ix => (out, ix)) = foldK (norm_sessions_L1_f n l) (norm_sessions_L1_e n l) (l.drop ix) st :=
 loop_list (fun c st ix => norm_sessions_L1 n l c (match st, ix with | out, ix => (out, ix))) l (norm_sessions_L1_f n l) (norm_sessions_L1_e n l) (fun _ _ _ => rfl) hx c st ix hi hc

def norm_sessions (n : Nat) (l : List GSession) : Option (List GSession) :=
 (
  norm_sessions_L1 n l n ([], 0) : Option (List GSession)).bind fun out3 =>
 (if (decide (out3.length = 0)) then
  some []
 else
  (sort_Session n out3).bind fun l3 =>
  (cpt_Session n l3).bind fun l4 =>
  some l4)
theorem norm_sessions_ok {n : Nat} {l : List GSession} {r : List GSession} (H : norm_sessions n l = some r) : PureOK Tryz.prog 34 [D.sl (List.map eGSession l)] (D.sl (List.map eGSession r)) true := by
 unfold norm_sessions at H
 refine pure_runR (tab := tab) tab_ok Tryz.func34 rfl (by kernel_rfl) (by kernel_rfl) (by simp [Tryz.f34]) ?_
 refine runR_seq ?_
 refine runR_take tab_ok fol 1 ?_
 try simp -implicitDefEqProofs only [go_sem]
 refine runR_seq ?_
 refine runR_take tab_ok fol 1 ?_
 try simp -implicitDefEqProofs only [go_sem, Nat.reduceAdd]
 refine runR_seq ?_
 refine runR_seq ?_
 refine runR_take tab_ok fol 1 ?_
 try simp -implicitDefEqProofs only [go_sem, Nat.reduceAdd, reduceCtorEq, ↓reduceIte]
 obtain ⟨e_, E1, H2⟩ := bind_inv H
 refine runR_join (α := { y : List GSession // e_ = y } × Nat) (fun | ⟨⟨out3, _⟩, g3⟩ => ⟨upd 3 (accV 0 g3 (List.map eGSession out3)) noFr, upd 0 (accO 3 g3 false (List.map eGSession out3)) noHp, 1⟩) ?_ ?_
 ·refine runR_block ?_
  refine runR_loop (α := { q : (Nat × (List GSession × Int)) × Nat // norm_sessions_L1 n l q.1.1 q.1.2 = some e_ }) (fun | ⟨⟨⟨c, ⟨out, t8⟩⟩, g⟩, _⟩ => ⟨upd 3 (accV 0 g (List.map eGSession out)) (upd 6 (.d (.sl (List.map eGSession l)) true) (upd 7 (.v (.int .i64 (l.length : Int))) (upd 8 (.v (.int .i64 t8)) noFr))), upd 0 (accO 3 g false (List.map eGSession out)) noHp, 1⟩) (fun q => q.1.1.1) ⟨((n, ([], 0)), 0), E1⟩ ?_ ?_
  ·exact ren_mk [] (by rfl) (ru_ (ru_ (ru_ (ru_ (rf_no _))))) (rh_upd rh_accN (rh_no _))
  ·rintro ⟨⟨⟨c, ⟨out, t8⟩⟩, g⟩, L3⟩
   rcases c with _ | c
   ·exact nomatch (show none = some _ from L3)
   ·unfold norm_sessions_L1 at L3
    try dsimp only at L3
    refine runR_take tab_ok fol 1 ?_
    try simp -implicitDefEqProofs only [go_sem, Nat.reduceEqDiff, Nat.reduceAdd, ↓reduceIte]
    rcases ite_inv L3 with ⟨c14, H15⟩ | ⟨c14, H15⟩
    ·obtain ⟨x2, b16, H17⟩ := bind_inv H15
     obtain ⟨h18, h19⟩ := idx_inv b16
     try simp only [Int.reduceToNat, Int.toNat_natCast] at h19
     have h20 := map_at eGSession h19
     obtain ⟨t192, b22, H23⟩ := bind_inv H17
     try simp -implicitDefEqProofs only [go_sem, Nat.reduceEqDiff, Nat.reduceAdd, reduceCtorEq, ↓reduceIte, eGSession, c14, nat_of .i64 h18, h20]
     refine onCallD_pure (by rfl) (norm_Once_ok b22) (by exact .inr rfl) ?_
     obtain ⟨l2, b24, H25⟩ := bind_inv H23
     obtain ⟨h26, h27⟩ := app_inv b24
     have h26 : out.length + 1 ≤ 4294967296 := h26
     have h28 : List.map eGSession out ++ [[.v (.string x2.name), .v (.string x2.user), .sl (List.map eS t192)]] = List.map eGSession l2 := app_map eGSession h27
     have h29 : out.length + 1 = l2.length := app_len h27
     have h30 : l2.length ≤ 4294967296 := by omega
     have q31 : 0 < l2.length := by omega
     try simp -implicitDefEqProofs only [go_sem, Bool.false_and, Nat.reduceLT, Nat.reduceEqDiff, Nat.reduceAdd, Nat.reduceMul, Nat.reduceLeDiff, reduceCtorEq, ↓reduceIte, h28, h29, h30]
     refine Rd_endF (by (cases out <;> rfl)) ?_
     try simp -implicitDefEqProofs only [go_sem, Nat.reduceEqDiff, Nat.reduceAdd, ↓reduceIte]
     rcases out with _ | ⟨q0, q1⟩
     ·try simp only [List.map_nil, accI, accN]
      exact ⟨⟨((c, (l2, (IntKind.i64.wrap (t8 + 1)))), 0), H25⟩, ren_mk [(0, 16)] (by rfl) (rf_upd (by exact ren_accP (by rfl) q31) (ru_ (ru_ (ru_ (rf_no _))))) (rh_upd (by exact rh_accP (by rfl) q31 (by rfl)) (rh_no _)), Nat.lt_succ_self _⟩
     ·try simp only [List.map_cons, accI, accN]
      exact ⟨⟨((c, (l2, (IntKind.i64.wrap (t8 + 1)))), (g + 1)), H25⟩, ren_mk [(0, 0)] (by rfl) (rf_upd (by exact ren_accP (by rfl) q31) (ru_ (ru_ (ru_ (rf_no _))))) (rh_upd (by exact rh_accP (by rfl) q31 (by rfl)) (rh_no _)), Nat.lt_succ_self _⟩
    ·try simp -implicitDefEqProofs only [go_sem, ↓reduceIte, c14]
     obtain rfl := Option.some.inj H15
     exact ⟨⟨⟨out, rfl⟩, g⟩, ren_mk [(0, 0)] (by rfl) (rn_ (rf_no _)) (ra_ (rh_no _))⟩
 ·rintro ⟨⟨out3, he59⟩, g3⟩
  replace he59 := he59.symm
  subst he59
  try dsimp only at H2
  refine runR_take tab_ok fol 1 ?_
  try simp -implicitDefEqProofs only [go_sem, Nat.reduceAdd, ↓reduceIte]
  rcases ite_inv H2 with ⟨c35, H36⟩ | ⟨c35, H36⟩
  ·have e37 : out3 = [] := List.eq_nil_of_length_eq_zero (of_decide_eq_true c35)
   subst e37
   simp only [List.map_nil, accV_nil, accO_nil]
   try simp only [accK, accB]
   try simp -implicitDefEqProofs only [go_sem, Bool.false_and, Int.reduceToNat, Int.reduceLT, Int.reduceLE, Int.reduceBEq, Int.reduceBNe, Nat.reduceLT, Nat.reduceBEq, Int.reduceEq, Nat.reduceEqDiff, Nat.reduceAdd, Nat.reduceSub, Nat.reduceMul, Nat.reduceLeDiff, reduceCtorEq, ↓reduceIte, eGPair, eGGrant, eGSod, eGSession, eGWord, eGLine, eGFact]
   refine onCall_inl (InlOK.mono sort_Session_n ?_)
   rintro v38 hp39 nx40 ⟨rfl, rfl, rfl⟩
   try simp -implicitDefEqProofs only [go_sem, Nat.reduceEqDiff, Nat.reduceAdd, ↓reduceIte]
   refine onCall_inl (InlOK.mono cpt_Session_n ?_)
   rintro v41 hp42 nx43 ⟨rfl, rfl⟩
   try simp -implicitDefEqProofs only [go_sem, Nat.reduceAdd, ↓reduceIte]
   obtain rfl := Option.some.inj H36
   exact end_pure (by simp -implicitDefEqProofs only [go_sem, ↓reduceIte, Tryz.f34] <;> rfl) (by rfl) rfl (by intro h; rfl)
  ·have q44 : 0 < out3.length := by have := of_decide_eq_false c35; omega
   have h45 : ∀ i, accK i (List.map eGSession out3) = [i] := fun i => by cases hx : out3 with | nil => (rw [hx] at q44; simp at q44) | cons a r => rfl
   have h46 : ∀ b, accB b (List.map eGSession out3) = b := fun b => by cases hx : out3 with | nil => (rw [hx] at q44; simp at q44) | cons a r => rfl
   obtain ⟨l3, b50, H51⟩ := bind_inv H36
   try simp -implicitDefEqProofs only [go_sem, accV_pos (f := eGSession) q44, accO_pos (f := eGSession) q44]
   have h52 := sort_Session_len b50
   refine onCall_inl (InlOK.mono (sort_Session_in b50 (by rfl)) ?_)
   rintro v47 hp48 nx49 ⟨rfl, rfl, rfl⟩
   try rw [h52]
   obtain ⟨l4, b56, H57⟩ := bind_inv H51
   try simp -implicitDefEqProofs only [go_sem, Nat.reduceEqDiff, Nat.reduceAdd, ↓reduceIte]
   refine onCall_inl (InlOK.mono (cpt_Session_in b56 (by rfl)) ?_)
   rintro v53 hp54 nx55 ⟨rfl, rfl⟩
   try simp -implicitDefEqProofs only [go_sem, Nat.reduceAdd, ↓reduceIte]
   obtain rfl := Option.some.inj H57
   exact end_pure (by simp -implicitDefEqProofs only [go_sem, ↓reduceIte, Tryz.f34] <;> rfl) (by simp -implicitDefEqProofs only [go_sem, ↓reduceIte]; rfl) rfl (by intro h; rfl)
def norm_reach_L2 (n : Nat) (next : List (ByteArray × (List ByteArray))) (x3 : ByteArray) : Nat → (List (ByteArray × Int) × List ByteArray × Int) → Option (List (ByteArray × Int) × List ByteArray)
 | 0, _ => none
 | c + 1, (seen5, out5, t283) =>
  (if (decide (t283 < (((mgetD x3 [] next)).length : Int))) then
   (idx (mgetD x3 [] next) t283).bind fun x5 =>
   (if ((mgetD x5 0 seen5) == 0) then
    (app out5 [x5]).bind fun l3 =>
    norm_reach_L2 n next x3 c ((mset x5 1 seen5), l3, (IntKind.i64.wrap (t283 + 1)))
   else
    norm_reach_L2 n next x3 c (seen5, out5, (IntKind.i64.wrap (t283 + 1))))
  else
   some (seen5, out5))

def norm_reach_L1 (n : Nat) (next : List (ByteArray × (List ByteArray))) : Nat → (List (ByteArray × Int) × List ByteArray × Int) → Option (List ByteArray)
 | 0, _ => none
 | c + 1, (seen4, out4, i) =>
  (if (decide (i < (out4.length : Int))) then
   (idx out4 i).bind fun x3 =>
   (
    norm_reach_L2 n next x3 n (seen4, out4, 0) : Option (List (ByteArray × Int) × List ByteArray)).bind fun (seen7, out7) =>
   norm_reach_L1 n next c (seen7, out7, (IntKind.i64.wrap (i + 1)))
  else
   some out4)

def norm_reach (n : Nat) (role : ByteArray) (next : List (ByteArray × (List ByteArray))) : Option (List ByteArray) :=
 (
  norm_reach_L1 n next n ((mset role 1 []), [role], 0) : Option (List ByteArray)).bind fun out9 =>
 (sort_T n out9).bind fun l4 =>
 some l4
theorem norm_reach_ok {n : Nat} {role : ByteArray} {next : List (ByteArray × (List ByteArray))} {r : List ByteArray} (H : norm_reach n role next = some r) : PureOK Tryz.prog 26 [D.v (.string role), D.mp (encMp Value.string false (eL eS) next)] (D.sl (List.map eS r)) true := by
 unfold norm_reach at H
 refine pure_runR (tab := tab) tab_ok Tryz.func26 rfl (by kernel_rfl) (by kernel_rfl) (by simp [Tryz.f26]) ?_
 refine runR_seq ?_
 refine runR_take tab_ok fol 1 ?_
 try simp -implicitDefEqProofs only [go_sem]
 refine runR_seq ?_
 refine runR_take tab_ok fol 1 ?_
 try simp -implicitDefEqProofs only [go_sem, Nat.reduceEqDiff, Nat.reduceAdd, reduceCtorEq, ↓reduceIte]
 refine runR_seq ?_
 refine runR_take tab_ok fol 1 ?_
 try simp -implicitDefEqProofs only [go_sem, Nat.reduceLT, Nat.reduceEqDiff, Nat.reduceAdd, Nat.reduceLeDiff, reduceCtorEq, ↓reduceIte]
 refine runR_seq ?_
 refine runR_seq ?_
 refine runR_take tab_ok fol 1 ?_
 try simp -implicitDefEqProofs only [go_sem, Nat.reduceAdd]
 obtain ⟨e_, E1, H2⟩ := bind_inv H
 refine runR_join (α := { y : List ByteArray // e_ = y } × Nat) (fun | ⟨⟨out9, _⟩, g9⟩ => ⟨upd 6 (.so 0 g9 0 (out9.length)) noFr, upd 0 (some (.rw (List.map eS out9) 1 g9 false false)) noHp, 1⟩) ?_ ?_
 ·refine runR_block ?_
  refine runR_loop (α := { q : (Nat × (List (ByteArray × Int) × List ByteArray × Int)) × Nat // norm_reach_L1 n next q.1.1 q.1.2 = some e_ }) (fun | ⟨⟨⟨c, ⟨seen4, out4, i⟩⟩, g4⟩, _⟩ => ⟨upd 1 (.d (.mp (encMp Value.string false (eL eS) next)) true) (upd 5 (.mo 0) (upd 6 (.so 1 g4 0 (out4.length)) (upd 7 (.v (.int .i64 i)) noFr))), upd 0 (some (.mo (encM Value.string vI seen4) false)) (upd 1 (some (.rw (List.map eS out4) 1 g4 false false)) noHp), 2⟩) (fun q => q.1.1.1) ⟨((n, ((mset role 1 []), [role], 0)), 0), E1⟩ ?_ ?_
  ·exact ren_mk [(0, 1), (1, 7)] (by rfl) (ru_ (ru_ (ru_ (ru_ (rf_no _))))) (rh_upd (rh_one (by rfl) (renO_encM (fun _ => rfl) _ _) (by rfl)) (ro_ (rh_no _)))
  ·rintro ⟨⟨⟨c, ⟨seen4, out4, i⟩⟩, g4⟩, L3⟩
   rcases c with _ | c
   ·exact nomatch (show none = some _ from L3)
   ·unfold norm_reach_L1 at L3
    try dsimp only at L3
    refine runR_seq ?_
    refine runR_take tab_ok fol 1 ?_
    try simp -implicitDefEqProofs only [go_sem, Nat.reduceEqDiff, Nat.reduceAdd, ↓reduceIte]
    rcases ite_inv L3 with ⟨c37, H38⟩ | ⟨c37, H38⟩
    ·try simp -implicitDefEqProofs only [go_sem, c37]
     refine runR_seq ?_
     refine runR_block ?_
     refine runR_seq ?_
     refine runR_take tab_ok fol 1 ?_
     obtain ⟨x3, b39, H40⟩ := bind_inv H38
     obtain ⟨h41, h42⟩ := idx_inv b39
     try simp only [Int.reduceToNat, Int.toNat_natCast] at h42
     have h43 := map_at eS h42
     have h44 := at_lt h42
     have h45 : lookA (false, [.string]) (.string x3) (.d (.sl []) true) false (dEnts true (encMp Value.string false (eL eS) next)) = some (.d (.sl (List.map eS (mgetD x3 [] next))) true, []) := lookD (b := true) (ag := false) (enc := (eL eS)) key_str x3 ([] : List ByteArray) false next
     try simp -implicitDefEqProofs only [go_sem, Nat.reduceEqDiff, Nat.reduceAdd, reduceCtorEq, ↓reduceIte, nat_of .i64 h41, h43, h44, h45]
     obtain ⟨e_3, E46, H47⟩ := bind_inv H40
     refine runR_join (α := { y : List (ByteArray × Int) × List ByteArray // e_3 = y } × Nat) (fun | ⟨⟨⟨seen7, out7⟩, _⟩, g7⟩ => ⟨upd 1 (.d (.mp (encMp Value.string false (eL eS) next)) true) (upd 5 (.mo 0) (upd 6 (.so 1 g7 0 (out7.length)) (upd 7 (.v (.int .i64 i)) noFr))), upd 0 (some (.mo (encM Value.string vI seen7) false)) (upd 1 (some (.rw (List.map eS out7) 1 g7 false false)) noHp), 2⟩) ?_ ?_
     ·refine runR_block ?_
      refine runR_loop (α := { q : (Nat × (List (ByteArray × Int) × List ByteArray × Int)) × Nat // norm_reach_L2 n next x3 q.1.1 q.1.2 = some e_3 }) (fun | ⟨⟨⟨c, ⟨seen5, out5, t283⟩⟩, g5⟩, _⟩ => ⟨upd 1 (.d (.mp (encMp Value.string false (eL eS) next)) true) (upd 5 (.mo 0) (upd 6 (.so 1 g5 0 (out5.length)) (upd 7 (.v (.int .i64 i)) (upd 26 (.d (.sl (List.map eS (mgetD x3 [] next))) true) (upd 27 (.v (.int .i64 (((mgetD x3 [] next)).length : Int))) (upd 28 (.v (.int .i64 t283)) noFr)))))), upd 0 (some (.mo (encM Value.string vI seen5) false)) (upd 1 (some (.rw (List.map eS out5) 1 g5 false false)) noHp), 2⟩) (fun q => q.1.1.1) ⟨((n, (seen4, out4, 0)), g4), E46⟩ ?_ ?_
      ·exact ren_mk [(0, 0), (1, 1)] (by rfl) (ru_ (ru_ (ru_ (ru_ (ru_ (ru_ (ru_ (rf_no _)))))))) (rh_upd (rh_one (by rfl) (renO_encM (fun _ => rfl) _ _) (by rfl)) (ro_ (rh_no _)))
      ·rintro ⟨⟨⟨c, ⟨seen5, out5, t283⟩⟩, g5⟩, L48⟩
       rcases c with _ | c
       ·exact nomatch (show none = some _ from L48)
       ·unfold norm_reach_L2 at L48
        try dsimp only at L48
        refine runR_take tab_ok fol 1 ?_
        try simp -implicitDefEqProofs only [go_sem, Nat.reduceEqDiff, Nat.reduceAdd, ↓reduceIte]
        rcases ite_inv L48 with ⟨c67, H68⟩ | ⟨c67, H68⟩
        ·obtain ⟨x5, b69, H70⟩ := bind_inv H68
         obtain ⟨h71, h72⟩ := idx_inv b69
         try simp only [Int.reduceToNat, Int.toNat_natCast] at h72
         have h73 := map_at eS h72
         try simp -implicitDefEqProofs only [go_sem, Nat.reduceEqDiff, Nat.reduceAdd, ↓reduceIte, c67, nat_of .i64 h71, h73]
         rcases ite_inv H70 with ⟨c75, H76⟩ | ⟨c75, H76⟩
         ·obtain ⟨l3, b77, H78⟩ := bind_inv H76
          obtain ⟨h79, h80⟩ := app_inv b77
          have h79 : out5.length + 1 ≤ 4294967296 := h79
          have h81 : List.map eS out5 ++ [[.v (.string x5)]] = List.map eS l3 := app_map eS h80
          have h82 : out5.length + 1 = l3.length := app_len h80
          have h83 : l3.length ≤ 4294967296 := by omega
          have q84 : 0 < l3.length := by omega
          try simp -implicitDefEqProofs only [go_sem, Nat.reduceLT, Nat.reduceEqDiff, Nat.reduceAdd, Nat.reduceLeDiff, reduceCtorEq, ↓reduceIte, c75, h81, h82, h83]
          exact ⟨⟨((c, ((mset x5 1 seen5), l3, (IntKind.i64.wrap (t283 + 1)))), (g5 + 1)), H78⟩, ren_mk [(0, 0), (1, 1)] (by rfl) (ru_ (ru_ (ru_ (ru_ (ru_ (ru_ (ru_ (rf_no _)))))))) (rh_upd (rh_one (by rfl) (renO_encM (fun _ => rfl) _ _) (by rfl)) (ro_ (rh_no _))), Nat.lt_succ_self _⟩
         ·try simp -implicitDefEqProofs only [go_sem, Nat.reduceEqDiff, Nat.reduceAdd, ↓reduceIte, c75]
          exact ⟨⟨((c, (seen5, out5, (IntKind.i64.wrap (t283 + 1)))), g5), H76⟩, ren_mk [(0, 0), (1, 1)] (by rfl) (ru_ (ru_ (ru_ (ru_ (ru_ (ru_ (ru_ (rf_no _)))))))) (rh_upd (rh_one (by rfl) (renO_encM (fun _ => rfl) _ _) (by rfl)) (ro_ (rh_no _))), Nat.lt_succ_self _⟩
        ·try simp -implicitDefEqProofs only [go_sem, ↓reduceIte, c67]
         obtain rfl := Option.some.inj H68
         exact ⟨⟨⟨(seen5, out5), rfl⟩, g5⟩, ren_mk [(0, 0), (1, 1)] (by rfl) (ru_ (ru_ (ru_ (ru_ (rf_no _))))) (rh_upd (rh_one (by rfl) (renO_encM (fun _ => rfl) _ _) (by rfl)) (ro_ (rh_no _)))⟩
     ·rintro ⟨⟨⟨seen7, out7⟩, he85⟩, g7⟩
      replace he85 := he85.symm
      subst he85
      try dsimp only at H47
      try simp -implicitDefEqProofs only [go_sem]
      refine runR_take tab_ok fol 1 ?_
      try simp -implicitDefEqProofs only [go_sem, Nat.reduceEqDiff, Nat.reduceAdd, ↓reduceIte]
      exact ⟨⟨((c, (seen7, out7, (IntKind.i64.wrap (i + 1)))), g7), H47⟩, ren_mk [(0, 0), (1, 1)] (by rfl) (ru_ (ru_ (ru_ (ru_ (rf_no _))))) (rh_upd (rh_one (by rfl) (renO_encM (fun _ => rfl) _ _) (by rfl)) (ro_ (rh_no _))), Nat.lt_succ_self _⟩
    ·try simp -implicitDefEqProofs only [go_sem, ↓reduceIte, c37]
     obtain rfl := Option.some.inj H38
     exact ⟨⟨⟨out4, rfl⟩, g4⟩, ren_mk [(0, 1)] (by rfl) (ru_ (rf_no _)) (ro_ (rh_no _))⟩
 ·rintro ⟨⟨out9, he92⟩, g9⟩
  replace he92 := he92.symm
  subst he92
  try dsimp only at H2
  refine runR_take tab_ok fol 1 ?_
  obtain ⟨l4, b89, H90⟩ := bind_inv H2
  try simp -implicitDefEqProofs only [go_sem, Nat.reduceAdd, ↓reduceIte]
  have h91 := sort_T_len b89
  refine onCall_inl (InlOK.mono (sort_T_in b89 (by rfl)) ?_)
  rintro v86 hp87 nx88 ⟨rfl, rfl, rfl⟩
  try rw [h91]
  try simp -implicitDefEqProofs only [go_sem, Nat.reduceEqDiff, Nat.reduceAdd, ↓reduceIte]
  obtain rfl := Option.some.inj H90
  exact end_pure (by simp -implicitDefEqProofs only [go_sem, ↓reduceIte, Tryz.f26] <;> rfl) (by simp -implicitDefEqProofs only [go_sem, ↓reduceIte]; rfl) rfl (by intro h; rfl)
def norm_below_L1 (n : Nat) (l : List GPair) : Nat → (List (ByteArray × (List ByteArray)) × Int) → Option (List (ByteArray × (List ByteArray)))
 | 0, _ => none
 | c + 1, (out2, t9) =>
  (if (decide (t9 < (l.length : Int))) then
   (idx l t9).bind fun x2 =>
   grd (decide (out2.length ≤ 4294967296)) <|
   (
    grd (famG x2.a out2) <|
    some () : Option (Unit)).bind fun _ =>
   grd (decide ((madd x2.a [x2.b] out2).length ≤ 4294967296)) <|
   norm_below_L1 n l c ((madd x2.a [x2.b] out2), (IntKind.i64.wrap (t9 + 1)))
  else
   grd (decide (out2.length ≤ 4294967296)) <|
   some out2)
def norm_below_L1_f (_ : Nat) (_ : List GPair) (st : List (ByteArray × (List ByteArray))) (x2 : GPair) (k : (List (ByteArray × (List ByteArray))) → Option (List (ByteArray × (List ByteArray)))) : Option (List (ByteArray × (List ByteArray))) :=
 match st with
 | out2 =>
  grd (decide (out2.length ≤ 4294967296)) <|
  (
   grd (famG x2.a out2) <|
   some () : Option (Unit)).bind fun _ =>
  grd (decide ((madd x2.a [x2.b] out2).length ≤ 4294967296)) <|
  k (madd x2.a [x2.b] out2)
def norm_below_L1_e (_ : Nat) (_ : List GPair) (st : List (ByteArray × (List ByteArray))) : Option (List (ByteArray × (List ByteArray))) :=
 match st with
 | out2 => grd (decide (out2.length ≤ 4294967296)) <|
 some out2
theorem norm_below_L1_list (n : Nat) (l : List GPair) (hx : l.length < 4611686018427387904) (c : Nat) (st : List (ByteArray × (List ByteArray))) (ix : Nat) (hi : ix ≤ l.length) (hc : l.length - ix < c) : norm_below_L1 n l c (match st, (ix : Int) with | out2, ix => (out2, ix)) = foldK (norm_below_L1_f n l) (norm_below_L1_e n l) (l.drop ix) st :=
 loop_list (fun c st ix => norm_below_L1 n l c (match st, ix with | out2, ix => (out2, ix))) l (norm_below_L1_f n l) (norm_below_L1_e n l) (fun _ _ _ => rfl) hx c st ix hi hc

def norm_below (n : Nat) (l : List GPair) : Option (List (ByteArray × (List ByteArray))) :=
 (
  norm_below_L1 n l n (([] : List (ByteArray × (List ByteArray))), 0) : Option (List (ByteArray × (List ByteArray)))).bind fun out4 =>
 grd (decide (out4.length ≤ 4294967296)) <|
 some out4
theorem norm_below_ok {n : Nat} {l : List GPair} {r : List (ByteArray × (List ByteArray))} (H : norm_below n l = some r) : PureA Tryz.prog 27 [.d (D.sl (List.map eGPair l))] (D.mp (encMp Value.string false (eL eS) r)) true := by
 unfold norm_below at H
 refine pureX_runR (tab := tab) tab_ok Tryz.func27 rfl (by kernel_rfl) (by kernel_rfl) (by simp [Tryz.f27]) ?_
 refine runR_seq ?_
 refine runR_take tab_ok fol 1 ?_
 try simp -implicitDefEqProofs only [go_sem]
 refine runR_seq ?_
 refine runR_take tab_ok fol 1 ?_
 try simp -implicitDefEqProofs only [go_sem, Nat.reduceAdd, ↓reduceIte]
 refine runR_seq ?_
 refine runR_seq ?_
 refine runR_take tab_ok fol 1 ?_
 try simp -implicitDefEqProofs only [go_sem, Nat.reduceAdd, reduceCtorEq, ↓reduceIte]
 obtain ⟨e_, E1, H2⟩ := bind_inv H
 refine runR_join (α := { y : List (ByteArray × (List ByteArray)) // e_ = y } × (Nat → Nat)) (fun | ⟨⟨out4, _⟩, g6⟩ => ⟨upd 3 (.mo 0) noFr, upd 0 (some (.mo (encF Value.string 4294967296 g6 out4) false)) (famH eS 1 4294967296 g6 out4 (noHp)), 8589934592⟩) ?_ ?_
 ·refine runR_block ?_
  refine runR_loop (α := { q : (Nat × (List (ByteArray × (List ByteArray)) × Int)) × (Nat → Nat) // norm_below_L1 n l q.1.1 q.1.2 = some e_ }) (fun | ⟨⟨⟨c, ⟨out2, t9⟩⟩, g3⟩, _⟩ => ⟨upd 3 (.mo 0) (upd 7 (.d (.sl (List.map eGPair l)) true) (upd 8 (.v (.int .i64 (l.length : Int))) (upd 9 (.v (.int .i64 t9)) noFr))), upd 0 (some (.mo (encF Value.string 4294967296 g3 out2) false)) (famH eS 1 4294967296 g3 out2 (noHp)), 8589934592⟩) (fun q => q.1.1.1) ⟨((n, (([] : List (ByteArray × (List ByteArray))), 0)), (fun _ => 0)), E1⟩ ?_ ?_
  ·exact ren_mkF (R := 340282366920938463463374607431768211457) none (fun _ _ h => by cases h) [4294967296] [(0, 1)] (by rfl) (ru_ (ru_ (ru_ (ru_ (rf_no _))))) (rh_upd (rh_one (by rfl) (renO_fam (by rfl) (by simp) (fun _ _ h => by cases h) (by decide) rfl) (by rfl)) (rh_fam (by rfl) (by simp) (fun _ _ h => by cases h) rfl (fun j p h hj => by cases h) (rh_no _)))
  ·rintro ⟨⟨⟨c, ⟨out2, t9⟩⟩, g3⟩, L3⟩
   rcases c with _ | c
   ·exact nomatch (show none = some _ from L3)
   ·unfold norm_below_L1 at L3
    try dsimp only at L3
    refine runR_seq ?_
    refine runR_take tab_ok fol 1 ?_
    try simp -implicitDefEqProofs only [go_sem, Nat.reduceEqDiff, Nat.reduceAdd, ↓reduceIte]
    refine runR_seq ?_
    refine runR_take tab_ok fol 1 ?_
    try simp -implicitDefEqProofs only [go_sem, ↓reduceIte]
    rcases ite_inv L3 with ⟨c54, H55⟩ | ⟨c54, H55⟩
    ·try simp -implicitDefEqProofs only [go_sem, c54]
     refine runR_seq ?_
     refine runR_block ?_
     refine runR_seq ?_
     refine runR_take tab_ok fol 1 ?_
     obtain ⟨x2, b56, H57⟩ := bind_inv H55
     obtain ⟨h58, h59⟩ := idx_inv b56
     try simp only [Int.reduceToNat, Int.toNat_natCast] at h59
     have h60 := map_at eGPair h59
     try simp -implicitDefEqProofs only [go_sem, Nat.reduceEqDiff, Nat.reduceAdd, ↓reduceIte, eGPair, nat_of .i64 h58, h60]
     obtain ⟨g62, H63⟩ := grd_inv H57
     have h64 : out2.length ≤ 4294967296 := of_decide_eq_true g62
     obtain ⟨e_3, E65, H66⟩ := bind_inv H63
     refine runR_join (α := { y : Unit // e_3 = y } × (Nat → Nat)) (fun | ⟨⟨_, _⟩, g4⟩ => ⟨upd 3 (.mo 0) (upd 7 (.d (.sl (List.map eGPair l)) true) (upd 8 (.v (.int .i64 (l.length : Int))) (upd 9 (.v (.int .i64 t9)) noFr))), upd 0 (some (.mo (encF Value.string 4294967296 g4 (madd x2.a [x2.b] out2)) false)) (famH eS 1 4294967296 g4 (madd x2.a [x2.b] out2) (noHp)), 8589934592⟩) ?_ ?_
     ·refine runR_take tab_ok fol 1 ?_
      obtain ⟨g67, H68⟩ := grd_inv E65
      obtain ⟨g69, g70⟩ := famG_inv g67
      try simp -implicitDefEqProofs only [go_sem, Nat.reduceEqDiff, Nat.reduceAdd, reduceCtorEq, ↓reduceIte]
      rcases find_cases (kv := Value.string) (B := 4294967296) (vs := g3) key_str x2.a out2 with ⟨n71, n72, n73⟩ | ⟨j2, xs2, o74, o75, o76, o77⟩
      ·have n78 : mfind (false, [.string]) (.string x2.a) (encF Value.string 4294967296 g3 out2) = some none := n72
       try simp -implicitDefEqProofs only [go_sem, Nat.reduceLT, Nat.reduceEqDiff, Nat.reduceAdd, Nat.reduceLeDiff, reduceCtorEq, ↓reduceIte, look_new n78, mput_new n78]
       refine Rd_endF (by kernel_rfl) ?_
       try simp -implicitDefEqProofs only [go_sem]
       obtain rfl := Option.some.inj H68
       exact ⟨⟨⟨(), rfl⟩, (vsUp (List.length out2) 0 g3)⟩, ren_mkF (R := 8589934607) (some (fid 4294967296 (List.length out2), 8589934607)) (fun _ _ h => by cases h; rfl) [4294967296] [(0, 0)] (by rfl) (ru_ (ru_ (ru_ (ru_ (rf_no _))))) (rh_upd (rh_one (by rfl) (renO_famN (by rfl) (by simp) g69 (by exact (n73 _))) (by rfl)) (rh_famN (by rfl) (by simp) g69 (by exact (n73 _)) (fun j p h hj => by repeat (first | with_reducible exact famH_at h hj | (with_reducible refine at_upd ?_ ?_; rw [fid_eq]; omega) | (with_reducible refine at_fam ?_ ?_; rw [fid_eq]; omega))) (by rfl) (rh_no _)))⟩
      ·have o83 : mfind (false, [.string]) (.string x2.a) (encF Value.string 4294967296 g3 out2) = some (some (j2, .so (fid 4294967296 j2) (g3 j2) 0 xs2.length)) := o76
       have h79 : j2 < 4294967296 := Nat.lt_trans (List.getElem?_eq_some_iff.1 o74).1 g69
       have h80 : ∀ hp : Hp, famH eS 1 4294967296 g3 out2 hp (fid 4294967296 j2) = some (.rw (List.map eS xs2) 1 (g3 j2) false false) := fun _ => famH_at o74 h79
       have h81 : (encF Value.string 4294967296 g3 out2)[j2]? = some ((.string x2.a), .so (fid 4294967296 j2) (g3 j2) 0 xs2.length) := (encF_at _ _).trans (by rw [o74]; rfl)
       have h82 : xs2.length + 1 ≤ 4294967296 := by have := g70; simp only [mgetD, o75, Option.getD_some] at this; omega
       have h84 : ∀ (x y : Option AO) (g : Hp), upd (fid 4294967296 j2) x (upd 0 y g) = upd 0 y (upd (fid 4294967296 j2) x g) := fun _ _ _ => upd_swap (by rw [fid_eq]; omega)
       have h85 : ∀ (x y : Option AO) (g : Hp), upd (fid 4294967296 j2) x (upd 8589934595 y g) = upd 8589934595 y (upd (fid 4294967296 j2) x g) := fun _ _ _ => upd_swap (by rw [fid_eq]; omega)
       have h86 : ∀ c : Nat, 8589934592 ≤ c → (fid 4294967296 j2 = c) = False := fun c h => fid_hi h79 h
       have h87 : ∀ c : Nat, 8589934592 ≤ c → (c = fid 4294967296 j2) = False := fun c h => fid_hi' h79 h
       have h88 : ∀ (c : Nat) (x y : Option AO) (g : Hp), 8589934592 ≤ c → upd (fid 4294967296 j2) x (upd c y g) = upd c y (upd (fid 4294967296 j2) x g) := fun _ _ _ _ h => upd_swap (by rw [fid_eq]; omega)
       obtain ⟨zs2, h89⟩ : ∃ zs, xs2 ++ [x2.b] = zs := ⟨_, rfl⟩
       have h90 : List.map eS xs2 ++ [[.v (.string x2.b)]] = List.map eS zs2 := app_map eS h89
       have h91 : xs2.length + 1 = zs2.length := app_len h89
       have h92 : zs2.length ≤ 4294967296 := by omega
       have h93 : madd x2.a [x2.b] out2 = List.set out2 j2 (x2.a, zs2) := by rw [← h89]; exact o77 _
       have h94 : ∀ hp : Hp, upd (fid 4294967296 j2) (some (.rw (List.map eS zs2) 1 (g3 j2 + 1) false false)) (famH eS 1 4294967296 g3 out2 hp) = famH eS 1 4294967296 (vsUp j2 (g3 j2 + 1) g3) (List.set out2 j2 (x2.a, zs2)) hp := fun _ => famH_set (q := (x2.a, zs2)) o74 h79
       have h95 : List.set (encF Value.string 4294967296 g3 out2) j2 ((.string x2.a), .so (fid 4294967296 j2) (g3 j2 + 1) 0 zs2.length) = encF Value.string 4294967296 (vsUp j2 (g3 j2 + 1) g3) (List.set out2 j2 (x2.a, zs2)) := encF_set (q := (x2.a, zs2)) (List.getElem?_eq_some_iff.1 o74).1
       have h96 : (List.set out2 j2 (x2.a, zs2)).length ≤ 4294967296 := by rw [List.length_set]; exact Nat.le_of_lt g69
       try simp -implicitDefEqProofs only [go_sem, Nat.reduceLT, Nat.reduceEqDiff, Nat.reduceAdd, Nat.reduceLeDiff, reduceCtorEq, ↓reduceIte, look_old o83, mput_old o83, h80, h84, h85, h86, fid_lo, h88, h90, h91, h92, h94, h95]
       refine Rd_endJ (fid 4294967296 j2) 340282366920938463463374607431768211458 (by have := h79; rw [fid_eq]; unfold sent; omega) (by decide) (by simp [h87]) (by simp only [List.reverse_cons, List.reverse_nil, List.nil_append, List.cons_append, List.map_cons, List.map_nil, swRec, sw, Nat.reduceLeDiff, Nat.reduceLT, ↓reduceIte, fid_lo', h87]; kernel_rfl) ?_
       try simp -implicitDefEqProofs only [go_sem]
       obtain rfl := Option.some.inj H68
       exact ⟨⟨⟨(), rfl⟩, (vsUp j2 (g3 j2 + 1) g3)⟩, ren_mkF (R := 340282366920938463463374607431768211457) none (fun _ _ h => by cases h) [4294967296] [(0, 0)] (by rfl) (ru_ (ru_ (ru_ (ru_ (rf_no _))))) (rh_upd (rh_one (by rfl) (renO_fam (by rfl) (by simp) (fun _ _ h => by cases h) h96 (by exact h93)) (by rfl)) (rh_fam (by rfl) (by simp) (fun _ _ h => by cases h) (by exact h93) (fun j p h hj => by repeat (first | with_reducible exact famH_at h hj | (with_reducible refine at_upd ?_ ?_; rw [fid_eq]; omega) | (with_reducible refine at_fam ?_ ?_; rw [fid_eq]; omega))) (rh_no _)))⟩
     ·rintro ⟨⟨_, he100⟩, g4⟩
      replace he100 := he100.symm
      subst he100
      try dsimp only at H66
      try simp -implicitDefEqProofs only [go_sem]
      refine runR_take tab_ok fol 1 ?_
      try simp -implicitDefEqProofs only [go_sem, Nat.reduceEqDiff, Nat.reduceAdd, ↓reduceIte]
      obtain ⟨g97, H98⟩ := grd_inv H66
      have h99 : (madd x2.a [x2.b] out2).length ≤ 4294967296 := of_decide_eq_true g97
      exact ⟨⟨((c, ((madd x2.a [x2.b] out2), (IntKind.i64.wrap (t9 + 1)))), g4), H98⟩, ren_mkF (R := 340282366920938463463374607431768211457) none (fun _ _ h => by cases h) [4294967296] [(0, 0)] (by rfl) (ru_ (ru_ (ru_ (ru_ (rf_no _))))) (rh_upd (rh_one (by rfl) (renO_fam (by rfl) (by simp) (fun _ _ h => by cases h) h99 rfl) (by rfl)) (rh_fam (by rfl) (by simp) (fun _ _ h => by cases h) rfl (fun j p h hj => by repeat (first | with_reducible exact famH_at h hj | (with_reducible refine at_upd ?_ ?_; rw [fid_eq]; omega) | (with_reducible refine at_fam ?_ ?_; rw [fid_eq]; omega))) (rh_no _))), Nat.lt_succ_self _⟩
    ·try simp -implicitDefEqProofs only [go_sem, ↓reduceIte, c54]
     obtain ⟨g101, H102⟩ := grd_inv H55
     have h103 : out2.length ≤ 4294967296 := of_decide_eq_true g101
     obtain rfl := Option.some.inj H102
     exact ⟨⟨⟨out2, rfl⟩, g3⟩, ren_mkF (R := 340282366920938463463374607431768211457) none (fun _ _ h => by cases h) [4294967296] [(0, 0)] (by rfl) (ru_ (rf_no _)) (rh_upd (rh_one (by rfl) (renO_fam (by rfl) (by simp) (fun _ _ h => by cases h) h103 rfl) (by rfl)) (rh_fam (by rfl) (by simp) (fun _ _ h => by cases h) rfl (fun j p h hj => by repeat (first | with_reducible exact famH_at h hj | (with_reducible refine at_upd ?_ ?_; rw [fid_eq]; omega) | (with_reducible refine at_fam ?_ ?_; rw [fid_eq]; omega))) (rh_no _)))⟩
 ·rintro ⟨⟨out4, he107⟩, g6⟩
  replace he107 := he107.symm
  subst he107
  try dsimp only at H2
  refine runR_take tab_ok fol 1 ?_
  try simp -implicitDefEqProofs only [go_sem, Nat.reduceAdd, ↓reduceIte]
  obtain ⟨g104, H105⟩ := grd_inv H2
  have h106 : out4.length ≤ 4294967296 := of_decide_eq_true g104
  obtain rfl := Option.some.inj H105
  exact endX_ret (b := false) (v := .mo 0) (by simp -implicitDefEqProofs only [go_sem, ↓reduceIte, Tryz.f27] <;> rfl) (ToXR.val (ToXV.one (ToX.fam (by rfl) h106 (fun j p h hj => by repeat (first | with_reducible exact famH_at h hj | (with_reducible refine at_upd ?_ ?_; rw [fid_eq]; omega) | (with_reducible refine at_fam ?_ ?_; rw [fid_eq]; omega)))) rfl)) (by intro h; rfl)
def norm_Down (n : Nat) (p : GRoles) (role : ByteArray) : Option (List ByteArray) :=
 (norm_below n p.inherit).bind fun t8 =>
 (norm_reach n role t8).bind fun t9 =>
 some t9
theorem norm_Down_ok {n : Nat} {p : GRoles} {role : ByteArray} {r : List ByteArray} (H : norm_Down n p role = some r) : PureOK Tryz.prog 8 [D.ag (eGRoles p), D.v (.string role)] (D.sl (List.map eS r)) true := by
 unfold norm_Down at H
 refine pure_runR (tab := tab) tab_ok Tryz.func8 rfl (by kernel_rfl) (by kernel_rfl) (by simp [Tryz.f8]) ?_
 refine runR_take tab_ok fol 1 ?_
 obtain ⟨t8, b1, H2⟩ := bind_inv H
 try simp -implicitDefEqProofs only [go_sem, Nat.reduceEqDiff, Nat.reduceAdd, reduceCtorEq, ↓reduceIte, eGRoles]
 refine onCall_pureA (by rfl) (norm_below_ok b1) (by exact .inr rfl) ?_
 obtain ⟨t9, b3, H4⟩ := bind_inv H2
 try simp -implicitDefEqProofs only [go_sem, Bool.false_and, Nat.reduceEqDiff, Nat.reduceAdd, ↓reduceIte]
 refine onCall_pure (by rfl) (norm_reach_ok b3) (by exact .inr rfl) ?_
 try simp -implicitDefEqProofs only [go_sem, Bool.false_and, Nat.reduceAdd, ↓reduceIte]
 obtain rfl := Option.some.inj H4
 exact end_pure (by simp -implicitDefEqProofs only [go_sem, ↓reduceIte, Tryz.f8] <;> rfl) (by rfl) rfl (by intro h; rfl)
def norm_Up_L1 (n : Nat) (p : GRoles) : Nat → (List (ByteArray × (List ByteArray)) × Int) → Option (List (ByteArray × (List ByteArray)))
 | 0, _ => none
 | c + 1, (above2, t12) =>
  (if (decide (t12 < (p.inherit.length : Int))) then
   (idx p.inherit t12).bind fun x2 =>
   grd (decide (above2.length ≤ 4294967296)) <|
   (
    grd (famG x2.b above2) <|
    some () : Option (Unit)).bind fun _ =>
   grd (decide ((madd x2.b [x2.a] above2).length ≤ 4294967296)) <|
   norm_Up_L1 n p c ((madd x2.b [x2.a] above2), (IntKind.i64.wrap (t12 + 1)))
  else
   grd (decide (above2.length ≤ 4294967296)) <|
   some above2)
def norm_Up_L1_f (_ : Nat) (_ : GRoles) (st : List (ByteArray × (List ByteArray))) (x2 : GPair) (k : (List (ByteArray × (List ByteArray))) → Option (List (ByteArray × (List ByteArray)))) : Option (List (ByteArray × (List ByteArray))) :=
 match st with
 | above2 =>
  grd (decide (above2.length ≤ 4294967296)) <|
  (
   grd (famG x2.b above2) <|
   some () : Option (Unit)).bind fun _ =>
  grd (decide ((madd x2.b [x2.a] above2).length ≤ 4294967296)) <|
  k (madd x2.b [x2.a] above2)
def norm_Up_L1_e (_ : Nat) (_ : GRoles) (st : List (ByteArray × (List ByteArray))) : Option (List (ByteArray × (List ByteArray))) :=
 match st with
 | above2 => grd (decide (above2.length ≤ 4294967296)) <|
 some above2
theorem norm_Up_L1_list (n : Nat) (p : GRoles) (hx : p.inherit.length < 4611686018427387904) (c : Nat) (st : List (ByteArray × (List ByteArray))) (ix : Nat) (hi : ix ≤ p.inherit.length) (hc : p.inherit.length - ix < c) : norm_Up_L1 n p c (match st, (ix : Int) with | above2, ix => (above2, ix)) = foldK (norm_Up_L1_f n p) (norm_Up_L1_e n p) (p.inherit.drop ix) st :=
 loop_list (fun c st ix => norm_Up_L1 n p c (match st, ix with | above2, ix => (above2, ix))) p.inherit (norm_Up_L1_f n p) (norm_Up_L1_e n p) (fun _ _ _ => rfl) hx c st ix hi hc

def norm_Up (n : Nat) (p : GRoles) (role : ByteArray) : Option (List ByteArray) :=
 (
  norm_Up_L1 n p n (([] : List (ByteArray × (List ByteArray))), 0) : Option (List (ByteArray × (List ByteArray)))).bind fun above4 =>
 (norm_reach n role above4).bind fun t30 =>
 grd (decide (above4.length ≤ 4294967296)) <|
 some t30
theorem norm_Up_ok {n : Nat} {p : GRoles} {role : ByteArray} {r : List ByteArray} (H : norm_Up n p role = some r) : PureOK Tryz.prog 9 [D.ag (eGRoles p), D.v (.string role)] (D.sl (List.map eS r)) true := by
 unfold norm_Up at H
 refine pure_runR (tab := tab) tab_ok Tryz.func9 rfl (by kernel_rfl) (by kernel_rfl) (by simp [Tryz.f9]) ?_
 refine runR_seq ?_
 refine runR_take tab_ok fol 1 ?_
 try simp -implicitDefEqProofs only [go_sem, Nat.reduceAdd, eGRoles]
 refine runR_seq ?_
 refine runR_take tab_ok fol 1 ?_
 try simp -implicitDefEqProofs only [go_sem, Nat.reduceAdd, ↓reduceIte]
 refine runR_seq ?_
 refine runR_seq ?_
 refine runR_take tab_ok fol 1 ?_
 try simp -implicitDefEqProofs only [go_sem, Nat.reduceEqDiff, Nat.reduceAdd, reduceCtorEq, ↓reduceIte]
 obtain ⟨e_, E1, H2⟩ := bind_inv H
 refine runR_join (α := { y : List (ByteArray × (List ByteArray)) // e_ = y } × (Nat → Nat)) (fun | ⟨⟨above4, _⟩, g6⟩ => ⟨upd 1 (.v (.string role)) (upd 5 (.mo 0) noFr), upd 0 (some (.mo (encF Value.string 4294967296 g6 above4) false)) (famH eS 1 4294967296 g6 above4 (noHp)), 8589934592⟩) ?_ ?_
 ·refine runR_block ?_
  refine runR_loop (α := { q : (Nat × (List (ByteArray × (List ByteArray)) × Int)) × (Nat → Nat) // norm_Up_L1 n p q.1.1 q.1.2 = some e_ }) (fun | ⟨⟨⟨c, ⟨above2, t12⟩⟩, g3⟩, _⟩ => ⟨upd 1 (.v (.string role)) (upd 5 (.mo 0) (upd 10 (.d (.sl (List.map eGPair p.inherit)) true) (upd 11 (.v (.int .i64 (p.inherit.length : Int))) (upd 12 (.v (.int .i64 t12)) noFr)))), upd 0 (some (.mo (encF Value.string 4294967296 g3 above2) false)) (famH eS 1 4294967296 g3 above2 (noHp)), 8589934592⟩) (fun q => q.1.1.1) ⟨((n, (([] : List (ByteArray × (List ByteArray))), 0)), (fun _ => 0)), E1⟩ ?_ ?_
  ·exact ren_mkF (R := 340282366920938463463374607431768211457) none (fun _ _ h => by cases h) [4294967296] [(0, 2)] (by rfl) (ru_ (ru_ (ru_ (ru_ (ru_ (rf_no _)))))) (rh_upd (rh_one (by rfl) (renO_fam (by rfl) (by simp) (fun _ _ h => by cases h) (by decide) rfl) (by rfl)) (rh_fam (by rfl) (by simp) (fun _ _ h => by cases h) rfl (fun j p h hj => by cases h) (rh_no _)))
  ·rintro ⟨⟨⟨c, ⟨above2, t12⟩⟩, g3⟩, L3⟩
   rcases c with _ | c
   ·exact nomatch (show none = some _ from L3)
   ·unfold norm_Up_L1 at L3
    try dsimp only at L3
    refine runR_seq ?_
    refine runR_take tab_ok fol 1 ?_
    try simp -implicitDefEqProofs only [go_sem, Nat.reduceEqDiff, Nat.reduceAdd, ↓reduceIte]
    refine runR_seq ?_
    refine runR_take tab_ok fol 1 ?_
    try simp -implicitDefEqProofs only [go_sem, ↓reduceIte]
    rcases ite_inv L3 with ⟨c54, H55⟩ | ⟨c54, H55⟩
    ·try simp -implicitDefEqProofs only [go_sem, c54]
     refine runR_seq ?_
     refine runR_block ?_
     refine runR_seq ?_
     refine runR_take tab_ok fol 1 ?_
     obtain ⟨x2, b56, H57⟩ := bind_inv H55
     obtain ⟨h58, h59⟩ := idx_inv b56
     try simp only [Int.reduceToNat, Int.toNat_natCast] at h59
     have h60 := map_at eGPair h59
     try simp -implicitDefEqProofs only [go_sem, Nat.reduceEqDiff, Nat.reduceAdd, ↓reduceIte, eGPair, nat_of .i64 h58, h60]
     obtain ⟨g62, H63⟩ := grd_inv H57
     have h64 : above2.length ≤ 4294967296 := of_decide_eq_true g62
     obtain ⟨e_3, E65, H66⟩ := bind_inv H63
     refine runR_join (α := { y : Unit // e_3 = y } × (Nat → Nat)) (fun | ⟨⟨_, _⟩, g4⟩ => ⟨upd 1 (.v (.string role)) (upd 5 (.mo 0) (upd 10 (.d (.sl (List.map eGPair p.inherit)) true) (upd 11 (.v (.int .i64 (p.inherit.length : Int))) (upd 12 (.v (.int .i64 t12)) noFr)))), upd 0 (some (.mo (encF Value.string 4294967296 g4 (madd x2.b [x2.a] above2)) false)) (famH eS 1 4294967296 g4 (madd x2.b [x2.a] above2) (noHp)), 8589934592⟩) ?_ ?_
     ·refine runR_take tab_ok fol 1 ?_
      obtain ⟨g67, H68⟩ := grd_inv E65
      obtain ⟨g69, g70⟩ := famG_inv g67
      try simp -implicitDefEqProofs only [go_sem, Nat.reduceEqDiff, Nat.reduceAdd, reduceCtorEq, ↓reduceIte]
      rcases find_cases (kv := Value.string) (B := 4294967296) (vs := g3) key_str x2.b above2 with ⟨n71, n72, n73⟩ | ⟨j2, xs2, o74, o75, o76, o77⟩
      ·have n78 : mfind (false, [.string]) (.string x2.b) (encF Value.string 4294967296 g3 above2) = some none := n72
       try simp -implicitDefEqProofs only [go_sem, Nat.reduceLT, Nat.reduceEqDiff, Nat.reduceAdd, Nat.reduceLeDiff, reduceCtorEq, ↓reduceIte, look_new n78, mput_new n78]
       refine Rd_endF (by kernel_rfl) ?_
       try simp -implicitDefEqProofs only [go_sem]
       obtain rfl := Option.some.inj H68
       exact ⟨⟨⟨(), rfl⟩, (vsUp (List.length above2) 0 g3)⟩, ren_mkF (R := 8589934607) (some (fid 4294967296 (List.length above2), 8589934607)) (fun _ _ h => by cases h; rfl) [4294967296] [(0, 0)] (by rfl) (ru_ (ru_ (ru_ (ru_ (ru_ (rf_no _)))))) (rh_upd (rh_one (by rfl) (renO_famN (by rfl) (by simp) g69 (by exact (n73 _))) (by rfl)) (rh_famN (by rfl) (by simp) g69 (by exact (n73 _)) (fun j p h hj => by repeat (first | with_reducible exact famH_at h hj | (with_reducible refine at_upd ?_ ?_; rw [fid_eq]; omega) | (with_reducible refine at_fam ?_ ?_; rw [fid_eq]; omega))) (by rfl) (rh_no _)))⟩
      ·have o83 : mfind (false, [.string]) (.string x2.b) (encF Value.string 4294967296 g3 above2) = some (some (j2, .so (fid 4294967296 j2) (g3 j2) 0 xs2.length)) := o76
       have h79 : j2 < 4294967296 := Nat.lt_trans (List.getElem?_eq_some_iff.1 o74).1 g69
       have h80 : ∀ hp : Hp, famH eS 1 4294967296 g3 above2 hp (fid 4294967296 j2) = some (.rw (List.map eS xs2) 1 (g3 j2) false false) := fun _ => famH_at o74 h79
       have h81 : (encF Value.string 4294967296 g3 above2)[j2]? = some ((.string x2.b), .so (fid 4294967296 j2) (g3 j2) 0 xs2.length) := (encF_at _ _).trans (by rw [o74]; rfl)
       have h82 : xs2.length + 1 ≤ 4294967296 := by have := g70; simp only [mgetD, o75, Option.getD_some] at this; omega
       have h84 : ∀ (x y : Option AO) (g : Hp), upd (fid 4294967296 j2) x (upd 0 y g) = upd 0 y (upd (fid 4294967296 j2) x g) := fun _ _ _ => upd_swap (by rw [fid_eq]; omega)
       have h85 : ∀ (x y : Option AO) (g : Hp), upd (fid 4294967296 j2) x (upd 8589934595 y g) = upd 8589934595 y (upd (fid 4294967296 j2) x g) := fun _ _ _ => upd_swap (by rw [fid_eq]; omega)
       have h86 : ∀ c : Nat, 8589934592 ≤ c → (fid 4294967296 j2 = c) = False := fun c h => fid_hi h79 h
       have h87 : ∀ c : Nat, 8589934592 ≤ c → (c = fid 4294967296 j2) = False := fun c h => fid_hi' h79 h
       have h88 : ∀ (c : Nat) (x y : Option AO) (g : Hp), 8589934592 ≤ c → upd (fid 4294967296 j2) x (upd c y g) = upd c y (upd (fid 4294967296 j2) x g) := fun _ _ _ _ h => upd_swap (by rw [fid_eq]; omega)
       obtain ⟨zs2, h89⟩ : ∃ zs, xs2 ++ [x2.a] = zs := ⟨_, rfl⟩
       have h90 : List.map eS xs2 ++ [[.v (.string x2.a)]] = List.map eS zs2 := app_map eS h89
       have h91 : xs2.length + 1 = zs2.length := app_len h89
       have h92 : zs2.length ≤ 4294967296 := by omega
       have h93 : madd x2.b [x2.a] above2 = List.set above2 j2 (x2.b, zs2) := by rw [← h89]; exact o77 _
       have h94 : ∀ hp : Hp, upd (fid 4294967296 j2) (some (.rw (List.map eS zs2) 1 (g3 j2 + 1) false false)) (famH eS 1 4294967296 g3 above2 hp) = famH eS 1 4294967296 (vsUp j2 (g3 j2 + 1) g3) (List.set above2 j2 (x2.b, zs2)) hp := fun _ => famH_set (q := (x2.b, zs2)) o74 h79
       have h95 : List.set (encF Value.string 4294967296 g3 above2) j2 ((.string x2.b), .so (fid 4294967296 j2) (g3 j2 + 1) 0 zs2.length) = encF Value.string 4294967296 (vsUp j2 (g3 j2 + 1) g3) (List.set above2 j2 (x2.b, zs2)) := encF_set (q := (x2.b, zs2)) (List.getElem?_eq_some_iff.1 o74).1
       have h96 : (List.set above2 j2 (x2.b, zs2)).length ≤ 4294967296 := by rw [List.length_set]; exact Nat.le_of_lt g69
       try simp -implicitDefEqProofs only [go_sem, Nat.reduceLT, Nat.reduceEqDiff, Nat.reduceAdd, Nat.reduceLeDiff, reduceCtorEq, ↓reduceIte, look_old o83, mput_old o83, h80, h84, h85, h86, fid_lo, h88, h90, h91, h92, h94, h95]
       refine Rd_endJ (fid 4294967296 j2) 340282366920938463463374607431768211458 (by have := h79; rw [fid_eq]; unfold sent; omega) (by decide) (by simp [h87]) (by simp only [List.reverse_cons, List.reverse_nil, List.nil_append, List.cons_append, List.map_cons, List.map_nil, swRec, sw, Nat.reduceLeDiff, Nat.reduceLT, ↓reduceIte, fid_lo', h87]; kernel_rfl) ?_
       try simp -implicitDefEqProofs only [go_sem]
       obtain rfl := Option.some.inj H68
       exact ⟨⟨⟨(), rfl⟩, (vsUp j2 (g3 j2 + 1) g3)⟩, ren_mkF (R := 340282366920938463463374607431768211457) none (fun _ _ h => by cases h) [4294967296] [(0, 0)] (by rfl) (ru_ (ru_ (ru_ (ru_ (ru_ (rf_no _)))))) (rh_upd (rh_one (by rfl) (renO_fam (by rfl) (by simp) (fun _ _ h => by cases h) h96 (by exact h93)) (by rfl)) (rh_fam (by rfl) (by simp) (fun _ _ h => by cases h) (by exact h93) (fun j p h hj => by repeat (first | with_reducible exact famH_at h hj | (with_reducible refine at_upd ?_ ?_; rw [fid_eq]; omega) | (with_reducible refine at_fam ?_ ?_; rw [fid_eq]; omega))) (rh_no _)))⟩
     ·rintro ⟨⟨_, he100⟩, g4⟩
      replace he100 := he100.symm
      subst he100
      try dsimp only at H66
      try simp -implicitDefEqProofs only [go_sem]
      refine runR_take tab_ok fol 1 ?_
      try simp -implicitDefEqProofs only [go_sem, Nat.reduceEqDiff, Nat.reduceAdd, ↓reduceIte]
      obtain ⟨g97, H98⟩ := grd_inv H66
      have h99 : (madd x2.b [x2.a] above2).length ≤ 4294967296 := of_decide_eq_true g97
      exact ⟨⟨((c, ((madd x2.b [x2.a] above2), (IntKind.i64.wrap (t12 + 1)))), g4), H98⟩, ren_mkF (R := 340282366920938463463374607431768211457) none (fun _ _ h => by cases h) [4294967296] [(0, 0)] (by rfl) (ru_ (ru_ (ru_ (ru_ (ru_ (rf_no _)))))) (rh_upd (rh_one (by rfl) (renO_fam (by rfl) (by simp) (fun _ _ h => by cases h) h99 rfl) (by rfl)) (rh_fam (by rfl) (by simp) (fun _ _ h => by cases h) rfl (fun j p h hj => by repeat (first | with_reducible exact famH_at h hj | (with_reducible refine at_upd ?_ ?_; rw [fid_eq]; omega) | (with_reducible refine at_fam ?_ ?_; rw [fid_eq]; omega))) (rh_no _))), Nat.lt_succ_self _⟩
    ·try simp -implicitDefEqProofs only [go_sem, ↓reduceIte, c54]
     obtain ⟨g101, H102⟩ := grd_inv H55
     have h103 : above2.length ≤ 4294967296 := of_decide_eq_true g101
     obtain rfl := Option.some.inj H102
     exact ⟨⟨⟨above2, rfl⟩, g3⟩, ren_mkF (R := 340282366920938463463374607431768211457) none (fun _ _ h => by cases h) [4294967296] [(0, 0)] (by rfl) (ru_ (ru_ (rf_no _))) (rh_upd (rh_one (by rfl) (renO_fam (by rfl) (by simp) (fun _ _ h => by cases h) h103 rfl) (by rfl)) (rh_fam (by rfl) (by simp) (fun _ _ h => by cases h) rfl (fun j p h hj => by repeat (first | with_reducible exact famH_at h hj | (with_reducible refine at_upd ?_ ?_; rw [fid_eq]; omega) | (with_reducible refine at_fam ?_ ?_; rw [fid_eq]; omega))) (rh_no _)))⟩
 ·rintro ⟨⟨above4, he109⟩, g6⟩
  replace he109 := he109.symm
  subst he109
  try dsimp only at H2
  refine runR_take tab_ok fol 1 ?_
  obtain ⟨t30, b104, H105⟩ := bind_inv H2
  try simp -implicitDefEqProofs only [go_sem, Nat.reduceEqDiff, Nat.reduceAdd, ↓reduceIte]
  obtain ⟨g106, H107⟩ := grd_inv H105
  have h108 : above4.length ≤ 4294967296 := of_decide_eq_true g106
  refine onCall_pureX (b := true) (by exact (PW.cons (ToXA.d (ToXV.one (ToX.one (b' := false) (is := []) rfl (fun _ => rfl)) rfl)) (PW.cons (ToXA.d (ToXV.one (ToX.fam (by rfl) h108 (fun j p h hj => by repeat (first | with_reducible exact famH_at h hj | (with_reducible refine at_upd ?_ ?_; rw [fid_eq]; omega) | (with_reducible refine at_fam ?_ ?_; rw [fid_eq]; omega)))) rfl)) PW.nil))) (PureA.of_pure (norm_reach_ok b104)) ?_
  try simp -implicitDefEqProofs only [go_sem, Nat.reduceAdd, ↓reduceIte]
  obtain rfl := Option.some.inj H107
  exact end_pure (by simp -implicitDefEqProofs only [go_sem, ↓reduceIte, Tryz.f9] <;> rfl) (by rfl) rfl (by intro h; rfl)
theorem cl28_0 (xs : List ByteArray) (h : decide (xs.length = 0) = true) : PureOK Tryz.prog 28 [.sl (List.map eS xs)] (.sl []) true := by
 rw [List.eq_nil_of_length_eq_zero (of_decide_eq_true h)]
 exact clone_nil tab_ok fol Tryz.func28 (T := 23) (B := 4) rfl (by kernel_rfl) (by kernel_rfl) (by decide) rfl (by simp only [go_sem]) (by simp only [go_sem]) (by simp only [go_sem]; decide) (by simp only [go_sem]; decide)
theorem cl28_in (xs : List ByteArray) (h0 : 0 < xs.length) (hn : xs.length ≤ 4294967296) {b : Bool} {hp : Hp} {nx : Nat} : InlOK Tryz.prog 28 [.d (.sl (List.map eS xs)) b] hp nx fun v hp2 nx2 => v = .so (nx + 3) 1 0 xs.length ∧ hp2 = upd (nx + 3) (some (.rw (List.map eS xs) 1 1 false false)) hp ∧ nx2 = nx + 7 := by
 have h := clone_map (e := eS) (k := 1) (b := b) (hp := hp) (nx := nx) tab_ok fol Tryz.func28 (T := 23) (B := 4) rfl (by kernel_rfl) (by kernel_rfl) (by decide) rfl (by simp only [go_sem]) (by simp only [go_sem]) (by simp only [go_sem]) (by decide) (by simp only [go_sem]; decide) (fun _ => rfl) xs h0 hn
 rw [plainR_map (f := eS) (fun _ => rfl), Bool.not_true, Bool.and_false] at h
 exact h
end Go.Proofs.YtkkhgdmmbhpckaaGreat.Ab
