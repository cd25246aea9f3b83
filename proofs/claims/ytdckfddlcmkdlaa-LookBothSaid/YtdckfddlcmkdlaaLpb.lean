/-
  Functions, read off the code.
-/
import Derived.Test.YtdckfddlcmkdlaaLpa
namespace Go.Proofs.Ytdckfddlcmkdlaa.Ab
open Go.RowKit
def ref1_Types_L1 (n : Nat) (l : List GTuple) (t : ByteArray) : Nat → (List ByteArray × Int) → Option (List ByteArray)
  | 0, _ => none
  | c + 1, (out, i) =>
    (if (decide (i < (l.length : Int))) then
      (idx l i).bind fun x2 =>
      (if (x2.obj.type_.toList == t.toList) then
        (app out [x2.obj.id_]).bind fun l2 =>
        ref1_Types_L1 n l t c (l2, (IntKind.i64.wrap (i + 1)))
      else
        ref1_Types_L1 n l t c (out, (IntKind.i64.wrap (i + 1))))
    else
      some out)
def ref1_Types_L1_f (_ : Nat) (_ : List GTuple) (t : ByteArray) (st : List ByteArray) (x2 : GTuple) (k : List ByteArray → Option (List ByteArray)) : Option (List ByteArray) :=
  match st with
  | out =>
    (if (x2.obj.type_.toList == t.toList) then
      (app out [x2.obj.id_]).bind fun l2 =>
      k l2
    else
      k out)
def ref1_Types_L1_e (_ : Nat) (_ : List GTuple) (_ : ByteArray) (st : List ByteArray) : Option (List ByteArray) :=
  match st with
  | out => some out
theorem ref1_Types_L1_list (n : Nat) (l : List GTuple) (t : ByteArray) (hx : l.length < 4611686018427387904) (c : Nat) (st : List ByteArray) (ix : Nat) (hi : ix ≤ l.length) (hc : l.length - ix < c) : ref1_Types_L1 n l t c (match st, (ix : Int) with | out, ix => (out, ix)) = foldK (ref1_Types_L1_f n l t) (ref1_Types_L1_e n l t) (l.drop ix) st :=
  loop_list (fun c st ix => ref1_Types_L1 n l t c (match st, ix with | out, ix => (out, ix))) l (ref1_Types_L1_f n l t) (ref1_Types_L1_e n l t) (fun _ _ _ => rfl) hx c st ix hi hc

def ref1_Types (n : Nat) (l : List GTuple) (t : ByteArray) : Option (List ByteArray) :=
  (
    ref1_Types_L1 n l t n ([], 0) : Option (List ByteArray)).bind fun out3 =>
  (ref1_Texts n out3).bind fun t31 =>
  some t31
theorem ref1_Types_ok {n : Nat} {l : List GTuple} {t : ByteArray} {r : List ByteArray} (H : ref1_Types n l t = some r) : PureOK Try.prog 52 [D.sl (List.map eGTuple l), D.v (.string t)] (D.sl (List.map eS r)) true := by
  unfold ref1_Types at H
  refine pure_runR (tab := tab) tab_ok Try.func52 rfl (by kernel_rfl) (by kernel_rfl) (by simp [Try.f52]) ?_
  refine runR_seq ?_
  refine runR_take tab_ok fol 1 ?_
  try simp -implicitDefEqProofs only [go_sem]
  refine runR_seq ?_
  refine runR_take tab_ok fol 1 ?_
  try simp -implicitDefEqProofs only [go_sem, Nat.reduceAdd]
  refine runR_seq ?_
  refine runR_seq ?_
  refine runR_take tab_ok fol 1 ?_
  try simp -implicitDefEqProofs only [go_sem, Nat.reduceAdd]
  obtain ⟨e_, E1, H2⟩ := bind_inv H
  refine runR_join (α := { y : List ByteArray // e_ = y } × Nat) (fun | ⟨⟨out3, _⟩, g3⟩ => ⟨upd 5 (accV 0 g3 (List.map eS out3)) noFr, upd 0 (accO 1 g3 false (List.map eS out3)) noHp, 1⟩) ?_ ?_
  · refine runR_block ?_
    refine runR_loop (α := { q : (Nat × (List ByteArray × Int)) × Nat // ref1_Types_L1 n l t q.1.1 q.1.2 = some e_ }) (fun | ⟨⟨⟨c, ⟨out, i⟩⟩, g⟩, _⟩ => ⟨upd 0 (.d (.sl (List.map eGTuple l)) true) (upd 1 (.v (.string t)) (upd 5 (accV 0 g (List.map eS out)) (upd 6 (.v (.int .i64 i)) noFr))), upd 0 (accO 1 g false (List.map eS out)) noHp, 1⟩) (fun q => q.1.1.1) ⟨((n, ([], 0)), 0), E1⟩ ?_ ?_
    · exact ren_mk [] (by rfl) (rf_upd (by rfl) (rf_upd (by rfl) (rf_upd (by rfl) (rf_upd (by rfl) (rf_no _))))) (rh_upd rh_accN (rh_no _))
    · rintro ⟨⟨⟨c, ⟨out, i⟩⟩, g⟩, L3⟩
      rcases c with _ | c
      · exact nomatch (show none = some _ from L3)
      · unfold ref1_Types_L1 at L3
        try dsimp only at L3
        refine runR_take tab_ok fol 1 ?_
        try simp -implicitDefEqProofs only [go_sem, Nat.reduceEqDiff, Nat.reduceAdd, reduceCtorEq, ↓reduceIte]
        rcases ite_inv L3 with ⟨c14, H15⟩ | ⟨c14, H15⟩
        · obtain ⟨x2, b16, H17⟩ := bind_inv H15
          obtain ⟨h18, h19⟩ := idx_inv b16
          try simp only [Int.reduceToNat, Int.toNat_natCast] at h19
          have h20 := map_at eGTuple h19
          try simp -implicitDefEqProofs only [go_sem, Nat.reduceEqDiff, Nat.reduceAdd, reduceCtorEq, ↓reduceIte, eGTuple, c14, nat_of .i64 h18, h20]
          rcases ite_inv H17 with ⟨c22, H23⟩ | ⟨c22, H23⟩
          · obtain ⟨l2, b24, H25⟩ := bind_inv H23
            obtain ⟨h26, h27⟩ := app_inv b24
            have h26 : out.length + 1 ≤ 4294967296 := h26
            have h28 : List.map eS out ++ [[.v (.string x2.obj.id_)]] = List.map eS l2 := app_map eS h27
            have h29 : out.length + 1 = l2.length := app_len h27
            have h30 : l2.length ≤ 4294967296 := by omega
            have q31 : 0 < l2.length := by omega
            try simp -implicitDefEqProofs only [go_sem, Nat.reduceLT, Nat.reduceEqDiff, Nat.reduceAdd, Nat.reduceLeDiff, reduceCtorEq, ↓reduceIte, eGTuple, nat_of .i64 h18, h20, c22, h28, h29, h30]
            rcases out with _ | ⟨q0, q1⟩
            · try simp only [List.map_nil, accI, accN]
              exact ⟨⟨((c, (l2, (IntKind.i64.wrap (i + 1)))), 0), H25⟩, ren_mk [(0, 21)] (by rfl) (rf_upd (by rfl) (rf_upd (by rfl) (rf_upd (by first | exact ren_accP (by rfl) q31 | rfl) (rf_upd (by rfl) (rf_no _))))) (rh_upd (by first | exact rh_accP (by rfl) q31 (by rfl) | exact rh_one (by rfl) (by rfl) (by rfl)) (rh_no _)), Nat.lt_succ_self _⟩
            · try simp only [List.map_cons, accI, accN]
              exact ⟨⟨((c, (l2, (IntKind.i64.wrap (i + 1)))), (g + 1)), H25⟩, ren_mk [(0, 0)] (by rfl) (rf_upd (by rfl) (rf_upd (by rfl) (rf_upd (by first | exact ren_accP (by rfl) q31 | rfl) (rf_upd (by rfl) (rf_no _))))) (rh_upd (by first | exact rh_accP (by rfl) q31 (by rfl) | exact rh_one (by rfl) (by rfl) (by rfl)) (rh_no _)), Nat.lt_succ_self _⟩
          · try simp -implicitDefEqProofs only [go_sem, Nat.reduceEqDiff, Nat.reduceAdd, reduceCtorEq, ↓reduceIte, c22]
            exact ⟨⟨((c, (out, (IntKind.i64.wrap (i + 1)))), g), H23⟩, ren_mk [(0, 0)] (by rfl) (rf_upd (by rfl) (rf_upd (by rfl) (rf_upd (ren_acc (by rfl)) (rf_upd (by rfl) (rf_no _))))) (rh_upd (rh_acc (by rfl) (by rfl)) (rh_no _)), Nat.lt_succ_self _⟩
        · try simp -implicitDefEqProofs only [go_sem, ↓reduceIte, c14]
          obtain rfl := Option.some.inj H15
          exact ⟨⟨⟨out, rfl⟩, g⟩, ren_mk [(0, 0)] (by rfl) (rf_upd (ren_acc (by rfl)) (rf_no _)) (rh_upd (rh_acc (by rfl) (by rfl)) (rh_no _))⟩
  · rintro ⟨⟨out3, he34⟩, g3⟩
    replace he34 := he34.symm
    subst he34
    try dsimp only at H2
    refine runR_take tab_ok fol 1 ?_
    obtain ⟨t31, b32, H33⟩ := bind_inv H2
    try simp -implicitDefEqProofs only [go_sem, Nat.reduceAdd, ↓reduceIte]
    refine onCall_pure (by first | rfl | (simp -implicitDefEqProofs only [go_sem, ↓reduceIte]; done) | (simp -implicitDefEqProofs only [go_sem, ↓reduceIte]; rfl)) (ref1_Texts_ok b32) (by first | exact .inr rfl | exact .inl rfl) ?_
    try simp -implicitDefEqProofs only [go_sem, Nat.reduceAdd, ↓reduceIte]
    obtain rfl := Option.some.inj H33
    exact end_pure (by first | (simp -implicitDefEqProofs only [go_sem, ↓reduceIte, Try.f52] <;> rfl) | rfl) (by first | rfl | (simp -implicitDefEqProofs only [go_sem, Int.reduceToNat, Int.reduceLT, Int.reduceLE, Int.reduceBEq, Int.reduceBNe, Nat.reduceLT, Nat.reduceBEq, Int.reduceEq, Nat.reduceEqDiff, Nat.reduceAdd, Nat.reduceSub, Nat.reduceMul, Nat.reduceLeDiff, reduceCtorEq, ↓reduceIte, eGTuple, eLookIndex, eLookLeft, eGRef, eGSub, eLookRight, eGObj]; done) | (simp -implicitDefEqProofs only [go_sem, Int.reduceToNat, Int.reduceLT, Int.reduceLE, Int.reduceBEq, Int.reduceBNe, Nat.reduceLT, Nat.reduceBEq, Int.reduceEq, Nat.reduceEqDiff, Nat.reduceAdd, Nat.reduceSub, Nat.reduceMul, Nat.reduceLeDiff, reduceCtorEq, ↓reduceIte, eGTuple, eLookIndex, eLookLeft, eGRef, eGSub, eLookRight, eGObj]; rfl)) rfl (by intro h; first | rfl | cases h)
def ref1_Users_L1 (n : Nat) (l : List GTuple) (t : ByteArray) : Nat → (List ByteArray × Int) → Option (List ByteArray)
  | 0, _ => none
  | c + 1, (out, i) =>
    (if (decide (i < (l.length : Int))) then
      (idx l i).bind fun x2 =>
      (if (x2.sub_.type_.toList == t.toList) then
        (if (x2.sub_.rel.toList == ({ data := #[] } : ByteArray).toList) then
          (app out [x2.sub_.id_]).bind fun l2 =>
          ref1_Users_L1 n l t c (l2, (IntKind.i64.wrap (i + 1)))
        else
          ref1_Users_L1 n l t c (out, (IntKind.i64.wrap (i + 1))))
      else
        ref1_Users_L1 n l t c (out, (IntKind.i64.wrap (i + 1))))
    else
      some out)
def ref1_Users_L1_f (_ : Nat) (_ : List GTuple) (t : ByteArray) (st : List ByteArray) (x2 : GTuple) (k : List ByteArray → Option (List ByteArray)) : Option (List ByteArray) :=
  match st with
  | out =>
    (if (x2.sub_.type_.toList == t.toList) then
      (if (x2.sub_.rel.toList == ({ data := #[] } : ByteArray).toList) then
        (app out [x2.sub_.id_]).bind fun l2 =>
        k l2
      else
        k out)
    else
      k out)
def ref1_Users_L1_e (_ : Nat) (_ : List GTuple) (_ : ByteArray) (st : List ByteArray) : Option (List ByteArray) :=
  match st with
  | out => some out
theorem ref1_Users_L1_list (n : Nat) (l : List GTuple) (t : ByteArray) (hx : l.length < 4611686018427387904) (c : Nat) (st : List ByteArray) (ix : Nat) (hi : ix ≤ l.length) (hc : l.length - ix < c) : ref1_Users_L1 n l t c (match st, (ix : Int) with | out, ix => (out, ix)) = foldK (ref1_Users_L1_f n l t) (ref1_Users_L1_e n l t) (l.drop ix) st :=
  loop_list (fun c st ix => ref1_Users_L1 n l t c (match st, ix with | out, ix => (out, ix))) l (ref1_Users_L1_f n l t) (ref1_Users_L1_e n l t) (fun _ _ _ => rfl) hx c st ix hi hc

def ref1_Users (n : Nat) (l : List GTuple) (t : ByteArray) : Option (List ByteArray) :=
  (
    ref1_Users_L1 n l t n ([], 0) : Option (List ByteArray)).bind fun out3 =>
  (ref1_Texts n out3).bind fun t40 =>
  some t40
theorem ref1_Users_ok {n : Nat} {l : List GTuple} {t : ByteArray} {r : List ByteArray} (H : ref1_Users n l t = some r) : PureOK Try.prog 53 [D.sl (List.map eGTuple l), D.v (.string t)] (D.sl (List.map eS r)) true := by
  unfold ref1_Users at H
  refine pure_runR (tab := tab) tab_ok Try.func53 rfl (by kernel_rfl) (by kernel_rfl) (by simp [Try.f53]) ?_
  refine runR_seq ?_
  refine runR_take tab_ok fol 1 ?_
  try simp -implicitDefEqProofs only [go_sem]
  refine runR_seq ?_
  refine runR_take tab_ok fol 1 ?_
  try simp -implicitDefEqProofs only [go_sem, Nat.reduceAdd]
  refine runR_seq ?_
  refine runR_seq ?_
  refine runR_take tab_ok fol 1 ?_
  try simp -implicitDefEqProofs only [go_sem, Nat.reduceAdd]
  obtain ⟨e_, E1, H2⟩ := bind_inv H
  refine runR_join (α := { y : List ByteArray // e_ = y } × Nat) (fun | ⟨⟨out3, _⟩, g3⟩ => ⟨upd 5 (accV 0 g3 (List.map eS out3)) noFr, upd 0 (accO 1 g3 false (List.map eS out3)) noHp, 1⟩) ?_ ?_
  · refine runR_block ?_
    refine runR_loop (α := { q : (Nat × (List ByteArray × Int)) × Nat // ref1_Users_L1 n l t q.1.1 q.1.2 = some e_ }) (fun | ⟨⟨⟨c, ⟨out, i⟩⟩, g⟩, _⟩ => ⟨upd 0 (.d (.sl (List.map eGTuple l)) true) (upd 1 (.v (.string t)) (upd 5 (accV 0 g (List.map eS out)) (upd 6 (.v (.int .i64 i)) noFr))), upd 0 (accO 1 g false (List.map eS out)) noHp, 1⟩) (fun q => q.1.1.1) ⟨((n, ([], 0)), 0), E1⟩ ?_ ?_
    · exact ren_mk [] (by rfl) (rf_upd (by rfl) (rf_upd (by rfl) (rf_upd (by rfl) (rf_upd (by rfl) (rf_no _))))) (rh_upd rh_accN (rh_no _))
    · rintro ⟨⟨⟨c, ⟨out, i⟩⟩, g⟩, L3⟩
      rcases c with _ | c
      · exact nomatch (show none = some _ from L3)
      · unfold ref1_Users_L1 at L3
        try dsimp only at L3
        refine runR_take tab_ok fol 1 ?_
        try simp -implicitDefEqProofs only [go_sem, Nat.reduceEqDiff, Nat.reduceAdd, reduceCtorEq, ↓reduceIte]
        rcases ite_inv L3 with ⟨c16, H17⟩ | ⟨c16, H17⟩
        · obtain ⟨x2, b18, H19⟩ := bind_inv H17
          obtain ⟨h20, h21⟩ := idx_inv b18
          try simp only [Int.reduceToNat, Int.toNat_natCast] at h21
          have h22 := map_at eGTuple h21
          try simp -implicitDefEqProofs only [go_sem, Nat.reduceEqDiff, Nat.reduceAdd, reduceCtorEq, ↓reduceIte, eGTuple, c16, nat_of .i64 h20, h22]
          rcases ite_inv H19 with ⟨c24, H25⟩ | ⟨c24, H25⟩
          · try simp -implicitDefEqProofs only [go_sem, Nat.reduceEqDiff, Nat.reduceAdd, reduceCtorEq, ↓reduceIte, eGTuple, nat_of .i64 h20, h22, c24]
            rcases ite_inv H25 with ⟨c26, H27⟩ | ⟨c26, H27⟩
            · obtain ⟨l2, b28, H29⟩ := bind_inv H27
              obtain ⟨h30, h31⟩ := app_inv b28
              have h30 : out.length + 1 ≤ 4294967296 := h30
              have h32 : List.map eS out ++ [[.v (.string x2.sub_.id_)]] = List.map eS l2 := app_map eS h31
              have h33 : out.length + 1 = l2.length := app_len h31
              have h34 : l2.length ≤ 4294967296 := by omega
              have q35 : 0 < l2.length := by omega
              try simp -implicitDefEqProofs only [go_sem, Nat.reduceLT, Nat.reduceEqDiff, Nat.reduceAdd, Nat.reduceLeDiff, reduceCtorEq, ↓reduceIte, eGTuple, nat_of .i64 h20, h22, c26, h32, h33, h34]
              rcases out with _ | ⟨q0, q1⟩
              · try simp only [List.map_nil, accI, accN]
                exact ⟨⟨((c, (l2, (IntKind.i64.wrap (i + 1)))), 0), H29⟩, ren_mk [(0, 30)] (by rfl) (rf_upd (by rfl) (rf_upd (by rfl) (rf_upd (by first | exact ren_accP (by rfl) q35 | rfl) (rf_upd (by rfl) (rf_no _))))) (rh_upd (by first | exact rh_accP (by rfl) q35 (by rfl) | exact rh_one (by rfl) (by rfl) (by rfl)) (rh_no _)), Nat.lt_succ_self _⟩
              · try simp only [List.map_cons, accI, accN]
                exact ⟨⟨((c, (l2, (IntKind.i64.wrap (i + 1)))), (g + 1)), H29⟩, ren_mk [(0, 0)] (by rfl) (rf_upd (by rfl) (rf_upd (by rfl) (rf_upd (by first | exact ren_accP (by rfl) q35 | rfl) (rf_upd (by rfl) (rf_no _))))) (rh_upd (by first | exact rh_accP (by rfl) q35 (by rfl) | exact rh_one (by rfl) (by rfl) (by rfl)) (rh_no _)), Nat.lt_succ_self _⟩
            · try simp -implicitDefEqProofs only [go_sem, Nat.reduceEqDiff, Nat.reduceAdd, reduceCtorEq, ↓reduceIte, c26]
              exact ⟨⟨((c, (out, (IntKind.i64.wrap (i + 1)))), g), H27⟩, ren_mk [(0, 0)] (by rfl) (rf_upd (by rfl) (rf_upd (by rfl) (rf_upd (ren_acc (by rfl)) (rf_upd (by rfl) (rf_no _))))) (rh_upd (rh_acc (by rfl) (by rfl)) (rh_no _)), Nat.lt_succ_self _⟩
          · try simp -implicitDefEqProofs only [go_sem, Nat.reduceEqDiff, Nat.reduceAdd, reduceCtorEq, ↓reduceIte, c24]
            exact ⟨⟨((c, (out, (IntKind.i64.wrap (i + 1)))), g), H25⟩, ren_mk [(0, 0)] (by rfl) (rf_upd (by rfl) (rf_upd (by rfl) (rf_upd (ren_acc (by rfl)) (rf_upd (by rfl) (rf_no _))))) (rh_upd (rh_acc (by rfl) (by rfl)) (rh_no _)), Nat.lt_succ_self _⟩
        · try simp -implicitDefEqProofs only [go_sem, ↓reduceIte, c16]
          obtain rfl := Option.some.inj H17
          exact ⟨⟨⟨out, rfl⟩, g⟩, ren_mk [(0, 0)] (by rfl) (rf_upd (ren_acc (by rfl)) (rf_no _)) (rh_upd (rh_acc (by rfl) (by rfl)) (rh_no _))⟩
  · rintro ⟨⟨out3, he38⟩, g3⟩
    replace he38 := he38.symm
    subst he38
    try dsimp only at H2
    refine runR_take tab_ok fol 1 ?_
    obtain ⟨t40, b36, H37⟩ := bind_inv H2
    try simp -implicitDefEqProofs only [go_sem, Nat.reduceAdd, ↓reduceIte]
    refine onCall_pure (by first | rfl | (simp -implicitDefEqProofs only [go_sem, ↓reduceIte]; done) | (simp -implicitDefEqProofs only [go_sem, ↓reduceIte]; rfl)) (ref1_Texts_ok b36) (by first | exact .inr rfl | exact .inl rfl) ?_
    try simp -implicitDefEqProofs only [go_sem, Nat.reduceAdd, ↓reduceIte]
    obtain rfl := Option.some.inj H37
    exact end_pure (by first | (simp -implicitDefEqProofs only [go_sem, ↓reduceIte, Try.f53] <;> rfl) | rfl) (by first | rfl | (simp -implicitDefEqProofs only [go_sem, Int.reduceToNat, Int.reduceLT, Int.reduceLE, Int.reduceBEq, Int.reduceBNe, Nat.reduceLT, Nat.reduceBEq, Int.reduceEq, Nat.reduceEqDiff, Nat.reduceAdd, Nat.reduceSub, Nat.reduceMul, Nat.reduceLeDiff, reduceCtorEq, ↓reduceIte, eGTuple, eLookIndex, eLookLeft, eGRef, eGSub, eLookRight, eGObj]; done) | (simp -implicitDefEqProofs only [go_sem, Int.reduceToNat, Int.reduceLT, Int.reduceLE, Int.reduceBEq, Int.reduceBNe, Nat.reduceLT, Nat.reduceBEq, Int.reduceEq, Nat.reduceEqDiff, Nat.reduceAdd, Nat.reduceSub, Nat.reduceMul, Nat.reduceLeDiff, reduceCtorEq, ↓reduceIte, eGTuple, eLookIndex, eLookLeft, eGRef, eGSub, eLookRight, eGObj]; rfl)) rfl (by intro h; first | rfl | cases h)
def law5_LookTells_L1 (n : Nat) (t1 : List Int) (t3 : Int) : Nat → (List GTuple × ByteArray × ByteArray × ByteArray × ByteArray × ByteArray × ByteArray × Int) → Option ((Unit) ⊕ Bool)
  | 0, _ => none
  | c + 1, (t02, t60, t61, t62, t63, t64, t652, t9) =>
    (if (decide (t9 < 2)) then
      (look_Of n t02).bind fun t212 =>
      (ref1_Of n t02).bind fun t232 =>
      (
        (look_left_Subs n t212.left (⟨t60, t61⟩ : GObj) t62).bind fun t342 =>
        (ref1_Subs n t232 (⟨t60, t61⟩ : GObj) t62).bind fun t402 =>
        (law5_sameSubs n t342 t402).bind fun t412 =>
        (if t412 then
          (look_right_Objs n t212.right (⟨t63, t64, t652⟩ : GSub)).bind fun t502 =>
          (ref1_Objs n t232 (⟨t63, t64, t652⟩ : GSub)).bind fun t542 =>
          (law5_sameRefs n t502 t542).bind fun t552 =>
          (if t552 then
            (look_left_Types n t212.left t60).bind fun t653 =>
            (ref1_Types n t232 t60).bind fun t702 =>
            (ref1_SameTexts n t653 t702).bind fun t712 =>
            (if t712 then
              (look_right_Users n t212.right t63).bind fun t812 =>
              (ref1_Users n t232 t63).bind fun t862 =>
              (ref1_SameTexts n t812 t862).bind fun t872 =>
              some (!t872)
            else
              some true)
          else
            some true)
        else
          some true) : Option (Bool)).bind fun t892 =>
      (if t892 then
        some (.inr false)
      else
        (law2_Tames n t1).bind fun t912 =>
        (law2_Tame n t3).bind fun t932 =>
        law5_LookTells_L1 n t1 t3 c (t912, t932.obj.type_, t932.obj.id_, t932.rel, t932.sub_.type_, t932.sub_.id_, t932.sub_.rel, (IntKind.i64.wrap (t9 + 1))))
    else
      some (.inl ()))

def law5_LookTells (n : Nat) (t0 : List GTuple) (t1 : List Int) (t2 : GTuple) (t3 : Int) : Option Bool :=
  (if (decide (60 < (t0.length : Int))) then
    (law5_awake n).bind fun t15 =>
    some t15
  else
    (
      law5_LookTells_L1 n t1 t3 n (t0, t2.obj.type_, t2.obj.id_, t2.rel, t2.sub_.type_, t2.sub_.id_, t2.sub_.rel, 0) : Option ((Unit) ⊕ Bool)).bind fun
      | .inl _ =>
        (law5_awake n).bind fun t94 =>
        some t94
      | .inr r => some r)
theorem law5_LookTells_ok {n : Nat} {t0 : List GTuple} {t1 : List Int} {t2 : GTuple} {t3 : Int} {r : Bool} (H : law5_LookTells n t0 t1 t2 t3 = some r) : PureOK Try.prog 12 [D.sl (List.map eGTuple t0), D.sl (List.map eI t1), D.ag (eGTuple t2), D.v (.int .i64 t3)] (D.v (.bool r)) true := by
  unfold law5_LookTells at H
  refine pure_runR (tab := tab) tab_ok Try.func12 rfl (by kernel_rfl) (by kernel_rfl) (by simp [Try.f12]) ?_
  refine runR_seq ?_
  refine runR_take tab_ok fol 1 ?_
  try simp -implicitDefEqProofs only [go_sem, Nat.reduceAdd, eGTuple]
  refine runR_seq ?_
  refine runR_take tab_ok fol 1 ?_
  try simp -implicitDefEqProofs only [go_sem, Nat.reduceAdd, reduceCtorEq, ↓reduceIte]
  rcases ite_inv H with ⟨c1, H2⟩ | ⟨c1, H2⟩
  · obtain ⟨t15, b3, H4⟩ := bind_inv H2
    try simp -implicitDefEqProofs only [go_sem, Nat.reduceAdd, c1]
    refine onCall_pure (by first | rfl | (simp -implicitDefEqProofs only [go_sem, Int.reduceToNat, Int.reduceLT, Int.reduceLE, Int.reduceBEq, Int.reduceBNe, Nat.reduceLT, Nat.reduceBEq, Int.reduceEq, Nat.reduceEqDiff, Nat.reduceAdd, Nat.reduceSub, Nat.reduceMul, Nat.reduceLeDiff, reduceCtorEq, ↓reduceIte, eGTuple, eLookIndex, eLookLeft, eGRef, eGSub, eLookRight, eGObj, c1]; done) | (simp -implicitDefEqProofs only [go_sem, Int.reduceToNat, Int.reduceLT, Int.reduceLE, Int.reduceBEq, Int.reduceBNe, Nat.reduceLT, Nat.reduceBEq, Int.reduceEq, Nat.reduceEqDiff, Nat.reduceAdd, Nat.reduceSub, Nat.reduceMul, Nat.reduceLeDiff, reduceCtorEq, ↓reduceIte, eGTuple, eLookIndex, eLookLeft, eGRef, eGSub, eLookRight, eGObj, c1]; rfl)) (law5_awake_ok b3) (by first | exact .inr rfl | exact .inl rfl) ?_
    try simp -implicitDefEqProofs only [go_sem, Nat.reduceAdd, ↓reduceIte]
    obtain rfl := Option.some.inj H4
    exact end_pure (by first | (simp -implicitDefEqProofs only [go_sem, ↓reduceIte, Try.f12] <;> rfl) | rfl) (by first | rfl | (simp -implicitDefEqProofs only [go_sem, Int.reduceToNat, Int.reduceLT, Int.reduceLE, Int.reduceBEq, Int.reduceBNe, Nat.reduceLT, Nat.reduceBEq, Int.reduceEq, Nat.reduceEqDiff, Nat.reduceAdd, Nat.reduceSub, Nat.reduceMul, Nat.reduceLeDiff, reduceCtorEq, ↓reduceIte, eGTuple, eLookIndex, eLookLeft, eGRef, eGSub, eLookRight, eGObj, c1]; done) | (simp -implicitDefEqProofs only [go_sem, Int.reduceToNat, Int.reduceLT, Int.reduceLE, Int.reduceBEq, Int.reduceBNe, Nat.reduceLT, Nat.reduceBEq, Int.reduceEq, Nat.reduceEqDiff, Nat.reduceAdd, Nat.reduceSub, Nat.reduceMul, Nat.reduceLeDiff, reduceCtorEq, ↓reduceIte, eGTuple, eLookIndex, eLookLeft, eGRef, eGSub, eLookRight, eGObj, c1]; rfl)) rfl (by intro h; first | rfl | cases h)
  · try simp -implicitDefEqProofs only [go_sem, c1]
    refine runR_seq ?_
    refine runR_seq ?_
    refine runR_take tab_ok fol 1 ?_
    try simp -implicitDefEqProofs only [go_sem, Nat.reduceAdd]
    obtain ⟨e_, E5, H6⟩ := bind_inv H2
    refine runR_join (α := { y : Unit // e_ = .inl y }) (fun | ⟨_, _⟩ => ⟨noFr, noHp, 0⟩) ?_ ?_
    · refine runR_block ?_
      refine runR_loop (α := { q : Nat × (List GTuple × ByteArray × ByteArray × ByteArray × ByteArray × ByteArray × ByteArray × Int) // law5_LookTells_L1 n t1 t3 q.1 q.2 = some e_ }) (fun | ⟨⟨c, ⟨t02, t60, t61, t62, t63, t64, t652, t9⟩⟩, _⟩ => ⟨upd 0 (.d (.sl (List.map eGTuple t02)) true) (upd 1 (.d (.sl (List.map eI t1)) true) (upd 3 (.v (.int .i64 t3)) (upd 6 (.pt 0 0) (upd 9 (.v (.int .i64 t9)) noFr)))), upd 0 (some (.bx [.v (.string t60), .v (.string t61), .v (.string t62), .v (.string t63), .v (.string t64), .v (.string t652)])) noHp, 1⟩) (fun q => q.1.1) ⟨(n, (t0, t2.obj.type_, t2.obj.id_, t2.rel, t2.sub_.type_, t2.sub_.id_, t2.sub_.rel, 0)), E5⟩ ?_ ?_
      · exact ren_mk [(0, 0)] (by rfl) (rf_upd (by rfl) (rf_upd (by rfl) (rf_upd (by rfl) (rf_upd (by rfl) (rf_upd (by rfl) (rf_no _)))))) (rh_upd (rh_one (by rfl) (by rfl) (by rfl)) (rh_no _))
      · rintro ⟨⟨c, ⟨t02, t60, t61, t62, t63, t64, t652, t9⟩⟩, L7⟩
        rcases c with _ | c
        · exact nomatch (show none = some _ from L7)
        · unfold law5_LookTells_L1 at L7
          try dsimp only at L7
          refine runR_seq ?_
          refine runR_take tab_ok fol 1 ?_
          try simp -implicitDefEqProofs only [go_sem, Nat.reduceEqDiff, Nat.reduceAdd, reduceCtorEq, ↓reduceIte]
          rcases ite_inv L7 with ⟨c51, H52⟩ | ⟨c51, H52⟩
          · try simp -implicitDefEqProofs only [go_sem, c51]
            refine runR_seq ?_
            refine runR_block ?_
            refine runR_seq ?_
            refine runR_take tab_ok fol 1 ?_
            obtain ⟨t212, b53, H54⟩ := bind_inv H52
            try simp -implicitDefEqProofs only [go_sem, Nat.reduceAdd, reduceCtorEq, ↓reduceIte]
            refine onCall_pureA (by first | rfl | (simp -implicitDefEqProofs only [go_sem, Int.reduceToNat, Int.reduceLT, Int.reduceLE, Int.reduceBEq, Int.reduceBNe, Nat.reduceLT, Nat.reduceBEq, Int.reduceEq, Nat.reduceEqDiff, Nat.reduceAdd, Nat.reduceSub, Nat.reduceMul, Nat.reduceLeDiff, reduceCtorEq, ↓reduceIte, eGTuple, eLookIndex, eLookLeft, eGRef, eGSub, eLookRight, eGObj, c51]; done) | (simp -implicitDefEqProofs only [go_sem, Int.reduceToNat, Int.reduceLT, Int.reduceLE, Int.reduceBEq, Int.reduceBNe, Nat.reduceLT, Nat.reduceBEq, Int.reduceEq, Nat.reduceEqDiff, Nat.reduceAdd, Nat.reduceSub, Nat.reduceMul, Nat.reduceLeDiff, reduceCtorEq, ↓reduceIte, eGTuple, eLookIndex, eLookLeft, eGRef, eGSub, eLookRight, eGObj, c51]; rfl)) (look_Of_ok b53) (by first | exact .inr rfl | exact .inl rfl) ?_
            obtain ⟨t232, b55, H56⟩ := bind_inv H54
            try simp -implicitDefEqProofs only [go_sem, Nat.reduceAdd, reduceCtorEq, ↓reduceIte, eLookIndex]
            refine onCall_pure (by first | rfl | (simp -implicitDefEqProofs only [go_sem, Int.reduceToNat, Int.reduceLT, Int.reduceLE, Int.reduceBEq, Int.reduceBNe, Nat.reduceLT, Nat.reduceBEq, Int.reduceEq, Nat.reduceEqDiff, Nat.reduceAdd, Nat.reduceSub, Nat.reduceMul, Nat.reduceLeDiff, reduceCtorEq, ↓reduceIte, eGTuple, eLookIndex, eLookLeft, eGRef, eGSub, eLookRight, eGObj, c51]; done) | (simp -implicitDefEqProofs only [go_sem, Int.reduceToNat, Int.reduceLT, Int.reduceLE, Int.reduceBEq, Int.reduceBNe, Nat.reduceLT, Nat.reduceBEq, Int.reduceEq, Nat.reduceEqDiff, Nat.reduceAdd, Nat.reduceSub, Nat.reduceMul, Nat.reduceLeDiff, reduceCtorEq, ↓reduceIte, eGTuple, eLookIndex, eLookLeft, eGRef, eGSub, eLookRight, eGObj, c51]; rfl)) (ref1_Of_ok b55) (by first | exact .inr rfl | exact .inl rfl) ?_
            try simp -implicitDefEqProofs only [go_sem, Nat.reduceEqDiff, Nat.reduceAdd, ↓reduceIte]
            refine runR_seq ?_
            refine runR_seq ?_
            obtain ⟨e_3, E57, H58⟩ := bind_inv H56
            refine runR_join (α := { y : Bool // e_3 = y }) (fun | ⟨t892, _⟩ => ⟨upd 1 (.d (.sl (List.map eI t1)) true) (upd 3 (.v (.int .i64 t3)) (upd 6 (.pt 0 0) (upd 9 (.v (.int .i64 t9)) (upd 89 (.v (.bool t892)) noFr)))), upd 0 (some (.bx [.v (.string t60), .v (.string t61), .v (.string t62), .v (.string t63), .v (.string t64), .v (.string t652)])) noHp, 1⟩) ?_ ?_
            · refine runR_take tab_ok fol 1 ?_
              obtain ⟨t342, b59, H60⟩ := bind_inv E57
              try simp -implicitDefEqProofs only [go_sem, Nat.reduceEqDiff, Nat.reduceAdd, Nat.reduceLeDiff, reduceCtorEq, ↓reduceIte]
              refine onCallD_pureX (b := true) [] (fun hp1 h1 => by exact (PW.cons (ToXA.d (ToXV.one (ToX.rbE 2 (ToX.one (b' := false) (is := []) rfl (fun _ => rfl)) (by rfl)) rfl)) (PW.cons (ToXA.d (ToXV.agP (PW.cons (ToX.one (b' := false) (is := []) rfl (fun _ => rfl)) (PW.cons (ToX.one (b' := false) (is := []) rfl (fun _ => rfl)) PW.nil)))) (PW.cons (ToXA.d (ToXV.one (ToX.one (b' := false) (is := []) rfl (fun _ => rfl)) rfl)) PW.nil)))) (PureA.of_pure (look_left_Subs_ok b59)) ?_
              obtain ⟨t402, b61, H62⟩ := bind_inv H60
              try simp -implicitDefEqProofs only [go_sem, Nat.reduceEqDiff, Nat.reduceAdd, Nat.reduceLeDiff, reduceCtorEq, ↓reduceIte]
              refine onCallD_pure (by first | rfl | (simp -implicitDefEqProofs only [go_sem, Int.reduceToNat, Int.reduceLT, Int.reduceLE, Int.reduceBEq, Int.reduceBNe, Nat.reduceLT, Nat.reduceBEq, Int.reduceEq, Nat.reduceEqDiff, Nat.reduceAdd, Nat.reduceSub, Nat.reduceMul, Nat.reduceLeDiff, reduceCtorEq, ↓reduceIte, eGTuple, eLookIndex, eLookLeft, eGRef, eGSub, eLookRight, eGObj]; done) | (simp -implicitDefEqProofs only [go_sem, Int.reduceToNat, Int.reduceLT, Int.reduceLE, Int.reduceBEq, Int.reduceBNe, Nat.reduceLT, Nat.reduceBEq, Int.reduceEq, Nat.reduceEqDiff, Nat.reduceAdd, Nat.reduceSub, Nat.reduceMul, Nat.reduceLeDiff, reduceCtorEq, ↓reduceIte, eGTuple, eLookIndex, eLookLeft, eGRef, eGSub, eLookRight, eGObj]; rfl)) (ref1_Subs_ok b61) (by first | exact .inr rfl | exact .inl rfl) ?_
              obtain ⟨t412, b63, H64⟩ := bind_inv H62
              try simp -implicitDefEqProofs only [go_sem, Nat.reduceEqDiff, Nat.reduceAdd, ↓reduceIte]
              refine onCallD_pure (by first | rfl | (simp -implicitDefEqProofs only [go_sem, Int.reduceToNat, Int.reduceLT, Int.reduceLE, Int.reduceBEq, Int.reduceBNe, Nat.reduceLT, Nat.reduceBEq, Int.reduceEq, Nat.reduceEqDiff, Nat.reduceAdd, Nat.reduceSub, Nat.reduceMul, Nat.reduceLeDiff, reduceCtorEq, ↓reduceIte, eGTuple, eLookIndex, eLookLeft, eGRef, eGSub, eLookRight, eGObj]; done) | (simp -implicitDefEqProofs only [go_sem, Int.reduceToNat, Int.reduceLT, Int.reduceLE, Int.reduceBEq, Int.reduceBNe, Nat.reduceLT, Nat.reduceBEq, Int.reduceEq, Nat.reduceEqDiff, Nat.reduceAdd, Nat.reduceSub, Nat.reduceMul, Nat.reduceLeDiff, reduceCtorEq, ↓reduceIte, eGTuple, eLookIndex, eLookLeft, eGRef, eGSub, eLookRight, eGObj]; rfl)) (law5_sameSubs_ok b63) (by first | exact .inr rfl | exact .inl rfl) ?_
              try simp -implicitDefEqProofs only [go_sem, Nat.reduceEqDiff, Nat.reduceAdd, ↓reduceIte]
              rcases ite_inv H64 with ⟨c65, H66⟩ | ⟨c65, H66⟩
              · obtain ⟨t502, b67, H68⟩ := bind_inv H66
                try simp -implicitDefEqProofs only [go_sem, Nat.reduceEqDiff, Nat.reduceAdd, reduceCtorEq, ↓reduceIte, c65]
                refine onCallD_pureX (b := true) [] (fun hp1 h1 => by exact (PW.cons (ToXA.d (ToXV.one (ToX.rbE 2 (ToX.one (b' := false) (is := []) rfl (fun _ => rfl)) (by rfl)) rfl)) (PW.cons (ToXA.d (ToXV.agP (PW.cons (ToX.one (b' := false) (is := []) rfl (fun _ => rfl)) (PW.cons (ToX.one (b' := false) (is := []) rfl (fun _ => rfl)) (PW.cons (ToX.one (b' := false) (is := []) rfl (fun _ => rfl)) PW.nil))))) PW.nil))) (PureA.of_pure (look_right_Objs_ok b67)) ?_
                obtain ⟨t542, b69, H70⟩ := bind_inv H68
                try simp -implicitDefEqProofs only [go_sem, Nat.reduceEqDiff, Nat.reduceAdd, reduceCtorEq, ↓reduceIte]
                refine onCallD_pure (by first | rfl | (simp -implicitDefEqProofs only [go_sem, Int.reduceToNat, Int.reduceLT, Int.reduceLE, Int.reduceBEq, Int.reduceBNe, Nat.reduceLT, Nat.reduceBEq, Int.reduceEq, Nat.reduceEqDiff, Nat.reduceAdd, Nat.reduceSub, Nat.reduceMul, Nat.reduceLeDiff, reduceCtorEq, ↓reduceIte, eGTuple, eLookIndex, eLookLeft, eGRef, eGSub, eLookRight, eGObj, c65]; done) | (simp -implicitDefEqProofs only [go_sem, Int.reduceToNat, Int.reduceLT, Int.reduceLE, Int.reduceBEq, Int.reduceBNe, Nat.reduceLT, Nat.reduceBEq, Int.reduceEq, Nat.reduceEqDiff, Nat.reduceAdd, Nat.reduceSub, Nat.reduceMul, Nat.reduceLeDiff, reduceCtorEq, ↓reduceIte, eGTuple, eLookIndex, eLookLeft, eGRef, eGSub, eLookRight, eGObj, c65]; rfl)) (ref1_Objs_ok b69) (by first | exact .inr rfl | exact .inl rfl) ?_
                obtain ⟨t552, b71, H72⟩ := bind_inv H70
                try simp -implicitDefEqProofs only [go_sem, Nat.reduceEqDiff, Nat.reduceAdd, ↓reduceIte]
                refine onCallD_pure (by first | rfl | (simp -implicitDefEqProofs only [go_sem, Int.reduceToNat, Int.reduceLT, Int.reduceLE, Int.reduceBEq, Int.reduceBNe, Nat.reduceLT, Nat.reduceBEq, Int.reduceEq, Nat.reduceEqDiff, Nat.reduceAdd, Nat.reduceSub, Nat.reduceMul, Nat.reduceLeDiff, reduceCtorEq, ↓reduceIte, eGTuple, eLookIndex, eLookLeft, eGRef, eGSub, eLookRight, eGObj, c65]; done) | (simp -implicitDefEqProofs only [go_sem, Int.reduceToNat, Int.reduceLT, Int.reduceLE, Int.reduceBEq, Int.reduceBNe, Nat.reduceLT, Nat.reduceBEq, Int.reduceEq, Nat.reduceEqDiff, Nat.reduceAdd, Nat.reduceSub, Nat.reduceMul, Nat.reduceLeDiff, reduceCtorEq, ↓reduceIte, eGTuple, eLookIndex, eLookLeft, eGRef, eGSub, eLookRight, eGObj, c65]; rfl)) (law5_sameRefs_ok b71) (by first | exact .inr rfl | exact .inl rfl) ?_
                try simp -implicitDefEqProofs only [go_sem, Nat.reduceEqDiff, Nat.reduceAdd, ↓reduceIte]
                rcases ite_inv H72 with ⟨c73, H74⟩ | ⟨c73, H74⟩
                · obtain ⟨t653, b75, H76⟩ := bind_inv H74
                  try simp -implicitDefEqProofs only [go_sem, Nat.reduceEqDiff, Nat.reduceAdd, reduceCtorEq, ↓reduceIte, c73]
                  refine onCallD_pureX (b := true) [] (fun hp1 h1 => by exact (PW.cons (ToXA.d (ToXV.one (ToX.rbE 2 (ToX.one (b' := false) (is := []) rfl (fun _ => rfl)) (by rfl)) rfl)) (PW.cons (ToXA.d (ToXV.one (ToX.one (b' := false) (is := []) rfl (fun _ => rfl)) rfl)) PW.nil))) (PureA.of_pure (look_left_Types_ok b75)) ?_
                  obtain ⟨t702, b77, H78⟩ := bind_inv H76
                  try simp -implicitDefEqProofs only [go_sem, Nat.reduceEqDiff, Nat.reduceAdd, reduceCtorEq, ↓reduceIte]
                  refine onCallD_pure (by first | rfl | (simp -implicitDefEqProofs only [go_sem, Int.reduceToNat, Int.reduceLT, Int.reduceLE, Int.reduceBEq, Int.reduceBNe, Nat.reduceLT, Nat.reduceBEq, Int.reduceEq, Nat.reduceEqDiff, Nat.reduceAdd, Nat.reduceSub, Nat.reduceMul, Nat.reduceLeDiff, reduceCtorEq, ↓reduceIte, eGTuple, eLookIndex, eLookLeft, eGRef, eGSub, eLookRight, eGObj, c65, c73]; done) | (simp -implicitDefEqProofs only [go_sem, Int.reduceToNat, Int.reduceLT, Int.reduceLE, Int.reduceBEq, Int.reduceBNe, Nat.reduceLT, Nat.reduceBEq, Int.reduceEq, Nat.reduceEqDiff, Nat.reduceAdd, Nat.reduceSub, Nat.reduceMul, Nat.reduceLeDiff, reduceCtorEq, ↓reduceIte, eGTuple, eLookIndex, eLookLeft, eGRef, eGSub, eLookRight, eGObj, c65, c73]; rfl)) (ref1_Types_ok b77) (by first | exact .inr rfl | exact .inl rfl) ?_
                  obtain ⟨t712, b79, H80⟩ := bind_inv H78
                  try simp -implicitDefEqProofs only [go_sem, Nat.reduceEqDiff, Nat.reduceAdd, ↓reduceIte]
                  refine onCallD_pure (by first | rfl | (simp -implicitDefEqProofs only [go_sem, Int.reduceToNat, Int.reduceLT, Int.reduceLE, Int.reduceBEq, Int.reduceBNe, Nat.reduceLT, Nat.reduceBEq, Int.reduceEq, Nat.reduceEqDiff, Nat.reduceAdd, Nat.reduceSub, Nat.reduceMul, Nat.reduceLeDiff, reduceCtorEq, ↓reduceIte, eGTuple, eLookIndex, eLookLeft, eGRef, eGSub, eLookRight, eGObj, c65, c73]; done) | (simp -implicitDefEqProofs only [go_sem, Int.reduceToNat, Int.reduceLT, Int.reduceLE, Int.reduceBEq, Int.reduceBNe, Nat.reduceLT, Nat.reduceBEq, Int.reduceEq, Nat.reduceEqDiff, Nat.reduceAdd, Nat.reduceSub, Nat.reduceMul, Nat.reduceLeDiff, reduceCtorEq, ↓reduceIte, eGTuple, eLookIndex, eLookLeft, eGRef, eGSub, eLookRight, eGObj, c65, c73]; rfl)) (ref1_SameTexts_ok b79) (by first | exact .inr rfl | exact .inl rfl) ?_
                  try simp -implicitDefEqProofs only [go_sem, Nat.reduceEqDiff, Nat.reduceAdd, ↓reduceIte]
                  rcases ite_inv H80 with ⟨c81, H82⟩ | ⟨c81, H82⟩
                  · obtain ⟨t812, b83, H84⟩ := bind_inv H82
                    try simp -implicitDefEqProofs only [go_sem, Nat.reduceEqDiff, Nat.reduceAdd, reduceCtorEq, ↓reduceIte, c81]
                    refine onCallD_pureX (b := true) [] (fun hp1 h1 => by exact (PW.cons (ToXA.d (ToXV.one (ToX.rbE 2 (ToX.one (b' := false) (is := []) rfl (fun _ => rfl)) (by rfl)) rfl)) (PW.cons (ToXA.d (ToXV.one (ToX.one (b' := false) (is := []) rfl (fun _ => rfl)) rfl)) PW.nil))) (PureA.of_pure (look_right_Users_ok b83)) ?_
                    obtain ⟨t862, b85, H86⟩ := bind_inv H84
                    try simp -implicitDefEqProofs only [go_sem, Nat.reduceEqDiff, Nat.reduceAdd, reduceCtorEq, ↓reduceIte]
                    refine onCallD_pure (by first | rfl | (simp -implicitDefEqProofs only [go_sem, Int.reduceToNat, Int.reduceLT, Int.reduceLE, Int.reduceBEq, Int.reduceBNe, Nat.reduceLT, Nat.reduceBEq, Int.reduceEq, Nat.reduceEqDiff, Nat.reduceAdd, Nat.reduceSub, Nat.reduceMul, Nat.reduceLeDiff, reduceCtorEq, ↓reduceIte, eGTuple, eLookIndex, eLookLeft, eGRef, eGSub, eLookRight, eGObj, c65, c73, c81]; done) | (simp -implicitDefEqProofs only [go_sem, Int.reduceToNat, Int.reduceLT, Int.reduceLE, Int.reduceBEq, Int.reduceBNe, Nat.reduceLT, Nat.reduceBEq, Int.reduceEq, Nat.reduceEqDiff, Nat.reduceAdd, Nat.reduceSub, Nat.reduceMul, Nat.reduceLeDiff, reduceCtorEq, ↓reduceIte, eGTuple, eLookIndex, eLookLeft, eGRef, eGSub, eLookRight, eGObj, c65, c73, c81]; rfl)) (ref1_Users_ok b85) (by first | exact .inr rfl | exact .inl rfl) ?_
                    obtain ⟨t872, b87, H88⟩ := bind_inv H86
                    try simp -implicitDefEqProofs only [go_sem, Nat.reduceEqDiff, Nat.reduceAdd, ↓reduceIte]
                    refine onCallD_pure (by first | rfl | (simp -implicitDefEqProofs only [go_sem, Int.reduceToNat, Int.reduceLT, Int.reduceLE, Int.reduceBEq, Int.reduceBNe, Nat.reduceLT, Nat.reduceBEq, Int.reduceEq, Nat.reduceEqDiff, Nat.reduceAdd, Nat.reduceSub, Nat.reduceMul, Nat.reduceLeDiff, reduceCtorEq, ↓reduceIte, eGTuple, eLookIndex, eLookLeft, eGRef, eGSub, eLookRight, eGObj, c65, c73, c81]; done) | (simp -implicitDefEqProofs only [go_sem, Int.reduceToNat, Int.reduceLT, Int.reduceLE, Int.reduceBEq, Int.reduceBNe, Nat.reduceLT, Nat.reduceBEq, Int.reduceEq, Nat.reduceEqDiff, Nat.reduceAdd, Nat.reduceSub, Nat.reduceMul, Nat.reduceLeDiff, reduceCtorEq, ↓reduceIte, eGTuple, eLookIndex, eLookLeft, eGRef, eGSub, eLookRight, eGObj, c65, c73, c81]; rfl)) (ref1_SameTexts_ok b87) (by first | exact .inr rfl | exact .inl rfl) ?_
                    try simp -implicitDefEqProofs only [go_sem, Nat.reduceEqDiff, Nat.reduceAdd, ↓reduceIte]
                    refine Rd_endF (by kernel_rfl) ?_
                    try simp -implicitDefEqProofs only [go_sem]
                    obtain rfl := Option.some.inj H88
                    exact ⟨⟨(!t872), rfl⟩, ren_mk [(0, 0)] (by rfl) (rf_upd (by rfl) (rf_upd (by rfl) (rf_upd (by rfl) (rf_upd (by rfl) (rf_upd (by rfl) (rf_no _)))))) (rh_upd (rh_one (by rfl) (by rfl) (by rfl)) (rh_no _))⟩
                  · try simp -implicitDefEqProofs only [go_sem, Nat.reduceEqDiff, Nat.reduceAdd, ↓reduceIte, c81]
                    refine Rd_endF (by kernel_rfl) ?_
                    try simp -implicitDefEqProofs only [go_sem]
                    obtain rfl := Option.some.inj H82
                    exact ⟨⟨true, rfl⟩, ren_mk [(0, 0)] (by rfl) (rf_upd (by rfl) (rf_upd (by rfl) (rf_upd (by rfl) (rf_upd (by rfl) (rf_upd (by rfl) (rf_no _)))))) (rh_upd (rh_one (by rfl) (by rfl) (by rfl)) (rh_no _))⟩
                · try simp -implicitDefEqProofs only [go_sem, Nat.reduceEqDiff, Nat.reduceAdd, ↓reduceIte, c73]
                  refine Rd_endF (by kernel_rfl) ?_
                  try simp -implicitDefEqProofs only [go_sem]
                  obtain rfl := Option.some.inj H74
                  exact ⟨⟨true, rfl⟩, ren_mk [(0, 0)] (by rfl) (rf_upd (by rfl) (rf_upd (by rfl) (rf_upd (by rfl) (rf_upd (by rfl) (rf_upd (by rfl) (rf_no _)))))) (rh_upd (rh_one (by rfl) (by rfl) (by rfl)) (rh_no _))⟩
              · try simp -implicitDefEqProofs only [go_sem, Nat.reduceEqDiff, Nat.reduceAdd, ↓reduceIte, c65]
                refine Rd_endF (by kernel_rfl) ?_
                try simp -implicitDefEqProofs only [go_sem]
                obtain rfl := Option.some.inj H66
                exact ⟨⟨true, rfl⟩, ren_mk [(0, 0)] (by rfl) (rf_upd (by rfl) (rf_upd (by rfl) (rf_upd (by rfl) (rf_upd (by rfl) (rf_upd (by rfl) (rf_no _)))))) (rh_upd (rh_one (by rfl) (by rfl) (by rfl)) (rh_no _))⟩
            · rintro ⟨t892, he95⟩
              replace he95 := he95.symm
              subst he95
              try dsimp only at H58
              refine runR_take tab_ok fol 4 ?_
              try simp -implicitDefEqProofs only [go_sem, Nat.reduceEqDiff, ↓reduceIte]
              rcases ite_inv H58 with ⟨c89, H90⟩ | ⟨c89, H90⟩
              · try simp -implicitDefEqProofs only [go_sem, Nat.reduceAdd, c89]
                obtain rfl := Option.some.inj H90
                obtain rfl := Option.some.inj H6
                exact end_pure (by first | (simp -implicitDefEqProofs only [go_sem, ↓reduceIte, Try.f12] <;> rfl) | rfl) (by first | rfl | (simp -implicitDefEqProofs only [go_sem, Int.reduceToNat, Int.reduceLT, Int.reduceLE, Int.reduceBEq, Int.reduceBNe, Nat.reduceLT, Nat.reduceBEq, Int.reduceEq, Nat.reduceEqDiff, Nat.reduceAdd, Nat.reduceSub, Nat.reduceMul, Nat.reduceLeDiff, reduceCtorEq, ↓reduceIte, eGTuple, eLookIndex, eLookLeft, eGRef, eGSub, eLookRight, eGObj, c89]; done) | (simp -implicitDefEqProofs only [go_sem, Int.reduceToNat, Int.reduceLT, Int.reduceLE, Int.reduceBEq, Int.reduceBNe, Nat.reduceLT, Nat.reduceBEq, Int.reduceEq, Nat.reduceEqDiff, Nat.reduceAdd, Nat.reduceSub, Nat.reduceMul, Nat.reduceLeDiff, reduceCtorEq, ↓reduceIte, eGTuple, eLookIndex, eLookLeft, eGRef, eGSub, eLookRight, eGObj, c89]; rfl)) rfl (by intro h; first | rfl | cases h)
              · obtain ⟨t912, b91, H92⟩ := bind_inv H90
                try simp -implicitDefEqProofs only [go_sem, Nat.reduceAdd, ↓reduceIte, c89]
                refine onCall_pureAW (by first | rfl | (simp -implicitDefEqProofs only [go_sem, Int.reduceToNat, Int.reduceLT, Int.reduceLE, Int.reduceBEq, Int.reduceBNe, Nat.reduceLT, Nat.reduceBEq, Int.reduceEq, Nat.reduceEqDiff, Nat.reduceAdd, Nat.reduceSub, Nat.reduceMul, Nat.reduceLeDiff, reduceCtorEq, ↓reduceIte, eGTuple, eLookIndex, eLookLeft, eGRef, eGSub, eLookRight, eGObj, c89]; done) | (simp -implicitDefEqProofs only [go_sem, Int.reduceToNat, Int.reduceLT, Int.reduceLE, Int.reduceBEq, Int.reduceBNe, Nat.reduceLT, Nat.reduceBEq, Int.reduceEq, Nat.reduceEqDiff, Nat.reduceAdd, Nat.reduceSub, Nat.reduceMul, Nat.reduceLeDiff, reduceCtorEq, ↓reduceIte, eGTuple, eLookIndex, eLookLeft, eGRef, eGSub, eLookRight, eGObj, c89]; rfl)) (PureA.of_pure (law2_Tames_ok b91)) (by first | exact .inr rfl | exact .inl rfl) ?_
                obtain ⟨t932, b93, H94⟩ := bind_inv H92
                try simp -implicitDefEqProofs only [go_sem, Nat.reduceEqDiff, Nat.reduceAdd, ↓reduceIte]
                refine onCall_pure (by first | rfl | (simp -implicitDefEqProofs only [go_sem, Int.reduceToNat, Int.reduceLT, Int.reduceLE, Int.reduceBEq, Int.reduceBNe, Nat.reduceLT, Nat.reduceBEq, Int.reduceEq, Nat.reduceEqDiff, Nat.reduceAdd, Nat.reduceSub, Nat.reduceMul, Nat.reduceLeDiff, reduceCtorEq, ↓reduceIte, eGTuple, eLookIndex, eLookLeft, eGRef, eGSub, eLookRight, eGObj, c89]; done) | (simp -implicitDefEqProofs only [go_sem, Int.reduceToNat, Int.reduceLT, Int.reduceLE, Int.reduceBEq, Int.reduceBNe, Nat.reduceLT, Nat.reduceBEq, Int.reduceEq, Nat.reduceEqDiff, Nat.reduceAdd, Nat.reduceSub, Nat.reduceMul, Nat.reduceLeDiff, reduceCtorEq, ↓reduceIte, eGTuple, eLookIndex, eLookLeft, eGRef, eGSub, eLookRight, eGObj, c89]; rfl)) (law2_Tame_ok b93) (by first | exact .inr rfl | exact .inl rfl) ?_
                try simp -implicitDefEqProofs only [go_sem, Nat.reduceEqDiff, Nat.reduceAdd, reduceCtorEq, ↓reduceIte, eGTuple]
                exact ⟨⟨(c, (t912, t932.obj.type_, t932.obj.id_, t932.rel, t932.sub_.type_, t932.sub_.id_, t932.sub_.rel, (IntKind.i64.wrap (t9 + 1)))), H94⟩, ren_mk [(0, 0)] (by rfl) (rf_upd (by rfl) (rf_upd (by rfl) (rf_upd (by rfl) (rf_upd (by rfl) (rf_upd (by rfl) (rf_no _)))))) (rh_upd (rh_one (by rfl) (by rfl) (by rfl)) (rh_no _)), Nat.lt_succ_self _⟩
          · try simp -implicitDefEqProofs only [go_sem, ↓reduceIte, c51]
            obtain rfl := Option.some.inj H52
            exact ⟨⟨(), rfl⟩, ren_mk [] (by rfl) (rf_no _) (rh_no _)⟩
    · rintro ⟨_, he98⟩
      replace he98 := he98.symm
      subst he98
      try dsimp only at H6
      refine runR_take tab_ok fol 1 ?_
      obtain ⟨t94, b96, H97⟩ := bind_inv H6
      try simp -implicitDefEqProofs only [go_sem, Nat.reduceAdd]
      refine onCall_pure (by first | rfl | (simp -implicitDefEqProofs only [go_sem, Int.reduceToNat, Int.reduceLT, Int.reduceLE, Int.reduceBEq, Int.reduceBNe, Nat.reduceLT, Nat.reduceBEq, Int.reduceEq, Nat.reduceEqDiff, Nat.reduceAdd, Nat.reduceSub, Nat.reduceMul, Nat.reduceLeDiff, reduceCtorEq, ↓reduceIte, eGTuple, eLookIndex, eLookLeft, eGRef, eGSub, eLookRight, eGObj]; done) | (simp -implicitDefEqProofs only [go_sem, Int.reduceToNat, Int.reduceLT, Int.reduceLE, Int.reduceBEq, Int.reduceBNe, Nat.reduceLT, Nat.reduceBEq, Int.reduceEq, Nat.reduceEqDiff, Nat.reduceAdd, Nat.reduceSub, Nat.reduceMul, Nat.reduceLeDiff, reduceCtorEq, ↓reduceIte, eGTuple, eLookIndex, eLookLeft, eGRef, eGSub, eLookRight, eGObj]; rfl)) (law5_awake_ok b96) (by first | exact .inr rfl | exact .inl rfl) ?_
      try simp -implicitDefEqProofs only [go_sem, Nat.reduceAdd, ↓reduceIte]
      obtain rfl := Option.some.inj H97
      exact end_pure (by first | (simp -implicitDefEqProofs only [go_sem, ↓reduceIte, Try.f12] <;> rfl) | rfl) (by first | rfl | (simp -implicitDefEqProofs only [go_sem, Int.reduceToNat, Int.reduceLT, Int.reduceLE, Int.reduceBEq, Int.reduceBNe, Nat.reduceLT, Nat.reduceBEq, Int.reduceEq, Nat.reduceEqDiff, Nat.reduceAdd, Nat.reduceSub, Nat.reduceMul, Nat.reduceLeDiff, reduceCtorEq, ↓reduceIte, eGTuple, eLookIndex, eLookLeft, eGRef, eGSub, eLookRight, eGObj]; done) | (simp -implicitDefEqProofs only [go_sem, Int.reduceToNat, Int.reduceLT, Int.reduceLE, Int.reduceBEq, Int.reduceBNe, Nat.reduceLT, Nat.reduceBEq, Int.reduceEq, Nat.reduceEqDiff, Nat.reduceAdd, Nat.reduceSub, Nat.reduceMul, Nat.reduceLeDiff, reduceCtorEq, ↓reduceIte, eGTuple, eLookIndex, eLookLeft, eGRef, eGSub, eLookRight, eGObj]; rfl)) rfl (by intro h; first | rfl | cases h)
end Go.Proofs.Ytdckfddlcmkdlaa.Ab
