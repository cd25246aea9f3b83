/-
  Functions, read off the code.
-/
import Derived.Test.YtdckfddlcmkdlaaRtb
namespace Go.Proofs.Ytdckfddlcmkdlaa.Ab
open Go.RowKit
def ref1_Minus_L1 (n : Nat) (t10 : List GTuple) (t12 : List GTuple) : Nat → (List GTuple × Int) → Option (List GTuple)
  | 0, _ => none
  | c + 1, (out, i) =>
    (if (decide (i < (t10.length : Int))) then
      (idx t10 i).bind fun x2 =>
      (ref1_Has n t12 x2).bind fun t242 =>
      (if t242 then
        ref1_Minus_L1 n t10 t12 c (out, (IntKind.i64.wrap (i + 1)))
      else
        (app out [x2]).bind fun l2 =>
        ref1_Minus_L1 n t10 t12 c (l2, (IntKind.i64.wrap (i + 1))))
    else
      some out)
def ref1_Minus_L1_f (n : Nat) (_ : List GTuple) (t12 : List GTuple) (st : List GTuple) (x2 : GTuple) (k : List GTuple → Option (List GTuple)) : Option (List GTuple) :=
  match st with
  | out =>
    (ref1_Has n t12 x2).bind fun t242 =>
    (if t242 then
      k out
    else
      (app out [x2]).bind fun l2 =>
      k l2)
def ref1_Minus_L1_e (_ : Nat) (_ : List GTuple) (_ : List GTuple) (st : List GTuple) : Option (List GTuple) :=
  match st with
  | out => some out
theorem ref1_Minus_L1_list (n : Nat) (t10 : List GTuple) (t12 : List GTuple) (hx : t10.length < 4611686018427387904) (c : Nat) (st : List GTuple) (ix : Nat) (hi : ix ≤ t10.length) (hc : t10.length - ix < c) : ref1_Minus_L1 n t10 t12 c (match st, (ix : Int) with | out, ix => (out, ix)) = foldK (ref1_Minus_L1_f n t10 t12) (ref1_Minus_L1_e n t10 t12) (t10.drop ix) st :=
  loop_list (fun c st ix => ref1_Minus_L1 n t10 t12 c (match st, ix with | out, ix => (out, ix))) t10 (ref1_Minus_L1_f n t10 t12) (ref1_Minus_L1_e n t10 t12) (fun _ _ _ => rfl) hx c st ix hi hc

def ref1_Minus (n : Nat) (a : List GTuple) (l : List GTuple) : Option (List GTuple) :=
  (ref1_Of n a).bind fun t10 =>
  (ref1_Of n l).bind fun t12 =>
  (
    ref1_Minus_L1 n t10 t12 n ([], 0) : Option (List GTuple)).bind fun out3 =>
  some out3
theorem ref1_Minus_ok {n : Nat} {a : List GTuple} {l : List GTuple} {r : List GTuple} (H : ref1_Minus n a l = some r) : PureOK Try.prog 25 [D.sl (List.map eGTuple a), D.sl (List.map eGTuple l)] (D.sl (List.map eGTuple r)) true := by
  unfold ref1_Minus at H
  refine pure_runR (tab := tab) tab_ok Try.func25 rfl (by kernel_rfl) (by kernel_rfl) (by simp [Try.f25]) ?_
  refine runR_seq ?_
  refine runR_take tab_ok fol 1 ?_
  try simp -implicitDefEqProofs only [go_sem]
  refine runR_seq ?_
  refine runR_take tab_ok fol 1 ?_
  obtain ⟨t10, b1, H2⟩ := bind_inv H
  try simp -implicitDefEqProofs only [go_sem, Nat.reduceAdd, reduceCtorEq, ↓reduceIte]
  refine onCall_pure (by first | rfl | (simp -implicitDefEqProofs only [go_sem, Int.reduceToNat, Int.reduceLT, Int.reduceLE, Int.reduceBEq, Int.reduceBNe, Nat.reduceLT, Nat.reduceBEq, Int.reduceEq, Nat.reduceEqDiff, Nat.reduceAdd, Nat.reduceSub, Nat.reduceMul, Nat.reduceLeDiff, reduceCtorEq, ↓reduceIte, eGTuple, eGObj, eGSub]; done) | (simp -implicitDefEqProofs only [go_sem, Int.reduceToNat, Int.reduceLT, Int.reduceLE, Int.reduceBEq, Int.reduceBNe, Nat.reduceLT, Nat.reduceBEq, Int.reduceEq, Nat.reduceEqDiff, Nat.reduceAdd, Nat.reduceSub, Nat.reduceMul, Nat.reduceLeDiff, reduceCtorEq, ↓reduceIte, eGTuple, eGObj, eGSub]; rfl)) (ref1_Of_ok b1) (by first | exact .inr rfl | exact .inl rfl) ?_
  obtain ⟨t12, b3, H4⟩ := bind_inv H2
  try simp -implicitDefEqProofs only [go_sem, Nat.reduceEqDiff, Nat.reduceAdd, ↓reduceIte]
  refine onCall_pure (by first | rfl | (simp -implicitDefEqProofs only [go_sem, Int.reduceToNat, Int.reduceLT, Int.reduceLE, Int.reduceBEq, Int.reduceBNe, Nat.reduceLT, Nat.reduceBEq, Int.reduceEq, Nat.reduceEqDiff, Nat.reduceAdd, Nat.reduceSub, Nat.reduceMul, Nat.reduceLeDiff, reduceCtorEq, ↓reduceIte, eGTuple, eGObj, eGSub]; done) | (simp -implicitDefEqProofs only [go_sem, Int.reduceToNat, Int.reduceLT, Int.reduceLE, Int.reduceBEq, Int.reduceBNe, Nat.reduceLT, Nat.reduceBEq, Int.reduceEq, Nat.reduceEqDiff, Nat.reduceAdd, Nat.reduceSub, Nat.reduceMul, Nat.reduceLeDiff, reduceCtorEq, ↓reduceIte, eGTuple, eGObj, eGSub]; rfl)) (ref1_Of_ok b3) (by first | exact .inr rfl | exact .inl rfl) ?_
  try simp -implicitDefEqProofs only [go_sem, Nat.reduceEqDiff, Nat.reduceAdd, ↓reduceIte]
  refine runR_seq ?_
  refine runR_take tab_ok fol 1 ?_
  try simp -implicitDefEqProofs only [go_sem, Nat.reduceAdd]
  refine runR_seq ?_
  refine runR_seq ?_
  refine runR_take tab_ok fol 1 ?_
  try simp -implicitDefEqProofs only [go_sem, Nat.reduceAdd]
  obtain ⟨e_, E5, H6⟩ := bind_inv H4
  refine runR_join (α := { y : List GTuple // e_ = y } × Nat) (fun | ⟨⟨out3, _⟩, g3⟩ => ⟨upd 7 (accV 0 g3 (List.map eGTuple out3)) noFr, upd 0 (accO 6 g3 false (List.map eGTuple out3)) noHp, 1⟩) ?_ ?_
  · refine runR_block ?_
    refine runR_loop (α := { q : (Nat × (List GTuple × Int)) × Nat // ref1_Minus_L1 n t10 t12 q.1.1 q.1.2 = some e_ }) (fun | ⟨⟨⟨c, ⟨out, i⟩⟩, g⟩, _⟩ => ⟨upd 5 (.d (.sl (List.map eGTuple t10)) false) (upd 6 (.d (.sl (List.map eGTuple t12)) false) (upd 7 (accV 0 g (List.map eGTuple out)) (upd 8 (.v (.int .i64 i)) noFr))), upd 0 (accO 6 g false (List.map eGTuple out)) noHp, 1⟩) (fun q => q.1.1.1) ⟨((n, ([], 0)), 0), E5⟩ ?_ ?_
    · exact ren_mk [] (by rfl) (rf_upd (by rfl) (rf_upd (by rfl) (rf_upd (by rfl) (rf_upd (by rfl) (rf_no _))))) (rh_upd rh_accN (rh_no _))
    · rintro ⟨⟨⟨c, ⟨out, i⟩⟩, g⟩, L7⟩
      rcases c with _ | c
      · exact nomatch (show none = some _ from L7)
      · unfold ref1_Minus_L1 at L7
        try dsimp only at L7
        refine runR_take tab_ok fol 1 ?_
        try simp -implicitDefEqProofs only [go_sem, Nat.reduceEqDiff, Nat.reduceAdd, ↓reduceIte]
        rcases ite_inv L7 with ⟨c20, H21⟩ | ⟨c20, H21⟩
        · obtain ⟨x2, b22, H23⟩ := bind_inv H21
          obtain ⟨h24, h25⟩ := idx_inv b22
          try simp only [Int.reduceToNat, Int.toNat_natCast] at h25
          have h26 := map_at eGTuple h25
          obtain ⟨t242, b28, H29⟩ := bind_inv H23
          try simp -implicitDefEqProofs only [go_sem, Nat.reduceEqDiff, Nat.reduceAdd, ↓reduceIte, eGTuple, c20, nat_of .i64 h24, h26]
          refine onCall_pure (by first | rfl | (simp -implicitDefEqProofs only [go_sem, Int.reduceToNat, Int.reduceLT, Int.reduceLE, Int.reduceBEq, Int.reduceBNe, Nat.reduceLT, Nat.reduceBEq, Int.reduceEq, Nat.reduceEqDiff, Nat.reduceAdd, Nat.reduceSub, Nat.reduceMul, Nat.reduceLeDiff, reduceCtorEq, ↓reduceIte, eGTuple, eGObj, eGSub, c20, nat_of .i64 h24, h26]; done) | (simp -implicitDefEqProofs only [go_sem, Int.reduceToNat, Int.reduceLT, Int.reduceLE, Int.reduceBEq, Int.reduceBNe, Nat.reduceLT, Nat.reduceBEq, Int.reduceEq, Nat.reduceEqDiff, Nat.reduceAdd, Nat.reduceSub, Nat.reduceMul, Nat.reduceLeDiff, reduceCtorEq, ↓reduceIte, eGTuple, eGObj, eGSub, c20, nat_of .i64 h24, h26]; rfl)) (ref1_Has_ok b28) (by first | exact .inr rfl | exact .inl rfl) ?_
          try simp -implicitDefEqProofs only [go_sem, Nat.reduceAdd, ↓reduceIte]
          rcases ite_inv H29 with ⟨c30, H31⟩ | ⟨c30, H31⟩
          · try simp -implicitDefEqProofs only [go_sem, Nat.reduceEqDiff, Nat.reduceAdd, ↓reduceIte, c30]
            exact ⟨⟨((c, (out, (IntKind.i64.wrap (i + 1)))), g), H31⟩, ren_mk [(0, 0)] (by rfl) (rf_upd (by rfl) (rf_upd (by rfl) (rf_upd (ren_acc (by rfl)) (rf_upd (by rfl) (rf_no _))))) (rh_upd (rh_acc (by rfl) (by rfl)) (rh_no _)), Nat.lt_succ_self _⟩
          · obtain ⟨l2, b32, H33⟩ := bind_inv H31
            obtain ⟨h34, h35⟩ := app_inv b32
            have h34 : out.length + 1 ≤ 4294967296 := h34
            have h36 : List.map eGTuple out ++ [[.v (.string x2.obj.type_), .v (.string x2.obj.id_), .v (.string x2.rel), .v (.string x2.sub_.type_), .v (.string x2.sub_.id_), .v (.string x2.sub_.rel)]] = List.map eGTuple l2 := app_map eGTuple h35
            have h37 : out.length + 1 = l2.length := app_len h35
            have h38 : l2.length ≤ 4294967296 := by omega
            have q39 : 0 < l2.length := by omega
            try simp -implicitDefEqProofs only [go_sem, Nat.reduceLT, Nat.reduceEqDiff, Nat.reduceAdd, Nat.reduceMul, Nat.reduceLeDiff, reduceCtorEq, ↓reduceIte, eGTuple, nat_of .i64 h24, h26, c30, h36, h37, h38]
            rcases out with _ | ⟨q0, q1⟩
            · try simp only [List.map_nil, accI, accN]
              exact ⟨⟨((c, (l2, (IntKind.i64.wrap (i + 1)))), 0), H33⟩, ren_mk [(0, 18)] (by rfl) (rf_upd (by rfl) (rf_upd (by rfl) (rf_upd (ren_accP (by rfl) q39) (rf_upd (by rfl) (rf_no _))))) (rh_upd (rh_accP (by rfl) q39 (by rfl)) (rh_no _)), Nat.lt_succ_self _⟩
            · try simp only [List.map_cons, accI, accN]
              exact ⟨⟨((c, (l2, (IntKind.i64.wrap (i + 1)))), (g + 1)), H33⟩, ren_mk [(0, 0)] (by rfl) (rf_upd (by rfl) (rf_upd (by rfl) (rf_upd (ren_accP (by rfl) q39) (rf_upd (by rfl) (rf_no _))))) (rh_upd (rh_accP (by rfl) q39 (by rfl)) (rh_no _)), Nat.lt_succ_self _⟩
        · try simp -implicitDefEqProofs only [go_sem, ↓reduceIte, c20]
          obtain rfl := Option.some.inj H21
          exact ⟨⟨⟨out, rfl⟩, g⟩, ren_mk [(0, 0)] (by rfl) (rf_upd (ren_acc (by rfl)) (rf_no _)) (rh_upd (rh_acc (by rfl) (by rfl)) (rh_no _))⟩
  · rintro ⟨⟨out3, he40⟩, g3⟩
    replace he40 := he40.symm
    subst he40
    try dsimp only at H6
    refine runR_take tab_ok fol 1 ?_
    try simp -implicitDefEqProofs only [go_sem, Nat.reduceAdd, ↓reduceIte]
    obtain rfl := Option.some.inj H6
    exact end_pure (by first | (simp -implicitDefEqProofs only [go_sem, ↓reduceIte, Try.f25] <;> rfl) | rfl) (by first | rfl | (simp -implicitDefEqProofs only [go_sem, ↓reduceIte]; done) | (simp -implicitDefEqProofs only [go_sem, ↓reduceIte]; rfl)) rfl (by intro h; first | rfl | cases h)
end Go.Proofs.Ytdckfddlcmkdlaa.Ab
