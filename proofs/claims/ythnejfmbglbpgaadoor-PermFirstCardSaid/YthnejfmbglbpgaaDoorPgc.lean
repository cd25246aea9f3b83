/-
  Functions, read off the code.
-/
import Derived.Test.YthnejfmbglbpgaaDoorPgb
namespace Go.Proofs.YthnejfmbglbpgaaDoor.Ab
open Go.RowKit
def perm_groups_L1 (n : Nat) (l : List GFile) (user : ByteArray) (f : GFile) (acl : List GEntry) : Nat → (List GEntry × Int) → Option (List GEntry)
  | 0, _ => none
  | c + 1, (out, t14) =>
    (if (decide (t14 < (acl.length : Int))) then
      (idx acl t14).bind fun x2 =>
      (if x2.default then
        perm_groups_L1 n l user f acl c (out, (IntKind.i64.wrap (t14 + 1)))
      else
        (if (x2.kind == 3) then
          (perm_in n l user f.group).bind fun t282 =>
          (if t282 then
            (app out [(⟨x2.kind, false, x2.name, x2.bits⟩ : GEntry)]).bind fun l2 =>
            perm_groups_L1 n l user f acl c (l2, (IntKind.i64.wrap (t14 + 1)))
          else
            (if (x2.kind == 4) then
              (perm_in n l user x2.name).bind fun t393 =>
              (if t393 then
                (app out [(⟨x2.kind, false, x2.name, x2.bits⟩ : GEntry)]).bind fun l3 =>
                perm_groups_L1 n l user f acl c (l3, (IntKind.i64.wrap (t14 + 1)))
              else
                perm_groups_L1 n l user f acl c (out, (IntKind.i64.wrap (t14 + 1))))
            else
              perm_groups_L1 n l user f acl c (out, (IntKind.i64.wrap (t14 + 1)))))
        else
          (if (x2.kind == 4) then
            (perm_in n l user x2.name).bind fun t394 =>
            (if t394 then
              (app out [(⟨x2.kind, false, x2.name, x2.bits⟩ : GEntry)]).bind fun l4 =>
              perm_groups_L1 n l user f acl c (l4, (IntKind.i64.wrap (t14 + 1)))
            else
              perm_groups_L1 n l user f acl c (out, (IntKind.i64.wrap (t14 + 1))))
          else
            perm_groups_L1 n l user f acl c (out, (IntKind.i64.wrap (t14 + 1))))))
    else
      some out)
def perm_groups_L1_f (n : Nat) (l : List GFile) (user : ByteArray) (f : GFile) (_ : List GEntry) (st : List GEntry) (x2 : GEntry) (k : List GEntry → Option (List GEntry)) : Option (List GEntry) :=
  match st with
  | out =>
    (if x2.default then
      k out
    else
      (if (x2.kind == 3) then
        (perm_in n l user f.group).bind fun t282 =>
        (if t282 then
          (app out [(⟨x2.kind, false, x2.name, x2.bits⟩ : GEntry)]).bind fun l2 =>
          k l2
        else
          (if (x2.kind == 4) then
            (perm_in n l user x2.name).bind fun t393 =>
            (if t393 then
              (app out [(⟨x2.kind, false, x2.name, x2.bits⟩ : GEntry)]).bind fun l3 =>
              k l3
            else
              k out)
          else
            k out))
      else
        (if (x2.kind == 4) then
          (perm_in n l user x2.name).bind fun t394 =>
          (if t394 then
            (app out [(⟨x2.kind, false, x2.name, x2.bits⟩ : GEntry)]).bind fun l4 =>
            k l4
          else
            k out)
        else
          k out)))
def perm_groups_L1_e (_ : Nat) (_ : List GFile) (_ : ByteArray) (_ : GFile) (_ : List GEntry) (st : List GEntry) : Option (List GEntry) :=
  match st with
  | out => some out
theorem perm_groups_L1_list (n : Nat) (l : List GFile) (user : ByteArray) (f : GFile) (acl : List GEntry) (hx : acl.length < 4611686018427387904) (c : Nat) (st : List GEntry) (ix : Nat) (hi : ix ≤ acl.length) (hc : acl.length - ix < c) : perm_groups_L1 n l user f acl c (match st, (ix : Int) with | out, ix => (out, ix)) = foldK (perm_groups_L1_f n l user f acl) (perm_groups_L1_e n l user f acl) (acl.drop ix) st :=
  loop_list (fun c st ix => perm_groups_L1 n l user f acl c (match st, ix with | out, ix => (out, ix))) acl (perm_groups_L1_f n l user f acl) (perm_groups_L1_e n l user f acl) (fun _ _ _ => rfl) hx c st ix hi hc

def perm_groups (n : Nat) (l : List GFile) (user : ByteArray) (f : GFile) (acl : List GEntry) : Option (List GEntry) :=
  (
    perm_groups_L1 n l user f acl n ([], 0) : Option (List GEntry)).bind fun out3 =>
  some out3
theorem perm_groups_ok {n : Nat} {l : List GFile} {user : ByteArray} {f : GFile} {acl : List GEntry} {r : List GEntry} (H : perm_groups n l user f acl = some r) : PureOK Tryd.prog 13 [D.sl (List.map eGFile l), D.v (.string user), D.ag (eGFile f), D.sl (List.map eGEntry acl)] (D.sl (List.map eGEntry r)) true := by
  unfold perm_groups at H
  refine pure_runR (tab := tab) tab_ok Tryd.func13 rfl (by kernel_rfl) (by kernel_rfl) (by simp [Tryd.f13]) ?_
  refine runR_seq ?_
  refine runR_take tab_ok fol 1 ?_
  try simp -implicitDefEqProofs only [go_sem, Nat.reduceAdd, eGFile]
  refine runR_seq ?_
  refine runR_take tab_ok fol 1 ?_
  try simp -implicitDefEqProofs only [go_sem, Nat.reduceAdd]
  refine runR_seq ?_
  refine runR_seq ?_
  refine runR_take tab_ok fol 1 ?_
  try simp -implicitDefEqProofs only [go_sem, Nat.reduceEqDiff, Nat.reduceAdd, ↓reduceIte]
  obtain ⟨e_, E1, H2⟩ := bind_inv H
  refine runR_join (α := { y : List GEntry // e_ = y } × Nat) (fun | ⟨⟨out3, _⟩, g3⟩ => ⟨upd 9 (accV 0 g3 (List.map eGEntry out3)) noFr, upd 0 (accO 4 g3 false (List.map eGEntry out3)) noHp, 1⟩) ?_ ?_
  · refine runR_block ?_
    refine runR_loop (α := { q : (Nat × (List GEntry × Int)) × Nat // perm_groups_L1 n l user f acl q.1.1 q.1.2 = some e_ }) (fun | ⟨⟨⟨c, ⟨out, t14⟩⟩, g⟩, _⟩ => ⟨upd 0 (.d (.sl (List.map eGFile l)) true) (upd 1 (.v (.string user)) (upd 6 (.pt 0 0) (upd 9 (accV 1 g (List.map eGEntry out)) (upd 12 (.d (.sl (List.map eGEntry acl)) true) (upd 13 (.v (.int .i64 (acl.length : Int))) (upd 14 (.v (.int .i64 t14)) noFr)))))), upd 0 (some (.bx [.v (.int .i64 f.kind), .v (.string f.name), .d (.sl (List.map eS f.users)) true, .v (.string f.owner), .v (.string f.group), .d (.sl (List.map eGEntry f.acl)) true, .v (.int .i64 f.at_)])) (upd 1 (accO 4 g false (List.map eGEntry out)) noHp), 2⟩) (fun q => q.1.1.1) ⟨((n, ([], 0)), 0), E1⟩ ?_ ?_
    · exact ren_mk [(0, 0)] (by rfl) (rf_upd (by rfl) (rf_upd (by rfl) (rf_upd (by rfl) (rf_upd (by rfl) (rf_upd (by rfl) (rf_upd (by rfl) (rf_upd (by rfl) (rf_no _)))))))) (rh_upd (rh_one (by rfl) (by rfl) (by rfl)) (rh_upd rh_accN (rh_no _)))
    · rintro ⟨⟨⟨c, ⟨out, t14⟩⟩, g⟩, L3⟩
      rcases c with _ | c
      · exact nomatch (show none = some _ from L3)
      · unfold perm_groups_L1 at L3
        try dsimp only at L3
        refine runR_take tab_ok fol 1 ?_
        try simp -implicitDefEqProofs only [go_sem, Nat.reduceEqDiff, Nat.reduceAdd, reduceCtorEq, ↓reduceIte]
        rcases ite_inv L3 with ⟨c32, H33⟩ | ⟨c32, H33⟩
        · obtain ⟨x2, b34, H35⟩ := bind_inv H33
          obtain ⟨h36, h37⟩ := idx_inv b34
          try simp only [Int.reduceToNat, Int.toNat_natCast] at h37
          have h38 := map_at eGEntry h37
          try simp -implicitDefEqProofs only [go_sem, Nat.reduceEqDiff, Nat.reduceAdd, reduceCtorEq, ↓reduceIte, eGEntry, c32, nat_of .i64 h36, h38]
          rcases ite_inv H35 with ⟨c40, H41⟩ | ⟨c40, H41⟩
          · try simp -implicitDefEqProofs only [go_sem, Nat.reduceEqDiff, Nat.reduceAdd, reduceCtorEq, ↓reduceIte, c40]
            exact ⟨⟨((c, (out, (IntKind.i64.wrap (t14 + 1)))), g), H41⟩, ren_mk [(0, 0), (1, 1)] (by rfl) (rf_upd (by rfl) (rf_upd (by rfl) (rf_upd (by rfl) (rf_upd (ren_acc (by rfl)) (rf_upd (by rfl) (rf_upd (by rfl) (rf_upd (by rfl) (rf_no _)))))))) (rh_upd (rh_one (by rfl) (by rfl) (by rfl)) (rh_upd (rh_acc (by rfl) (by rfl)) (rh_no _))), Nat.lt_succ_self _⟩
          · try simp -implicitDefEqProofs only [go_sem, Nat.reduceEqDiff, Nat.reduceAdd, reduceCtorEq, ↓reduceIte, c40]
            rcases ite_inv H41 with ⟨c42, H43⟩ | ⟨c42, H43⟩
            · obtain ⟨t282, b44, H45⟩ := bind_inv H43
              try simp -implicitDefEqProofs only [go_sem, Nat.reduceEqDiff, Nat.reduceAdd, reduceCtorEq, ↓reduceIte, c42]
              refine onCall_pure (by first | rfl | (simp -implicitDefEqProofs only [go_sem, Bool.false_and, Int.reduceToNat, Int.reduceLT, Int.reduceLE, Int.reduceBEq, Int.reduceBNe, Nat.reduceLT, Nat.reduceBEq, Int.reduceEq, Nat.reduceEqDiff, Nat.reduceAdd, Nat.reduceSub, Nat.reduceMul, Nat.reduceLeDiff, reduceCtorEq, ↓reduceIte, eGEntry, eGFile, c32, nat_of .i64 h36, h38, c40, c42]; done) | (simp -implicitDefEqProofs only [go_sem, Bool.false_and, Int.reduceToNat, Int.reduceLT, Int.reduceLE, Int.reduceBEq, Int.reduceBNe, Nat.reduceLT, Nat.reduceBEq, Int.reduceEq, Nat.reduceEqDiff, Nat.reduceAdd, Nat.reduceSub, Nat.reduceMul, Nat.reduceLeDiff, reduceCtorEq, ↓reduceIte, eGEntry, eGFile, c32, nat_of .i64 h36, h38, c40, c42]; rfl)) (perm_in_ok b44) (by first | exact .inr rfl | exact .inl rfl) ?_
              try simp -implicitDefEqProofs only [go_sem, Bool.false_and, Nat.reduceEqDiff, Nat.reduceAdd, ↓reduceIte]
              rcases ite_inv H45 with ⟨c46, H47⟩ | ⟨c46, H47⟩
              · obtain ⟨l2, b48, H49⟩ := bind_inv H47
                obtain ⟨h50, h51⟩ := app_inv b48
                have h50 : out.length + 1 ≤ 4294967296 := h50
                have h52 : List.map eGEntry out ++ [[.v (.int .i64 x2.kind), .v (.bool false), .v (.string x2.name), .v (.int .i64 x2.bits)]] = List.map eGEntry l2 := app_map eGEntry h51
                have h53 : out.length + 1 = l2.length := app_len h51
                have h54 : l2.length ≤ 4294967296 := by omega
                have q55 : 0 < l2.length := by omega
                try simp -implicitDefEqProofs only [go_sem, Nat.reduceLT, Nat.reduceEqDiff, Nat.reduceAdd, Nat.reduceMul, Nat.reduceLeDiff, reduceCtorEq, ↓reduceIte, c46, h52, h53, h54]
                rcases out with _ | ⟨q0, q1⟩
                · try simp only [List.map_nil, accI, accN]
                  exact ⟨⟨((c, (l2, (IntKind.i64.wrap (t14 + 1)))), 0), H49⟩, ren_mk [(0, 0), (1, 34)] (by rfl) (rf_upd (by rfl) (rf_upd (by rfl) (rf_upd (by rfl) (rf_upd (by first | exact ren_accP (by rfl) q55 | rfl) (rf_upd (by rfl) (rf_upd (by rfl) (rf_upd (by rfl) (rf_no _)))))))) (rh_upd (rh_one (by rfl) (by rfl) (by rfl)) (rh_upd (by first | exact rh_accP (by rfl) q55 (by rfl) | exact rh_one (by rfl) (by rfl) (by rfl)) (rh_no _))), Nat.lt_succ_self _⟩
                · try simp only [List.map_cons, accI, accN]
                  exact ⟨⟨((c, (l2, (IntKind.i64.wrap (t14 + 1)))), (g + 1)), H49⟩, ren_mk [(0, 0), (1, 1)] (by rfl) (rf_upd (by rfl) (rf_upd (by rfl) (rf_upd (by rfl) (rf_upd (by first | exact ren_accP (by rfl) q55 | rfl) (rf_upd (by rfl) (rf_upd (by rfl) (rf_upd (by rfl) (rf_no _)))))))) (rh_upd (rh_one (by rfl) (by rfl) (by rfl)) (rh_upd (by first | exact rh_accP (by rfl) q55 (by rfl) | exact rh_one (by rfl) (by rfl) (by rfl)) (rh_no _))), Nat.lt_succ_self _⟩
              · try simp -implicitDefEqProofs only [go_sem, Nat.reduceEqDiff, Nat.reduceAdd, reduceCtorEq, ↓reduceIte, c46]
                rcases ite_inv H47 with ⟨c56, H57⟩ | ⟨c56, H57⟩
                · obtain ⟨t393, b58, H59⟩ := bind_inv H57
                  try simp -implicitDefEqProofs only [go_sem, Nat.reduceEqDiff, Nat.reduceAdd, reduceCtorEq, ↓reduceIte, c56]
                  refine onCall_pure (by first | rfl | (simp -implicitDefEqProofs only [go_sem, Bool.false_and, Int.reduceToNat, Int.reduceLT, Int.reduceLE, Int.reduceBEq, Int.reduceBNe, Nat.reduceLT, Nat.reduceBEq, Int.reduceEq, Nat.reduceEqDiff, Nat.reduceAdd, Nat.reduceSub, Nat.reduceMul, Nat.reduceLeDiff, reduceCtorEq, ↓reduceIte, eGEntry, eGFile, c32, nat_of .i64 h36, h38, c40, c42, c46, c56]; done) | (simp -implicitDefEqProofs only [go_sem, Bool.false_and, Int.reduceToNat, Int.reduceLT, Int.reduceLE, Int.reduceBEq, Int.reduceBNe, Nat.reduceLT, Nat.reduceBEq, Int.reduceEq, Nat.reduceEqDiff, Nat.reduceAdd, Nat.reduceSub, Nat.reduceMul, Nat.reduceLeDiff, reduceCtorEq, ↓reduceIte, eGEntry, eGFile, c32, nat_of .i64 h36, h38, c40, c42, c46, c56]; rfl)) (perm_in_ok b58) (by first | exact .inr rfl | exact .inl rfl) ?_
                  try simp -implicitDefEqProofs only [go_sem, Bool.false_and, Nat.reduceEqDiff, Nat.reduceAdd, ↓reduceIte]
                  rcases ite_inv H59 with ⟨c60, H61⟩ | ⟨c60, H61⟩
                  · obtain ⟨l3, b62, H63⟩ := bind_inv H61
                    obtain ⟨h64, h65⟩ := app_inv b62
                    have h64 : out.length + 1 ≤ 4294967296 := h64
                    have h66 : List.map eGEntry out ++ [[.v (.int .i64 x2.kind), .v (.bool false), .v (.string x2.name), .v (.int .i64 x2.bits)]] = List.map eGEntry l3 := app_map eGEntry h65
                    have h67 : out.length + 1 = l3.length := app_len h65
                    have h68 : l3.length ≤ 4294967296 := by omega
                    have q69 : 0 < l3.length := by omega
                    try simp -implicitDefEqProofs only [go_sem, Nat.reduceLT, Nat.reduceEqDiff, Nat.reduceAdd, Nat.reduceMul, Nat.reduceLeDiff, reduceCtorEq, ↓reduceIte, c60, h66, h67, h68]
                    rcases out with _ | ⟨q0, q1⟩
                    · try simp only [List.map_nil, accI, accN]
                      exact ⟨⟨((c, (l3, (IntKind.i64.wrap (t14 + 1)))), 0), H63⟩, ren_mk [(0, 0), (1, 34)] (by rfl) (rf_upd (by rfl) (rf_upd (by rfl) (rf_upd (by rfl) (rf_upd (by first | exact ren_accP (by rfl) q69 | rfl) (rf_upd (by rfl) (rf_upd (by rfl) (rf_upd (by rfl) (rf_no _)))))))) (rh_upd (rh_one (by rfl) (by rfl) (by rfl)) (rh_upd (by first | exact rh_accP (by rfl) q69 (by rfl) | exact rh_one (by rfl) (by rfl) (by rfl)) (rh_no _))), Nat.lt_succ_self _⟩
                    · try simp only [List.map_cons, accI, accN]
                      exact ⟨⟨((c, (l3, (IntKind.i64.wrap (t14 + 1)))), (g + 1)), H63⟩, ren_mk [(0, 0), (1, 1)] (by rfl) (rf_upd (by rfl) (rf_upd (by rfl) (rf_upd (by rfl) (rf_upd (by first | exact ren_accP (by rfl) q69 | rfl) (rf_upd (by rfl) (rf_upd (by rfl) (rf_upd (by rfl) (rf_no _)))))))) (rh_upd (rh_one (by rfl) (by rfl) (by rfl)) (rh_upd (by first | exact rh_accP (by rfl) q69 (by rfl) | exact rh_one (by rfl) (by rfl) (by rfl)) (rh_no _))), Nat.lt_succ_self _⟩
                  · try simp -implicitDefEqProofs only [go_sem, Nat.reduceEqDiff, Nat.reduceAdd, reduceCtorEq, ↓reduceIte, c60]
                    exact ⟨⟨((c, (out, (IntKind.i64.wrap (t14 + 1)))), g), H61⟩, ren_mk [(0, 0), (1, 1)] (by rfl) (rf_upd (by rfl) (rf_upd (by rfl) (rf_upd (by rfl) (rf_upd (ren_acc (by rfl)) (rf_upd (by rfl) (rf_upd (by rfl) (rf_upd (by rfl) (rf_no _)))))))) (rh_upd (rh_one (by rfl) (by rfl) (by rfl)) (rh_upd (rh_acc (by rfl) (by rfl)) (rh_no _))), Nat.lt_succ_self _⟩
                · try simp -implicitDefEqProofs only [go_sem, Nat.reduceEqDiff, Nat.reduceAdd, reduceCtorEq, ↓reduceIte, c56]
                  exact ⟨⟨((c, (out, (IntKind.i64.wrap (t14 + 1)))), g), H57⟩, ren_mk [(0, 0), (1, 1)] (by rfl) (rf_upd (by rfl) (rf_upd (by rfl) (rf_upd (by rfl) (rf_upd (ren_acc (by rfl)) (rf_upd (by rfl) (rf_upd (by rfl) (rf_upd (by rfl) (rf_no _)))))))) (rh_upd (rh_one (by rfl) (by rfl) (by rfl)) (rh_upd (rh_acc (by rfl) (by rfl)) (rh_no _))), Nat.lt_succ_self _⟩
            · try simp -implicitDefEqProofs only [go_sem, Nat.reduceEqDiff, Nat.reduceAdd, reduceCtorEq, ↓reduceIte, c42]
              rcases ite_inv H43 with ⟨c70, H71⟩ | ⟨c70, H71⟩
              · obtain ⟨t394, b72, H73⟩ := bind_inv H71
                try simp -implicitDefEqProofs only [go_sem, Nat.reduceEqDiff, Nat.reduceAdd, reduceCtorEq, ↓reduceIte, c70]
                refine onCall_pure (by first | rfl | (simp -implicitDefEqProofs only [go_sem, Bool.false_and, Int.reduceToNat, Int.reduceLT, Int.reduceLE, Int.reduceBEq, Int.reduceBNe, Nat.reduceLT, Nat.reduceBEq, Int.reduceEq, Nat.reduceEqDiff, Nat.reduceAdd, Nat.reduceSub, Nat.reduceMul, Nat.reduceLeDiff, reduceCtorEq, ↓reduceIte, eGEntry, eGFile, c32, nat_of .i64 h36, h38, c40, c42, c70]; done) | (simp -implicitDefEqProofs only [go_sem, Bool.false_and, Int.reduceToNat, Int.reduceLT, Int.reduceLE, Int.reduceBEq, Int.reduceBNe, Nat.reduceLT, Nat.reduceBEq, Int.reduceEq, Nat.reduceEqDiff, Nat.reduceAdd, Nat.reduceSub, Nat.reduceMul, Nat.reduceLeDiff, reduceCtorEq, ↓reduceIte, eGEntry, eGFile, c32, nat_of .i64 h36, h38, c40, c42, c70]; rfl)) (perm_in_ok b72) (by first | exact .inr rfl | exact .inl rfl) ?_
                try simp -implicitDefEqProofs only [go_sem, Bool.false_and, Nat.reduceEqDiff, Nat.reduceAdd, ↓reduceIte]
                rcases ite_inv H73 with ⟨c74, H75⟩ | ⟨c74, H75⟩
                · obtain ⟨l4, b76, H77⟩ := bind_inv H75
                  obtain ⟨h78, h79⟩ := app_inv b76
                  have h78 : out.length + 1 ≤ 4294967296 := h78
                  have h80 : List.map eGEntry out ++ [[.v (.int .i64 x2.kind), .v (.bool false), .v (.string x2.name), .v (.int .i64 x2.bits)]] = List.map eGEntry l4 := app_map eGEntry h79
                  have h81 : out.length + 1 = l4.length := app_len h79
                  have h82 : l4.length ≤ 4294967296 := by omega
                  have q83 : 0 < l4.length := by omega
                  try simp -implicitDefEqProofs only [go_sem, Nat.reduceLT, Nat.reduceEqDiff, Nat.reduceAdd, Nat.reduceMul, Nat.reduceLeDiff, reduceCtorEq, ↓reduceIte, c74, h80, h81, h82]
                  rcases out with _ | ⟨q0, q1⟩
                  · try simp only [List.map_nil, accI, accN]
                    exact ⟨⟨((c, (l4, (IntKind.i64.wrap (t14 + 1)))), 0), H77⟩, ren_mk [(0, 0), (1, 34)] (by rfl) (rf_upd (by rfl) (rf_upd (by rfl) (rf_upd (by rfl) (rf_upd (by first | exact ren_accP (by rfl) q83 | rfl) (rf_upd (by rfl) (rf_upd (by rfl) (rf_upd (by rfl) (rf_no _)))))))) (rh_upd (rh_one (by rfl) (by rfl) (by rfl)) (rh_upd (by first | exact rh_accP (by rfl) q83 (by rfl) | exact rh_one (by rfl) (by rfl) (by rfl)) (rh_no _))), Nat.lt_succ_self _⟩
                  · try simp only [List.map_cons, accI, accN]
                    exact ⟨⟨((c, (l4, (IntKind.i64.wrap (t14 + 1)))), (g + 1)), H77⟩, ren_mk [(0, 0), (1, 1)] (by rfl) (rf_upd (by rfl) (rf_upd (by rfl) (rf_upd (by rfl) (rf_upd (by first | exact ren_accP (by rfl) q83 | rfl) (rf_upd (by rfl) (rf_upd (by rfl) (rf_upd (by rfl) (rf_no _)))))))) (rh_upd (rh_one (by rfl) (by rfl) (by rfl)) (rh_upd (by first | exact rh_accP (by rfl) q83 (by rfl) | exact rh_one (by rfl) (by rfl) (by rfl)) (rh_no _))), Nat.lt_succ_self _⟩
                · try simp -implicitDefEqProofs only [go_sem, Nat.reduceEqDiff, Nat.reduceAdd, reduceCtorEq, ↓reduceIte, c74]
                  exact ⟨⟨((c, (out, (IntKind.i64.wrap (t14 + 1)))), g), H75⟩, ren_mk [(0, 0), (1, 1)] (by rfl) (rf_upd (by rfl) (rf_upd (by rfl) (rf_upd (by rfl) (rf_upd (ren_acc (by rfl)) (rf_upd (by rfl) (rf_upd (by rfl) (rf_upd (by rfl) (rf_no _)))))))) (rh_upd (rh_one (by rfl) (by rfl) (by rfl)) (rh_upd (rh_acc (by rfl) (by rfl)) (rh_no _))), Nat.lt_succ_self _⟩
              · try simp -implicitDefEqProofs only [go_sem, Nat.reduceEqDiff, Nat.reduceAdd, reduceCtorEq, ↓reduceIte, c70]
                exact ⟨⟨((c, (out, (IntKind.i64.wrap (t14 + 1)))), g), H71⟩, ren_mk [(0, 0), (1, 1)] (by rfl) (rf_upd (by rfl) (rf_upd (by rfl) (rf_upd (by rfl) (rf_upd (ren_acc (by rfl)) (rf_upd (by rfl) (rf_upd (by rfl) (rf_upd (by rfl) (rf_no _)))))))) (rh_upd (rh_one (by rfl) (by rfl) (by rfl)) (rh_upd (rh_acc (by rfl) (by rfl)) (rh_no _))), Nat.lt_succ_self _⟩
        · try simp -implicitDefEqProofs only [go_sem, ↓reduceIte, c32]
          obtain rfl := Option.some.inj H33
          exact ⟨⟨⟨out, rfl⟩, g⟩, ren_mk [(0, 1)] (by rfl) (rf_upd (ren_acc (by rfl)) (rf_no _)) (rh_upd (rh_acc (by rfl) (by rfl)) (rh_no _))⟩
  · rintro ⟨⟨out3, he84⟩, g3⟩
    replace he84 := he84.symm
    subst he84
    try dsimp only at H2
    refine runR_take tab_ok fol 1 ?_
    try simp -implicitDefEqProofs only [go_sem, Nat.reduceAdd, ↓reduceIte]
    obtain rfl := Option.some.inj H2
    exact end_pure (by first | (simp -implicitDefEqProofs only [go_sem, ↓reduceIte, Tryd.f13] <;> rfl) | rfl) (by first | rfl | (simp -implicitDefEqProofs only [go_sem, ↓reduceIte]; done) | (simp -implicitDefEqProofs only [go_sem, ↓reduceIte]; rfl)) rfl (by intro h; first | rfl | cases h)
def perm_Can_c2 (_ : Nat) (x : GEntry) (c2 : Int) : Option Bool :=
  some (decide (0 < (IntKind.i64.wrap (an x.bits c2 : Int))))
theorem perm_Can_c2_ok {n : Nat} {x : GEntry} {c2 : Int} {r : Bool} (H : perm_Can_c2 n x c2 = some r) : PureOK Tryd.prog 15 [D.ag (eGEntry x), D.pt [D.v (.int .i64 c2)] 0] (D.v (.bool r)) true := by
  unfold perm_Can_c2 at H
  refine pure_runR (tab := tab) tab_ok Tryd.func15 rfl (by kernel_rfl) (by kernel_rfl) (by simp [Tryd.f15]) ?_
  refine runR_take tab_ok fol 1 ?_
  try simp -implicitDefEqProofs only [go_sem, Nat.reduceEqDiff, Nat.reduceAdd, reduceCtorEq, ↓reduceIte, eGEntry]
  obtain rfl := Option.some.inj H
  exact end_pure (by first | (simp -implicitDefEqProofs only [go_sem, ↓reduceIte, Tryd.f15] <;> rfl) | rfl) (by first | rfl | (simp -implicitDefEqProofs only [go_sem, Bool.false_and, Int.reduceToNat, Int.reduceLT, Int.reduceLE, Int.reduceBEq, Int.reduceBNe, Nat.reduceLT, Nat.reduceBEq, Int.reduceEq, Nat.reduceEqDiff, Nat.reduceAdd, Nat.reduceSub, Nat.reduceMul, Nat.reduceLeDiff, reduceCtorEq, ↓reduceIte, eGEntry, eGFile]; done) | (simp -implicitDefEqProofs only [go_sem, Bool.false_and, Int.reduceToNat, Int.reduceLT, Int.reduceLE, Int.reduceBEq, Int.reduceBNe, Nat.reduceLT, Nat.reduceBEq, Int.reduceEq, Nat.reduceEqDiff, Nat.reduceAdd, Nat.reduceSub, Nat.reduceMul, Nat.reduceLeDiff, reduceCtorEq, ↓reduceIte, eGEntry, eGFile]; rfl)) rfl (by intro h; first | rfl | cases h)
def slices_IndexFunc_Entry__perm_Can_c2_L1 (n : Nat) (s : List GEntry) (c2 : Int) : Nat → Int → Option ((Unit) ⊕ Int)
  | 0, _ => none
  | c + 1, t8 =>
    (if (decide (t8 < (s.length : Int))) then
      (idx s t8).bind fun x2 =>
      (perm_Can_c2 n x2 c2).bind fun t162 =>
      (if t162 then
        some (.inr t8)
      else
        slices_IndexFunc_Entry__perm_Can_c2_L1 n s c2 c (IntKind.i64.wrap (t8 + 1)))
    else
      some (.inl ()))

def slices_IndexFunc_Entry__perm_Can_c2 (n : Nat) (s : List GEntry) (c2 : Int) : Option Int :=
  (
    slices_IndexFunc_Entry__perm_Can_c2_L1 n s c2 n 0 : Option ((Unit) ⊕ Int)).bind fun
    | .inl _ =>
      some (-1)
    | .inr r => some r
theorem slices_IndexFunc_Entry__perm_Can_c2_ok {n : Nat} {s : List GEntry} {c2 : Int} {r : Int} (H : slices_IndexFunc_Entry__perm_Can_c2 n s c2 = some r) : PureA Tryd.prog 28 [.d (D.sl (List.map eGEntry s)), .fn 15 [D.pt [D.v (.int .i64 c2)] 0]] (D.v (.int .i64 r)) true := by
  unfold slices_IndexFunc_Entry__perm_Can_c2 at H
  refine pureA_runR (tab := tab) tab_ok Tryd.func28 rfl (by kernel_rfl) (by kernel_rfl) (by simp [Tryd.f28]) ?_
  refine runR_seq ?_
  refine runR_take tab_ok fol 1 ?_
  try simp -implicitDefEqProofs only [go_sem]
  refine runR_seq ?_
  refine runR_seq ?_
  refine runR_take tab_ok fol 1 ?_
  try simp -implicitDefEqProofs only [go_sem, Nat.reduceAdd, reduceCtorEq, ↓reduceIte]
  obtain ⟨e_, E1, H2⟩ := bind_inv H
  refine runR_join (α := { y : Unit // e_ = .inl y }) (fun | ⟨_, _⟩ => ⟨noFr, noHp, 0⟩) ?_ ?_
  · refine runR_block ?_
    refine runR_loop (α := { q : Nat × Int // slices_IndexFunc_Entry__perm_Can_c2_L1 n s c2 q.1 q.2 = some e_ }) (fun | ⟨⟨c, t8⟩, _⟩ => ⟨upd 0 (.d (.sl (List.map eGEntry s)) true) (upd 1 (.fn 15 [.d (.pt [.v (.int .i64 c2)] 0) true]) (upd 7 (.v (.int .i64 (s.length : Int))) (upd 8 (.v (.int .i64 t8)) noFr))), noHp, 0⟩) (fun q => q.1.1) ⟨(n, 0), E1⟩ ?_ ?_
    · exact ren_mk [] (by rfl) (rf_upd (by rfl) (rf_upd (by rfl) (rf_upd (by rfl) (rf_upd (by rfl) (rf_no _))))) (rh_no _)
    · rintro ⟨⟨c, t8⟩, L3⟩
      rcases c with _ | c
      · exact nomatch (show none = some _ from L3)
      · unfold slices_IndexFunc_Entry__perm_Can_c2_L1 at L3
        try dsimp only at L3
        refine runR_take tab_ok fol 1 ?_
        try simp -implicitDefEqProofs only [go_sem, Nat.reduceEqDiff, reduceCtorEq, ↓reduceIte]
        rcases ite_inv L3 with ⟨c16, H17⟩ | ⟨c16, H17⟩
        · obtain ⟨x2, b18, H19⟩ := bind_inv H17
          obtain ⟨h20, h21⟩ := idx_inv b18
          try simp only [Int.reduceToNat, Int.toNat_natCast] at h21
          have h22 := map_at eGEntry h21
          obtain ⟨t162, b24, H25⟩ := bind_inv H19
          try simp -implicitDefEqProofs only [go_sem, Nat.reduceEqDiff, Nat.reduceAdd, reduceCtorEq, ↓reduceIte, eGEntry, c16, nat_of .i64 h20, h22]
          refine onCall_pure (by first | rfl | (simp -implicitDefEqProofs only [go_sem, Bool.false_and, Int.reduceToNat, Int.reduceLT, Int.reduceLE, Int.reduceBEq, Int.reduceBNe, Nat.reduceLT, Nat.reduceBEq, Int.reduceEq, Nat.reduceEqDiff, Nat.reduceAdd, Nat.reduceSub, Nat.reduceMul, Nat.reduceLeDiff, reduceCtorEq, ↓reduceIte, eGEntry, eGFile, c16, nat_of .i64 h20, h22]; done) | (simp -implicitDefEqProofs only [go_sem, Bool.false_and, Int.reduceToNat, Int.reduceLT, Int.reduceLE, Int.reduceBEq, Int.reduceBNe, Nat.reduceLT, Nat.reduceBEq, Int.reduceEq, Nat.reduceEqDiff, Nat.reduceAdd, Nat.reduceSub, Nat.reduceMul, Nat.reduceLeDiff, reduceCtorEq, ↓reduceIte, eGEntry, eGFile, c16, nat_of .i64 h20, h22]; rfl)) (perm_Can_c2_ok b24) (by first | exact .inr rfl | exact .inl rfl) ?_
          try simp -implicitDefEqProofs only [go_sem, Bool.false_and, ↓reduceIte]
          rcases ite_inv H25 with ⟨c26, H27⟩ | ⟨c26, H27⟩
          · try simp -implicitDefEqProofs only [go_sem, Nat.reduceEqDiff, Nat.reduceAdd, ↓reduceIte, c26]
            obtain rfl := Option.some.inj H27
            obtain rfl := Option.some.inj H2
            exact end_pure (by first | (simp -implicitDefEqProofs only [go_sem, ↓reduceIte, Tryd.f28] <;> rfl) | rfl) (by first | rfl | (simp -implicitDefEqProofs only [go_sem, Bool.false_and, Int.reduceToNat, Int.reduceLT, Int.reduceLE, Int.reduceBEq, Int.reduceBNe, Nat.reduceLT, Nat.reduceBEq, Int.reduceEq, Nat.reduceEqDiff, Nat.reduceAdd, Nat.reduceSub, Nat.reduceMul, Nat.reduceLeDiff, reduceCtorEq, ↓reduceIte, eGEntry, eGFile, c16, nat_of .i64 h20, h22, c26]; done) | (simp -implicitDefEqProofs only [go_sem, Bool.false_and, Int.reduceToNat, Int.reduceLT, Int.reduceLE, Int.reduceBEq, Int.reduceBNe, Nat.reduceLT, Nat.reduceBEq, Int.reduceEq, Nat.reduceEqDiff, Nat.reduceAdd, Nat.reduceSub, Nat.reduceMul, Nat.reduceLeDiff, reduceCtorEq, ↓reduceIte, eGEntry, eGFile, c16, nat_of .i64 h20, h22, c26]; rfl)) rfl (by intro h; first | rfl | cases h)
          · try simp -implicitDefEqProofs only [go_sem, Nat.reduceEqDiff, Nat.reduceAdd, reduceCtorEq, ↓reduceIte, c26]
            exact ⟨⟨(c, (IntKind.i64.wrap (t8 + 1))), H27⟩, ren_mk [] (by rfl) (rf_upd (by rfl) (rf_upd (by rfl) (rf_upd (by rfl) (rf_upd (by rfl) (rf_no _))))) (rh_no _), Nat.lt_succ_self _⟩
        · try simp -implicitDefEqProofs only [go_sem, ↓reduceIte, c16]
          obtain rfl := Option.some.inj H17
          exact ⟨⟨(), rfl⟩, ren_mk [] (by rfl) (rf_no _) (rh_no _)⟩
  · rintro ⟨_, he28⟩
    replace he28 := he28.symm
    subst he28
    try dsimp only at H2
    refine runR_take tab_ok fol 1 ?_
    try simp -implicitDefEqProofs only [go_sem]
    obtain rfl := Option.some.inj H2
    exact end_pure (by first | (simp -implicitDefEqProofs only [go_sem, ↓reduceIte, Tryd.f28] <;> rfl) | rfl) (by first | rfl | (simp -implicitDefEqProofs only [go_sem, Bool.false_and, Int.reduceToNat, Int.reduceLT, Int.reduceLE, Int.reduceBEq, Int.reduceBNe, Nat.reduceLT, Nat.reduceBEq, Int.reduceEq, Nat.reduceEqDiff, Nat.reduceAdd, Nat.reduceSub, Nat.reduceMul, Nat.reduceLeDiff, reduceCtorEq, ↓reduceIte, eGEntry, eGFile]; done) | (simp -implicitDefEqProofs only [go_sem, Bool.false_and, Int.reduceToNat, Int.reduceLT, Int.reduceLE, Int.reduceBEq, Int.reduceBNe, Nat.reduceLT, Nat.reduceBEq, Int.reduceEq, Nat.reduceEqDiff, Nat.reduceAdd, Nat.reduceSub, Nat.reduceMul, Nat.reduceLeDiff, reduceCtorEq, ↓reduceIte, eGEntry, eGFile]; rfl)) rfl (by intro h; first | rfl | cases h)
def slices_ContainsFunc_Entry__perm_Can_c2 (n : Nat) (s : List GEntry) (c2 : Int) : Option Bool :=
  (slices_IndexFunc_Entry__perm_Can_c2 n s c2).bind fun t7 =>
  some (decide (0 ≤ t7))
theorem slices_ContainsFunc_Entry__perm_Can_c2_ok {n : Nat} {s : List GEntry} {c2 : Int} {r : Bool} (H : slices_ContainsFunc_Entry__perm_Can_c2 n s c2 = some r) : PureA Tryd.prog 14 [.d (D.sl (List.map eGEntry s)), .fn 15 [D.pt [D.v (.int .i64 c2)] 0]] (D.v (.bool r)) true := by
  unfold slices_ContainsFunc_Entry__perm_Can_c2 at H
  refine pureA_runR (tab := tab) tab_ok Tryd.func14 rfl (by kernel_rfl) (by kernel_rfl) (by simp [Tryd.f14]) ?_
  refine runR_take tab_ok fol 1 ?_
  obtain ⟨t7, b1, H2⟩ := bind_inv H
  try simp -implicitDefEqProofs only [go_sem, Nat.reduceEqDiff, Nat.reduceAdd, reduceCtorEq, ↓reduceIte]
  refine onCall_pureA (by first | rfl | (simp -implicitDefEqProofs only [go_sem, Bool.false_and, Int.reduceToNat, Int.reduceLT, Int.reduceLE, Int.reduceBEq, Int.reduceBNe, Nat.reduceLT, Nat.reduceBEq, Int.reduceEq, Nat.reduceEqDiff, Nat.reduceAdd, Nat.reduceSub, Nat.reduceMul, Nat.reduceLeDiff, reduceCtorEq, ↓reduceIte, eGEntry, eGFile]; done) | (simp -implicitDefEqProofs only [go_sem, Bool.false_and, Int.reduceToNat, Int.reduceLT, Int.reduceLE, Int.reduceBEq, Int.reduceBNe, Nat.reduceLT, Nat.reduceBEq, Int.reduceEq, Nat.reduceEqDiff, Nat.reduceAdd, Nat.reduceSub, Nat.reduceMul, Nat.reduceLeDiff, reduceCtorEq, ↓reduceIte, eGEntry, eGFile]; rfl)) (slices_IndexFunc_Entry__perm_Can_c2_ok b1) (by first | exact .inr rfl | exact .inl rfl) ?_
  try simp -implicitDefEqProofs only [go_sem, Bool.false_and, Nat.reduceAdd, ↓reduceIte]
  obtain rfl := Option.some.inj H2
  exact end_pure (by first | (simp -implicitDefEqProofs only [go_sem, ↓reduceIte, Tryd.f14] <;> rfl) | rfl) (by first | rfl | (simp -implicitDefEqProofs only [go_sem, Bool.false_and, Int.reduceToNat, Int.reduceLT, Int.reduceLE, Int.reduceBEq, Int.reduceBNe, Nat.reduceLT, Nat.reduceBEq, Int.reduceEq, Nat.reduceEqDiff, Nat.reduceAdd, Nat.reduceSub, Nat.reduceMul, Nat.reduceLeDiff, reduceCtorEq, ↓reduceIte, eGEntry, eGFile]; done) | (simp -implicitDefEqProofs only [go_sem, Bool.false_and, Int.reduceToNat, Int.reduceLT, Int.reduceLE, Int.reduceBEq, Int.reduceBNe, Nat.reduceLT, Nat.reduceBEq, Int.reduceEq, Nat.reduceEqDiff, Nat.reduceAdd, Nat.reduceSub, Nat.reduceMul, Nat.reduceLeDiff, reduceCtorEq, ↓reduceIte, eGEntry, eGFile]; rfl)) rfl (by intro h; first | rfl | cases h)
def perm_Can (n : Nat) (t0 : List GFile) (t1 : ByteArray) (t2 : ByteArray) (t3 : Int) : Option Bool :=
  (perm_File n t0 t2).bind fun t21 =>
  (
    (if t21.2 then
      (perm_isUser n t0 t1).bind fun t29 =>
      (if t29 then
        (if (t3 != 4) then
          (if (t3 != 2) then
            some (t3 != 1)
          else
            some false)
        else
          some false)
      else
        some true)
    else
      some true) : Option (Bool)).bind fun t43 =>
  (if t43 then
    some false
  else
    (mask_Acl n t21.1.acl).bind fun t47 =>
    (perm_Can_c1 n 5 ({ data := #[] }) t47.1 t3).bind fun t52 =>
    (if (t21.1.owner.toList == t1.toList) then
      (perm_Can_c1 n 1 ({ data := #[] }) t47.1 t3).bind fun t58 =>
      some t58
    else
      (mask_Find n t47.1 false 2 t1).bind fun t62 =>
      (if t62.2 then
        (
          (if t52 then
            some (decide (0 < (IntKind.i64.wrap (an t62.1.bits t3 : Int))))
          else
            some false) : Option (Bool)).bind fun t8 =>
        some t8
      else
        (perm_groups n t0 t1 (⟨t21.1.kind, t21.1.name, t21.1.users, t21.1.owner, t21.1.group, t21.1.acl, t21.1.at_⟩ : GFile) t47.1).bind fun t78 =>
        (if (decide (0 < (t78.length : Int))) then
          (if t52 then
            (slices_ContainsFunc_Entry__perm_Can_c2 n t78 t3).bind fun t86 =>
            some t86
          else
            some false)
        else
          (perm_Can_c1 n 6 ({ data := #[] }) t47.1 t3).bind fun t89 =>
          some t89))))
theorem perm_Can_ok {n : Nat} {t0 : List GFile} {t1 : ByteArray} {t2 : ByteArray} {t3 : Int} {r : Bool} (H : perm_Can n t0 t1 t2 t3 = some r) : PureOK Tryd.prog 5 [D.sl (List.map eGFile t0), D.v (.string t1), D.v (.string t2), D.v (.int .i64 t3)] (D.v (.bool r)) true := by
  unfold perm_Can at H
  refine pure_runR (tab := tab) tab_ok Tryd.func5 rfl (by kernel_rfl) (by kernel_rfl) (by simp [Tryd.f5]) ?_
  refine runR_seq ?_
  refine runR_take tab_ok fol 1 ?_
  try simp -implicitDefEqProofs only [go_sem, Nat.reduceAdd]
  refine runR_seq ?_
  refine runR_take tab_ok fol 1 ?_
  obtain ⟨t21, b1, H2⟩ := bind_inv H
  try simp -implicitDefEqProofs only [go_sem, Nat.reduceEqDiff, Nat.reduceAdd, reduceCtorEq, ↓reduceIte]
  refine onCall_pure (by first | rfl | (simp -implicitDefEqProofs only [go_sem, Bool.false_and, Int.reduceToNat, Int.reduceLT, Int.reduceLE, Int.reduceBEq, Int.reduceBNe, Nat.reduceLT, Nat.reduceBEq, Int.reduceEq, Nat.reduceEqDiff, Nat.reduceAdd, Nat.reduceSub, Nat.reduceMul, Nat.reduceLeDiff, reduceCtorEq, ↓reduceIte, eGEntry, eGFile]; done) | (simp -implicitDefEqProofs only [go_sem, Bool.false_and, Int.reduceToNat, Int.reduceLT, Int.reduceLE, Int.reduceBEq, Int.reduceBNe, Nat.reduceLT, Nat.reduceBEq, Int.reduceEq, Nat.reduceEqDiff, Nat.reduceAdd, Nat.reduceSub, Nat.reduceMul, Nat.reduceLeDiff, reduceCtorEq, ↓reduceIte, eGEntry, eGFile]; rfl)) (perm_File_ok b1) (by first | exact .inr rfl | exact .inl rfl) ?_
  try simp -implicitDefEqProofs only [go_sem, Nat.reduceEqDiff, Nat.reduceAdd, ↓reduceIte, eGFile]
  refine runR_seq ?_
  refine runR_seq ?_
  obtain ⟨e_, E3, H4⟩ := bind_inv H2
  refine runR_join (α := { y : Bool // e_ = y }) (fun | ⟨t43, _⟩ => ⟨upd 0 (.d (.sl (List.map eGFile t0)) true) (upd 1 (.v (.string t1)) (upd 7 (.pt 0 0) (upd 9 (.pt 1 0) (upd 43 (.v (.bool t43)) noFr)))), upd 0 (some (.bx [.v (.int .i64 t3)])) (upd 1 (some (.bx [.v (.int .i64 t21.1.kind), .v (.string t21.1.name), .d (.sl (List.map eS t21.1.users)) true, .v (.string t21.1.owner), .v (.string t21.1.group), .d (.sl (List.map eGEntry t21.1.acl)) true, .v (.int .i64 t21.1.at_)])) noHp), 2⟩) ?_ ?_
  · refine runR_take tab_ok fol 1 ?_
    try simp -implicitDefEqProofs only [go_sem, Nat.reduceAdd, ↓reduceIte]
    rcases ite_inv E3 with ⟨c5, H6⟩ | ⟨c5, H6⟩
    · obtain ⟨t29, b7, H8⟩ := bind_inv H6
      try simp -implicitDefEqProofs only [go_sem, Nat.reduceEqDiff, Nat.reduceAdd, reduceCtorEq, ↓reduceIte, c5]
      refine onCall_pure (by first | rfl | (simp -implicitDefEqProofs only [go_sem, Bool.false_and, Int.reduceToNat, Int.reduceLT, Int.reduceLE, Int.reduceBEq, Int.reduceBNe, Nat.reduceLT, Nat.reduceBEq, Int.reduceEq, Nat.reduceEqDiff, Nat.reduceAdd, Nat.reduceSub, Nat.reduceMul, Nat.reduceLeDiff, reduceCtorEq, ↓reduceIte, eGEntry, eGFile, c5]; done) | (simp -implicitDefEqProofs only [go_sem, Bool.false_and, Int.reduceToNat, Int.reduceLT, Int.reduceLE, Int.reduceBEq, Int.reduceBNe, Nat.reduceLT, Nat.reduceBEq, Int.reduceEq, Nat.reduceEqDiff, Nat.reduceAdd, Nat.reduceSub, Nat.reduceMul, Nat.reduceLeDiff, reduceCtorEq, ↓reduceIte, eGEntry, eGFile, c5]; rfl)) (perm_isUser_ok b7) (by first | exact .inr rfl | exact .inl rfl) ?_
      try simp -implicitDefEqProofs only [go_sem, Bool.false_and, Nat.reduceEqDiff, Nat.reduceAdd, ↓reduceIte]
      rcases ite_inv H8 with ⟨c9, H10⟩ | ⟨c9, H10⟩
      · try simp -implicitDefEqProofs only [go_sem, Nat.reduceEqDiff, Nat.reduceAdd, reduceCtorEq, ↓reduceIte, c9]
        rcases ite_inv H10 with ⟨c11, H12⟩ | ⟨c11, H12⟩
        · try simp -implicitDefEqProofs only [go_sem, Nat.reduceEqDiff, Nat.reduceAdd, reduceCtorEq, ↓reduceIte, c11]
          rcases ite_inv H12 with ⟨c13, H14⟩ | ⟨c13, H14⟩
          · try simp -implicitDefEqProofs only [go_sem, Nat.reduceEqDiff, Nat.reduceAdd, reduceCtorEq, ↓reduceIte, c13]
            obtain rfl := Option.some.inj H14
            exact ⟨⟨(t3 != 1), rfl⟩, ren_mk [(0, 0), (1, 8)] (by rfl) (rf_upd (by rfl) (rf_upd (by rfl) (rf_upd (by rfl) (rf_upd (by rfl) (rf_upd (by rfl) (rf_no _)))))) (rh_upd (rh_one (by rfl) (by rfl) (by rfl)) (rh_upd (rh_one (by rfl) (by rfl) (by rfl)) (rh_no _)))⟩
          · try simp -implicitDefEqProofs only [go_sem, Nat.reduceEqDiff, Nat.reduceAdd, ↓reduceIte, c13]
            obtain rfl := Option.some.inj H14
            exact ⟨⟨false, rfl⟩, ren_mk [(0, 0), (1, 8)] (by rfl) (rf_upd (by rfl) (rf_upd (by rfl) (rf_upd (by rfl) (rf_upd (by rfl) (rf_upd (by rfl) (rf_no _)))))) (rh_upd (rh_one (by rfl) (by rfl) (by rfl)) (rh_upd (rh_one (by rfl) (by rfl) (by rfl)) (rh_no _)))⟩
        · try simp -implicitDefEqProofs only [go_sem, Nat.reduceEqDiff, Nat.reduceAdd, ↓reduceIte, c11]
          obtain rfl := Option.some.inj H12
          exact ⟨⟨false, rfl⟩, ren_mk [(0, 0), (1, 8)] (by rfl) (rf_upd (by rfl) (rf_upd (by rfl) (rf_upd (by rfl) (rf_upd (by rfl) (rf_upd (by rfl) (rf_no _)))))) (rh_upd (rh_one (by rfl) (by rfl) (by rfl)) (rh_upd (rh_one (by rfl) (by rfl) (by rfl)) (rh_no _)))⟩
      · try simp -implicitDefEqProofs only [go_sem, Nat.reduceEqDiff, Nat.reduceAdd, ↓reduceIte, c9]
        obtain rfl := Option.some.inj H10
        exact ⟨⟨true, rfl⟩, ren_mk [(0, 0), (1, 8)] (by rfl) (rf_upd (by rfl) (rf_upd (by rfl) (rf_upd (by rfl) (rf_upd (by rfl) (rf_upd (by rfl) (rf_no _)))))) (rh_upd (rh_one (by rfl) (by rfl) (by rfl)) (rh_upd (rh_one (by rfl) (by rfl) (by rfl)) (rh_no _)))⟩
    · try simp -implicitDefEqProofs only [go_sem, Nat.reduceEqDiff, Nat.reduceAdd, ↓reduceIte, c5]
      obtain rfl := Option.some.inj H6
      exact ⟨⟨true, rfl⟩, ren_mk [(0, 0), (1, 8)] (by rfl) (rf_upd (by rfl) (rf_upd (by rfl) (rf_upd (by rfl) (rf_upd (by rfl) (rf_upd (by rfl) (rf_no _)))))) (rh_upd (rh_one (by rfl) (by rfl) (by rfl)) (rh_upd (rh_one (by rfl) (by rfl) (by rfl)) (rh_no _)))⟩
  · rintro ⟨t43, he44⟩
    replace he44 := he44.symm
    subst he44
    try dsimp only at H4
    refine runR_take tab_ok fol 1 ?_
    try simp -implicitDefEqProofs only [go_sem, Nat.reduceEqDiff, reduceCtorEq, ↓reduceIte]
    rcases ite_inv H4 with ⟨c15, H16⟩ | ⟨c15, H16⟩
    · try simp -implicitDefEqProofs only [go_sem, Nat.reduceAdd, c15]
      obtain rfl := Option.some.inj H16
      exact end_pure (by first | (simp -implicitDefEqProofs only [go_sem, ↓reduceIte, Tryd.f5] <;> rfl) | rfl) (by first | rfl | (simp -implicitDefEqProofs only [go_sem, Bool.false_and, Int.reduceToNat, Int.reduceLT, Int.reduceLE, Int.reduceBEq, Int.reduceBNe, Nat.reduceLT, Nat.reduceBEq, Int.reduceEq, Nat.reduceEqDiff, Nat.reduceAdd, Nat.reduceSub, Nat.reduceMul, Nat.reduceLeDiff, reduceCtorEq, ↓reduceIte, eGEntry, eGFile, c15]; done) | (simp -implicitDefEqProofs only [go_sem, Bool.false_and, Int.reduceToNat, Int.reduceLT, Int.reduceLE, Int.reduceBEq, Int.reduceBNe, Nat.reduceLT, Nat.reduceBEq, Int.reduceEq, Nat.reduceEqDiff, Nat.reduceAdd, Nat.reduceSub, Nat.reduceMul, Nat.reduceLeDiff, reduceCtorEq, ↓reduceIte, eGEntry, eGFile, c15]; rfl)) rfl (by intro h; first | rfl | cases h)
    · try simp -implicitDefEqProofs only [go_sem, c15]
      refine runR_seq ?_
      refine runR_take tab_ok fol 1 ?_
      obtain ⟨t47, b17, H18⟩ := bind_inv H16
      try simp -implicitDefEqProofs only [go_sem, Nat.reduceEqDiff, Nat.reduceAdd, reduceCtorEq, ↓reduceIte]
      refine onCall_pure (by first | rfl | (simp -implicitDefEqProofs only [go_sem, Bool.false_and, Int.reduceToNat, Int.reduceLT, Int.reduceLE, Int.reduceBEq, Int.reduceBNe, Nat.reduceLT, Nat.reduceBEq, Int.reduceEq, Nat.reduceEqDiff, Nat.reduceAdd, Nat.reduceSub, Nat.reduceMul, Nat.reduceLeDiff, reduceCtorEq, ↓reduceIte, eGEntry, eGFile, c15]; done) | (simp -implicitDefEqProofs only [go_sem, Bool.false_and, Int.reduceToNat, Int.reduceLT, Int.reduceLE, Int.reduceBEq, Int.reduceBNe, Nat.reduceLT, Nat.reduceBEq, Int.reduceEq, Nat.reduceEqDiff, Nat.reduceAdd, Nat.reduceSub, Nat.reduceMul, Nat.reduceLeDiff, reduceCtorEq, ↓reduceIte, eGEntry, eGFile, c15]; rfl)) (mask_Acl_ok b17) (by first | exact .inr rfl | exact .inl rfl) ?_
      try simp -implicitDefEqProofs only [go_sem, Bool.false_and, Nat.reduceEqDiff, Nat.reduceAdd, ↓reduceIte]
      refine runR_seq ?_
      refine runR_take tab_ok fol 1 ?_
      try simp -implicitDefEqProofs only [go_sem, Nat.reduceEqDiff, Nat.reduceAdd, reduceCtorEq, ↓reduceIte]
      refine runR_seq ?_
      refine runR_take tab_ok fol 1 ?_
      obtain ⟨t52, b19, H20⟩ := bind_inv H18
      try simp -implicitDefEqProofs only [go_sem, Nat.reduceAdd, ↓reduceIte]
      refine onCall_pureA (by first | rfl | (simp -implicitDefEqProofs only [go_sem, Bool.false_and, Int.reduceToNat, Int.reduceLT, Int.reduceLE, Int.reduceBEq, Int.reduceBNe, Nat.reduceLT, Nat.reduceBEq, Int.reduceEq, Nat.reduceEqDiff, Nat.reduceAdd, Nat.reduceSub, Nat.reduceMul, Nat.reduceLeDiff, reduceCtorEq, ↓reduceIte, eGEntry, eGFile, c15]; done) | (simp -implicitDefEqProofs only [go_sem, Bool.false_and, Int.reduceToNat, Int.reduceLT, Int.reduceLE, Int.reduceBEq, Int.reduceBNe, Nat.reduceLT, Nat.reduceBEq, Int.reduceEq, Nat.reduceEqDiff, Nat.reduceAdd, Nat.reduceSub, Nat.reduceMul, Nat.reduceLeDiff, reduceCtorEq, ↓reduceIte, eGEntry, eGFile, c15]; rfl)) (PureA.of_pure (perm_Can_c1_ok b19)) (by first | exact .inr rfl | exact .inl rfl) ?_
      try simp -implicitDefEqProofs only [go_sem, Bool.false_and, Nat.reduceAdd, ↓reduceIte]
      refine runR_seq ?_
      refine runR_take tab_ok fol 1 ?_
      try simp -implicitDefEqProofs only [go_sem, Nat.reduceEqDiff, Nat.reduceAdd, reduceCtorEq, ↓reduceIte]
      rcases ite_inv H20 with ⟨c21, H22⟩ | ⟨c21, H22⟩
      · obtain ⟨t58, b23, H24⟩ := bind_inv H22
        try simp -implicitDefEqProofs only [go_sem, Nat.reduceEqDiff, Nat.reduceAdd, ↓reduceIte, c21]
        refine onCall_pureA (by first | rfl | (simp -implicitDefEqProofs only [go_sem, Bool.false_and, Int.reduceToNat, Int.reduceLT, Int.reduceLE, Int.reduceBEq, Int.reduceBNe, Nat.reduceLT, Nat.reduceBEq, Int.reduceEq, Nat.reduceEqDiff, Nat.reduceAdd, Nat.reduceSub, Nat.reduceMul, Nat.reduceLeDiff, reduceCtorEq, ↓reduceIte, eGEntry, eGFile, c15, c21]; done) | (simp -implicitDefEqProofs only [go_sem, Bool.false_and, Int.reduceToNat, Int.reduceLT, Int.reduceLE, Int.reduceBEq, Int.reduceBNe, Nat.reduceLT, Nat.reduceBEq, Int.reduceEq, Nat.reduceEqDiff, Nat.reduceAdd, Nat.reduceSub, Nat.reduceMul, Nat.reduceLeDiff, reduceCtorEq, ↓reduceIte, eGEntry, eGFile, c15, c21]; rfl)) (PureA.of_pure (perm_Can_c1_ok b23)) (by first | exact .inr rfl | exact .inl rfl) ?_
        try simp -implicitDefEqProofs only [go_sem, Bool.false_and, Nat.reduceAdd, ↓reduceIte]
        obtain rfl := Option.some.inj H24
        exact end_pure (by first | (simp -implicitDefEqProofs only [go_sem, ↓reduceIte, Tryd.f5] <;> rfl) | rfl) (by first | rfl | (simp -implicitDefEqProofs only [go_sem, Bool.false_and, Int.reduceToNat, Int.reduceLT, Int.reduceLE, Int.reduceBEq, Int.reduceBNe, Nat.reduceLT, Nat.reduceBEq, Int.reduceEq, Nat.reduceEqDiff, Nat.reduceAdd, Nat.reduceSub, Nat.reduceMul, Nat.reduceLeDiff, reduceCtorEq, ↓reduceIte, eGEntry, eGFile, c15, c21]; done) | (simp -implicitDefEqProofs only [go_sem, Bool.false_and, Int.reduceToNat, Int.reduceLT, Int.reduceLE, Int.reduceBEq, Int.reduceBNe, Nat.reduceLT, Nat.reduceBEq, Int.reduceEq, Nat.reduceEqDiff, Nat.reduceAdd, Nat.reduceSub, Nat.reduceMul, Nat.reduceLeDiff, reduceCtorEq, ↓reduceIte, eGEntry, eGFile, c15, c21]; rfl)) rfl (by intro h; first | rfl | cases h)
      · try simp -implicitDefEqProofs only [go_sem, c21]
        refine runR_seq ?_
        refine runR_seq ?_
        refine runR_take tab_ok fol 1 ?_
        obtain ⟨t62, b25, H26⟩ := bind_inv H22
        try simp -implicitDefEqProofs only [go_sem, Nat.reduceEqDiff, Nat.reduceAdd, reduceCtorEq, ↓reduceIte]
        refine onCall_pure (by first | rfl | (simp -implicitDefEqProofs only [go_sem, Bool.false_and, Int.reduceToNat, Int.reduceLT, Int.reduceLE, Int.reduceBEq, Int.reduceBNe, Nat.reduceLT, Nat.reduceBEq, Int.reduceEq, Nat.reduceEqDiff, Nat.reduceAdd, Nat.reduceSub, Nat.reduceMul, Nat.reduceLeDiff, reduceCtorEq, ↓reduceIte, eGEntry, eGFile, c15, c21]; done) | (simp -implicitDefEqProofs only [go_sem, Bool.false_and, Int.reduceToNat, Int.reduceLT, Int.reduceLE, Int.reduceBEq, Int.reduceBNe, Nat.reduceLT, Nat.reduceBEq, Int.reduceEq, Nat.reduceEqDiff, Nat.reduceAdd, Nat.reduceSub, Nat.reduceMul, Nat.reduceLeDiff, reduceCtorEq, ↓reduceIte, eGEntry, eGFile, c15, c21]; rfl)) (mask_Find_ok b25) (by first | exact .inr rfl | exact .inl rfl) ?_
        try simp -implicitDefEqProofs only [go_sem, Bool.false_and, Nat.reduceEqDiff, Nat.reduceAdd, ↓reduceIte, eGEntry]
        refine runR_seq ?_
        refine runR_take tab_ok fol 1 ?_
        try simp -implicitDefEqProofs only [go_sem, Nat.reduceAdd, ↓reduceIte]
        rcases ite_inv H26 with ⟨c27, H28⟩ | ⟨c27, H28⟩
        · refine runR_condT (by rfl) c27 ?_
          try simp -implicitDefEqProofs only [go_sem, c27]
          refine runR_seq ?_
          obtain ⟨e_2, E29, H30⟩ := bind_inv H28
          refine runR_join (α := { y : Bool // e_2 = y }) (fun | ⟨t8, _⟩ => ⟨upd 8 (.v (.bool t8)) noFr, noHp, 0⟩) ?_ ?_
          · refine runR_take tab_ok fol 1 ?_
            try simp -implicitDefEqProofs only [go_sem, Nat.reduceEqDiff, Nat.reduceAdd, ↓reduceIte]
            rcases ite_inv E29 with ⟨c31, H32⟩ | ⟨c31, H32⟩
            · try simp -implicitDefEqProofs only [go_sem, Nat.reduceEqDiff, Nat.reduceAdd, reduceCtorEq, ↓reduceIte, c31]
              obtain rfl := Option.some.inj H32
              exact ⟨⟨(decide (0 < (IntKind.i64.wrap (an t62.1.bits t3 : Int)))), rfl⟩, ren_mk [] (by rfl) (rf_upd (by rfl) (rf_no _)) (rh_no _)⟩
            · try simp -implicitDefEqProofs only [go_sem, Nat.reduceEqDiff, Nat.reduceAdd, ↓reduceIte, c31]
              obtain rfl := Option.some.inj H32
              exact ⟨⟨false, rfl⟩, ren_mk [] (by rfl) (rf_upd (by rfl) (rf_no _)) (rh_no _)⟩
          · rintro ⟨t8, he33⟩
            replace he33 := he33.symm
            subst he33
            try dsimp only at H30
            refine runR_take tab_ok fol 1 ?_
            try simp -implicitDefEqProofs only [go_sem]
            obtain rfl := Option.some.inj H30
            exact end_pure (by first | (simp -implicitDefEqProofs only [go_sem, ↓reduceIte, Tryd.f5] <;> rfl) | rfl) (by first | rfl | (simp -implicitDefEqProofs only [go_sem, Bool.false_and, Int.reduceToNat, Int.reduceLT, Int.reduceLE, Int.reduceBEq, Int.reduceBNe, Nat.reduceLT, Nat.reduceBEq, Int.reduceEq, Nat.reduceEqDiff, Nat.reduceAdd, Nat.reduceSub, Nat.reduceMul, Nat.reduceLeDiff, reduceCtorEq, ↓reduceIte, eGEntry, eGFile]; done) | (simp -implicitDefEqProofs only [go_sem, Bool.false_and, Int.reduceToNat, Int.reduceLT, Int.reduceLE, Int.reduceBEq, Int.reduceBNe, Nat.reduceLT, Nat.reduceBEq, Int.reduceEq, Nat.reduceEqDiff, Nat.reduceAdd, Nat.reduceSub, Nat.reduceMul, Nat.reduceLeDiff, reduceCtorEq, ↓reduceIte, eGEntry, eGFile]; rfl)) rfl (by intro h; first | rfl | cases h)
        · refine runR_condF (by rfl) c27 ?_
          try simp -implicitDefEqProofs only [go_sem, c27]
          refine runR_take tab_ok fol 2 ?_
          obtain ⟨t78, b34, H35⟩ := bind_inv H28
          try simp -implicitDefEqProofs only [go_sem, Nat.reduceEqDiff, Nat.reduceAdd, reduceCtorEq, ↓reduceIte]
          refine onCall_pure (by first | rfl | (simp -implicitDefEqProofs only [go_sem, Bool.false_and, Int.reduceToNat, Int.reduceLT, Int.reduceLE, Int.reduceBEq, Int.reduceBNe, Nat.reduceLT, Nat.reduceBEq, Int.reduceEq, Nat.reduceEqDiff, Nat.reduceAdd, Nat.reduceSub, Nat.reduceMul, Nat.reduceLeDiff, reduceCtorEq, ↓reduceIte, eGEntry, eGFile, c15, c21, c27]; done) | (simp -implicitDefEqProofs only [go_sem, Bool.false_and, Int.reduceToNat, Int.reduceLT, Int.reduceLE, Int.reduceBEq, Int.reduceBNe, Nat.reduceLT, Nat.reduceBEq, Int.reduceEq, Nat.reduceEqDiff, Nat.reduceAdd, Nat.reduceSub, Nat.reduceMul, Nat.reduceLeDiff, reduceCtorEq, ↓reduceIte, eGEntry, eGFile, c15, c21, c27]; rfl)) (perm_groups_ok b34) (by first | exact .inr rfl | exact .inl rfl) ?_
          try simp -implicitDefEqProofs only [go_sem, Bool.false_and, Nat.reduceAdd, ↓reduceIte]
          rcases ite_inv H35 with ⟨c36, H37⟩ | ⟨c36, H37⟩
          · try simp -implicitDefEqProofs only [go_sem, Nat.reduceEqDiff, Nat.reduceAdd, ↓reduceIte, c36]
            rcases ite_inv H37 with ⟨c38, H39⟩ | ⟨c38, H39⟩
            · obtain ⟨t86, b40, H41⟩ := bind_inv H39
              try simp -implicitDefEqProofs only [go_sem, Nat.reduceEqDiff, Nat.reduceAdd, reduceCtorEq, ↓reduceIte, c38]
              refine onCall_pureA (by first | rfl | (simp -implicitDefEqProofs only [go_sem, Bool.false_and, Int.reduceToNat, Int.reduceLT, Int.reduceLE, Int.reduceBEq, Int.reduceBNe, Nat.reduceLT, Nat.reduceBEq, Int.reduceEq, Nat.reduceEqDiff, Nat.reduceAdd, Nat.reduceSub, Nat.reduceMul, Nat.reduceLeDiff, reduceCtorEq, ↓reduceIte, eGEntry, eGFile, c15, c21, c27, c36, c38]; done) | (simp -implicitDefEqProofs only [go_sem, Bool.false_and, Int.reduceToNat, Int.reduceLT, Int.reduceLE, Int.reduceBEq, Int.reduceBNe, Nat.reduceLT, Nat.reduceBEq, Int.reduceEq, Nat.reduceEqDiff, Nat.reduceAdd, Nat.reduceSub, Nat.reduceMul, Nat.reduceLeDiff, reduceCtorEq, ↓reduceIte, eGEntry, eGFile, c15, c21, c27, c36, c38]; rfl)) (slices_ContainsFunc_Entry__perm_Can_c2_ok b40) (by first | exact .inr rfl | exact .inl rfl) ?_
              try simp -implicitDefEqProofs only [go_sem, Bool.false_and, Nat.reduceEqDiff, Nat.reduceAdd, ↓reduceIte]
              obtain rfl := Option.some.inj H41
              exact end_pure (by first | (simp -implicitDefEqProofs only [go_sem, ↓reduceIte, Tryd.f5] <;> rfl) | rfl) (by first | rfl | (simp -implicitDefEqProofs only [go_sem, Bool.false_and, Int.reduceToNat, Int.reduceLT, Int.reduceLE, Int.reduceBEq, Int.reduceBNe, Nat.reduceLT, Nat.reduceBEq, Int.reduceEq, Nat.reduceEqDiff, Nat.reduceAdd, Nat.reduceSub, Nat.reduceMul, Nat.reduceLeDiff, reduceCtorEq, ↓reduceIte, eGEntry, eGFile, c15, c21, c27, c36, c38]; done) | (simp -implicitDefEqProofs only [go_sem, Bool.false_and, Int.reduceToNat, Int.reduceLT, Int.reduceLE, Int.reduceBEq, Int.reduceBNe, Nat.reduceLT, Nat.reduceBEq, Int.reduceEq, Nat.reduceEqDiff, Nat.reduceAdd, Nat.reduceSub, Nat.reduceMul, Nat.reduceLeDiff, reduceCtorEq, ↓reduceIte, eGEntry, eGFile, c15, c21, c27, c36, c38]; rfl)) rfl (by intro h; first | rfl | cases h)
            · try simp -implicitDefEqProofs only [go_sem, Nat.reduceEqDiff, Nat.reduceAdd, ↓reduceIte, c38]
              obtain rfl := Option.some.inj H39
              exact end_pure (by first | (simp -implicitDefEqProofs only [go_sem, ↓reduceIte, Tryd.f5] <;> rfl) | rfl) (by first | rfl | (simp -implicitDefEqProofs only [go_sem, Bool.false_and, Int.reduceToNat, Int.reduceLT, Int.reduceLE, Int.reduceBEq, Int.reduceBNe, Nat.reduceLT, Nat.reduceBEq, Int.reduceEq, Nat.reduceEqDiff, Nat.reduceAdd, Nat.reduceSub, Nat.reduceMul, Nat.reduceLeDiff, reduceCtorEq, ↓reduceIte, eGEntry, eGFile, c15, c21, c27, c36, c38]; done) | (simp -implicitDefEqProofs only [go_sem, Bool.false_and, Int.reduceToNat, Int.reduceLT, Int.reduceLE, Int.reduceBEq, Int.reduceBNe, Nat.reduceLT, Nat.reduceBEq, Int.reduceEq, Nat.reduceEqDiff, Nat.reduceAdd, Nat.reduceSub, Nat.reduceMul, Nat.reduceLeDiff, reduceCtorEq, ↓reduceIte, eGEntry, eGFile, c15, c21, c27, c36, c38]; rfl)) rfl (by intro h; first | rfl | cases h)
          · obtain ⟨t89, b42, H43⟩ := bind_inv H37
            try simp -implicitDefEqProofs only [go_sem, Nat.reduceEqDiff, Nat.reduceAdd, ↓reduceIte, c36]
            refine onCall_pureA (by first | rfl | (simp -implicitDefEqProofs only [go_sem, Bool.false_and, Int.reduceToNat, Int.reduceLT, Int.reduceLE, Int.reduceBEq, Int.reduceBNe, Nat.reduceLT, Nat.reduceBEq, Int.reduceEq, Nat.reduceEqDiff, Nat.reduceAdd, Nat.reduceSub, Nat.reduceMul, Nat.reduceLeDiff, reduceCtorEq, ↓reduceIte, eGEntry, eGFile, c15, c21, c27, c36]; done) | (simp -implicitDefEqProofs only [go_sem, Bool.false_and, Int.reduceToNat, Int.reduceLT, Int.reduceLE, Int.reduceBEq, Int.reduceBNe, Nat.reduceLT, Nat.reduceBEq, Int.reduceEq, Nat.reduceEqDiff, Nat.reduceAdd, Nat.reduceSub, Nat.reduceMul, Nat.reduceLeDiff, reduceCtorEq, ↓reduceIte, eGEntry, eGFile, c15, c21, c27, c36]; rfl)) (PureA.of_pure (perm_Can_c1_ok b42)) (by first | exact .inr rfl | exact .inl rfl) ?_
            try simp -implicitDefEqProofs only [go_sem, Bool.false_and, Nat.reduceAdd, ↓reduceIte]
            obtain rfl := Option.some.inj H43
            exact end_pure (by first | (simp -implicitDefEqProofs only [go_sem, ↓reduceIte, Tryd.f5] <;> rfl) | rfl) (by first | rfl | (simp -implicitDefEqProofs only [go_sem, Bool.false_and, Int.reduceToNat, Int.reduceLT, Int.reduceLE, Int.reduceBEq, Int.reduceBNe, Nat.reduceLT, Nat.reduceBEq, Int.reduceEq, Nat.reduceEqDiff, Nat.reduceAdd, Nat.reduceSub, Nat.reduceMul, Nat.reduceLeDiff, reduceCtorEq, ↓reduceIte, eGEntry, eGFile, c15, c21, c27, c36]; done) | (simp -implicitDefEqProofs only [go_sem, Bool.false_and, Int.reduceToNat, Int.reduceLT, Int.reduceLE, Int.reduceBEq, Int.reduceBNe, Nat.reduceLT, Nat.reduceBEq, Int.reduceEq, Nat.reduceEqDiff, Nat.reduceAdd, Nat.reduceSub, Nat.reduceMul, Nat.reduceLeDiff, reduceCtorEq, ↓reduceIte, eGEntry, eGFile, c15, c21, c27, c36]; rfl)) rfl (by intro h; first | rfl | cases h)
def perm_May_L1 (n : Nat) (l : List GFile) (user : ByteArray) : Nat → ByteArray → Option ((Unit) ⊕ Bool)
  | 0, _ => none
  | c + 1, path2 =>
    (if (path2.toList == ({ data := #[47] } : ByteArray).toList) then
      some (.inl ())
    else
      (acls_Parent n path2).bind fun t182 =>
      (if (t182.toList == ({ data := #[] } : ByteArray).toList) then
        some (.inr false)
      else
        (perm_Can n l user t182 1).bind fun t252 =>
        (if t252 then
          perm_May_L1 n l user c t182
        else
          some (.inr false))))

def perm_May (n : Nat) (l : List GFile) (user : ByteArray) (path : ByteArray) (bit : Int) : Option Bool :=
  (perm_Can n l user path bit).bind fun t13 =>
  (if t13 then
    (
      perm_May_L1 n l user n path : Option ((Unit) ⊕ Bool)).bind fun
      | .inl _ =>
        some true
      | .inr r => some r
  else
    some false)
theorem perm_May_ok {n : Nat} {l : List GFile} {user : ByteArray} {path : ByteArray} {bit : Int} {r : Bool} (H : perm_May n l user path bit = some r) : PureOK Tryd.prog 6 [D.sl (List.map eGFile l), D.v (.string user), D.v (.string path), D.v (.int .i64 bit)] (D.v (.bool r)) true := by
  unfold perm_May at H
  refine pure_runR (tab := tab) tab_ok Tryd.func6 rfl (by kernel_rfl) (by kernel_rfl) (by simp [Tryd.f6]) ?_
  refine runR_seq ?_
  refine runR_take tab_ok fol 1 ?_
  try simp -implicitDefEqProofs only [go_sem]
  refine runR_seq ?_
  refine runR_take tab_ok fol 1 ?_
  obtain ⟨t13, b1, H2⟩ := bind_inv H
  try simp -implicitDefEqProofs only [go_sem, Nat.reduceEqDiff, Nat.reduceAdd, reduceCtorEq, ↓reduceIte]
  refine onCall_pure (by first | rfl | (simp -implicitDefEqProofs only [go_sem, Bool.false_and, Int.reduceToNat, Int.reduceLT, Int.reduceLE, Int.reduceBEq, Int.reduceBNe, Nat.reduceLT, Nat.reduceBEq, Int.reduceEq, Nat.reduceEqDiff, Nat.reduceAdd, Nat.reduceSub, Nat.reduceMul, Nat.reduceLeDiff, reduceCtorEq, ↓reduceIte, eGEntry, eGFile]; done) | (simp -implicitDefEqProofs only [go_sem, Bool.false_and, Int.reduceToNat, Int.reduceLT, Int.reduceLE, Int.reduceBEq, Int.reduceBNe, Nat.reduceLT, Nat.reduceBEq, Int.reduceEq, Nat.reduceEqDiff, Nat.reduceAdd, Nat.reduceSub, Nat.reduceMul, Nat.reduceLeDiff, reduceCtorEq, ↓reduceIte, eGEntry, eGFile]; rfl)) (perm_Can_ok b1) (by first | exact .inr rfl | exact .inl rfl) ?_
  try simp -implicitDefEqProofs only [go_sem, Bool.false_and, Nat.reduceAdd, ↓reduceIte]
  rcases ite_inv H2 with ⟨c3, H4⟩ | ⟨c3, H4⟩
  · try simp -implicitDefEqProofs only [go_sem, c3]
    refine runR_seq ?_
    obtain ⟨e_, E5, H6⟩ := bind_inv H4
    refine runR_join (α := { y : Unit // e_ = .inl y }) (fun | ⟨_, _⟩ => ⟨noFr, noHp, 0⟩) ?_ ?_
    · refine runR_block ?_
      refine runR_loop (α := { q : Nat × ByteArray // perm_May_L1 n l user q.1 q.2 = some e_ }) (fun | ⟨⟨c, path2⟩, _⟩ => ⟨upd 0 (.d (.sl (List.map eGFile l)) true) (upd 1 (.v (.string user)) (upd 2 (.v (.string path2)) noFr)), noHp, 0⟩) (fun q => q.1.1) ⟨(n, path), E5⟩ ?_ ?_
      · exact ren_mk [] (by rfl) (rf_upd (by rfl) (rf_upd (by rfl) (rf_upd (by rfl) (rf_no _)))) (rh_no _)
      · rintro ⟨⟨c, path2⟩, L7⟩
        rcases c with _ | c
        · exact nomatch (show none = some _ from L7)
        · unfold perm_May_L1 at L7
          try dsimp only at L7
          refine runR_take tab_ok fol 1 ?_
          try simp -implicitDefEqProofs only [go_sem, Nat.reduceEqDiff, Nat.reduceAdd, reduceCtorEq, ↓reduceIte]
          rcases ite_inv L7 with ⟨c18, H19⟩ | ⟨c18, H19⟩
          · try simp -implicitDefEqProofs only [go_sem, ↓reduceIte, c18]
            obtain rfl := Option.some.inj H19
            exact ⟨⟨(), rfl⟩, ren_mk [] (by rfl) (rf_no _) (rh_no _)⟩
          · obtain ⟨t182, b20, H21⟩ := bind_inv H19
            try simp -implicitDefEqProofs only [go_sem, Nat.reduceEqDiff, Nat.reduceAdd, reduceCtorEq, ↓reduceIte, c18]
            refine onCall_pure (by first | rfl | (simp -implicitDefEqProofs only [go_sem, Bool.false_and, Int.reduceToNat, Int.reduceLT, Int.reduceLE, Int.reduceBEq, Int.reduceBNe, Nat.reduceLT, Nat.reduceBEq, Int.reduceEq, Nat.reduceEqDiff, Nat.reduceAdd, Nat.reduceSub, Nat.reduceMul, Nat.reduceLeDiff, reduceCtorEq, ↓reduceIte, eGEntry, eGFile, c18]; done) | (simp -implicitDefEqProofs only [go_sem, Bool.false_and, Int.reduceToNat, Int.reduceLT, Int.reduceLE, Int.reduceBEq, Int.reduceBNe, Nat.reduceLT, Nat.reduceBEq, Int.reduceEq, Nat.reduceEqDiff, Nat.reduceAdd, Nat.reduceSub, Nat.reduceMul, Nat.reduceLeDiff, reduceCtorEq, ↓reduceIte, eGEntry, eGFile, c18]; rfl)) (acls_Parent_ok b20) (by first | exact .inr rfl | exact .inl rfl) ?_
            try simp -implicitDefEqProofs only [go_sem, Bool.false_and, Nat.reduceAdd, ↓reduceIte]
            rcases ite_inv H21 with ⟨c22, H23⟩ | ⟨c22, H23⟩
            · try simp -implicitDefEqProofs only [go_sem, Nat.reduceEqDiff, Nat.reduceAdd, ↓reduceIte, c22]
              obtain rfl := Option.some.inj H23
              obtain rfl := Option.some.inj H6
              exact end_pure (by first | (simp -implicitDefEqProofs only [go_sem, ↓reduceIte, Tryd.f6] <;> rfl) | rfl) (by first | rfl | (simp -implicitDefEqProofs only [go_sem, Bool.false_and, Int.reduceToNat, Int.reduceLT, Int.reduceLE, Int.reduceBEq, Int.reduceBNe, Nat.reduceLT, Nat.reduceBEq, Int.reduceEq, Nat.reduceEqDiff, Nat.reduceAdd, Nat.reduceSub, Nat.reduceMul, Nat.reduceLeDiff, reduceCtorEq, ↓reduceIte, eGEntry, eGFile, c18, c22]; done) | (simp -implicitDefEqProofs only [go_sem, Bool.false_and, Int.reduceToNat, Int.reduceLT, Int.reduceLE, Int.reduceBEq, Int.reduceBNe, Nat.reduceLT, Nat.reduceBEq, Int.reduceEq, Nat.reduceEqDiff, Nat.reduceAdd, Nat.reduceSub, Nat.reduceMul, Nat.reduceLeDiff, reduceCtorEq, ↓reduceIte, eGEntry, eGFile, c18, c22]; rfl)) rfl (by intro h; first | rfl | cases h)
            · obtain ⟨t252, b24, H25⟩ := bind_inv H23
              try simp -implicitDefEqProofs only [go_sem, Nat.reduceEqDiff, Nat.reduceAdd, reduceCtorEq, ↓reduceIte, c22]
              refine onCall_pure (by first | rfl | (simp -implicitDefEqProofs only [go_sem, Bool.false_and, Int.reduceToNat, Int.reduceLT, Int.reduceLE, Int.reduceBEq, Int.reduceBNe, Nat.reduceLT, Nat.reduceBEq, Int.reduceEq, Nat.reduceEqDiff, Nat.reduceAdd, Nat.reduceSub, Nat.reduceMul, Nat.reduceLeDiff, reduceCtorEq, ↓reduceIte, eGEntry, eGFile, c18, c22]; done) | (simp -implicitDefEqProofs only [go_sem, Bool.false_and, Int.reduceToNat, Int.reduceLT, Int.reduceLE, Int.reduceBEq, Int.reduceBNe, Nat.reduceLT, Nat.reduceBEq, Int.reduceEq, Nat.reduceEqDiff, Nat.reduceAdd, Nat.reduceSub, Nat.reduceMul, Nat.reduceLeDiff, reduceCtorEq, ↓reduceIte, eGEntry, eGFile, c18, c22]; rfl)) (perm_Can_ok b24) (by first | exact .inr rfl | exact .inl rfl) ?_
              try simp -implicitDefEqProofs only [go_sem, Bool.false_and, Nat.reduceEqDiff, Nat.reduceAdd, ↓reduceIte]
              rcases ite_inv H25 with ⟨c26, H27⟩ | ⟨c26, H27⟩
              · try simp -implicitDefEqProofs only [go_sem, c26]
                exact ⟨⟨(c, t182), H27⟩, ren_mk [] (by rfl) (rf_upd (by rfl) (rf_upd (by rfl) (rf_upd (by rfl) (rf_no _)))) (rh_no _), Nat.lt_succ_self _⟩
              · try simp -implicitDefEqProofs only [go_sem, Nat.reduceAdd, c26]
                obtain rfl := Option.some.inj H27
                obtain rfl := Option.some.inj H6
                exact end_pure (by first | (simp -implicitDefEqProofs only [go_sem, ↓reduceIte, Tryd.f6] <;> rfl) | rfl) (by first | rfl | (simp -implicitDefEqProofs only [go_sem, Bool.false_and, Int.reduceToNat, Int.reduceLT, Int.reduceLE, Int.reduceBEq, Int.reduceBNe, Nat.reduceLT, Nat.reduceBEq, Int.reduceEq, Nat.reduceEqDiff, Nat.reduceAdd, Nat.reduceSub, Nat.reduceMul, Nat.reduceLeDiff, reduceCtorEq, ↓reduceIte, eGEntry, eGFile, c18, c22, c26]; done) | (simp -implicitDefEqProofs only [go_sem, Bool.false_and, Int.reduceToNat, Int.reduceLT, Int.reduceLE, Int.reduceBEq, Int.reduceBNe, Nat.reduceLT, Nat.reduceBEq, Int.reduceEq, Nat.reduceEqDiff, Nat.reduceAdd, Nat.reduceSub, Nat.reduceMul, Nat.reduceLeDiff, reduceCtorEq, ↓reduceIte, eGEntry, eGFile, c18, c22, c26]; rfl)) rfl (by intro h; first | rfl | cases h)
    · rintro ⟨_, he28⟩
      replace he28 := he28.symm
      subst he28
      try dsimp only at H6
      refine runR_take tab_ok fol 1 ?_
      try simp -implicitDefEqProofs only [go_sem]
      obtain rfl := Option.some.inj H6
      exact end_pure (by first | (simp -implicitDefEqProofs only [go_sem, ↓reduceIte, Tryd.f6] <;> rfl) | rfl) (by first | rfl | (simp -implicitDefEqProofs only [go_sem, Bool.false_and, Int.reduceToNat, Int.reduceLT, Int.reduceLE, Int.reduceBEq, Int.reduceBNe, Nat.reduceLT, Nat.reduceBEq, Int.reduceEq, Nat.reduceEqDiff, Nat.reduceAdd, Nat.reduceSub, Nat.reduceMul, Nat.reduceLeDiff, reduceCtorEq, ↓reduceIte, eGEntry, eGFile]; done) | (simp -implicitDefEqProofs only [go_sem, Bool.false_and, Int.reduceToNat, Int.reduceLT, Int.reduceLE, Int.reduceBEq, Int.reduceBNe, Nat.reduceLT, Nat.reduceBEq, Int.reduceEq, Nat.reduceEqDiff, Nat.reduceAdd, Nat.reduceSub, Nat.reduceMul, Nat.reduceLeDiff, reduceCtorEq, ↓reduceIte, eGEntry, eGFile]; rfl)) rfl (by intro h; first | rfl | cases h)
  · try simp -implicitDefEqProofs only [go_sem, Nat.reduceAdd, c3]
    obtain rfl := Option.some.inj H4
    exact end_pure (by first | (simp -implicitDefEqProofs only [go_sem, ↓reduceIte, Tryd.f6] <;> rfl) | rfl) (by first | rfl | (simp -implicitDefEqProofs only [go_sem, Bool.false_and, Int.reduceToNat, Int.reduceLT, Int.reduceLE, Int.reduceBEq, Int.reduceBNe, Nat.reduceLT, Nat.reduceBEq, Int.reduceEq, Nat.reduceEqDiff, Nat.reduceAdd, Nat.reduceSub, Nat.reduceMul, Nat.reduceLeDiff, reduceCtorEq, ↓reduceIte, eGEntry, eGFile, c3]; done) | (simp -implicitDefEqProofs only [go_sem, Bool.false_and, Int.reduceToNat, Int.reduceLT, Int.reduceLE, Int.reduceBEq, Int.reduceBNe, Nat.reduceLT, Nat.reduceBEq, Int.reduceEq, Nat.reduceEqDiff, Nat.reduceAdd, Nat.reduceSub, Nat.reduceMul, Nat.reduceLeDiff, reduceCtorEq, ↓reduceIte, eGEntry, eGFile, c3]; rfl)) rfl (by intro h; first | rfl | cases h)
end Go.Proofs.YthnejfmbglbpgaaDoor.Ab
