/-
  Functions, read off the code.
-/
import Derived.Test.YtkdpiembjjefaaaDoorPgb
namespace Go.Proofs.YtkdpiembjjefaaaDoor.Ab
open Go.RowKit
def perm_groups_L1 (n : Nat) (l : List GFile) (user : ByteArray) (f : GFile) (acl : List GEntry) : Nat → (List GEntry × Int) → Option (List GEntry)
  | 0, _ => none
  | c + 1, (out, t14) =>
    (if (decide (t14 < (acl.length : Int))) then
      (idx acl t14).bind fun x2 =>
      (if x2.default then
        perm_groups_L1 n l user f acl c (out, (IntKind.i64.wrap (t14 + 1)))
      else
        (if (x2.kind == 3) then
          (perm_in n l user f.group).bind fun t282 =>
          (if t282 then
            (app out [(⟨x2.kind, false, x2.name, x2.bits⟩ : GEntry)]).bind fun l2 =>
            perm_groups_L1 n l user f acl c (l2, (IntKind.i64.wrap (t14 + 1)))
          else
            (if (x2.kind == 4) then
              (perm_in n l user x2.name).bind fun t393 =>
              (if t393 then
                (app out [(⟨x2.kind, false, x2.name, x2.bits⟩ : GEntry)]).bind fun l3 =>
                perm_groups_L1 n l user f acl c (l3, (IntKind.i64.wrap (t14 + 1)))
              else
                perm_groups_L1 n l user f acl c (out, (IntKind.i64.wrap (t14 + 1))))
            else
              perm_groups_L1 n l user f acl c (out, (IntKind.i64.wrap (t14 + 1)))))
        else
          (if (x2.kind == 4) then
            (perm_in n l user x2.name).bind fun t394 =>
            (if t394 then
              (app out [(⟨x2.kind, false, x2.name, x2.bits⟩ : GEntry)]).bind fun l4 =>
              perm_groups_L1 n l user f acl c (l4, (IntKind.i64.wrap (t14 + 1)))
            else
              perm_groups_L1 n l user f acl c (out, (IntKind.i64.wrap (t14 + 1))))
          else
            perm_groups_L1 n l user f acl c (out, (IntKind.i64.wrap (t14 + 1))))))
    else
      some out)
def perm_groups_L1_f (n : Nat) (l : List GFile) (user : ByteArray) (f : GFile) (_ : List GEntry) (st : List GEntry) (x2 : GEntry) (k : List GEntry → Option (List GEntry)) : Option (List GEntry) :=
  match st with
  | out =>
    (if x2.default then
      k out
    else
      (if (x2.kind == 3) then
        (perm_in n l user f.group).bind fun t282 =>
        (if t282 then
          (app out [(⟨x2.kind, false, x2.name, x2.bits⟩ : GEntry)]).bind fun l2 =>
          k l2
        else
          (if (x2.kind == 4) then
            (perm_in n l user x2.name).bind fun t393 =>
            (if t393 then
              (app out [(⟨x2.kind, false, x2.name, x2.bits⟩ : GEntry)]).bind fun l3 =>
              k l3
            else
              k out)
          else
            k out))
      else
        (if (x2.kind == 4) then
          (perm_in n l user x2.name).bind fun t394 =>
          (if t394 then
            (app out [(⟨x2.kind, false, x2.name, x2.bits⟩ : GEntry)]).bind fun l4 =>
            k l4
          else
            k out)
        else
          k out)))
def perm_groups_L1_e (_ : Nat) (_ : List GFile) (_ : ByteArray) (_ : GFile) (_ : List GEntry) (st : List GEntry) : Option (List GEntry) :=
  match st with
  | out => some out
theorem perm_groups_L1_list (n : Nat) (l : List GFile) (user : ByteArray) (f : GFile) (acl : List GEntry) (hx : acl.length < 4611686018427387904) (c : Nat) (st : List GEntry) (ix : Nat) (hi : ix ≤ acl.length) (hc : acl.length - ix < c) : perm_groups_L1 n l user f acl c (match st, (ix : Int) with | out, ix => (out, ix)) = foldK (perm_groups_L1_f n l user f acl) (perm_groups_L1_e n l user f acl) (acl.drop ix) st :=
  loop_list (fun c st ix => perm_groups_L1 n l user f acl c (match st, ix with | out, ix => (out, ix))) acl (perm_groups_L1_f n l user f acl) (perm_groups_L1_e n l user f acl) (fun _ _ _ => rfl) hx c st ix hi hc

def perm_groups (n : Nat) (l : List GFile) (user : ByteArray) (f : GFile) (acl : List GEntry) : Option (List GEntry) :=
  (
    perm_groups_L1 n l user f acl n ([], 0) : Option (List GEntry)).bind fun out3 =>
  some out3
theorem perm_groups_ok {n : Nat} {l : List GFile} {user : ByteArray} {f : GFile} {acl : List GEntry} {r : List GEntry} (H : perm_groups n l user f acl = some r) : PureOK Tryd.prog 23 [D.sl (List.map eGFile l), D.v (.string user), D.ag (eGFile f), D.sl (List.map eGEntry acl)] (D.sl (List.map eGEntry r)) true := by
  unfold perm_groups at H
  refine pure_runR (tab := tab) tab_ok Tryd.func23 rfl (by kernel_rfl) (by kernel_rfl) (by simp [Tryd.f23]) ?_
  refine runR_seq ?_
  refine runR_take tab_ok fol 1 ?_
  try simp -implicitDefEqProofs only [go_sem, Nat.reduceAdd, eGFile]
  refine runR_seq ?_
  refine runR_take tab_ok fol 1 ?_
  try simp -implicitDefEqProofs only [go_sem, Nat.reduceAdd]
  refine runR_seq ?_
  refine runR_seq ?_
  refine runR_take tab_ok fol 1 ?_
  try simp -implicitDefEqProofs only [go_sem, Nat.reduceEqDiff, Nat.reduceAdd, ↓reduceIte]
  obtain ⟨e_, E1, H2⟩ := bind_inv H
  refine runR_join (α := { y : List GEntry // e_ = y } × Nat) (fun | ⟨⟨out3, _⟩, g3⟩ => ⟨upd 9 (accV 0 g3 (List.map eGEntry out3)) noFr, upd 0 (accO 4 g3 false (List.map eGEntry out3)) noHp, 1⟩) ?_ ?_
  · refine runR_block ?_
    refine runR_loop (α := { q : (Nat × (List GEntry × Int)) × Nat // perm_groups_L1 n l user f acl q.1.1 q.1.2 = some e_ }) (fun | ⟨⟨⟨c, ⟨out, t14⟩⟩, g⟩, _⟩ => ⟨upd 0 (.d (.sl (List.map eGFile l)) true) (upd 1 (.v (.string user)) (upd 6 (.pt 0 0) (upd 9 (accV 1 g (List.map eGEntry out)) (upd 12 (.d (.sl (List.map eGEntry acl)) true) (upd 13 (.v (.int .i64 (acl.length : Int))) (upd 14 (.v (.int .i64 t14)) noFr)))))), upd 0 (some (.bx [.v (.int .i64 f.kind), .v (.string f.name), .d (.sl (List.map eS f.users)) true, .v (.string f.owner), .v (.string f.group), .d (.sl (List.map eGEntry f.acl)) true, .v (.int .i64 f.at_)])) (upd 1 (accO 4 g false (List.map eGEntry out)) noHp), 2⟩) (fun q => q.1.1.1) ⟨((n, ([], 0)), 0), E1⟩ ?_ ?_
    · exact ren_mk [(0, 0)] (by rfl) (rf_upd (by rfl) (rf_upd (by rfl) (rf_upd (by rfl) (rf_upd (by rfl) (rf_upd (by rfl) (rf_upd (by rfl) (rf_upd (by rfl) (rf_no _)))))))) (rh_upd (rh_one (by rfl) (by rfl) (by rfl)) (rh_upd rh_accN (rh_no _)))
    · rintro ⟨⟨⟨c, ⟨out, t14⟩⟩, g⟩, L3⟩
      rcases c with _ | c
      · exact nomatch (show none = some _ from L3)
      · unfold perm_groups_L1 at L3
        try dsimp only at L3
        refine runR_take tab_ok fol 1 ?_
        try simp -implicitDefEqProofs only [go_sem, Nat.reduceEqDiff, Nat.reduceAdd, reduceCtorEq, ↓reduceIte]
        rcases ite_inv L3 with ⟨c32, H33⟩ | ⟨c32, H33⟩
        · obtain ⟨x2, b34, H35⟩ := bind_inv H33
          obtain ⟨h36, h37⟩ := idx_inv b34
          try simp only [Int.reduceToNat, Int.toNat_natCast] at h37
          have h38 := map_at eGEntry h37
          try simp -implicitDefEqProofs only [go_sem, Nat.reduceEqDiff, Nat.reduceAdd, reduceCtorEq, ↓reduceIte, eGEntry, c32, nat_of .i64 h36, h38]
          rcases ite_inv H35 with ⟨c40, H41⟩ | ⟨c40, H41⟩
          · try simp -implicitDefEqProofs only [go_sem, Nat.reduceEqDiff, Nat.reduceAdd, reduceCtorEq, ↓reduceIte, c40]
            exact ⟨⟨((c, (out, (IntKind.i64.wrap (t14 + 1)))), g), H41⟩, ren_mk [(0, 0), (1, 1)] (by rfl) (rf_upd (by rfl) (rf_upd (by rfl) (rf_upd (by rfl) (rf_upd (ren_acc (by rfl)) (rf_upd (by rfl) (rf_upd (by rfl) (rf_upd (by rfl) (rf_no _)))))))) (rh_upd (rh_one (by rfl) (by rfl) (by rfl)) (rh_upd (rh_acc (by rfl) (by rfl)) (rh_no _))), Nat.lt_succ_self _⟩
          · try simp -implicitDefEqProofs only [go_sem, Nat.reduceEqDiff, Nat.reduceAdd, reduceCtorEq, ↓reduceIte, c40]
            rcases ite_inv H41 with ⟨c42, H43⟩ | ⟨c42, H43⟩
            · obtain ⟨t282, b44, H45⟩ := bind_inv H43
              try simp -implicitDefEqProofs only [go_sem, Nat.reduceEqDiff, Nat.reduceAdd, reduceCtorEq, ↓reduceIte, c42]
              refine onCall_pure (by first | rfl | (simp -implicitDefEqProofs only [go_sem, Int.reduceToNat, Int.reduceLT, Int.reduceLE, Int.reduceBEq, Int.reduceBNe, Nat.reduceLT, Nat.reduceBEq, Int.reduceEq, Nat.reduceEqDiff, Nat.reduceAdd, Nat.reduceSub, Nat.reduceMul, Nat.reduceLeDiff, reduceCtorEq, ↓reduceIte, eGEntry, eGFile, c32, nat_of .i64 h36, h38, c40, c42]; done) | (simp -implicitDefEqProofs only [go_sem, Int.reduceToNat, Int.reduceLT, Int.reduceLE, Int.reduceBEq, Int.reduceBNe, Nat.reduceLT, Nat.reduceBEq, Int.reduceEq, Nat.reduceEqDiff, Nat.reduceAdd, Nat.reduceSub, Nat.reduceMul, Nat.reduceLeDiff, reduceCtorEq, ↓reduceIte, eGEntry, eGFile, c32, nat_of .i64 h36, h38, c40, c42]; rfl)) (perm_in_ok b44) (by first | exact .inr rfl | exact .inl rfl) ?_
              try simp -implicitDefEqProofs only [go_sem, Nat.reduceEqDiff, Nat.reduceAdd, ↓reduceIte]
              rcases ite_inv H45 with ⟨c46, H47⟩ | ⟨c46, H47⟩
              · obtain ⟨l2, b48, H49⟩ := bind_inv H47
                obtain ⟨h50, h51⟩ := app_inv b48
                have h50 : out.length + 1 ≤ 4294967296 := h50
                have h52 : List.map eGEntry out ++ [[.v (.int .i64 x2.kind), .v (.bool false), .v (.string x2.name), .v (.int .i64 x2.bits)]] = List.map eGEntry l2 := app_map eGEntry h51
                have h53 : out.length + 1 = l2.length := app_len h51
                have h54 : l2.length ≤ 4294967296 := by omega
                have q55 : 0 < l2.length := by omega
                try simp -implicitDefEqProofs only [go_sem, Nat.reduceLT, Nat.reduceEqDiff, Nat.reduceAdd, Nat.reduceMul, Nat.reduceLeDiff, reduceCtorEq, ↓reduceIte, c46, h52, h53, h54]
                rcases out with _ | ⟨q0, q1⟩
                · try simp only [List.map_nil, accI, accN]
                  exact ⟨⟨((c, (l2, (IntKind.i64.wrap (t14 + 1)))), 0), H49⟩, ren_mk [(0, 0), (1, 34)] (by rfl) (rf_upd (by rfl) (rf_upd (by rfl) (rf_upd (by rfl) (rf_upd (by first | exact ren_accP (by rfl) q55 | rfl) (rf_upd (by rfl) (rf_upd (by rfl) (rf_upd (by rfl) (rf_no _)))))))) (rh_upd (rh_one (by rfl) (by rfl) (by rfl)) (rh_upd (by first | exact rh_accP (by rfl) q55 (by rfl) | exact rh_one (by rfl) (by rfl) (by rfl)) (rh_no _))), Nat.lt_succ_self _⟩
                · try simp only [List.map_cons, accI, accN]
                  exact ⟨⟨((c, (l2, (IntKind.i64.wrap (t14 + 1)))), (g + 1)), H49⟩, ren_mk [(0, 0), (1, 1)] (by rfl) (rf_upd (by rfl) (rf_upd (by rfl) (rf_upd (by rfl) (rf_upd (by first | exact ren_accP (by rfl) q55 | rfl) (rf_upd (by rfl) (rf_upd (by rfl) (rf_upd (by rfl) (rf_no _)))))))) (rh_upd (rh_one (by rfl) (by rfl) (by rfl)) (rh_upd (by first | exact rh_accP (by rfl) q55 (by rfl) | exact rh_one (by rfl) (by rfl) (by rfl)) (rh_no _))), Nat.lt_succ_self _⟩
              · try simp -implicitDefEqProofs only [go_sem, Nat.reduceEqDiff, Nat.reduceAdd, reduceCtorEq, ↓reduceIte, c46]
                rcases ite_inv H47 with ⟨c56, H57⟩ | ⟨c56, H57⟩
                · obtain ⟨t393, b58, H59⟩ := bind_inv H57
                  try simp -implicitDefEqProofs only [go_sem, Nat.reduceEqDiff, Nat.reduceAdd, reduceCtorEq, ↓reduceIte, c56]
                  refine onCall_pure (by first | rfl | (simp -implicitDefEqProofs only [go_sem, Int.reduceToNat, Int.reduceLT, Int.reduceLE, Int.reduceBEq, Int.reduceBNe, Nat.reduceLT, Nat.reduceBEq, Int.reduceEq, Nat.reduceEqDiff, Nat.reduceAdd, Nat.reduceSub, Nat.reduceMul, Nat.reduceLeDiff, reduceCtorEq, ↓reduceIte, eGEntry, eGFile, c32, nat_of .i64 h36, h38, c40, c42, c46, c56]; done) | (simp -implicitDefEqProofs only [go_sem, Int.reduceToNat, Int.reduceLT, Int.reduceLE, Int.reduceBEq, Int.reduceBNe, Nat.reduceLT, Nat.reduceBEq, Int.reduceEq, Nat.reduceEqDiff, Nat.reduceAdd, Nat.reduceSub, Nat.reduceMul, Nat.reduceLeDiff, reduceCtorEq, ↓reduceIte, eGEntry, eGFile, c32, nat_of .i64 h36, h38, c40, c42, c46, c56]; rfl)) (perm_in_ok b58) (by first | exact .inr rfl | exact .inl rfl) ?_
                  try simp -implicitDefEqProofs only [go_sem, Nat.reduceEqDiff, Nat.reduceAdd, ↓reduceIte]
                  rcases ite_inv H59 with ⟨c60, H61⟩ | ⟨c60, H61⟩
                  · obtain ⟨l3, b62, H63⟩ := bind_inv H61
                    obtain ⟨h64, h65⟩ := app_inv b62
                    have h64 : out.length + 1 ≤ 4294967296 := h64
                    have h66 : List.map eGEntry out ++ [[.v (.int .i64 x2.kind), .v (.bool false), .v (.string x2.name), .v (.int .i64 x2.bits)]] = List.map eGEntry l3 := app_map eGEntry h65
                    have h67 : out.length + 1 = l3.length := app_len h65
                    have h68 : l3.length ≤ 4294967296 := by omega
                    have q69 : 0 < l3.length := by omega
                    try simp -implicitDefEqProofs only [go_sem, Nat.reduceLT, Nat.reduceEqDiff, Nat.reduceAdd, Nat.reduceMul, Nat.reduceLeDiff, reduceCtorEq, ↓reduceIte, c60, h66, h67, h68]
                    rcases out with _ | ⟨q0, q1⟩
                    · try simp only [List.map_nil, accI, accN]
                      exact ⟨⟨((c, (l3, (IntKind.i64.wrap (t14 + 1)))), 0), H63⟩, ren_mk [(0, 0), (1, 34)] (by rfl) (rf_upd (by rfl) (rf_upd (by rfl) (rf_upd (by rfl) (rf_upd (by first | exact ren_accP (by rfl) q69 | rfl) (rf_upd (by rfl) (rf_upd (by rfl) (rf_upd (by rfl) (rf_no _)))))))) (rh_upd (rh_one (by rfl) (by rfl) (by rfl)) (rh_upd (by first | exact rh_accP (by rfl) q69 (by rfl) | exact rh_one (by rfl) (by rfl) (by rfl)) (rh_no _))), Nat.lt_succ_self _⟩
                    · try simp only [List.map_cons, accI, accN]
                      exact ⟨⟨((c, (l3, (IntKind.i64.wrap (t14 + 1)))), (g + 1)), H63⟩, ren_mk [(0, 0), (1, 1)] (by rfl) (rf_upd (by rfl) (rf_upd (by rfl) (rf_upd (by rfl) (rf_upd (by first | exact ren_accP (by rfl) q69 | rfl) (rf_upd (by rfl) (rf_upd (by rfl) (rf_upd (by rfl) (rf_no _)))))))) (rh_upd (rh_one (by rfl) (by rfl) (by rfl)) (rh_upd (by first | exact rh_accP (by rfl) q69 (by rfl) | exact rh_one (by rfl) (by rfl) (by rfl)) (rh_no _))), Nat.lt_succ_self _⟩
                  · try simp -implicitDefEqProofs only [go_sem, Nat.reduceEqDiff, Nat.reduceAdd, reduceCtorEq, ↓reduceIte, c60]
                    exact ⟨⟨((c, (out, (IntKind.i64.wrap (t14 + 1)))), g), H61⟩, ren_mk [(0, 0), (1, 1)] (by rfl) (rf_upd (by rfl) (rf_upd (by rfl) (rf_upd (by rfl) (rf_upd (ren_acc (by rfl)) (rf_upd (by rfl) (rf_upd (by rfl) (rf_upd (by rfl) (rf_no _)))))))) (rh_upd (rh_one (by rfl) (by rfl) (by rfl)) (rh_upd (rh_acc (by rfl) (by rfl)) (rh_no _))), Nat.lt_succ_self _⟩
                · try simp -implicitDefEqProofs only [go_sem, Nat.reduceEqDiff, Nat.reduceAdd, reduceCtorEq, ↓reduceIte, c56]
                  exact ⟨⟨((c, (out, (IntKind.i64.wrap (t14 + 1)))), g), H57⟩, ren_mk [(0, 0), (1, 1)] (by rfl) (rf_upd (by rfl) (rf_upd (by rfl) (rf_upd (by rfl) (rf_upd (ren_acc (by rfl)) (rf_upd (by rfl) (rf_upd (by rfl) (rf_upd (by rfl) (rf_no _)))))))) (rh_upd (rh_one (by rfl) (by rfl) (by rfl)) (rh_upd (rh_acc (by rfl) (by rfl)) (rh_no _))), Nat.lt_succ_self _⟩
            · try simp -implicitDefEqProofs only [go_sem, Nat.reduceEqDiff, Nat.reduceAdd, reduceCtorEq, ↓reduceIte, c42]
              rcases ite_inv H43 with ⟨c70, H71⟩ | ⟨c70, H71⟩
              · obtain ⟨t394, b72, H73⟩ := bind_inv H71
                try simp -implicitDefEqProofs only [go_sem, Nat.reduceEqDiff, Nat.reduceAdd, reduceCtorEq, ↓reduceIte, c70]
                refine onCall_pure (by first | rfl | (simp -implicitDefEqProofs only [go_sem, Int.reduceToNat, Int.reduceLT, Int.reduceLE, Int.reduceBEq, Int.reduceBNe, Nat.reduceLT, Nat.reduceBEq, Int.reduceEq, Nat.reduceEqDiff, Nat.reduceAdd, Nat.reduceSub, Nat.reduceMul, Nat.reduceLeDiff, reduceCtorEq, ↓reduceIte, eGEntry, eGFile, c32, nat_of .i64 h36, h38, c40, c42, c70]; done) | (simp -implicitDefEqProofs only [go_sem, Int.reduceToNat, Int.reduceLT, Int.reduceLE, Int.reduceBEq, Int.reduceBNe, Nat.reduceLT, Nat.reduceBEq, Int.reduceEq, Nat.reduceEqDiff, Nat.reduceAdd, Nat.reduceSub, Nat.reduceMul, Nat.reduceLeDiff, reduceCtorEq, ↓reduceIte, eGEntry, eGFile, c32, nat_of .i64 h36, h38, c40, c42, c70]; rfl)) (perm_in_ok b72) (by first | exact .inr rfl | exact .inl rfl) ?_
                try simp -implicitDefEqProofs only [go_sem, Nat.reduceEqDiff, Nat.reduceAdd, ↓reduceIte]
                rcases ite_inv H73 with ⟨c74, H75⟩ | ⟨c74, H75⟩
                · obtain ⟨l4, b76, H77⟩ := bind_inv H75
                  obtain ⟨h78, h79⟩ := app_inv b76
                  have h78 : out.length + 1 ≤ 4294967296 := h78
                  have h80 : List.map eGEntry out ++ [[.v (.int .i64 x2.kind), .v (.bool false), .v (.string x2.name), .v (.int .i64 x2.bits)]] = List.map eGEntry l4 := app_map eGEntry h79
                  have h81 : out.length + 1 = l4.length := app_len h79
                  have h82 : l4.length ≤ 4294967296 := by omega
                  have q83 : 0 < l4.length := by omega
                  try simp -implicitDefEqProofs only [go_sem, Nat.reduceLT, Nat.reduceEqDiff, Nat.reduceAdd, Nat.reduceMul, Nat.reduceLeDiff, reduceCtorEq, ↓reduceIte, c74, h80, h81, h82]
                  rcases out with _ | ⟨q0, q1⟩
                  · try simp only [List.map_nil, accI, accN]
                    exact ⟨⟨((c, (l4, (IntKind.i64.wrap (t14 + 1)))), 0), H77⟩, ren_mk [(0, 0), (1, 34)] (by rfl) (rf_upd (by rfl) (rf_upd (by rfl) (rf_upd (by rfl) (rf_upd (by first | exact ren_accP (by rfl) q83 | rfl) (rf_upd (by rfl) (rf_upd (by rfl) (rf_upd (by rfl) (rf_no _)))))))) (rh_upd (rh_one (by rfl) (by rfl) (by rfl)) (rh_upd (by first | exact rh_accP (by rfl) q83 (by rfl) | exact rh_one (by rfl) (by rfl) (by rfl)) (rh_no _))), Nat.lt_succ_self _⟩
                  · try simp only [List.map_cons, accI, accN]
                    exact ⟨⟨((c, (l4, (IntKind.i64.wrap (t14 + 1)))), (g + 1)), H77⟩, ren_mk [(0, 0), (1, 1)] (by rfl) (rf_upd (by rfl) (rf_upd (by rfl) (rf_upd (by rfl) (rf_upd (by first | exact ren_accP (by rfl) q83 | rfl) (rf_upd (by rfl) (rf_upd (by rfl) (rf_upd (by rfl) (rf_no _)))))))) (rh_upd (rh_one (by rfl) (by rfl) (by rfl)) (rh_upd (by first | exact rh_accP (by rfl) q83 (by rfl) | exact rh_one (by rfl) (by rfl) (by rfl)) (rh_no _))), Nat.lt_succ_self _⟩
                · try simp -implicitDefEqProofs only [go_sem, Nat.reduceEqDiff, Nat.reduceAdd, reduceCtorEq, ↓reduceIte, c74]
                  exact ⟨⟨((c, (out, (IntKind.i64.wrap (t14 + 1)))), g), H75⟩, ren_mk [(0, 0), (1, 1)] (by rfl) (rf_upd (by rfl) (rf_upd (by rfl) (rf_upd (by rfl) (rf_upd (ren_acc (by rfl)) (rf_upd (by rfl) (rf_upd (by rfl) (rf_upd (by rfl) (rf_no _)))))))) (rh_upd (rh_one (by rfl) (by rfl) (by rfl)) (rh_upd (rh_acc (by rfl) (by rfl)) (rh_no _))), Nat.lt_succ_self _⟩
              · try simp -implicitDefEqProofs only [go_sem, Nat.reduceEqDiff, Nat.reduceAdd, reduceCtorEq, ↓reduceIte, c70]
                exact ⟨⟨((c, (out, (IntKind.i64.wrap (t14 + 1)))), g), H71⟩, ren_mk [(0, 0), (1, 1)] (by rfl) (rf_upd (by rfl) (rf_upd (by rfl) (rf_upd (by rfl) (rf_upd (ren_acc (by rfl)) (rf_upd (by rfl) (rf_upd (by rfl) (rf_upd (by rfl) (rf_no _)))))))) (rh_upd (rh_one (by rfl) (by rfl) (by rfl)) (rh_upd (rh_acc (by rfl) (by rfl)) (rh_no _))), Nat.lt_succ_self _⟩
        · try simp -implicitDefEqProofs only [go_sem, ↓reduceIte, c32]
          obtain rfl := Option.some.inj H33
          exact ⟨⟨⟨out, rfl⟩, g⟩, ren_mk [(0, 1)] (by rfl) (rf_upd (ren_acc (by rfl)) (rf_no _)) (rh_upd (rh_acc (by rfl) (by rfl)) (rh_no _))⟩
  · rintro ⟨⟨out3, he84⟩, g3⟩
    replace he84 := he84.symm
    subst he84
    try dsimp only at H2
    refine runR_take tab_ok fol 1 ?_
    try simp -implicitDefEqProofs only [go_sem, Nat.reduceAdd, ↓reduceIte]
    obtain rfl := Option.some.inj H2
    exact end_pure (by first | (simp -implicitDefEqProofs only [go_sem, ↓reduceIte, Tryd.f23] <;> rfl) | rfl) (by first | rfl | (simp -implicitDefEqProofs only [go_sem, ↓reduceIte]; done) | (simp -implicitDefEqProofs only [go_sem, ↓reduceIte]; rfl)) rfl (by intro h; first | rfl | cases h)
def perm_Can_c2 (_ : Nat) (x : GEntry) (c2 : Int) : Option Bool :=
  some (decide (0 < (IntKind.i64.wrap (an x.bits c2 : Int))))
theorem perm_Can_c2_ok {n : Nat} {x : GEntry} {c2 : Int} {r : Bool} (H : perm_Can_c2 n x c2 = some r) : PureOK Tryd.prog 25 [D.ag (eGEntry x), D.pt [D.v (.int .i64 c2)] 0] (D.v (.bool r)) true := by
  unfold perm_Can_c2 at H
  refine pure_runR (tab := tab) tab_ok Tryd.func25 rfl (by kernel_rfl) (by kernel_rfl) (by simp [Tryd.f25]) ?_
  refine runR_take tab_ok fol 1 ?_
  try simp -implicitDefEqProofs only [go_sem, Nat.reduceEqDiff, Nat.reduceAdd, reduceCtorEq, ↓reduceIte, eGEntry]
  obtain rfl := Option.some.inj H
  exact end_pure (by first | (simp -implicitDefEqProofs only [go_sem, ↓reduceIte, Tryd.f25] <;> rfl) | rfl) (by first | rfl | (simp -implicitDefEqProofs only [go_sem, Int.reduceToNat, Int.reduceLT, Int.reduceLE, Int.reduceBEq, Int.reduceBNe, Nat.reduceLT, Nat.reduceBEq, Int.reduceEq, Nat.reduceEqDiff, Nat.reduceAdd, Nat.reduceSub, Nat.reduceMul, Nat.reduceLeDiff, reduceCtorEq, ↓reduceIte, eGEntry, eGFile]; done) | (simp -implicitDefEqProofs only [go_sem, Int.reduceToNat, Int.reduceLT, Int.reduceLE, Int.reduceBEq, Int.reduceBNe, Nat.reduceLT, Nat.reduceBEq, Int.reduceEq, Nat.reduceEqDiff, Nat.reduceAdd, Nat.reduceSub, Nat.reduceMul, Nat.reduceLeDiff, reduceCtorEq, ↓reduceIte, eGEntry, eGFile]; rfl)) rfl (by intro h; first | rfl | cases h)
def slices_IndexFunc_Entry__perm_Can_c2_L1 (n : Nat) (s : List GEntry) (c2 : Int) : Nat → Int → Option ((Unit) ⊕ Int)
  | 0, _ => none
  | c + 1, t8 =>
    (if (decide (t8 < (s.length : Int))) then
      (idx s t8).bind fun x2 =>
      (perm_Can_c2 n x2 c2).bind fun t162 =>
      (if t162 then
        some (.inr t8)
      else
        slices_IndexFunc_Entry__perm_Can_c2_L1 n s c2 c (IntKind.i64.wrap (t8 + 1)))
    else
      some (.inl ()))

def slices_IndexFunc_Entry__perm_Can_c2 (n : Nat) (s : List GEntry) (c2 : Int) : Option Int :=
  (
    slices_IndexFunc_Entry__perm_Can_c2_L1 n s c2 n 0 : Option ((Unit) ⊕ Int)).bind fun
    | .inl _ =>
      some (-1)
    | .inr r => some r
theorem slices_IndexFunc_Entry__perm_Can_c2_ok {n : Nat} {s : List GEntry} {c2 : Int} {r : Int} (H : slices_IndexFunc_Entry__perm_Can_c2 n s c2 = some r) : PureA Tryd.prog 52 [.d (D.sl (List.map eGEntry s)), .fn 25 [D.pt [D.v (.int .i64 c2)] 0]] (D.v (.int .i64 r)) true := by
  unfold slices_IndexFunc_Entry__perm_Can_c2 at H
  refine pureA_runR (tab := tab) tab_ok Tryd.func52 rfl (by kernel_rfl) (by kernel_rfl) (by simp [Tryd.f52]) ?_
  refine runR_seq ?_
  refine runR_take tab_ok fol 1 ?_
  try simp -implicitDefEqProofs only [go_sem]
  refine runR_seq ?_
  refine runR_seq ?_
  refine runR_take tab_ok fol 1 ?_
  try simp -implicitDefEqProofs only [go_sem, Nat.reduceAdd, reduceCtorEq, ↓reduceIte]
  obtain ⟨e_, E1, H2⟩ := bind_inv H
  refine runR_join (α := { y : Unit // e_ = .inl y }) (fun | ⟨_, _⟩ => ⟨noFr, noHp, 0⟩) ?_ ?_
  · refine runR_block ?_
    refine runR_loop (α := { q : Nat × Int // slices_IndexFunc_Entry__perm_Can_c2_L1 n s c2 q.1 q.2 = some e_ }) (fun | ⟨⟨c, t8⟩, _⟩ => ⟨upd 0 (.d (.sl (List.map eGEntry s)) true) (upd 1 (.fn 25 [.d (.pt [.v (.int .i64 c2)] 0) true]) (upd 7 (.v (.int .i64 (s.length : Int))) (upd 8 (.v (.int .i64 t8)) noFr))), noHp, 0⟩) (fun q => q.1.1) ⟨(n, 0), E1⟩ ?_ ?_
    · exact ren_mk [] (by rfl) (rf_upd (by rfl) (rf_upd (by rfl) (rf_upd (by rfl) (rf_upd (by rfl) (rf_no _))))) (rh_no _)
    · rintro ⟨⟨c, t8⟩, L3⟩
      rcases c with _ | c
      · exact nomatch (show none = some _ from L3)
      · unfold slices_IndexFunc_Entry__perm_Can_c2_L1 at L3
        try dsimp only at L3
        refine runR_take tab_ok fol 1 ?_
        try simp -implicitDefEqProofs only [go_sem, Nat.reduceEqDiff, reduceCtorEq, ↓reduceIte]
        rcases ite_inv L3 with ⟨c16, H17⟩ | ⟨c16, H17⟩
        · obtain ⟨x2, b18, H19⟩ := bind_inv H17
          obtain ⟨h20, h21⟩ := idx_inv b18
          try simp only [Int.reduceToNat, Int.toNat_natCast] at h21
          have h22 := map_at eGEntry h21
          obtain ⟨t162, b24, H25⟩ := bind_inv H19
          try simp -implicitDefEqProofs only [go_sem, Nat.reduceEqDiff, Nat.reduceAdd, reduceCtorEq, ↓reduceIte, eGEntry, c16, nat_of .i64 h20, h22]
          refine onCall_pure (by first | rfl | (simp -implicitDefEqProofs only [go_sem, Int.reduceToNat, Int.reduceLT, Int.reduceLE, Int.reduceBEq, Int.reduceBNe, Nat.reduceLT, Nat.reduceBEq, Int.reduceEq, Nat.reduceEqDiff, Nat.reduceAdd, Nat.reduceSub, Nat.reduceMul, Nat.reduceLeDiff, reduceCtorEq, ↓reduceIte, eGEntry, eGFile, c16, nat_of .i64 h20, h22]; done) | (simp -implicitDefEqProofs only [go_sem, Int.reduceToNat, Int.reduceLT, Int.reduceLE, Int.reduceBEq, Int.reduceBNe, Nat.reduceLT, Nat.reduceBEq, Int.reduceEq, Nat.reduceEqDiff, Nat.reduceAdd, Nat.reduceSub, Nat.reduceMul, Nat.reduceLeDiff, reduceCtorEq, ↓reduceIte, eGEntry, eGFile, c16, nat_of .i64 h20, h22]; rfl)) (perm_Can_c2_ok b24) (by first | exact .inr rfl | exact .inl rfl) ?_
          try simp -implicitDefEqProofs only [go_sem, ↓reduceIte]
          rcases ite_inv H25 with ⟨c26, H27⟩ | ⟨c26, H27⟩
          · try simp -implicitDefEqProofs only [go_sem, Nat.reduceEqDiff, Nat.reduceAdd, ↓reduceIte, c26]
            obtain rfl := Option.some.inj H27
            obtain rfl := Option.some.inj H2
            exact end_pure (by first | (simp -implicitDefEqProofs only [go_sem, ↓reduceIte, Tryd.f52] <;> rfl) | rfl) (by first | rfl | (simp -implicitDefEqProofs only [go_sem, Int.reduceToNat, Int.reduceLT, Int.reduceLE, Int.reduceBEq, Int.reduceBNe, Nat.reduceLT, Nat.reduceBEq, Int.reduceEq, Nat.reduceEqDiff, Nat.reduceAdd, Nat.reduceSub, Nat.reduceMul, Nat.reduceLeDiff, reduceCtorEq, ↓reduceIte, eGEntry, eGFile, c16, nat_of .i64 h20, h22, c26]; done) | (simp -implicitDefEqProofs only [go_sem, Int.reduceToNat, Int.reduceLT, Int.reduceLE, Int.reduceBEq, Int.reduceBNe, Nat.reduceLT, Nat.reduceBEq, Int.reduceEq, Nat.reduceEqDiff, Nat.reduceAdd, Nat.reduceSub, Nat.reduceMul, Nat.reduceLeDiff, reduceCtorEq, ↓reduceIte, eGEntry, eGFile, c16, nat_of .i64 h20, h22, c26]; rfl)) rfl (by intro h; first | rfl | cases h)
          · try simp -implicitDefEqProofs only [go_sem, Nat.reduceEqDiff, Nat.reduceAdd, reduceCtorEq, ↓reduceIte, c26]
            exact ⟨⟨(c, (IntKind.i64.wrap (t8 + 1))), H27⟩, ren_mk [] (by rfl) (rf_upd (by rfl) (rf_upd (by rfl) (rf_upd (by rfl) (rf_upd (by rfl) (rf_no _))))) (rh_no _), Nat.lt_succ_self _⟩
        · try simp -implicitDefEqProofs only [go_sem, ↓reduceIte, c16]
          obtain rfl := Option.some.inj H17
          exact ⟨⟨(), rfl⟩, ren_mk [] (by rfl) (rf_no _) (rh_no _)⟩
  · rintro ⟨_, he28⟩
    replace he28 := he28.symm
    subst he28
    try dsimp only at H2
    refine runR_take tab_ok fol 1 ?_
    try simp -implicitDefEqProofs only [go_sem]
    obtain rfl := Option.some.inj H2
    exact end_pure (by first | (simp -implicitDefEqProofs only [go_sem, ↓reduceIte, Tryd.f52] <;> rfl) | rfl) (by first | rfl | (simp -implicitDefEqProofs only [go_sem, Int.reduceToNat, Int.reduceLT, Int.reduceLE, Int.reduceBEq, Int.reduceBNe, Nat.reduceLT, Nat.reduceBEq, Int.reduceEq, Nat.reduceEqDiff, Nat.reduceAdd, Nat.reduceSub, Nat.reduceMul, Nat.reduceLeDiff, reduceCtorEq, ↓reduceIte, eGEntry, eGFile]; done) | (simp -implicitDefEqProofs only [go_sem, Int.reduceToNat, Int.reduceLT, Int.reduceLE, Int.reduceBEq, Int.reduceBNe, Nat.reduceLT, Nat.reduceBEq, Int.reduceEq, Nat.reduceEqDiff, Nat.reduceAdd, Nat.reduceSub, Nat.reduceMul, Nat.reduceLeDiff, reduceCtorEq, ↓reduceIte, eGEntry, eGFile]; rfl)) rfl (by intro h; first | rfl | cases h)
def slices_ContainsFunc_Entry__perm_Can_c2 (n : Nat) (s : List GEntry) (c2 : Int) : Option Bool :=
  (slices_IndexFunc_Entry__perm_Can_c2 n s c2).bind fun t7 =>
  some (decide (0 ≤ t7))
theorem slices_ContainsFunc_Entry__perm_Can_c2_ok {n : Nat} {s : List GEntry} {c2 : Int} {r : Bool} (H : slices_ContainsFunc_Entry__perm_Can_c2 n s c2 = some r) : PureA Tryd.prog 24 [.d (D.sl (List.map eGEntry s)), .fn 25 [D.pt [D.v (.int .i64 c2)] 0]] (D.v (.bool r)) true := by
  unfold slices_ContainsFunc_Entry__perm_Can_c2 at H
  refine pureA_runR (tab := tab) tab_ok Tryd.func24 rfl (by kernel_rfl) (by kernel_rfl) (by simp [Tryd.f24]) ?_
  refine runR_take tab_ok fol 1 ?_
  obtain ⟨t7, b1, H2⟩ := bind_inv H
  try simp -implicitDefEqProofs only [go_sem, Nat.reduceEqDiff, Nat.reduceAdd, reduceCtorEq, ↓reduceIte]
  refine onCall_pureA (by first | rfl | (simp -implicitDefEqProofs only [go_sem, Int.reduceToNat, Int.reduceLT, Int.reduceLE, Int.reduceBEq, Int.reduceBNe, Nat.reduceLT, Nat.reduceBEq, Int.reduceEq, Nat.reduceEqDiff, Nat.reduceAdd, Nat.reduceSub, Nat.reduceMul, Nat.reduceLeDiff, reduceCtorEq, ↓reduceIte, eGEntry, eGFile]; done) | (simp -implicitDefEqProofs only [go_sem, Int.reduceToNat, Int.reduceLT, Int.reduceLE, Int.reduceBEq, Int.reduceBNe, Nat.reduceLT, Nat.reduceBEq, Int.reduceEq, Nat.reduceEqDiff, Nat.reduceAdd, Nat.reduceSub, Nat.reduceMul, Nat.reduceLeDiff, reduceCtorEq, ↓reduceIte, eGEntry, eGFile]; rfl)) (slices_IndexFunc_Entry__perm_Can_c2_ok b1) (by first | exact .inr rfl | exact .inl rfl) ?_
  try simp -implicitDefEqProofs only [go_sem, Nat.reduceAdd, ↓reduceIte]
  obtain rfl := Option.some.inj H2
  exact end_pure (by first | (simp -implicitDefEqProofs only [go_sem, ↓reduceIte, Tryd.f24] <;> rfl) | rfl) (by first | rfl | (simp -implicitDefEqProofs only [go_sem, Int.reduceToNat, Int.reduceLT, Int.reduceLE, Int.reduceBEq, Int.reduceBNe, Nat.reduceLT, Nat.reduceBEq, Int.reduceEq, Nat.reduceEqDiff, Nat.reduceAdd, Nat.reduceSub, Nat.reduceMul, Nat.reduceLeDiff, reduceCtorEq, ↓reduceIte, eGEntry, eGFile]; done) | (simp -implicitDefEqProofs only [go_sem, Int.reduceToNat, Int.reduceLT, Int.reduceLE, Int.reduceBEq, Int.reduceBNe, Nat.reduceLT, Nat.reduceBEq, Int.reduceEq, Nat.reduceEqDiff, Nat.reduceAdd, Nat.reduceSub, Nat.reduceMul, Nat.reduceLeDiff, reduceCtorEq, ↓reduceIte, eGEntry, eGFile]; rfl)) rfl (by intro h; first | rfl | cases h)
def perm_Can (n : Nat) (t0 : List GFile) (t1 : ByteArray) (t2 : ByteArray) (t3 : Int) : Option Bool :=
  (perm_File n t0 t2).bind fun t21 =>
  (
    (if t21.2 then
      (perm_isUser n t0 t1).bind fun t29 =>
      (if t29 then
        (if (t3 != 4) then
          (if (t3 != 2) then
            some (t3 != 1)
          else
            some false)
        else
          some false)
      else
        some true)
    else
      some true) : Option (Bool)).bind fun t43 =>
  (if t43 then
    some false
  else
    (mask_Acl n t21.1.acl).bind fun t47 =>
    (perm_Can_c1 n 5 ({ data := #[] }) t47.1 t3).bind fun t52 =>
    (if (t21.1.owner.toList == t1.toList) then
      (perm_Can_c1 n 1 ({ data := #[] }) t47.1 t3).bind fun t58 =>
      some t58
    else
      (mask_Find n t47.1 false 2 t1).bind fun t62 =>
      (if t62.2 then
        (
          (if t52 then
            some (decide (0 < (IntKind.i64.wrap (an t62.1.bits t3 : Int))))
          else
            some false) : Option (Bool)).bind fun t8 =>
        some t8
      else
        (perm_groups n t0 t1 (⟨t21.1.kind, t21.1.name, t21.1.users, t21.1.owner, t21.1.group, t21.1.acl, t21.1.at_⟩ : GFile) t47.1).bind fun t78 =>
        (if (decide (0 < (t78.length : Int))) then
          (if t52 then
            (slices_ContainsFunc_Entry__perm_Can_c2 n t78 t3).bind fun t86 =>
            some t86
          else
            some false)
        else
          (perm_Can_c1 n 6 ({ data := #[] }) t47.1 t3).bind fun t89 =>
          some t89))))
theorem perm_Can_ok {n : Nat} {t0 : List GFile} {t1 : ByteArray} {t2 : ByteArray} {t3 : Int} {r : Bool} (H : perm_Can n t0 t1 t2 t3 = some r) : PureOK Tryd.prog 8 [D.sl (List.map eGFile t0), D.v (.string t1), D.v (.string t2), D.v (.int .i64 t3)] (D.v (.bool r)) true := by
  unfold perm_Can at H
  refine pure_runR (tab := tab) tab_ok Tryd.func8 rfl (by kernel_rfl) (by kernel_rfl) (by simp [Tryd.f8]) ?_
  refine runR_seq ?_
  refine runR_take tab_ok fol 1 ?_
  try simp -implicitDefEqProofs only [go_sem, Nat.reduceAdd]
  refine runR_seq ?_
  refine runR_take tab_ok fol 1 ?_
  obtain ⟨t21, b1, H2⟩ := bind_inv H
  try simp -implicitDefEqProofs only [go_sem, Nat.reduceEqDiff, Nat.reduceAdd, reduceCtorEq, ↓reduceIte]
  refine onCall_pure (by first | rfl | (simp -implicitDefEqProofs only [go_sem, Int.reduceToNat, Int.reduceLT, Int.reduceLE, Int.reduceBEq, Int.reduceBNe, Nat.reduceLT, Nat.reduceBEq, Int.reduceEq, Nat.reduceEqDiff, Nat.reduceAdd, Nat.reduceSub, Nat.reduceMul, Nat.reduceLeDiff, reduceCtorEq, ↓reduceIte, eGEntry, eGFile]; done) | (simp -implicitDefEqProofs only [go_sem, Int.reduceToNat, Int.reduceLT, Int.reduceLE, Int.reduceBEq, Int.reduceBNe, Nat.reduceLT, Nat.reduceBEq, Int.reduceEq, Nat.reduceEqDiff, Nat.reduceAdd, Nat.reduceSub, Nat.reduceMul, Nat.reduceLeDiff, reduceCtorEq, ↓reduceIte, eGEntry, eGFile]; rfl)) (perm_File_ok b1) (by first | exact .inr rfl | exact .inl rfl) ?_
  try simp -implicitDefEqProofs only [go_sem, Nat.reduceEqDiff, Nat.reduceAdd, ↓reduceIte, eGFile]
  refine runR_seq ?_
  refine runR_seq ?_
  obtain ⟨e_, E3, H4⟩ := bind_inv H2
  refine runR_join (α := { y : Bool // e_ = y }) (fun | ⟨t43, _⟩ => ⟨upd 0 (.d (.sl (List.map eGFile t0)) true) (upd 1 (.v (.string t1)) (upd 7 (.pt 0 0) (upd 9 (.pt 1 0) (upd 43 (.v (.bool t43)) noFr)))), upd 0 (some (.bx [.v (.int .i64 t3)])) (upd 1 (some (.bx [.v (.int .i64 t21.1.kind), .v (.string t21.1.name), .d (.sl (List.map eS t21.1.users)) true, .v (.string t21.1.owner), .v (.string t21.1.group), .d (.sl (List.map eGEntry t21.1.acl)) true, .v (.int .i64 t21.1.at_)])) noHp), 2⟩) ?_ ?_
  · refine runR_take tab_ok fol 1 ?_
    try simp -implicitDefEqProofs only [go_sem, Nat.reduceAdd, ↓reduceIte]
    rcases ite_inv E3 with ⟨c5, H6⟩ | ⟨c5, H6⟩
    · obtain ⟨t29, b7, H8⟩ := bind_inv H6
      try simp -implicitDefEqProofs only [go_sem, Nat.reduceEqDiff, Nat.reduceAdd, reduceCtorEq, ↓reduceIte, c5]
      refine onCall_pure (by first | rfl | (simp -implicitDefEqProofs only [go_sem, Int.reduceToNat, Int.reduceLT, Int.reduceLE, Int.reduceBEq, Int.reduceBNe, Nat.reduceLT, Nat.reduceBEq, Int.reduceEq, Nat.reduceEqDiff, Nat.reduceAdd, Nat.reduceSub, Nat.reduceMul, Nat.reduceLeDiff, reduceCtorEq, ↓reduceIte, eGEntry, eGFile, c5]; done) | (simp -implicitDefEqProofs only [go_sem, Int.reduceToNat, Int.reduceLT, Int.reduceLE, Int.reduceBEq, Int.reduceBNe, Nat.reduceLT, Nat.reduceBEq, Int.reduceEq, Nat.reduceEqDiff, Nat.reduceAdd, Nat.reduceSub, Nat.reduceMul, Nat.reduceLeDiff, reduceCtorEq, ↓reduceIte, eGEntry, eGFile, c5]; rfl)) (perm_isUser_ok b7) (by first | exact .inr rfl | exact .inl rfl) ?_
      try simp -implicitDefEqProofs only [go_sem, Nat.reduceEqDiff, Nat.reduceAdd, ↓reduceIte]
      rcases ite_inv H8 with ⟨c9, H10⟩ | ⟨c9, H10⟩
      · try simp -implicitDefEqProofs only [go_sem, Nat.reduceEqDiff, Nat.reduceAdd, reduceCtorEq, ↓reduceIte, c9]
        rcases ite_inv H10 with ⟨c11, H12⟩ | ⟨c11, H12⟩
        · try simp -implicitDefEqProofs only [go_sem, Nat.reduceEqDiff, Nat.reduceAdd, reduceCtorEq, ↓reduceIte, c11]
          rcases ite_inv H12 with ⟨c13, H14⟩ | ⟨c13, H14⟩
          · try simp -implicitDefEqProofs only [go_sem, Nat.reduceEqDiff, Nat.reduceAdd, reduceCtorEq, ↓reduceIte, c13]
            obtain rfl := Option.some.inj H14
            exact ⟨⟨(t3 != 1), rfl⟩, ren_mk [(0, 0), (1, 8)] (by rfl) (rf_upd (by rfl) (rf_upd (by rfl) (rf_upd (by rfl) (rf_upd (by rfl) (rf_upd (by rfl) (rf_no _)))))) (rh_upd (rh_one (by rfl) (by rfl) (by rfl)) (rh_upd (rh_one (by rfl) (by rfl) (by rfl)) (rh_no _)))⟩
          · try simp -implicitDefEqProofs only [go_sem, Nat.reduceEqDiff, Nat.reduceAdd, ↓reduceIte, c13]
            obtain rfl := Option.some.inj H14
            exact ⟨⟨false, rfl⟩, ren_mk [(0, 0), (1, 8)] (by rfl) (rf_upd (by rfl) (rf_upd (by rfl) (rf_upd (by rfl) (rf_upd (by rfl) (rf_upd (by rfl) (rf_no _)))))) (rh_upd (rh_one (by rfl) (by rfl) (by rfl)) (rh_upd (rh_one (by rfl) (by rfl) (by rfl)) (rh_no _)))⟩
        · try simp -implicitDefEqProofs only [go_sem, Nat.reduceEqDiff, Nat.reduceAdd, ↓reduceIte, c11]
          obtain rfl := Option.some.inj H12
          exact ⟨⟨false, rfl⟩, ren_mk [(0, 0), (1, 8)] (by rfl) (rf_upd (by rfl) (rf_upd (by rfl) (rf_upd (by rfl) (rf_upd (by rfl) (rf_upd (by rfl) (rf_no _)))))) (rh_upd (rh_one (by rfl) (by rfl) (by rfl)) (rh_upd (rh_one (by rfl) (by rfl) (by rfl)) (rh_no _)))⟩
      · try simp -implicitDefEqProofs only [go_sem, Nat.reduceEqDiff, Nat.reduceAdd, ↓reduceIte, c9]
        obtain rfl := Option.some.inj H10
        exact ⟨⟨true, rfl⟩, ren_mk [(0, 0), (1, 8)] (by rfl) (rf_upd (by rfl) (rf_upd (by rfl) (rf_upd (by rfl) (rf_upd (by rfl) (rf_upd (by rfl) (rf_no _)))))) (rh_upd (rh_one (by rfl) (by rfl) (by rfl)) (rh_upd (rh_one (by rfl) (by rfl) (by rfl)) (rh_no _)))⟩
    · try simp -implicitDefEqProofs only [go_sem, Nat.reduceEqDiff, Nat.reduceAdd, ↓reduceIte, c5]
      obtain rfl := Option.some.inj H6
      exact ⟨⟨true, rfl⟩, ren_mk [(0, 0), (1, 8)] (by rfl) (rf_upd (by rfl) (rf_upd (by rfl) (rf_upd (by rfl) (rf_upd (by rfl) (rf_upd (by rfl) (rf_no _)))))) (rh_upd (rh_one (by rfl) (by rfl) (by rfl)) (rh_upd (rh_one (by rfl) (by rfl) (by rfl)) (rh_no _)))⟩
  · rintro ⟨t43, he44⟩
    replace he44 := he44.symm
    subst he44
    try dsimp only at H4
    refine runR_take tab_ok fol 1 ?_
    try simp -implicitDefEqProofs only [go_sem, Nat.reduceEqDiff, reduceCtorEq, ↓reduceIte]
    rcases ite_inv H4 with ⟨c15, H16⟩ | ⟨c15, H16⟩
    · try simp -implicitDefEqProofs only [go_sem, Nat.reduceAdd, c15]
      obtain rfl := Option.some.inj H16
      exact end_pure (by first | (simp -implicitDefEqProofs only [go_sem, ↓reduceIte, Tryd.f8] <;> rfl) | rfl) (by first | rfl | (simp -implicitDefEqProofs only [go_sem, Int.reduceToNat, Int.reduceLT, Int.reduceLE, Int.reduceBEq, Int.reduceBNe, Nat.reduceLT, Nat.reduceBEq, Int.reduceEq, Nat.reduceEqDiff, Nat.reduceAdd, Nat.reduceSub, Nat.reduceMul, Nat.reduceLeDiff, reduceCtorEq, ↓reduceIte, eGEntry, eGFile, c15]; done) | (simp -implicitDefEqProofs only [go_sem, Int.reduceToNat, Int.reduceLT, Int.reduceLE, Int.reduceBEq, Int.reduceBNe, Nat.reduceLT, Nat.reduceBEq, Int.reduceEq, Nat.reduceEqDiff, Nat.reduceAdd, Nat.reduceSub, Nat.reduceMul, Nat.reduceLeDiff, reduceCtorEq, ↓reduceIte, eGEntry, eGFile, c15]; rfl)) rfl (by intro h; first | rfl | cases h)
    · try simp -implicitDefEqProofs only [go_sem, c15]
      refine runR_seq ?_
      refine runR_take tab_ok fol 1 ?_
      obtain ⟨t47, b17, H18⟩ := bind_inv H16
      try simp -implicitDefEqProofs only [go_sem, Nat.reduceEqDiff, Nat.reduceAdd, reduceCtorEq, ↓reduceIte]
      refine onCall_pure (by first | rfl | (simp -implicitDefEqProofs only [go_sem, Int.reduceToNat, Int.reduceLT, Int.reduceLE, Int.reduceBEq, Int.reduceBNe, Nat.reduceLT, Nat.reduceBEq, Int.reduceEq, Nat.reduceEqDiff, Nat.reduceAdd, Nat.reduceSub, Nat.reduceMul, Nat.reduceLeDiff, reduceCtorEq, ↓reduceIte, eGEntry, eGFile, c15]; done) | (simp -implicitDefEqProofs only [go_sem, Int.reduceToNat, Int.reduceLT, Int.reduceLE, Int.reduceBEq, Int.reduceBNe, Nat.reduceLT, Nat.reduceBEq, Int.reduceEq, Nat.reduceEqDiff, Nat.reduceAdd, Nat.reduceSub, Nat.reduceMul, Nat.reduceLeDiff, reduceCtorEq, ↓reduceIte, eGEntry, eGFile, c15]; rfl)) (mask_Acl_ok b17) (by first | exact .inr rfl | exact .inl rfl) ?_
      try simp -implicitDefEqProofs only [go_sem, Nat.reduceEqDiff, Nat.reduceAdd, ↓reduceIte]
      refine runR_seq ?_
      refine runR_take tab_ok fol 1 ?_
      try simp -implicitDefEqProofs only [go_sem, Nat.reduceEqDiff, Nat.reduceAdd, reduceCtorEq, ↓reduceIte]
      refine runR_seq ?_
      refine runR_take tab_ok fol 1 ?_
      obtain ⟨t52, b19, H20⟩ := bind_inv H18
      try simp -implicitDefEqProofs only [go_sem, Nat.reduceAdd, ↓reduceIte]
      refine onCall_pureA (by first | rfl | (simp -implicitDefEqProofs only [go_sem, Int.reduceToNat, Int.reduceLT, Int.reduceLE, Int.reduceBEq, Int.reduceBNe, Nat.reduceLT, Nat.reduceBEq, Int.reduceEq, Nat.reduceEqDiff, Nat.reduceAdd, Nat.reduceSub, Nat.reduceMul, Nat.reduceLeDiff, reduceCtorEq, ↓reduceIte, eGEntry, eGFile, c15]; done) | (simp -implicitDefEqProofs only [go_sem, Int.reduceToNat, Int.reduceLT, Int.reduceLE, Int.reduceBEq, Int.reduceBNe, Nat.reduceLT, Nat.reduceBEq, Int.reduceEq, Nat.reduceEqDiff, Nat.reduceAdd, Nat.reduceSub, Nat.reduceMul, Nat.reduceLeDiff, reduceCtorEq, ↓reduceIte, eGEntry, eGFile, c15]; rfl)) (PureA.of_pure (perm_Can_c1_ok b19)) (by first | exact .inr rfl | exact .inl rfl) ?_
      try simp -implicitDefEqProofs only [go_sem, Nat.reduceAdd, ↓reduceIte]
      refine runR_seq ?_
      refine runR_take tab_ok fol 1 ?_
      try simp -implicitDefEqProofs only [go_sem, Nat.reduceEqDiff, Nat.reduceAdd, reduceCtorEq, ↓reduceIte]
      rcases ite_inv H20 with ⟨c21, H22⟩ | ⟨c21, H22⟩
      · obtain ⟨t58, b23, H24⟩ := bind_inv H22
        try simp -implicitDefEqProofs only [go_sem, Nat.reduceEqDiff, Nat.reduceAdd, ↓reduceIte, c21]
        refine onCall_pureA (by first | rfl | (simp -implicitDefEqProofs only [go_sem, Int.reduceToNat, Int.reduceLT, Int.reduceLE, Int.reduceBEq, Int.reduceBNe, Nat.reduceLT, Nat.reduceBEq, Int.reduceEq, Nat.reduceEqDiff, Nat.reduceAdd, Nat.reduceSub, Nat.reduceMul, Nat.reduceLeDiff, reduceCtorEq, ↓reduceIte, eGEntry, eGFile, c15, c21]; done) | (simp -implicitDefEqProofs only [go_sem, Int.reduceToNat, Int.reduceLT, Int.reduceLE, Int.reduceBEq, Int.reduceBNe, Nat.reduceLT, Nat.reduceBEq, Int.reduceEq, Nat.reduceEqDiff, Nat.reduceAdd, Nat.reduceSub, Nat.reduceMul, Nat.reduceLeDiff, reduceCtorEq, ↓reduceIte, eGEntry, eGFile, c15, c21]; rfl)) (PureA.of_pure (perm_Can_c1_ok b23)) (by first | exact .inr rfl | exact .inl rfl) ?_
        try simp -implicitDefEqProofs only [go_sem, Nat.reduceAdd, ↓reduceIte]
        obtain rfl := Option.some.inj H24
        exact end_pure (by first | (simp -implicitDefEqProofs only [go_sem, ↓reduceIte, Tryd.f8] <;> rfl) | rfl) (by first | rfl | (simp -implicitDefEqProofs only [go_sem, Int.reduceToNat, Int.reduceLT, Int.reduceLE, Int.reduceBEq, Int.reduceBNe, Nat.reduceLT, Nat.reduceBEq, Int.reduceEq, Nat.reduceEqDiff, Nat.reduceAdd, Nat.reduceSub, Nat.reduceMul, Nat.reduceLeDiff, reduceCtorEq, ↓reduceIte, eGEntry, eGFile, c15, c21]; done) | (simp -implicitDefEqProofs only [go_sem, Int.reduceToNat, Int.reduceLT, Int.reduceLE, Int.reduceBEq, Int.reduceBNe, Nat.reduceLT, Nat.reduceBEq, Int.reduceEq, Nat.reduceEqDiff, Nat.reduceAdd, Nat.reduceSub, Nat.reduceMul, Nat.reduceLeDiff, reduceCtorEq, ↓reduceIte, eGEntry, eGFile, c15, c21]; rfl)) rfl (by intro h; first | rfl | cases h)
      · try simp -implicitDefEqProofs only [go_sem, c21]
        refine runR_seq ?_
        refine runR_seq ?_
        refine runR_take tab_ok fol 1 ?_
        obtain ⟨t62, b25, H26⟩ := bind_inv H22
        try simp -implicitDefEqProofs only [go_sem, Nat.reduceEqDiff, Nat.reduceAdd, reduceCtorEq, ↓reduceIte]
        refine onCall_pure (by first | rfl | (simp -implicitDefEqProofs only [go_sem, Int.reduceToNat, Int.reduceLT, Int.reduceLE, Int.reduceBEq, Int.reduceBNe, Nat.reduceLT, Nat.reduceBEq, Int.reduceEq, Nat.reduceEqDiff, Nat.reduceAdd, Nat.reduceSub, Nat.reduceMul, Nat.reduceLeDiff, reduceCtorEq, ↓reduceIte, eGEntry, eGFile, c15, c21]; done) | (simp -implicitDefEqProofs only [go_sem, Int.reduceToNat, Int.reduceLT, Int.reduceLE, Int.reduceBEq, Int.reduceBNe, Nat.reduceLT, Nat.reduceBEq, Int.reduceEq, Nat.reduceEqDiff, Nat.reduceAdd, Nat.reduceSub, Nat.reduceMul, Nat.reduceLeDiff, reduceCtorEq, ↓reduceIte, eGEntry, eGFile, c15, c21]; rfl)) (mask_Find_ok b25) (by first | exact .inr rfl | exact .inl rfl) ?_
        try simp -implicitDefEqProofs only [go_sem, Nat.reduceEqDiff, Nat.reduceAdd, ↓reduceIte, eGEntry]
        refine runR_seq ?_
        refine runR_take tab_ok fol 1 ?_
        try simp -implicitDefEqProofs only [go_sem, Nat.reduceAdd, ↓reduceIte]
        rcases ite_inv H26 with ⟨c27, H28⟩ | ⟨c27, H28⟩
        · refine runR_condT (by rfl) c27 ?_
          try simp -implicitDefEqProofs only [go_sem, c27]
          refine runR_seq ?_
          obtain ⟨e_2, E29, H30⟩ := bind_inv H28
          refine runR_join (α := { y : Bool // e_2 = y }) (fun | ⟨t8, _⟩ => ⟨upd 8 (.v (.bool t8)) noFr, noHp, 0⟩) ?_ ?_
          · refine runR_take tab_ok fol 1 ?_
            try simp -implicitDefEqProofs only [go_sem, Nat.reduceEqDiff, Nat.reduceAdd, ↓reduceIte]
            rcases ite_inv E29 with ⟨c31, H32⟩ | ⟨c31, H32⟩
            · try simp -implicitDefEqProofs only [go_sem, Nat.reduceEqDiff, Nat.reduceAdd, reduceCtorEq, ↓reduceIte, c31]
              obtain rfl := Option.some.inj H32
              exact ⟨⟨(decide (0 < (IntKind.i64.wrap (an t62.1.bits t3 : Int)))), rfl⟩, ren_mk [] (by rfl) (rf_upd (by rfl) (rf_no _)) (rh_no _)⟩
            · try simp -implicitDefEqProofs only [go_sem, Nat.reduceEqDiff, Nat.reduceAdd, ↓reduceIte, c31]
              obtain rfl := Option.some.inj H32
              exact ⟨⟨false, rfl⟩, ren_mk [] (by rfl) (rf_upd (by rfl) (rf_no _)) (rh_no _)⟩
          · rintro ⟨t8, he33⟩
            replace he33 := he33.symm
            subst he33
            try dsimp only at H30
            refine runR_take tab_ok fol 1 ?_
            try simp -implicitDefEqProofs only [go_sem]
            obtain rfl := Option.some.inj H30
            exact end_pure (by first | (simp -implicitDefEqProofs only [go_sem, ↓reduceIte, Tryd.f8] <;> rfl) | rfl) (by first | rfl | (simp -implicitDefEqProofs only [go_sem, Int.reduceToNat, Int.reduceLT, Int.reduceLE, Int.reduceBEq, Int.reduceBNe, Nat.reduceLT, Nat.reduceBEq, Int.reduceEq, Nat.reduceEqDiff, Nat.reduceAdd, Nat.reduceSub, Nat.reduceMul, Nat.reduceLeDiff, reduceCtorEq, ↓reduceIte, eGEntry, eGFile]; done) | (simp -implicitDefEqProofs only [go_sem, Int.reduceToNat, Int.reduceLT, Int.reduceLE, Int.reduceBEq, Int.reduceBNe, Nat.reduceLT, Nat.reduceBEq, Int.reduceEq, Nat.reduceEqDiff, Nat.reduceAdd, Nat.reduceSub, Nat.reduceMul, Nat.reduceLeDiff, reduceCtorEq, ↓reduceIte, eGEntry, eGFile]; rfl)) rfl (by intro h; first | rfl | cases h)
        · refine runR_condF (by rfl) c27 ?_
          try simp -implicitDefEqProofs only [go_sem, c27]
          refine runR_take tab_ok fol 2 ?_
          obtain ⟨t78, b34, H35⟩ := bind_inv H28
          try simp -implicitDefEqProofs only [go_sem, Nat.reduceEqDiff, Nat.reduceAdd, reduceCtorEq, ↓reduceIte]
          refine onCall_pure (by first | rfl | (simp -implicitDefEqProofs only [go_sem, Int.reduceToNat, Int.reduceLT, Int.reduceLE, Int.reduceBEq, Int.reduceBNe, Nat.reduceLT, Nat.reduceBEq, Int.reduceEq, Nat.reduceEqDiff, Nat.reduceAdd, Nat.reduceSub, Nat.reduceMul, Nat.reduceLeDiff, reduceCtorEq, ↓reduceIte, eGEntry, eGFile, c15, c21, c27]; done) | (simp -implicitDefEqProofs only [go_sem, Int.reduceToNat, Int.reduceLT, Int.reduceLE, Int.reduceBEq, Int.reduceBNe, Nat.reduceLT, Nat.reduceBEq, Int.reduceEq, Nat.reduceEqDiff, Nat.reduceAdd, Nat.reduceSub, Nat.reduceMul, Nat.reduceLeDiff, reduceCtorEq, ↓reduceIte, eGEntry, eGFile, c15, c21, c27]; rfl)) (perm_groups_ok b34) (by first | exact .inr rfl | exact .inl rfl) ?_
          try simp -implicitDefEqProofs only [go_sem, Nat.reduceAdd, ↓reduceIte]
          rcases ite_inv H35 with ⟨c36, H37⟩ | ⟨c36, H37⟩
          · try simp -implicitDefEqProofs only [go_sem, Nat.reduceEqDiff, Nat.reduceAdd, ↓reduceIte, c36]
            rcases ite_inv H37 with ⟨c38, H39⟩ | ⟨c38, H39⟩
            · obtain ⟨t86, b40, H41⟩ := bind_inv H39
              try simp -implicitDefEqProofs only [go_sem, Nat.reduceEqDiff, Nat.reduceAdd, reduceCtorEq, ↓reduceIte, c38]
              refine onCall_pureA (by first | rfl | (simp -implicitDefEqProofs only [go_sem, Int.reduceToNat, Int.reduceLT, Int.reduceLE, Int.reduceBEq, Int.reduceBNe, Nat.reduceLT, Nat.reduceBEq, Int.reduceEq, Nat.reduceEqDiff, Nat.reduceAdd, Nat.reduceSub, Nat.reduceMul, Nat.reduceLeDiff, reduceCtorEq, ↓reduceIte, eGEntry, eGFile, c15, c21, c27, c36, c38]; done) | (simp -implicitDefEqProofs only [go_sem, Int.reduceToNat, Int.reduceLT, Int.reduceLE, Int.reduceBEq, Int.reduceBNe, Nat.reduceLT, Nat.reduceBEq, Int.reduceEq, Nat.reduceEqDiff, Nat.reduceAdd, Nat.reduceSub, Nat.reduceMul, Nat.reduceLeDiff, reduceCtorEq, ↓reduceIte, eGEntry, eGFile, c15, c21, c27, c36, c38]; rfl)) (slices_ContainsFunc_Entry__perm_Can_c2_ok b40) (by first | exact .inr rfl | exact .inl rfl) ?_
              try simp -implicitDefEqProofs only [go_sem, Nat.reduceEqDiff, Nat.reduceAdd, ↓reduceIte]
              obtain rfl := Option.some.inj H41
              exact end_pure (by first | (simp -implicitDefEqProofs only [go_sem, ↓reduceIte, Tryd.f8] <;> rfl) | rfl) (by first | rfl | (simp -implicitDefEqProofs only [go_sem, Int.reduceToNat, Int.reduceLT, Int.reduceLE, Int.reduceBEq, Int.reduceBNe, Nat.reduceLT, Nat.reduceBEq, Int.reduceEq, Nat.reduceEqDiff, Nat.reduceAdd, Nat.reduceSub, Nat.reduceMul, Nat.reduceLeDiff, reduceCtorEq, ↓reduceIte, eGEntry, eGFile, c15, c21, c27, c36, c38]; done) | (simp -implicitDefEqProofs only [go_sem, Int.reduceToNat, Int.reduceLT, Int.reduceLE, Int.reduceBEq, Int.reduceBNe, Nat.reduceLT, Nat.reduceBEq, Int.reduceEq, Nat.reduceEqDiff, Nat.reduceAdd, Nat.reduceSub, Nat.reduceMul, Nat.reduceLeDiff, reduceCtorEq, ↓reduceIte, eGEntry, eGFile, c15, c21, c27, c36, c38]; rfl)) rfl (by intro h; first | rfl | cases h)
            · try simp -implicitDefEqProofs only [go_sem, Nat.reduceEqDiff, Nat.reduceAdd, ↓reduceIte, c38]
              obtain rfl := Option.some.inj H39
              exact end_pure (by first | (simp -implicitDefEqProofs only [go_sem, ↓reduceIte, Tryd.f8] <;> rfl) | rfl) (by first | rfl | (simp -implicitDefEqProofs only [go_sem, Int.reduceToNat, Int.reduceLT, Int.reduceLE, Int.reduceBEq, Int.reduceBNe, Nat.reduceLT, Nat.reduceBEq, Int.reduceEq, Nat.reduceEqDiff, Nat.reduceAdd, Nat.reduceSub, Nat.reduceMul, Nat.reduceLeDiff, reduceCtorEq, ↓reduceIte, eGEntry, eGFile, c15, c21, c27, c36, c38]; done) | (simp -implicitDefEqProofs only [go_sem, Int.reduceToNat, Int.reduceLT, Int.reduceLE, Int.reduceBEq, Int.reduceBNe, Nat.reduceLT, Nat.reduceBEq, Int.reduceEq, Nat.reduceEqDiff, Nat.reduceAdd, Nat.reduceSub, Nat.reduceMul, Nat.reduceLeDiff, reduceCtorEq, ↓reduceIte, eGEntry, eGFile, c15, c21, c27, c36, c38]; rfl)) rfl (by intro h; first | rfl | cases h)
          · obtain ⟨t89, b42, H43⟩ := bind_inv H37
            try simp -implicitDefEqProofs only [go_sem, Nat.reduceEqDiff, Nat.reduceAdd, ↓reduceIte, c36]
            refine onCall_pureA (by first | rfl | (simp -implicitDefEqProofs only [go_sem, Int.reduceToNat, Int.reduceLT, Int.reduceLE, Int.reduceBEq, Int.reduceBNe, Nat.reduceLT, Nat.reduceBEq, Int.reduceEq, Nat.reduceEqDiff, Nat.reduceAdd, Nat.reduceSub, Nat.reduceMul, Nat.reduceLeDiff, reduceCtorEq, ↓reduceIte, eGEntry, eGFile, c15, c21, c27, c36]; done) | (simp -implicitDefEqProofs only [go_sem, Int.reduceToNat, Int.reduceLT, Int.reduceLE, Int.reduceBEq, Int.reduceBNe, Nat.reduceLT, Nat.reduceBEq, Int.reduceEq, Nat.reduceEqDiff, Nat.reduceAdd, Nat.reduceSub, Nat.reduceMul, Nat.reduceLeDiff, reduceCtorEq, ↓reduceIte, eGEntry, eGFile, c15, c21, c27, c36]; rfl)) (PureA.of_pure (perm_Can_c1_ok b42)) (by first | exact .inr rfl | exact .inl rfl) ?_
            try simp -implicitDefEqProofs only [go_sem, Nat.reduceAdd, ↓reduceIte]
            obtain rfl := Option.some.inj H43
            exact end_pure (by first | (simp -implicitDefEqProofs only [go_sem, ↓reduceIte, Tryd.f8] <;> rfl) | rfl) (by first | rfl | (simp -implicitDefEqProofs only [go_sem, Int.reduceToNat, Int.reduceLT, Int.reduceLE, Int.reduceBEq, Int.reduceBNe, Nat.reduceLT, Nat.reduceBEq, Int.reduceEq, Nat.reduceEqDiff, Nat.reduceAdd, Nat.reduceSub, Nat.reduceMul, Nat.reduceLeDiff, reduceCtorEq, ↓reduceIte, eGEntry, eGFile, c15, c21, c27, c36]; done) | (simp -implicitDefEqProofs only [go_sem, Int.reduceToNat, Int.reduceLT, Int.reduceLE, Int.reduceBEq, Int.reduceBNe, Nat.reduceLT, Nat.reduceBEq, Int.reduceEq, Nat.reduceEqDiff, Nat.reduceAdd, Nat.reduceSub, Nat.reduceMul, Nat.reduceLeDiff, reduceCtorEq, ↓reduceIte, eGEntry, eGFile, c15, c21, c27, c36]; rfl)) rfl (by intro h; first | rfl | cases h)
def law20_PermGroups_L1 (n : Nat) (t0 : List Int) : Nat → (List GFile × List GEntry × Int × Bool × Int) → Option (List GFile × List GEntry × Int × Bool)
  | 0, _ => none
  | c + 1, (t7, t8, t92, t102, t11) =>
    (
      (if (decide (t11 < (t0.length : Int))) then
        some (decide (t11 < 10))
      else
        some false) : Option (Bool)).bind fun t372 =>
    (if t372 then
      (bslc ({ data := #[97, 98, 99, 100, 101, 102, 103, 104, 105, 106] }) t11 (IntKind.i64.wrap (t11 + 1))).bind fun s3 =>
      (cat ({ data := #[103] }) s3).bind fun s4 =>
      (idx t0 t11).bind fun x2 =>
      (
        (if ((IntKind.i64.wrap (an x2 1 : Int)) == 1) then
          some ((IntKind.i64.wrap ((BitVec.ofInt IntKind.i64.bits t92 ||| BitVec.ofInt IntKind.i64.bits (IntKind.i64.wrap (an (sh x2 1) 7 : Int))).toNat : Int)), true, [{ data := #[117] }])
        else
          some (t92, t102, [])) : Option (Int × Bool × List ByteArray)).bind fun (t93, t103, t1222) =>
      (if (decide (t1222.length = 0)) then
        (app t7 [(⟨2, s4, [], ByteArray.empty, ByteArray.empty, [], 0⟩ : GFile)]).bind fun l =>
        (app t8 [(⟨4, false, s4, (IntKind.i64.wrap (an (sh x2 1) 7 : Int))⟩ : GEntry)]).bind fun l2 =>
        law20_PermGroups_L1 n t0 c (l, l2, t93, t103, (IntKind.i64.wrap (t11 + 1)))
      else
        (app t7 [(⟨2, s4, t1222, ByteArray.empty, ByteArray.empty, [], 0⟩ : GFile)]).bind fun l3 =>
        (app t8 [(⟨4, false, s4, (IntKind.i64.wrap (an (sh x2 1) 7 : Int))⟩ : GEntry)]).bind fun l4 =>
        law20_PermGroups_L1 n t0 c (l3, l4, t93, t103, (IntKind.i64.wrap (t11 + 1))))
    else
      some (t7, t8, t92, t102))

def law20_PermGroups_L2 (n : Nat) (l5 : List GFile) (t96 : Int) : Nat → Int → Option ((Unit) ⊕ Bool)
  | 0, _ => none
  | c + 1, t14 =>
    (if (decide (t14 ≤ 4)) then
      (perm_Can n l5 ({ data := #[117] }) ({ data := #[47] }) t14).bind fun t912 =>
      (if (t912 == ((IntKind.i64.wrap (an t96 t14 : Int)) != 0)) then
        (perm_Can n l5 ({ data := #[111] }) ({ data := #[47] }) t14).bind fun t1002 =>
        (if t1002 then
          some (.inr false)
        else
          law20_PermGroups_L2 n l5 t96 c (IntKind.i64.wrap (2 * t14)))
      else
        some (.inr false))
    else
      some (.inl ()))

def law20_PermGroups (n : Nat) (t0 : List Int) (t1 : Int) (t2 : Int) : Option Bool :=
  (
    law20_PermGroups_L1 n t0 n ([(⟨1, { data := #[117] }, [], ByteArray.empty, ByteArray.empty, [], 0⟩ : GFile), (⟨1, { data := #[111] }, [], ByteArray.empty, ByteArray.empty, [], 0⟩ : GFile), (⟨2, { data := #[103] }, [], ByteArray.empty, ByteArray.empty, [], 0⟩ : GFile)], [(⟨1, false, ByteArray.empty, 0⟩ : GEntry), (⟨3, false, ByteArray.empty, 0⟩ : GEntry), (⟨5, false, ByteArray.empty, (IntKind.i64.wrap (an t1 7 : Int))⟩ : GEntry), (⟨6, false, ByteArray.empty, (IntKind.i64.wrap (an t2 7 : Int))⟩ : GEntry)], 0, false, 0) : Option (List GFile × List GEntry × Int × Bool)).bind fun (t73, t83, t95, t105) =>
  (app t73 [(⟨3, { data := #[47] }, [], { data := #[111] }, { data := #[103] }, t83, 0⟩ : GFile)]).bind fun l5 =>
  (
    (if t105 then
      some (IntKind.i64.wrap (an t95 (IntKind.i64.wrap (an t1 7 : Int)) : Int))
    else
      some (IntKind.i64.wrap (an t2 7 : Int))) : Option (Int)).bind fun t96 =>
  (
    law20_PermGroups_L2 n l5 t96 n 1 : Option ((Unit) ⊕ Bool)).bind fun
    | .inl _ =>
      (law20_awake n).bind fun t1022 =>
      some t1022
    | .inr r => some r
set_option maxHeartbeats 8000000 in
theorem law20_PermGroups_ok {n : Nat} {t0 : List Int} {t1 : Int} {t2 : Int} {r : Bool} (H : law20_PermGroups n t0 t1 t2 = some r) : PureOK Tryd.prog 4 [D.sl (List.map eI t0), D.v (.int .i64 t1), D.v (.int .i64 t2)] (D.v (.bool r)) true := by
  unfold law20_PermGroups at H
  refine pure_runR (tab := tab) tab_ok Tryd.func4 rfl (by kernel_rfl) (by kernel_rfl) (by simp [Tryd.f4]) ?_
  refine runR_seq ?_
  refine runR_take tab_ok fol 1 ?_
  try simp -implicitDefEqProofs only [go_sem]
  refine runR_seq ?_
  refine runR_take tab_ok fol 1 ?_
  try simp -implicitDefEqProofs only [go_sem, Nat.reduceEqDiff, Nat.reduceAdd, ↓reduceIte]
  refine runR_seq ?_
  refine runR_take tab_ok fol 1 ?_
  try simp -implicitDefEqProofs only [go_sem, Nat.reduceLT, Nat.reduceEqDiff, Nat.reduceAdd, Nat.reduceMul, Nat.reduceLeDiff, ↓reduceIte]
  refine runR_seq ?_
  refine runR_take tab_ok fol 1 ?_
  try simp -implicitDefEqProofs only [go_sem, Nat.reduceLT, Nat.reduceEqDiff, Nat.reduceAdd, Nat.reduceMul, Nat.reduceLeDiff, ↓reduceIte]
  refine runR_seq ?_
  refine runR_take tab_ok fol 1 ?_
  try simp -implicitDefEqProofs only [go_sem, Nat.reduceAdd]
  refine runR_seq ?_
  refine runR_seq ?_
  refine runR_take tab_ok fol 1 ?_
  try simp -implicitDefEqProofs only [go_sem, Nat.reduceAdd]
  obtain ⟨e_, E1, H2⟩ := bind_inv H
  refine runR_join (α := { y : List GFile × List GEntry × Int × Bool // e_ = y } × Nat × Nat) (fun | ⟨⟨⟨t73, t83, t95, t105⟩, _⟩, ⟨g7, g8⟩⟩ => ⟨upd 1 (.v (.int .i64 (IntKind.i64.wrap (an t1 7 : Int)))) (upd 2 (.v (.int .i64 (IntKind.i64.wrap (an t2 7 : Int)))) (upd 7 (.so 0 g7 0 (t73.length)) (upd 8 (.so 1 g8 0 (t83.length)) (upd 9 (.v (.int .i64 t95)) (upd 10 (.v (.bool t105)) noFr))))), upd 0 (some (.rw (List.map eGFile t73) 7 g7 false false)) (upd 1 (some (.rw (List.map eGEntry t83) 4 g8 false false)) noHp), 2⟩) ?_ ?_
  · refine runR_block ?_
    refine runR_loop (α := { q : (Nat × (List GFile × List GEntry × Int × Bool × Int)) × Nat × Nat // law20_PermGroups_L1 n t0 q.1.1 q.1.2 = some e_ }) (fun | ⟨⟨⟨c, ⟨t7, t8, t92, t102, t11⟩⟩, ⟨g2, g3⟩⟩, _⟩ => ⟨upd 0 (.d (.sl (List.map eI t0)) true) (upd 1 (.v (.int .i64 (IntKind.i64.wrap (an t1 7 : Int)))) (upd 2 (.v (.int .i64 (IntKind.i64.wrap (an t2 7 : Int)))) (upd 7 (.so 0 g2 0 (t7.length)) (upd 8 (.so 1 g3 0 (t8.length)) (upd 9 (.v (.int .i64 t92)) (upd 10 (.v (.bool t102)) (upd 11 (.v (.int .i64 t11)) noFr))))))), upd 0 (some (.rw (List.map eGFile t7) 7 g2 false false)) (upd 1 (some (.rw (List.map eGEntry t8) 4 g3 false false)) noHp), 2⟩) (fun q => q.1.1.1) ⟨((n, ([(⟨1, { data := #[117] }, [], ByteArray.empty, ByteArray.empty, [], 0⟩ : GFile), (⟨1, { data := #[111] }, [], ByteArray.empty, ByteArray.empty, [], 0⟩ : GFile), (⟨2, { data := #[103] }, [], ByteArray.empty, ByteArray.empty, [], 0⟩ : GFile)], [(⟨1, false, ByteArray.empty, 0⟩ : GEntry), (⟨3, false, ByteArray.empty, 0⟩ : GEntry), (⟨5, false, ByteArray.empty, (IntKind.i64.wrap (an t1 7 : Int))⟩ : GEntry), (⟨6, false, ByteArray.empty, (IntKind.i64.wrap (an t2 7 : Int))⟩ : GEntry)], 0, false, 0)), (0, 0)), E1⟩ ?_ ?_
    · exact ren_mk [(0, 10), (1, 18)] (by rfl) (rf_upd (by rfl) (rf_upd (by rfl) (rf_upd (by rfl) (rf_upd (by rfl) (rf_upd (by rfl) (rf_upd (by rfl) (rf_upd (by rfl) (rf_upd (by rfl) (rf_no _))))))))) (rh_upd (rh_one (by rfl) (by rfl) (by rfl)) (rh_upd (rh_one (by rfl) (by rfl) (by rfl)) (rh_no _)))
    · rintro ⟨⟨⟨c, ⟨t7, t8, t92, t102, t11⟩⟩, ⟨g2, g3⟩⟩, L3⟩
      rcases c with _ | c
      · exact nomatch (show none = some _ from L3)
      · unfold law20_PermGroups_L1 at L3
        try dsimp only at L3
        refine runR_seq ?_
        refine runR_seq ?_
        obtain ⟨e_4, E43, H44⟩ := bind_inv L3
        refine runR_join (α := { y : Bool // e_4 = y }) (fun | ⟨t372, _⟩ => ⟨upd 0 (.d (.sl (List.map eI t0)) true) (upd 1 (.v (.int .i64 (IntKind.i64.wrap (an t1 7 : Int)))) (upd 2 (.v (.int .i64 (IntKind.i64.wrap (an t2 7 : Int)))) (upd 7 (.so 0 g2 0 (t7.length)) (upd 8 (.so 1 g3 0 (t8.length)) (upd 9 (.v (.int .i64 t92)) (upd 10 (.v (.bool t102)) (upd 11 (.v (.int .i64 t11)) (upd 37 (.v (.bool t372)) noFr)))))))), upd 0 (some (.rw (List.map eGFile t7) 7 g2 false false)) (upd 1 (some (.rw (List.map eGEntry t8) 4 g3 false false)) noHp), 2⟩) ?_ ?_
        · refine runR_take tab_ok fol 1 ?_
          try simp -implicitDefEqProofs only [go_sem, Nat.reduceEqDiff, Nat.reduceAdd, reduceCtorEq, ↓reduceIte]
          rcases ite_inv E43 with ⟨c45, H46⟩ | ⟨c45, H46⟩
          · try simp -implicitDefEqProofs only [go_sem, Nat.reduceEqDiff, Nat.reduceAdd, reduceCtorEq, ↓reduceIte, c45]
            obtain rfl := Option.some.inj H46
            exact ⟨⟨(decide (t11 < 10)), rfl⟩, ren_mk [(0, 0), (1, 1)] (by rfl) (rf_upd (by rfl) (rf_upd (by rfl) (rf_upd (by rfl) (rf_upd (by rfl) (rf_upd (by rfl) (rf_upd (by rfl) (rf_upd (by rfl) (rf_upd (by rfl) (rf_upd (by rfl) (rf_no _)))))))))) (rh_upd (rh_one (by rfl) (by rfl) (by rfl)) (rh_upd (rh_one (by rfl) (by rfl) (by rfl)) (rh_no _)))⟩
          · try simp -implicitDefEqProofs only [go_sem, Nat.reduceEqDiff, Nat.reduceAdd, ↓reduceIte, c45]
            obtain rfl := Option.some.inj H46
            exact ⟨⟨false, rfl⟩, ren_mk [(0, 0), (1, 1)] (by rfl) (rf_upd (by rfl) (rf_upd (by rfl) (rf_upd (by rfl) (rf_upd (by rfl) (rf_upd (by rfl) (rf_upd (by rfl) (rf_upd (by rfl) (rf_upd (by rfl) (rf_upd (by rfl) (rf_no _)))))))))) (rh_upd (rh_one (by rfl) (by rfl) (by rfl)) (rh_upd (rh_one (by rfl) (by rfl) (by rfl)) (rh_no _)))⟩
        · rintro ⟨t372, he113⟩
          replace he113 := he113.symm
          subst he113
          try dsimp only at H44
          refine runR_take tab_ok fol 1 ?_
          try simp -implicitDefEqProofs only [go_sem, Nat.reduceEqDiff, reduceCtorEq, ↓reduceIte]
          rcases ite_inv H44 with ⟨c47, H48⟩ | ⟨c47, H48⟩
          · try simp -implicitDefEqProofs only [go_sem, c47]
            refine runR_seq ?_
            refine runR_block ?_
            refine runR_seq ?_
            refine runR_take tab_ok fol 1 ?_
            obtain ⟨s3, b49, H50⟩ := bind_inv H48
            obtain ⟨h51, h52, h53, h54⟩ := bslc_inv b49
            have h55 : Int.toNat t11 ≤ Int.toNat (IntKind.i64.wrap (t11 + 1)) := by omega
            have h56 : Int.toNat (IntKind.i64.wrap (t11 + 1)) ≤ (ByteArray.size ({ data := #[97, 98, 99, 100, 101, 102, 103, 104, 105, 106] })) := by omega
            have h57 : ByteArray.extract ({ data := #[97, 98, 99, 100, 101, 102, 103, 104, 105, 106] }) (Int.toNat t11) (Int.toNat (IntKind.i64.wrap (t11 + 1))) = s3 := h54.symm
            have h58 : Int.toNat (IntKind.i64.wrap (t11 + 1)) ≤ 10 := h56
            try simp only [Int.toNat_natCast] at h55 h58 h57
            obtain ⟨s4, b59, H60⟩ := bind_inv H50
            obtain ⟨h61, h62⟩ := cat_inv b59
            have h63 : 1 + s3.size ≤ maxLen := h61
            try simp -implicitDefEqProofs only [go_sem, Nat.reduceEqDiff, Nat.reduceAdd, Nat.reduceLeDiff, reduceCtorEq, ↓reduceIte, nat_of .i64 h51, nat_of .i64 (Int.le_trans h51 h52), h55, h58, h57, h62, h63]
            refine runR_seq ?_
            refine runR_take tab_ok fol 1 ?_
            obtain ⟨x2, b64, H65⟩ := bind_inv H60
            obtain ⟨h66, h67⟩ := idx_inv b64
            try simp only [Int.reduceToNat, Int.toNat_natCast] at h67
            have h68 := map_at eI h67
            try simp -implicitDefEqProofs only [go_sem, Int.reduceToNat, Int.reduceLT, Nat.reduceEqDiff, Nat.reduceAdd, reduceCtorEq, ↓reduceIte, nat_of .i64 h51, h68]
            refine runR_seq ?_
            refine runR_seq ?_
            refine runR_take tab_ok fol 1 ?_
            try simp -implicitDefEqProofs only [go_sem, Nat.reduceEqDiff, Nat.reduceAdd, reduceCtorEq, ↓reduceIte, nat_of .i64 h51, h68]
            obtain ⟨e_5, E70, H71⟩ := bind_inv H65
            refine runR_join (α := { y : Int × Bool × List ByteArray // e_5 = y } × Nat) (fun | ⟨⟨⟨t93, t103, t1222⟩, _⟩, g4⟩ => ⟨upd 0 (.d (.sl (List.map eI t0)) true) (upd 1 (.v (.int .i64 (IntKind.i64.wrap (an t1 7 : Int)))) (upd 2 (.v (.int .i64 (IntKind.i64.wrap (an t2 7 : Int)))) (upd 7 (.so 0 g2 0 (t7.length)) (upd 8 (.so 1 g3 0 (t8.length)) (upd 9 (.v (.int .i64 t93)) (upd 10 (.v (.bool t103)) (upd 11 (.v (.int .i64 t11)) (upd 12 (.pt 2 0) (upd 13 (.v (.int .i64 (IntKind.i64.wrap (an (sh x2 1) 7 : Int)))) noFr))))))))), upd 0 (some (.rw (List.map eGFile t7) 7 g2 false false)) (upd 1 (some (.rw (List.map eGEntry t8) 4 g3 false false)) (upd 2 (some (.bx [.v (.int .i64 2), .v (.string s4), accV 3 g4 (List.map eS t1222), .v (.string ByteArray.empty), .v (.string ByteArray.empty), .v (.slice none 0 0), .v (.int .i64 0)])) (upd 3 (accO 1 g4 false (List.map eS t1222)) noHp))), 4⟩) ?_ ?_
            · refine runR_take tab_ok fol 1 ?_
              try simp -implicitDefEqProofs only [go_sem, ↓reduceIte]
              rcases ite_inv E70 with ⟨c72, H73⟩ | ⟨c72, H73⟩
              · try simp -implicitDefEqProofs only [go_sem, Nat.reduceLT, Nat.reduceEqDiff, Nat.reduceAdd, Nat.reduceLeDiff, reduceCtorEq, ↓reduceIte, c72]
                obtain rfl := Option.some.inj H73
                exact ⟨⟨⟨((IntKind.i64.wrap ((BitVec.ofInt IntKind.i64.bits t92 ||| BitVec.ofInt IntKind.i64.bits (IntKind.i64.wrap (an (sh x2 1) 7 : Int))).toNat : Int)), true, [{ data := #[117] }]), rfl⟩, 0⟩, ren_mk [(0, 0), (1, 1), (2, 8), (3, 23)] (by rfl) (rf_upd (by rfl) (rf_upd (by rfl) (rf_upd (by rfl) (rf_upd (by rfl) (rf_upd (by rfl) (rf_upd (by rfl) (rf_upd (by rfl) (rf_upd (by rfl) (rf_upd (by rfl) (rf_upd (by rfl) (rf_no _))))))))))) (rh_upd (rh_one (by rfl) (by rfl) (by rfl)) (rh_upd (rh_one (by rfl) (by rfl) (by rfl)) (rh_upd (rh_one (by rfl) (renO_bx (renL_cons (by rfl) (renL_cons (by rfl) (renL_cons (by first | exact ren_accP (by rfl) (by decide) | rfl) (renL_cons (by rfl) (renL_cons (by rfl) (renL_cons (by rfl) (renL_cons (by rfl) (renL_nil _))))))))) (by rfl)) (rh_upd (by first | exact rh_accP (by rfl) (by decide) (by rfl) | exact rh_one (by rfl) (by rfl) (by rfl)) (rh_no _)))))⟩
              · try simp -implicitDefEqProofs only [go_sem, c72]
                obtain rfl := Option.some.inj H73
                exact ⟨⟨⟨(t92, t102, []), rfl⟩, 0⟩, ren_mk [(0, 0), (1, 1), (2, 8)] (by rfl) (rf_upd (by rfl) (rf_upd (by rfl) (rf_upd (by rfl) (rf_upd (by rfl) (rf_upd (by rfl) (rf_upd (by rfl) (rf_upd (by rfl) (rf_upd (by rfl) (rf_upd (by rfl) (rf_upd (by rfl) (rf_no _))))))))))) (rh_upd (rh_one (by rfl) (by rfl) (by rfl)) (rh_upd (rh_one (by rfl) (by rfl) (by rfl)) (rh_upd (rh_one (by rfl) (renO_bx (renL_cons (by rfl) (renL_cons (by rfl) (renL_cons (by rfl) (renL_cons (by rfl) (renL_cons (by rfl) (renL_cons (by rfl) (renL_cons (by rfl) (renL_nil _))))))))) (by rfl)) (rh_upd rh_accN (rh_no _)))))⟩
            · rintro ⟨⟨⟨t93, t103, t1222⟩, he112⟩, g4⟩
              replace he112 := he112.symm
              subst he112
              try dsimp only at H71
              refine runR_take tab_ok fol 3 ?_
              try simp -implicitDefEqProofs only [go_sem, Nat.reduceLT, Nat.reduceEqDiff, Nat.reduceAdd, Nat.reduceMul, Nat.reduceLeDiff, reduceCtorEq, ↓reduceIte]
              rcases ite_inv H71 with ⟨c74, H75⟩ | ⟨c74, H75⟩
              · have e76 : t1222 = [] := List.eq_nil_of_length_eq_zero (of_decide_eq_true c74)
                subst e76
                simp only [List.map_nil, accV_nil, accO_nil]
                try simp only [accK]
                obtain ⟨l, b77, H78⟩ := bind_inv H75
                obtain ⟨h79, h80⟩ := app_inv b77
                have h79 : t7.length + 1 ≤ 4294967296 := h79
                have h81 : List.map eGFile t7 ++ [[.v (.int .i64 2), .v (.string s4), .sl [], .v (.string ByteArray.empty), .v (.string ByteArray.empty), .sl [], .v (.int .i64 0)]] = List.map eGFile l := app_map eGFile h80
                have h82 : t7.length + 1 = l.length := app_len h80
                have h83 : l.length ≤ 4294967296 := by omega
                have q84 : 0 < l.length := by omega
                obtain ⟨l2, b85, H86⟩ := bind_inv H78
                obtain ⟨h87, h88⟩ := app_inv b85
                have h87 : t8.length + 1 ≤ 4294967296 := h87
                have h89 : List.map eGEntry t8 ++ [[.v (.int .i64 4), .v (.bool false), .v (.string s4), .v (.int .i64 (IntKind.i64.wrap (an (sh x2 1) 7 : Int)))]] = List.map eGEntry l2 := app_map eGEntry h88
                have h90 : t8.length + 1 = l2.length := app_len h88
                have h91 : l2.length ≤ 4294967296 := by omega
                have q92 : 0 < l2.length := by omega
                try simp -implicitDefEqProofs only [go_sem, Nat.reduceLT, Nat.reduceEqDiff, Nat.reduceAdd, Nat.reduceMul, Nat.reduceLeDiff, reduceCtorEq, ↓reduceIte, h81, h82, h83, h89, h90, h91]
                exact ⟨⟨((c, (l, l2, t93, t103, (IntKind.i64.wrap (t11 + 1)))), ((g2 + 1), (g3 + 1))), H86⟩, ren_mk [(0, 0), (1, 1)] (by rfl) (rf_upd (by rfl) (rf_upd (by rfl) (rf_upd (by rfl) (rf_upd (by rfl) (rf_upd (by rfl) (rf_upd (by rfl) (rf_upd (by rfl) (rf_upd (by rfl) (rf_no _))))))))) (rh_upd (rh_one (by rfl) (by rfl) (by rfl)) (rh_upd (rh_one (by rfl) (by rfl) (by rfl)) (rh_no _))), Nat.lt_succ_self _⟩
              · have q93 : 0 < t1222.length := by have := of_decide_eq_false c74; omega
                have h94 : ∀ i, accK i (List.map eS t1222) = [i] := fun i => by cases hx : t1222 with | nil => (rw [hx] at q93; simp at q93) | cons a r => rfl
                have h95 : ∀ b, accB b (List.map eS t1222) = b := fun b => by cases hx : t1222 with | nil => (rw [hx] at q93; simp at q93) | cons a r => rfl
                obtain ⟨l3, b96, H97⟩ := bind_inv H75
                obtain ⟨h98, h99⟩ := app_inv b96
                have h98 : t7.length + 1 ≤ 4294967296 := h98
                have h100 : List.map eGFile t7 ++ [[.v (.int .i64 2), .v (.string s4), .sl (List.map eS t1222), .v (.string ByteArray.empty), .v (.string ByteArray.empty), .sl [], .v (.int .i64 0)]] = List.map eGFile l3 := app_map eGFile h99
                have h101 : t7.length + 1 = l3.length := app_len h99
                have h102 : l3.length ≤ 4294967296 := by omega
                have q103 : 0 < l3.length := by omega
                obtain ⟨l4, b104, H105⟩ := bind_inv H97
                obtain ⟨h106, h107⟩ := app_inv b104
                have h106 : t8.length + 1 ≤ 4294967296 := h106
                have h108 : List.map eGEntry t8 ++ [[.v (.int .i64 4), .v (.bool false), .v (.string s4), .v (.int .i64 (IntKind.i64.wrap (an (sh x2 1) 7 : Int)))]] = List.map eGEntry l4 := app_map eGEntry h107
                have h109 : t8.length + 1 = l4.length := app_len h107
                have h110 : l4.length ≤ 4294967296 := by omega
                have q111 : 0 < l4.length := by omega
                try simp -implicitDefEqProofs only [go_sem, Nat.reduceLT, Nat.reduceEqDiff, Nat.reduceAdd, Nat.reduceMul, Nat.reduceLeDiff, reduceCtorEq, ↓reduceIte, h94, accV_pos (f := eS) q93, accO_pos (f := eS) q93, h100, h101, h102, h108, h109, h110]
                exact ⟨⟨((c, (l3, l4, t93, t103, (IntKind.i64.wrap (t11 + 1)))), ((g2 + 1), (g3 + 1))), H105⟩, ren_mk [(0, 0), (1, 1)] (by rfl) (rf_upd (by rfl) (rf_upd (by rfl) (rf_upd (by rfl) (rf_upd (by rfl) (rf_upd (by rfl) (rf_upd (by rfl) (rf_upd (by rfl) (rf_upd (by rfl) (rf_no _))))))))) (rh_upd (rh_one (by rfl) (by rfl) (by rfl)) (rh_upd (rh_one (by rfl) (by rfl) (by rfl)) (rh_no _))), Nat.lt_succ_self _⟩
          · try simp -implicitDefEqProofs only [go_sem, ↓reduceIte, c47]
            obtain rfl := Option.some.inj H48
            exact ⟨⟨⟨(t7, t8, t92, t102), rfl⟩, (g2, g3)⟩, ren_mk [(0, 0), (1, 1)] (by rfl) (rf_upd (by rfl) (rf_upd (by rfl) (rf_upd (by rfl) (rf_upd (by rfl) (rf_upd (by rfl) (rf_upd (by rfl) (rf_no _))))))) (rh_upd (rh_one (by rfl) (by rfl) (by rfl)) (rh_upd (rh_one (by rfl) (by rfl) (by rfl)) (rh_no _)))⟩
  · rintro ⟨⟨⟨t73, t83, t95, t105⟩, he151⟩, ⟨g7, g8⟩⟩
    replace he151 := he151.symm
    subst he151
    try dsimp only at H2
    refine runR_seq ?_
    refine runR_take tab_ok fol 1 ?_
    obtain ⟨l5, b114, H115⟩ := bind_inv H2
    obtain ⟨h116, h117⟩ := app_inv b114
    have h116 : t73.length + 1 ≤ 4294967296 := h116
    have h118 : List.map eGFile t73 ++ [[.v (.int .i64 3), .v (.string { data := #[47] }), .sl [], .v (.string { data := #[111] }), .v (.string { data := #[103] }), .sl (List.map eGEntry t83), .v (.int .i64 0)]] = List.map eGFile l5 := app_map eGFile h117
    have h119 : t73.length + 1 = l5.length := app_len h117
    have h120 : l5.length ≤ 4294967296 := by omega
    have q121 : 0 < l5.length := by omega
    try simp -implicitDefEqProofs only [go_sem, Nat.reduceLT, Nat.reduceEqDiff, Nat.reduceAdd, Nat.reduceMul, Nat.reduceLeDiff, reduceCtorEq, ↓reduceIte, h118, h119, h120]
    refine runR_seq ?_
    refine runR_take tab_ok fol 1 ?_
    try simp -implicitDefEqProofs only [go_sem, Nat.reduceEqDiff, Nat.reduceAdd, ↓reduceIte]
    refine runR_seq ?_
    refine runR_seq ?_
    refine runR_take tab_ok fol 1 ?_
    try simp -implicitDefEqProofs only [go_sem, Nat.reduceEqDiff, Nat.reduceAdd, ↓reduceIte]
    obtain ⟨e_6, E122, H123⟩ := bind_inv H115
    refine runR_join (α := { y : Int // e_6 = y }) (fun | ⟨t96, _⟩ => ⟨upd 7 (.so 0 ((g7 + 1)) 0 (l5.length)) (upd 9 (.v (.int .i64 t96)) noFr), upd 0 (some (.rw (List.map eGFile l5) 7 (g7 + 1) false false)) noHp, 1⟩) ?_ ?_
    · refine runR_take tab_ok fol 1 ?_
      try simp -implicitDefEqProofs only [go_sem, ↓reduceIte]
      rcases ite_inv E122 with ⟨c124, H125⟩ | ⟨c124, H125⟩
      · try simp -implicitDefEqProofs only [go_sem, c124]
        obtain rfl := Option.some.inj H125
        exact ⟨⟨(IntKind.i64.wrap (an t95 (IntKind.i64.wrap (an t1 7 : Int)) : Int)), rfl⟩, ren_mk [(0, 0)] (by rfl) (rf_upd (by rfl) (rf_upd (by rfl) (rf_no _))) (rh_upd (rh_one (by rfl) (by rfl) (by rfl)) (rh_no _))⟩
      · try simp -implicitDefEqProofs only [go_sem, Nat.reduceEqDiff, Nat.reduceAdd, ↓reduceIte, c124]
        obtain rfl := Option.some.inj H125
        exact ⟨⟨(IntKind.i64.wrap (an t2 7 : Int)), rfl⟩, ren_mk [(0, 0)] (by rfl) (rf_upd (by rfl) (rf_upd (by rfl) (rf_no _))) (rh_upd (rh_one (by rfl) (by rfl) (by rfl)) (rh_no _))⟩
    · rintro ⟨t96, he150⟩
      replace he150 := he150.symm
      subst he150
      try dsimp only at H123
      refine runR_seq ?_
      refine runR_seq ?_
      refine runR_take tab_ok fol 1 ?_
      try simp -implicitDefEqProofs only [go_sem, Nat.reduceAdd]
      obtain ⟨e_7, E126, H127⟩ := bind_inv H123
      refine runR_join (α := { y : Unit // e_7 = .inl y }) (fun | ⟨_, _⟩ => ⟨noFr, noHp, 0⟩) ?_ ?_
      · refine runR_block ?_
        refine runR_loop (α := { q : Nat × Int // law20_PermGroups_L2 n l5 t96 q.1 q.2 = some e_7 }) (fun | ⟨⟨c, t14⟩, _⟩ => ⟨upd 7 (.so 0 ((g7 + 1)) 0 (l5.length)) (upd 9 (.v (.int .i64 t96)) (upd 14 (.v (.int .i64 t14)) noFr)), upd 0 (some (.rw (List.map eGFile l5) 7 (g7 + 1) false false)) noHp, 1⟩) (fun q => q.1.1) ⟨(n, 1), E126⟩ ?_ ?_
        · exact ren_mk [(0, 0)] (by rfl) (rf_upd (by rfl) (rf_upd (by rfl) (rf_upd (by rfl) (rf_no _)))) (rh_upd (rh_one (by rfl) (by rfl) (by rfl)) (rh_no _))
        · rintro ⟨⟨c, t14⟩, L128⟩
          rcases c with _ | c
          · exact nomatch (show none = some _ from L128)
          · unfold law20_PermGroups_L2 at L128
            try dsimp only at L128
            refine runR_take tab_ok fol 1 ?_
            try simp -implicitDefEqProofs only [go_sem, Nat.reduceEqDiff, Nat.reduceAdd, ↓reduceIte]
            rcases ite_inv L128 with ⟨c137, H138⟩ | ⟨c137, H138⟩
            · obtain ⟨t912, b139, H140⟩ := bind_inv H138
              try simp -implicitDefEqProofs only [go_sem, Nat.reduceEqDiff, Nat.reduceAdd, ↓reduceIte, c137]
              refine onCall_pure (by first | rfl | (simp -implicitDefEqProofs only [go_sem, ↓reduceIte]; done) | (simp -implicitDefEqProofs only [go_sem, ↓reduceIte]; rfl)) (perm_Can_ok b139) (by first | exact .inr rfl | exact .inl rfl) ?_
              try simp -implicitDefEqProofs only [go_sem, Nat.reduceEqDiff, Nat.reduceAdd, ↓reduceIte]
              rcases ite_inv H140 with ⟨c141, H142⟩ | ⟨c141, H142⟩
              · obtain ⟨t1002, b143, H144⟩ := bind_inv H142
                try simp -implicitDefEqProofs only [go_sem, Nat.reduceEqDiff, Nat.reduceAdd, ↓reduceIte, c141]
                refine onCall_pure (by first | rfl | (simp -implicitDefEqProofs only [go_sem, ↓reduceIte]; done) | (simp -implicitDefEqProofs only [go_sem, ↓reduceIte]; rfl)) (perm_Can_ok b143) (by first | exact .inr rfl | exact .inl rfl) ?_
                try simp -implicitDefEqProofs only [go_sem, Nat.reduceEqDiff, Nat.reduceAdd, ↓reduceIte]
                rcases ite_inv H144 with ⟨c145, H146⟩ | ⟨c145, H146⟩
                · try simp -implicitDefEqProofs only [go_sem, Nat.reduceAdd, c145]
                  obtain rfl := Option.some.inj H146
                  obtain rfl := Option.some.inj H127
                  exact end_pure (by first | (simp -implicitDefEqProofs only [go_sem, ↓reduceIte, Tryd.f4] <;> rfl) | rfl) (by first | rfl | (simp -implicitDefEqProofs only [go_sem, Int.reduceToNat, Int.reduceLT, Int.reduceLE, Int.reduceBEq, Int.reduceBNe, Nat.reduceLT, Nat.reduceBEq, Int.reduceEq, Nat.reduceEqDiff, Nat.reduceAdd, Nat.reduceSub, Nat.reduceMul, Nat.reduceLeDiff, reduceCtorEq, ↓reduceIte, eGEntry, eGFile, c137, c141, c145]; done) | (simp -implicitDefEqProofs only [go_sem, Int.reduceToNat, Int.reduceLT, Int.reduceLE, Int.reduceBEq, Int.reduceBNe, Nat.reduceLT, Nat.reduceBEq, Int.reduceEq, Nat.reduceEqDiff, Nat.reduceAdd, Nat.reduceSub, Nat.reduceMul, Nat.reduceLeDiff, reduceCtorEq, ↓reduceIte, eGEntry, eGFile, c137, c141, c145]; rfl)) rfl (by intro h; first | rfl | cases h)
                · try simp -implicitDefEqProofs only [go_sem, Nat.reduceEqDiff, Nat.reduceAdd, ↓reduceIte, c145]
                  exact ⟨⟨(c, (IntKind.i64.wrap (2 * t14))), H146⟩, ren_mk [(0, 0)] (by rfl) (rf_upd (by rfl) (rf_upd (by rfl) (rf_upd (by rfl) (rf_no _)))) (rh_upd (rh_one (by rfl) (by rfl) (by rfl)) (rh_no _)), Nat.lt_succ_self _⟩
              · try simp -implicitDefEqProofs only [go_sem, Nat.reduceEqDiff, Nat.reduceAdd, ↓reduceIte, c141]
                obtain rfl := Option.some.inj H142
                obtain rfl := Option.some.inj H127
                exact end_pure (by first | (simp -implicitDefEqProofs only [go_sem, ↓reduceIte, Tryd.f4] <;> rfl) | rfl) (by first | rfl | (simp -implicitDefEqProofs only [go_sem, Int.reduceToNat, Int.reduceLT, Int.reduceLE, Int.reduceBEq, Int.reduceBNe, Nat.reduceLT, Nat.reduceBEq, Int.reduceEq, Nat.reduceEqDiff, Nat.reduceAdd, Nat.reduceSub, Nat.reduceMul, Nat.reduceLeDiff, reduceCtorEq, ↓reduceIte, eGEntry, eGFile, c137, c141]; done) | (simp -implicitDefEqProofs only [go_sem, Int.reduceToNat, Int.reduceLT, Int.reduceLE, Int.reduceBEq, Int.reduceBNe, Nat.reduceLT, Nat.reduceBEq, Int.reduceEq, Nat.reduceEqDiff, Nat.reduceAdd, Nat.reduceSub, Nat.reduceMul, Nat.reduceLeDiff, reduceCtorEq, ↓reduceIte, eGEntry, eGFile, c137, c141]; rfl)) rfl (by intro h; first | rfl | cases h)
            · try simp -implicitDefEqProofs only [go_sem, ↓reduceIte, c137]
              obtain rfl := Option.some.inj H138
              exact ⟨⟨(), rfl⟩, ren_mk [] (by rfl) (rf_no _) (rh_no _)⟩
      · rintro ⟨_, he149⟩
        replace he149 := he149.symm
        subst he149
        try dsimp only at H127
        refine runR_take tab_ok fol 1 ?_
        obtain ⟨t1022, b147, H148⟩ := bind_inv H127
        try simp -implicitDefEqProofs only [go_sem, Nat.reduceAdd]
        refine onCall_pure (by first | rfl | (simp -implicitDefEqProofs only [go_sem, Int.reduceToNat, Int.reduceLT, Int.reduceLE, Int.reduceBEq, Int.reduceBNe, Nat.reduceLT, Nat.reduceBEq, Int.reduceEq, Nat.reduceEqDiff, Nat.reduceAdd, Nat.reduceSub, Nat.reduceMul, Nat.reduceLeDiff, reduceCtorEq, ↓reduceIte, eGEntry, eGFile]; done) | (simp -implicitDefEqProofs only [go_sem, Int.reduceToNat, Int.reduceLT, Int.reduceLE, Int.reduceBEq, Int.reduceBNe, Nat.reduceLT, Nat.reduceBEq, Int.reduceEq, Nat.reduceEqDiff, Nat.reduceAdd, Nat.reduceSub, Nat.reduceMul, Nat.reduceLeDiff, reduceCtorEq, ↓reduceIte, eGEntry, eGFile]; rfl)) (law20_awake_ok b147) (by first | exact .inr rfl | exact .inl rfl) ?_
        try simp -implicitDefEqProofs only [go_sem, Nat.reduceAdd, ↓reduceIte]
        obtain rfl := Option.some.inj H148
        exact end_pure (by first | (simp -implicitDefEqProofs only [go_sem, ↓reduceIte, Tryd.f4] <;> rfl) | rfl) (by first | rfl | (simp -implicitDefEqProofs only [go_sem, Int.reduceToNat, Int.reduceLT, Int.reduceLE, Int.reduceBEq, Int.reduceBNe, Nat.reduceLT, Nat.reduceBEq, Int.reduceEq, Nat.reduceEqDiff, Nat.reduceAdd, Nat.reduceSub, Nat.reduceMul, Nat.reduceLeDiff, reduceCtorEq, ↓reduceIte, eGEntry, eGFile]; done) | (simp -implicitDefEqProofs only [go_sem, Int.reduceToNat, Int.reduceLT, Int.reduceLE, Int.reduceBEq, Int.reduceBNe, Nat.reduceLT, Nat.reduceBEq, Int.reduceEq, Nat.reduceEqDiff, Nat.reduceAdd, Nat.reduceSub, Nat.reduceMul, Nat.reduceLeDiff, reduceCtorEq, ↓reduceIte, eGEntry, eGFile]; rfl)) rfl (by intro h; first | rfl | cases h)
end Go.Proofs.YtkdpiembjjefaaaDoor.Ab
