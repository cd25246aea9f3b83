/-
  Functions, read off the code.
-/
import Derived.Test.YtkkhgdmmbhpckaaSvc
namespace Go.Proofs.Ytkkhgdmmbhpckaa.Ab
open Go.RowKit
def ref13_Of_L1 (n : Nat) (t0 : List GFact) : Nat → (List ByteArray × List ByteArray × List GPair × List GPair × List GGrant × List GSod × List GSod × List GSession × Int) → Option (List ByteArray × List ByteArray × List GPair × List GPair × List GGrant × List GSod × List GSod × List GSession)
  | 0, _ => none
  | c + 1, (t30, t31, t32, t33, t34, t35, t36, t37, t4) =>
    (if (decide (t4 < (t0.length : Int))) then
      (idx t0 t4).bind fun x2 =>
      (if (x2.kind == 1) then
        (app t30 [x2.a]).bind fun l4 =>
        ref13_Of_L1 n t0 c (l4, t31, t32, t33, t34, t35, t36, t37, (IntKind.i64.wrap (t4 + 1)))
      else
        (if (x2.kind == 2) then
          (app t31 [x2.a]).bind fun l5 =>
          ref13_Of_L1 n t0 c (t30, l5, t32, t33, t34, t35, t36, t37, (IntKind.i64.wrap (t4 + 1)))
        else
          (if (x2.kind == 3) then
            (app t32 [(⟨x2.a, x2.b⟩ : GPair)]).bind fun l6 =>
            ref13_Of_L1 n t0 c (t30, t31, l6, t33, t34, t35, t36, t37, (IntKind.i64.wrap (t4 + 1)))
          else
            (if (x2.kind == 4) then
              (app t33 [(⟨x2.a, x2.b⟩ : GPair)]).bind fun l7 =>
              ref13_Of_L1 n t0 c (t30, t31, t32, l7, t34, t35, t36, t37, (IntKind.i64.wrap (t4 + 1)))
            else
              (if (x2.kind == 5) then
                (app t34 [(⟨x2.a, x2.b, x2.c⟩ : GGrant)]).bind fun l8 =>
                ref13_Of_L1 n t0 c (t30, t31, t32, t33, l8, t35, t36, t37, (IntKind.i64.wrap (t4 + 1)))
              else
                (if (x2.kind == 6) then
                  (app [] x2.l).bind fun _ =>
                  (app t35 [(⟨x2.a, x2.n_, x2.l⟩ : GSod)]).bind fun l10 =>
                  ref13_Of_L1 n t0 c (t30, t31, t32, t33, t34, l10, t36, t37, (IntKind.i64.wrap (t4 + 1)))
                else
                  (if (x2.kind == 7) then
                    (app [] x2.l).bind fun _ =>
                    (app t36 [(⟨x2.a, x2.n_, x2.l⟩ : GSod)]).bind fun l12 =>
                    ref13_Of_L1 n t0 c (t30, t31, t32, t33, t34, t35, l12, t37, (IntKind.i64.wrap (t4 + 1)))
                  else
                    (if (x2.kind == 8) then
                      (app [] x2.l).bind fun _ =>
                      (app t37 [(⟨x2.a, x2.b, x2.l⟩ : GSession)]).bind fun l14 =>
                      ref13_Of_L1 n t0 c (t30, t31, t32, t33, t34, t35, t36, l14, (IntKind.i64.wrap (t4 + 1)))
                    else
                      ref13_Of_L1 n t0 c (t30, t31, t32, t33, t34, t35, t36, t37, (IntKind.i64.wrap (t4 + 1)))))))))))
    else
      some (t30, t31, t32, t33, t34, t35, t36, t37))
def ref13_Of_L1_f (_ : Nat) (_ : List GFact) (st : List ByteArray × List ByteArray × List GPair × List GPair × List GGrant × List GSod × List GSod × List GSession) (x2 : GFact) (k : (List ByteArray × List ByteArray × List GPair × List GPair × List GGrant × List GSod × List GSod × List GSession) → Option (List ByteArray × List ByteArray × List GPair × List GPair × List GGrant × List GSod × List GSod × List GSession)) : Option (List ByteArray × List ByteArray × List GPair × List GPair × List GGrant × List GSod × List GSod × List GSession) :=
  match st with
  | (t30, t31, t32, t33, t34, t35, t36, t37) =>
    (if (x2.kind == 1) then
      (app t30 [x2.a]).bind fun l4 =>
      k (l4, t31, t32, t33, t34, t35, t36, t37)
    else
      (if (x2.kind == 2) then
        (app t31 [x2.a]).bind fun l5 =>
        k (t30, l5, t32, t33, t34, t35, t36, t37)
      else
        (if (x2.kind == 3) then
          (app t32 [(⟨x2.a, x2.b⟩ : GPair)]).bind fun l6 =>
          k (t30, t31, l6, t33, t34, t35, t36, t37)
        else
          (if (x2.kind == 4) then
            (app t33 [(⟨x2.a, x2.b⟩ : GPair)]).bind fun l7 =>
            k (t30, t31, t32, l7, t34, t35, t36, t37)
          else
            (if (x2.kind == 5) then
              (app t34 [(⟨x2.a, x2.b, x2.c⟩ : GGrant)]).bind fun l8 =>
              k (t30, t31, t32, t33, l8, t35, t36, t37)
            else
              (if (x2.kind == 6) then
                (app [] x2.l).bind fun _ =>
                (app t35 [(⟨x2.a, x2.n_, x2.l⟩ : GSod)]).bind fun l10 =>
                k (t30, t31, t32, t33, t34, l10, t36, t37)
              else
                (if (x2.kind == 7) then
                  (app [] x2.l).bind fun _ =>
                  (app t36 [(⟨x2.a, x2.n_, x2.l⟩ : GSod)]).bind fun l12 =>
                  k (t30, t31, t32, t33, t34, t35, l12, t37)
                else
                  (if (x2.kind == 8) then
                    (app [] x2.l).bind fun _ =>
                    (app t37 [(⟨x2.a, x2.b, x2.l⟩ : GSession)]).bind fun l14 =>
                    k (t30, t31, t32, t33, t34, t35, t36, l14)
                  else
                    k (t30, t31, t32, t33, t34, t35, t36, t37)))))))))
def ref13_Of_L1_e (_ : Nat) (_ : List GFact) (st : List ByteArray × List ByteArray × List GPair × List GPair × List GGrant × List GSod × List GSod × List GSession) : Option (List ByteArray × List ByteArray × List GPair × List GPair × List GGrant × List GSod × List GSod × List GSession) :=
  match st with
  | (t30, t31, t32, t33, t34, t35, t36, t37) => some (t30, t31, t32, t33, t34, t35, t36, t37)
theorem ref13_Of_L1_list (n : Nat) (t0 : List GFact) (hx : t0.length < 4611686018427387904) (c : Nat) (st : List ByteArray × List ByteArray × List GPair × List GPair × List GGrant × List GSod × List GSod × List GSession) (ix : Nat) (hi : ix ≤ t0.length) (hc : t0.length - ix < c) : ref13_Of_L1 n t0 c (match st, (ix : Int) with | (t30, t31, t32, t33, t34, t35, t36, t37), ix => (t30, t31, t32, t33, t34, t35, t36, t37, ix)) = foldK (ref13_Of_L1_f n t0) (ref13_Of_L1_e n t0) (t0.drop ix) st :=
  loop_list (fun c st ix => ref13_Of_L1 n t0 c (match st, ix with | (t30, t31, t32, t33, t34, t35, t36, t37), ix => (t30, t31, t32, t33, t34, t35, t36, t37, ix))) t0 (ref13_Of_L1_f n t0) (ref13_Of_L1_e n t0) (fun _ _ _ => rfl) hx c st ix hi hc

def ref13_Of (n : Nat) (t0 : List GFact) : Option GRoles :=
  (
    ref13_Of_L1 n t0 n ([], [], [], [], [], [], [], [], 0) : Option (List ByteArray × List ByteArray × List GPair × List GPair × List GGrant × List GSod × List GSod × List GSession)).bind fun (t303, t313, t323, t333, t343, t353, t363, t373) =>
  some (⟨t303, t313, t323, t333, t343, t353, t363, t373⟩ : GRoles)
set_option maxHeartbeats 8000000 in
theorem ref13_Of_ok {n : Nat} {t0 : List GFact} {r : GRoles} (H : ref13_Of n t0 = some r) : PureOK Try.prog 33 [D.sl (List.map eGFact t0)] (D.ag (eGRoles r)) true := by
  unfold ref13_Of at H
  refine pure_runR (tab := tab) tab_ok Try.func33 rfl (by kernel_rfl) (by kernel_rfl) (by simp [Try.f33]) ?_
  refine runR_seq ?_
  refine runR_take tab_ok fol 1 ?_
  try simp -implicitDefEqProofs only [go_sem, ↓reduceIte, eGRoles]
  refine runR_seq ?_
  refine runR_take tab_ok fol 1 ?_
  try simp -implicitDefEqProofs only [go_sem, Nat.reduceEqDiff, Nat.reduceAdd, ↓reduceIte]
  refine runR_seq ?_
  refine runR_seq ?_
  refine runR_take tab_ok fol 1 ?_
  try simp -implicitDefEqProofs only [go_sem, Nat.reduceAdd]
  obtain ⟨e_, E1, H2⟩ := bind_inv H
  refine runR_join (α := { y : List ByteArray × List ByteArray × List GPair × List GPair × List GGrant × List GSod × List GSod × List GSession // e_ = y } × Nat × Nat × Nat × Nat × Nat × Nat × Nat × Nat) (fun | ⟨⟨⟨t303, t313, t323, t333, t343, t353, t363, t373⟩, _⟩, ⟨g17, g18, g19, g20, g21, g22, g23, g24⟩⟩ => ⟨upd 2 (.pt 0 0) (upd 3 (.pt 1 0) noFr), upd 0 (some (.bx [.v (.slice none 0 0), .v (.slice none 0 0), .v (.slice none 0 0), .v (.slice none 0 0), .v (.slice none 0 0), .v (.slice none 0 0), .v (.slice none 0 0), .v (.slice none 0 0)])) (upd 1 (some (.bx [accV 2 g17 (List.map eS t303), accV 3 g18 (List.map eS t313), accV 4 g19 (List.map eGPair t323), accV 5 g20 (List.map eGPair t333), accV 6 g21 (List.map eGGrant t343), accV 7 g22 (List.map eGSod t353), accV 8 g23 (List.map eGSod t363), accV 9 g24 (List.map eGSession t373)])) (upd 2 (accO 1 g17 false (List.map eS t303)) (upd 3 (accO 1 g18 false (List.map eS t313)) (upd 4 (accO 2 g19 false (List.map eGPair t323)) (upd 5 (accO 2 g20 false (List.map eGPair t333)) (upd 6 (accO 3 g21 false (List.map eGGrant t343)) (upd 7 (accO 3 g22 false (List.map eGSod t353)) (upd 8 (accO 3 g23 false (List.map eGSod t363)) (upd 9 (accO 3 g24 false (List.map eGSession t373)) noHp))))))))), 10⟩) ?_ ?_
  · refine runR_block ?_
    refine runR_loop (α := { q : (Nat × (List ByteArray × List ByteArray × List GPair × List GPair × List GGrant × List GSod × List GSod × List GSession × Int)) × Nat × Nat × Nat × Nat × Nat × Nat × Nat × Nat // ref13_Of_L1 n t0 q.1.1 q.1.2 = some e_ }) (fun | ⟨⟨⟨c, ⟨t30, t31, t32, t33, t34, t35, t36, t37, t4⟩⟩, ⟨g, g2, g3, g4, g5, g6, g7, g8⟩⟩, _⟩ => ⟨upd 0 (.d (.sl (List.map eGFact t0)) true) (upd 2 (.pt 0 0) (upd 3 (.pt 1 0) (upd 4 (.v (.int .i64 t4)) noFr))), upd 0 (some (.bx [.v (.slice none 0 0), .v (.slice none 0 0), .v (.slice none 0 0), .v (.slice none 0 0), .v (.slice none 0 0), .v (.slice none 0 0), .v (.slice none 0 0), .v (.slice none 0 0)])) (upd 1 (some (.bx [accV 2 g (List.map eS t30), accV 3 g2 (List.map eS t31), accV 4 g3 (List.map eGPair t32), accV 5 g4 (List.map eGPair t33), accV 6 g5 (List.map eGGrant t34), accV 7 g6 (List.map eGSod t35), accV 8 g7 (List.map eGSod t36), accV 9 g8 (List.map eGSession t37)])) (upd 2 (accO 1 g false (List.map eS t30)) (upd 3 (accO 1 g2 false (List.map eS t31)) (upd 4 (accO 2 g3 false (List.map eGPair t32)) (upd 5 (accO 2 g4 false (List.map eGPair t33)) (upd 6 (accO 3 g5 false (List.map eGGrant t34)) (upd 7 (accO 3 g6 false (List.map eGSod t35)) (upd 8 (accO 3 g7 false (List.map eGSod t36)) (upd 9 (accO 3 g8 false (List.map eGSession t37)) noHp))))))))), 10⟩) (fun q => q.1.1.1) ⟨((n, ([], [], [], [], [], [], [], [], 0)), (0, 0, 0, 0, 0, 0, 0, 0)), E1⟩ ?_ ?_
    · exact ren_mk [(0, 0), (1, 2)] (by rfl) (rf_upd (by rfl) (rf_upd (by rfl) (rf_upd (by rfl) (rf_upd (by rfl) (rf_no _))))) (rh_upd (rh_one (by rfl) (by rfl) (by rfl)) (rh_upd (rh_one (by rfl) (renO_bx (renL_cons (by rfl) (renL_cons (by rfl) (renL_cons (by rfl) (renL_cons (by rfl) (renL_cons (by rfl) (renL_cons (by rfl) (renL_cons (by rfl) (renL_cons (by rfl) (renL_nil _)))))))))) (by rfl)) (rh_upd rh_accN (rh_upd rh_accN (rh_upd rh_accN (rh_upd rh_accN (rh_upd rh_accN (rh_upd rh_accN (rh_upd rh_accN (rh_upd rh_accN (rh_no _)))))))))))
    · rintro ⟨⟨⟨c, ⟨t30, t31, t32, t33, t34, t35, t36, t37, t4⟩⟩, ⟨g, g2, g3, g4, g5, g6, g7, g8⟩⟩, L3⟩
      rcases c with _ | c
      · exact nomatch (show none = some _ from L3)
      · unfold ref13_Of_L1 at L3
        try dsimp only at L3
        refine runR_take tab_ok fol 1 ?_
        try simp -implicitDefEqProofs only [go_sem, Nat.reduceEqDiff, Nat.reduceAdd, reduceCtorEq, ↓reduceIte]
        rcases ite_inv L3 with ⟨c46, H47⟩ | ⟨c46, H47⟩
        · obtain ⟨x2, b48, H49⟩ := bind_inv H47
          obtain ⟨h50, h51⟩ := idx_inv b48
          try simp only [Int.reduceToNat, Int.toNat_natCast] at h51
          have h52 := map_at eGFact h51
          try simp -implicitDefEqProofs only [go_sem, Nat.reduceEqDiff, Nat.reduceAdd, reduceCtorEq, ↓reduceIte, eGFact, c46, nat_of .i64 h50, h52]
          rcases ite_inv H49 with ⟨c54, H55⟩ | ⟨c54, H55⟩
          · obtain ⟨l4, b56, H57⟩ := bind_inv H55
            obtain ⟨h58, h59⟩ := app_inv b56
            have h58 : t30.length + 1 ≤ 4294967296 := h58
            have h60 : List.map eS t30 ++ [[.v (.string x2.a)]] = List.map eS l4 := app_map eS h59
            have h61 : t30.length + 1 = l4.length := app_len h59
            have h62 : l4.length ≤ 4294967296 := by omega
            have q63 : 0 < l4.length := by omega
            try simp -implicitDefEqProofs only [go_sem, Nat.reduceLT, Nat.reduceEqDiff, Nat.reduceAdd, Nat.reduceLeDiff, reduceCtorEq, ↓reduceIte, c54, h60, h61, h62, accI_ne]
            rcases t30 with _ | ⟨q0, q1⟩
            · try simp only [List.map_nil, accI, accN]
              exact ⟨⟨((c, (l4, t31, t32, t33, t34, t35, t36, t37, (IntKind.i64.wrap (t4 + 1)))), (0, g2, g3, g4, g5, g6, g7, g8)), H57⟩, ren_mk [(0, 0), (1, 1), (2, 29), (3, 3), (4, 4), (5, 5), (6, 6), (7, 7), (8, 8), (9, 9)] (by rfl) (rf_upd (by rfl) (rf_upd (by rfl) (rf_upd (by rfl) (rf_upd (by rfl) (rf_no _))))) (rh_upd (rh_one (by rfl) (by rfl) (by rfl)) (rh_upd (rh_one (by rfl) (renO_bx (renL_cons (by exact ren_accP (by rfl) q63) (renL_cons (ren_acc (by rfl)) (renL_cons (ren_acc (by rfl)) (renL_cons (ren_acc (by rfl)) (renL_cons (ren_acc (by rfl)) (renL_cons (ren_acc (by rfl)) (renL_cons (ren_acc (by rfl)) (renL_cons (ren_acc (by rfl)) (renL_nil _)))))))))) (by rfl)) (rh_upd (by exact rh_accP (by rfl) q63 (by rfl)) (rh_upd (rh_acc (by rfl) (by rfl)) (rh_upd (rh_acc (by rfl) (by rfl)) (rh_upd (rh_acc (by rfl) (by rfl)) (rh_upd (rh_acc (by rfl) (by rfl)) (rh_upd (rh_acc (by rfl) (by rfl)) (rh_upd (rh_acc (by rfl) (by rfl)) (rh_upd (rh_acc (by rfl) (by rfl)) (rh_no _))))))))))), Nat.lt_succ_self _⟩
            · try simp only [List.map_cons, accI, accN]
              exact ⟨⟨((c, (l4, t31, t32, t33, t34, t35, t36, t37, (IntKind.i64.wrap (t4 + 1)))), ((g + 1), g2, g3, g4, g5, g6, g7, g8)), H57⟩, ren_mk [(0, 0), (1, 1), (2, 2), (3, 3), (4, 4), (5, 5), (6, 6), (7, 7), (8, 8), (9, 9)] (by rfl) (rf_upd (by rfl) (rf_upd (by rfl) (rf_upd (by rfl) (rf_upd (by rfl) (rf_no _))))) (rh_upd (rh_one (by rfl) (by rfl) (by rfl)) (rh_upd (rh_one (by rfl) (renO_bx (renL_cons (by exact ren_accP (by rfl) q63) (renL_cons (ren_acc (by rfl)) (renL_cons (ren_acc (by rfl)) (renL_cons (ren_acc (by rfl)) (renL_cons (ren_acc (by rfl)) (renL_cons (ren_acc (by rfl)) (renL_cons (ren_acc (by rfl)) (renL_cons (ren_acc (by rfl)) (renL_nil _)))))))))) (by rfl)) (rh_upd (by exact rh_accP (by rfl) q63 (by rfl)) (rh_upd (rh_acc (by rfl) (by rfl)) (rh_upd (rh_acc (by rfl) (by rfl)) (rh_upd (rh_acc (by rfl) (by rfl)) (rh_upd (rh_acc (by rfl) (by rfl)) (rh_upd (rh_acc (by rfl) (by rfl)) (rh_upd (rh_acc (by rfl) (by rfl)) (rh_upd (rh_acc (by rfl) (by rfl)) (rh_no _))))))))))), Nat.lt_succ_self _⟩
          · try simp -implicitDefEqProofs only [go_sem, Nat.reduceEqDiff, Nat.reduceAdd, ↓reduceIte, c54]
            rcases ite_inv H55 with ⟨c64, H65⟩ | ⟨c64, H65⟩
            · obtain ⟨l5, b66, H67⟩ := bind_inv H65
              obtain ⟨h68, h69⟩ := app_inv b66
              have h68 : t31.length + 1 ≤ 4294967296 := h68
              have h70 : List.map eS t31 ++ [[.v (.string x2.a)]] = List.map eS l5 := app_map eS h69
              have h71 : t31.length + 1 = l5.length := app_len h69
              have h72 : l5.length ≤ 4294967296 := by omega
              have q73 : 0 < l5.length := by omega
              try simp -implicitDefEqProofs only [go_sem, Nat.reduceLT, Nat.reduceEqDiff, Nat.reduceAdd, Nat.reduceLeDiff, reduceCtorEq, ↓reduceIte, c64, h70, h71, h72, accI_ne]
              rcases t31 with _ | ⟨q0, q1⟩
              · try simp only [List.map_nil, accI, accN]
                exact ⟨⟨((c, (t30, l5, t32, t33, t34, t35, t36, t37, (IntKind.i64.wrap (t4 + 1)))), (g, 0, g3, g4, g5, g6, g7, g8)), H67⟩, ren_mk [(0, 0), (1, 1), (2, 2), (3, 31), (4, 4), (5, 5), (6, 6), (7, 7), (8, 8), (9, 9)] (by rfl) (rf_upd (by rfl) (rf_upd (by rfl) (rf_upd (by rfl) (rf_upd (by rfl) (rf_no _))))) (rh_upd (rh_one (by rfl) (by rfl) (by rfl)) (rh_upd (rh_one (by rfl) (renO_bx (renL_cons (ren_acc (by rfl)) (renL_cons (by exact ren_accP (by rfl) q73) (renL_cons (ren_acc (by rfl)) (renL_cons (ren_acc (by rfl)) (renL_cons (ren_acc (by rfl)) (renL_cons (ren_acc (by rfl)) (renL_cons (ren_acc (by rfl)) (renL_cons (ren_acc (by rfl)) (renL_nil _)))))))))) (by rfl)) (rh_upd (rh_acc (by rfl) (by rfl)) (rh_upd (by exact rh_accP (by rfl) q73 (by rfl)) (rh_upd (rh_acc (by rfl) (by rfl)) (rh_upd (rh_acc (by rfl) (by rfl)) (rh_upd (rh_acc (by rfl) (by rfl)) (rh_upd (rh_acc (by rfl) (by rfl)) (rh_upd (rh_acc (by rfl) (by rfl)) (rh_upd (rh_acc (by rfl) (by rfl)) (rh_no _))))))))))), Nat.lt_succ_self _⟩
              · try simp only [List.map_cons, accI, accN]
                exact ⟨⟨((c, (t30, l5, t32, t33, t34, t35, t36, t37, (IntKind.i64.wrap (t4 + 1)))), (g, (g2 + 1), g3, g4, g5, g6, g7, g8)), H67⟩, ren_mk [(0, 0), (1, 1), (2, 2), (3, 3), (4, 4), (5, 5), (6, 6), (7, 7), (8, 8), (9, 9)] (by rfl) (rf_upd (by rfl) (rf_upd (by rfl) (rf_upd (by rfl) (rf_upd (by rfl) (rf_no _))))) (rh_upd (rh_one (by rfl) (by rfl) (by rfl)) (rh_upd (rh_one (by rfl) (renO_bx (renL_cons (ren_acc (by rfl)) (renL_cons (by exact ren_accP (by rfl) q73) (renL_cons (ren_acc (by rfl)) (renL_cons (ren_acc (by rfl)) (renL_cons (ren_acc (by rfl)) (renL_cons (ren_acc (by rfl)) (renL_cons (ren_acc (by rfl)) (renL_cons (ren_acc (by rfl)) (renL_nil _)))))))))) (by rfl)) (rh_upd (rh_acc (by rfl) (by rfl)) (rh_upd (by exact rh_accP (by rfl) q73 (by rfl)) (rh_upd (rh_acc (by rfl) (by rfl)) (rh_upd (rh_acc (by rfl) (by rfl)) (rh_upd (rh_acc (by rfl) (by rfl)) (rh_upd (rh_acc (by rfl) (by rfl)) (rh_upd (rh_acc (by rfl) (by rfl)) (rh_upd (rh_acc (by rfl) (by rfl)) (rh_no _))))))))))), Nat.lt_succ_self _⟩
            · try simp -implicitDefEqProofs only [go_sem, Nat.reduceEqDiff, Nat.reduceAdd, ↓reduceIte, c64]
              rcases ite_inv H65 with ⟨c74, H75⟩ | ⟨c74, H75⟩
              · obtain ⟨l6, b76, H77⟩ := bind_inv H75
                obtain ⟨h78, h79⟩ := app_inv b76
                have h78 : t32.length + 1 ≤ 4294967296 := h78
                have h80 : List.map eGPair t32 ++ [[.v (.string x2.a), .v (.string x2.b)]] = List.map eGPair l6 := app_map eGPair h79
                have h81 : t32.length + 1 = l6.length := app_len h79
                have h82 : l6.length ≤ 4294967296 := by omega
                have q83 : 0 < l6.length := by omega
                try simp -implicitDefEqProofs only [go_sem, Nat.reduceLT, Nat.reduceEqDiff, Nat.reduceAdd, Nat.reduceMul, Nat.reduceLeDiff, reduceCtorEq, ↓reduceIte, c74, h80, h81, h82, accI_ne]
                rcases t32 with _ | ⟨q0, q1⟩
                · try simp only [List.map_nil, accI, accN]
                  exact ⟨⟨((c, (t30, t31, l6, t33, t34, t35, t36, t37, (IntKind.i64.wrap (t4 + 1)))), (g, g2, 0, g4, g5, g6, g7, g8)), H77⟩, ren_mk [(0, 0), (1, 1), (2, 2), (3, 3), (4, 36), (5, 5), (6, 6), (7, 7), (8, 8), (9, 9)] (by rfl) (rf_upd (by rfl) (rf_upd (by rfl) (rf_upd (by rfl) (rf_upd (by rfl) (rf_no _))))) (rh_upd (rh_one (by rfl) (by rfl) (by rfl)) (rh_upd (rh_one (by rfl) (renO_bx (renL_cons (ren_acc (by rfl)) (renL_cons (ren_acc (by rfl)) (renL_cons (by exact ren_accP (by rfl) q83) (renL_cons (ren_acc (by rfl)) (renL_cons (ren_acc (by rfl)) (renL_cons (ren_acc (by rfl)) (renL_cons (ren_acc (by rfl)) (renL_cons (ren_acc (by rfl)) (renL_nil _)))))))))) (by rfl)) (rh_upd (rh_acc (by rfl) (by rfl)) (rh_upd (rh_acc (by rfl) (by rfl)) (rh_upd (by exact rh_accP (by rfl) q83 (by rfl)) (rh_upd (rh_acc (by rfl) (by rfl)) (rh_upd (rh_acc (by rfl) (by rfl)) (rh_upd (rh_acc (by rfl) (by rfl)) (rh_upd (rh_acc (by rfl) (by rfl)) (rh_upd (rh_acc (by rfl) (by rfl)) (rh_no _))))))))))), Nat.lt_succ_self _⟩
                · try simp only [List.map_cons, accI, accN]
                  exact ⟨⟨((c, (t30, t31, l6, t33, t34, t35, t36, t37, (IntKind.i64.wrap (t4 + 1)))), (g, g2, (g3 + 1), g4, g5, g6, g7, g8)), H77⟩, ren_mk [(0, 0), (1, 1), (2, 2), (3, 3), (4, 4), (5, 5), (6, 6), (7, 7), (8, 8), (9, 9)] (by rfl) (rf_upd (by rfl) (rf_upd (by rfl) (rf_upd (by rfl) (rf_upd (by rfl) (rf_no _))))) (rh_upd (rh_one (by rfl) (by rfl) (by rfl)) (rh_upd (rh_one (by rfl) (renO_bx (renL_cons (ren_acc (by rfl)) (renL_cons (ren_acc (by rfl)) (renL_cons (by exact ren_accP (by rfl) q83) (renL_cons (ren_acc (by rfl)) (renL_cons (ren_acc (by rfl)) (renL_cons (ren_acc (by rfl)) (renL_cons (ren_acc (by rfl)) (renL_cons (ren_acc (by rfl)) (renL_nil _)))))))))) (by rfl)) (rh_upd (rh_acc (by rfl) (by rfl)) (rh_upd (rh_acc (by rfl) (by rfl)) (rh_upd (by exact rh_accP (by rfl) q83 (by rfl)) (rh_upd (rh_acc (by rfl) (by rfl)) (rh_upd (rh_acc (by rfl) (by rfl)) (rh_upd (rh_acc (by rfl) (by rfl)) (rh_upd (rh_acc (by rfl) (by rfl)) (rh_upd (rh_acc (by rfl) (by rfl)) (rh_no _))))))))))), Nat.lt_succ_self _⟩
              · try simp -implicitDefEqProofs only [go_sem, Nat.reduceEqDiff, Nat.reduceAdd, ↓reduceIte, c74]
                rcases ite_inv H75 with ⟨c84, H85⟩ | ⟨c84, H85⟩
                · obtain ⟨l7, b86, H87⟩ := bind_inv H85
                  obtain ⟨h88, h89⟩ := app_inv b86
                  have h88 : t33.length + 1 ≤ 4294967296 := h88
                  have h90 : List.map eGPair t33 ++ [[.v (.string x2.a), .v (.string x2.b)]] = List.map eGPair l7 := app_map eGPair h89
                  have h91 : t33.length + 1 = l7.length := app_len h89
                  have h92 : l7.length ≤ 4294967296 := by omega
                  have q93 : 0 < l7.length := by omega
                  try simp -implicitDefEqProofs only [go_sem, Nat.reduceLT, Nat.reduceEqDiff, Nat.reduceAdd, Nat.reduceMul, Nat.reduceLeDiff, reduceCtorEq, ↓reduceIte, c84, h90, h91, h92, accI_ne]
                  rcases t33 with _ | ⟨q0, q1⟩
                  · try simp only [List.map_nil, accI, accN]
                    exact ⟨⟨((c, (t30, t31, t32, l7, t34, t35, t36, t37, (IntKind.i64.wrap (t4 + 1)))), (g, g2, g3, 0, g5, g6, g7, g8)), H87⟩, ren_mk [(0, 0), (1, 1), (2, 2), (3, 3), (4, 4), (5, 38), (6, 6), (7, 7), (8, 8), (9, 9)] (by rfl) (rf_upd (by rfl) (rf_upd (by rfl) (rf_upd (by rfl) (rf_upd (by rfl) (rf_no _))))) (rh_upd (rh_one (by rfl) (by rfl) (by rfl)) (rh_upd (rh_one (by rfl) (renO_bx (renL_cons (ren_acc (by rfl)) (renL_cons (ren_acc (by rfl)) (renL_cons (ren_acc (by rfl)) (renL_cons (by exact ren_accP (by rfl) q93) (renL_cons (ren_acc (by rfl)) (renL_cons (ren_acc (by rfl)) (renL_cons (ren_acc (by rfl)) (renL_cons (ren_acc (by rfl)) (renL_nil _)))))))))) (by rfl)) (rh_upd (rh_acc (by rfl) (by rfl)) (rh_upd (rh_acc (by rfl) (by rfl)) (rh_upd (rh_acc (by rfl) (by rfl)) (rh_upd (by exact rh_accP (by rfl) q93 (by rfl)) (rh_upd (rh_acc (by rfl) (by rfl)) (rh_upd (rh_acc (by rfl) (by rfl)) (rh_upd (rh_acc (by rfl) (by rfl)) (rh_upd (rh_acc (by rfl) (by rfl)) (rh_no _))))))))))), Nat.lt_succ_self _⟩
                  · try simp only [List.map_cons, accI, accN]
                    exact ⟨⟨((c, (t30, t31, t32, l7, t34, t35, t36, t37, (IntKind.i64.wrap (t4 + 1)))), (g, g2, g3, (g4 + 1), g5, g6, g7, g8)), H87⟩, ren_mk [(0, 0), (1, 1), (2, 2), (3, 3), (4, 4), (5, 5), (6, 6), (7, 7), (8, 8), (9, 9)] (by rfl) (rf_upd (by rfl) (rf_upd (by rfl) (rf_upd (by rfl) (rf_upd (by rfl) (rf_no _))))) (rh_upd (rh_one (by rfl) (by rfl) (by rfl)) (rh_upd (rh_one (by rfl) (renO_bx (renL_cons (ren_acc (by rfl)) (renL_cons (ren_acc (by rfl)) (renL_cons (ren_acc (by rfl)) (renL_cons (by exact ren_accP (by rfl) q93) (renL_cons (ren_acc (by rfl)) (renL_cons (ren_acc (by rfl)) (renL_cons (ren_acc (by rfl)) (renL_cons (ren_acc (by rfl)) (renL_nil _)))))))))) (by rfl)) (rh_upd (rh_acc (by rfl) (by rfl)) (rh_upd (rh_acc (by rfl) (by rfl)) (rh_upd (rh_acc (by rfl) (by rfl)) (rh_upd (by exact rh_accP (by rfl) q93 (by rfl)) (rh_upd (rh_acc (by rfl) (by rfl)) (rh_upd (rh_acc (by rfl) (by rfl)) (rh_upd (rh_acc (by rfl) (by rfl)) (rh_upd (rh_acc (by rfl) (by rfl)) (rh_no _))))))))))), Nat.lt_succ_self _⟩
                · try simp -implicitDefEqProofs only [go_sem, Nat.reduceEqDiff, Nat.reduceAdd, ↓reduceIte, c84]
                  rcases ite_inv H85 with ⟨c94, H95⟩ | ⟨c94, H95⟩
                  · obtain ⟨l8, b96, H97⟩ := bind_inv H95
                    obtain ⟨h98, h99⟩ := app_inv b96
                    have h98 : t34.length + 1 ≤ 4294967296 := h98
                    have h100 : List.map eGGrant t34 ++ [[.v (.string x2.a), .v (.string x2.b), .v (.string x2.c)]] = List.map eGGrant l8 := app_map eGGrant h99
                    have h101 : t34.length + 1 = l8.length := app_len h99
                    have h102 : l8.length ≤ 4294967296 := by omega
                    have q103 : 0 < l8.length := by omega
                    try simp -implicitDefEqProofs only [go_sem, Nat.reduceLT, Nat.reduceEqDiff, Nat.reduceAdd, Nat.reduceMul, Nat.reduceLeDiff, reduceCtorEq, ↓reduceIte, c94, h100, h101, h102, accI_ne]
                    rcases t34 with _ | ⟨q0, q1⟩
                    · try simp only [List.map_nil, accI, accN]
                      exact ⟨⟨((c, (t30, t31, t32, t33, l8, t35, t36, t37, (IntKind.i64.wrap (t4 + 1)))), (g, g2, g3, g4, 0, g6, g7, g8)), H97⟩, ren_mk [(0, 0), (1, 1), (2, 2), (3, 3), (4, 4), (5, 5), (6, 42), (7, 7), (8, 8), (9, 9)] (by rfl) (rf_upd (by rfl) (rf_upd (by rfl) (rf_upd (by rfl) (rf_upd (by rfl) (rf_no _))))) (rh_upd (rh_one (by rfl) (by rfl) (by rfl)) (rh_upd (rh_one (by rfl) (renO_bx (renL_cons (ren_acc (by rfl)) (renL_cons (ren_acc (by rfl)) (renL_cons (ren_acc (by rfl)) (renL_cons (ren_acc (by rfl)) (renL_cons (by exact ren_accP (by rfl) q103) (renL_cons (ren_acc (by rfl)) (renL_cons (ren_acc (by rfl)) (renL_cons (ren_acc (by rfl)) (renL_nil _)))))))))) (by rfl)) (rh_upd (rh_acc (by rfl) (by rfl)) (rh_upd (rh_acc (by rfl) (by rfl)) (rh_upd (rh_acc (by rfl) (by rfl)) (rh_upd (rh_acc (by rfl) (by rfl)) (rh_upd (by exact rh_accP (by rfl) q103 (by rfl)) (rh_upd (rh_acc (by rfl) (by rfl)) (rh_upd (rh_acc (by rfl) (by rfl)) (rh_upd (rh_acc (by rfl) (by rfl)) (rh_no _))))))))))), Nat.lt_succ_self _⟩
                    · try simp only [List.map_cons, accI, accN]
                      exact ⟨⟨((c, (t30, t31, t32, t33, l8, t35, t36, t37, (IntKind.i64.wrap (t4 + 1)))), (g, g2, g3, g4, (g5 + 1), g6, g7, g8)), H97⟩, ren_mk [(0, 0), (1, 1), (2, 2), (3, 3), (4, 4), (5, 5), (6, 6), (7, 7), (8, 8), (9, 9)] (by rfl) (rf_upd (by rfl) (rf_upd (by rfl) (rf_upd (by rfl) (rf_upd (by rfl) (rf_no _))))) (rh_upd (rh_one (by rfl) (by rfl) (by rfl)) (rh_upd (rh_one (by rfl) (renO_bx (renL_cons (ren_acc (by rfl)) (renL_cons (ren_acc (by rfl)) (renL_cons (ren_acc (by rfl)) (renL_cons (ren_acc (by rfl)) (renL_cons (by exact ren_accP (by rfl) q103) (renL_cons (ren_acc (by rfl)) (renL_cons (ren_acc (by rfl)) (renL_cons (ren_acc (by rfl)) (renL_nil _)))))))))) (by rfl)) (rh_upd (rh_acc (by rfl) (by rfl)) (rh_upd (rh_acc (by rfl) (by rfl)) (rh_upd (rh_acc (by rfl) (by rfl)) (rh_upd (rh_acc (by rfl) (by rfl)) (rh_upd (by exact rh_accP (by rfl) q103 (by rfl)) (rh_upd (rh_acc (by rfl) (by rfl)) (rh_upd (rh_acc (by rfl) (by rfl)) (rh_upd (rh_acc (by rfl) (by rfl)) (rh_no _))))))))))), Nat.lt_succ_self _⟩
                  · try simp -implicitDefEqProofs only [go_sem, Nat.reduceEqDiff, Nat.reduceAdd, ↓reduceIte, c94]
                    rcases ite_inv H95 with ⟨c104, H105⟩ | ⟨c104, H105⟩
                    · obtain ⟨l9, b106, H107⟩ := bind_inv H105
                      obtain ⟨h108, h109⟩ := app_inv b106
                      have h109 : x2.l = l9 := h109
                      subst h109
                      have h108 : x2.l.length ≤ 4294967296 := by have := h108; simpa using this
                      obtain ⟨l10, b112, H113⟩ := bind_inv H107
                      obtain ⟨h114, h115⟩ := app_inv b112
                      have h114 : t35.length + 1 ≤ 4294967296 := h114
                      have h116 : List.map eGSod t35 ++ [[.v (.string x2.a), .v (.int .i64 x2.n_), .sl (List.map eS x2.l)]] = List.map eGSod l10 := app_map eGSod h115
                      have h117 : t35.length + 1 = l10.length := app_len h115
                      have h118 : l10.length ≤ 4294967296 := by omega
                      have q119 : 0 < l10.length := by omega
                      try simp -implicitDefEqProofs only [go_sem, Nat.reduceLT, Nat.reduceEqDiff, Nat.reduceAdd, Nat.reduceMul, Nat.reduceLeDiff, reduceCtorEq, ↓reduceIte, c104, plainR_map (f := eS) (fun _ => rfl) x2.l, chk_map (n := 1) (f := eS) (fun _ => rfl) x2.l, h108, List.take_succ_cons, List.take_zero, h116, h117, h118, accI_ne]
                      refine Rd_endF (by (cases t35 <;> rfl)) ?_
                      try simp -implicitDefEqProofs only [go_sem, Nat.reduceEqDiff, Nat.reduceAdd, reduceCtorEq, ↓reduceIte]
                      rcases t35 with _ | ⟨q0, q1⟩
                      · try simp only [List.map_nil, accI, accN]
                        exact ⟨⟨((c, (t30, t31, t32, t33, t34, l10, t36, t37, (IntKind.i64.wrap (t4 + 1)))), (g, g2, g3, g4, g5, 0, g7, g8)), H113⟩, ren_mk [(0, 0), (1, 1), (2, 2), (3, 3), (4, 4), (5, 5), (6, 6), (7, 46), (8, 8), (9, 9)] (by rfl) (rf_upd (by rfl) (rf_upd (by rfl) (rf_upd (by rfl) (rf_upd (by rfl) (rf_no _))))) (rh_upd (rh_one (by rfl) (by rfl) (by rfl)) (rh_upd (rh_one (by rfl) (renO_bx (renL_cons (ren_acc (by rfl)) (renL_cons (ren_acc (by rfl)) (renL_cons (ren_acc (by rfl)) (renL_cons (ren_acc (by rfl)) (renL_cons (ren_acc (by rfl)) (renL_cons (by exact ren_accP (by rfl) q119) (renL_cons (ren_acc (by rfl)) (renL_cons (ren_acc (by rfl)) (renL_nil _)))))))))) (by rfl)) (rh_upd (rh_acc (by rfl) (by rfl)) (rh_upd (rh_acc (by rfl) (by rfl)) (rh_upd (rh_acc (by rfl) (by rfl)) (rh_upd (rh_acc (by rfl) (by rfl)) (rh_upd (rh_acc (by rfl) (by rfl)) (rh_upd (by exact rh_accP (by rfl) q119 (by rfl)) (rh_upd (rh_acc (by rfl) (by rfl)) (rh_upd (rh_acc (by rfl) (by rfl)) (rh_no _))))))))))), Nat.lt_succ_self _⟩
                      · try simp only [List.map_cons, accI, accN]
                        exact ⟨⟨((c, (t30, t31, t32, t33, t34, l10, t36, t37, (IntKind.i64.wrap (t4 + 1)))), (g, g2, g3, g4, g5, (g6 + 1), g7, g8)), H113⟩, ren_mk [(0, 0), (1, 1), (2, 2), (3, 3), (4, 4), (5, 5), (6, 6), (7, 7), (8, 8), (9, 9)] (by rfl) (rf_upd (by rfl) (rf_upd (by rfl) (rf_upd (by rfl) (rf_upd (by rfl) (rf_no _))))) (rh_upd (rh_one (by rfl) (by rfl) (by rfl)) (rh_upd (rh_one (by rfl) (renO_bx (renL_cons (ren_acc (by rfl)) (renL_cons (ren_acc (by rfl)) (renL_cons (ren_acc (by rfl)) (renL_cons (ren_acc (by rfl)) (renL_cons (ren_acc (by rfl)) (renL_cons (by exact ren_accP (by rfl) q119) (renL_cons (ren_acc (by rfl)) (renL_cons (ren_acc (by rfl)) (renL_nil _)))))))))) (by rfl)) (rh_upd (rh_acc (by rfl) (by rfl)) (rh_upd (rh_acc (by rfl) (by rfl)) (rh_upd (rh_acc (by rfl) (by rfl)) (rh_upd (rh_acc (by rfl) (by rfl)) (rh_upd (rh_acc (by rfl) (by rfl)) (rh_upd (by exact rh_accP (by rfl) q119 (by rfl)) (rh_upd (rh_acc (by rfl) (by rfl)) (rh_upd (rh_acc (by rfl) (by rfl)) (rh_no _))))))))))), Nat.lt_succ_self _⟩
                    · try simp -implicitDefEqProofs only [go_sem, Nat.reduceEqDiff, Nat.reduceAdd, ↓reduceIte, c104]
                      rcases ite_inv H105 with ⟨c120, H121⟩ | ⟨c120, H121⟩
                      · obtain ⟨l11, b122, H123⟩ := bind_inv H121
                        obtain ⟨h124, h125⟩ := app_inv b122
                        have h125 : x2.l = l11 := h125
                        subst h125
                        have h124 : x2.l.length ≤ 4294967296 := by have := h124; simpa using this
                        obtain ⟨l12, b128, H129⟩ := bind_inv H123
                        obtain ⟨h130, h131⟩ := app_inv b128
                        have h130 : t36.length + 1 ≤ 4294967296 := h130
                        have h132 : List.map eGSod t36 ++ [[.v (.string x2.a), .v (.int .i64 x2.n_), .sl (List.map eS x2.l)]] = List.map eGSod l12 := app_map eGSod h131
                        have h133 : t36.length + 1 = l12.length := app_len h131
                        have h134 : l12.length ≤ 4294967296 := by omega
                        have q135 : 0 < l12.length := by omega
                        try simp -implicitDefEqProofs only [go_sem, Nat.reduceLT, Nat.reduceEqDiff, Nat.reduceAdd, Nat.reduceMul, Nat.reduceLeDiff, reduceCtorEq, ↓reduceIte, c120, plainR_map (f := eS) (fun _ => rfl) x2.l, chk_map (n := 1) (f := eS) (fun _ => rfl) x2.l, h124, List.take_succ_cons, List.take_zero, h132, h133, h134, accI_ne]
                        refine Rd_endF (by (cases t36 <;> rfl)) ?_
                        try simp -implicitDefEqProofs only [go_sem, Nat.reduceEqDiff, Nat.reduceAdd, reduceCtorEq, ↓reduceIte]
                        rcases t36 with _ | ⟨q0, q1⟩
                        · try simp only [List.map_nil, accI, accN]
                          exact ⟨⟨((c, (t30, t31, t32, t33, t34, t35, l12, t37, (IntKind.i64.wrap (t4 + 1)))), (g, g2, g3, g4, g5, g6, 0, g8)), H129⟩, ren_mk [(0, 0), (1, 1), (2, 2), (3, 3), (4, 4), (5, 5), (6, 6), (7, 7), (8, 48), (9, 9)] (by rfl) (rf_upd (by rfl) (rf_upd (by rfl) (rf_upd (by rfl) (rf_upd (by rfl) (rf_no _))))) (rh_upd (rh_one (by rfl) (by rfl) (by rfl)) (rh_upd (rh_one (by rfl) (renO_bx (renL_cons (ren_acc (by rfl)) (renL_cons (ren_acc (by rfl)) (renL_cons (ren_acc (by rfl)) (renL_cons (ren_acc (by rfl)) (renL_cons (ren_acc (by rfl)) (renL_cons (ren_acc (by rfl)) (renL_cons (by exact ren_accP (by rfl) q135) (renL_cons (ren_acc (by rfl)) (renL_nil _)))))))))) (by rfl)) (rh_upd (rh_acc (by rfl) (by rfl)) (rh_upd (rh_acc (by rfl) (by rfl)) (rh_upd (rh_acc (by rfl) (by rfl)) (rh_upd (rh_acc (by rfl) (by rfl)) (rh_upd (rh_acc (by rfl) (by rfl)) (rh_upd (rh_acc (by rfl) (by rfl)) (rh_upd (by exact rh_accP (by rfl) q135 (by rfl)) (rh_upd (rh_acc (by rfl) (by rfl)) (rh_no _))))))))))), Nat.lt_succ_self _⟩
                        · try simp only [List.map_cons, accI, accN]
                          exact ⟨⟨((c, (t30, t31, t32, t33, t34, t35, l12, t37, (IntKind.i64.wrap (t4 + 1)))), (g, g2, g3, g4, g5, g6, (g7 + 1), g8)), H129⟩, ren_mk [(0, 0), (1, 1), (2, 2), (3, 3), (4, 4), (5, 5), (6, 6), (7, 7), (8, 8), (9, 9)] (by rfl) (rf_upd (by rfl) (rf_upd (by rfl) (rf_upd (by rfl) (rf_upd (by rfl) (rf_no _))))) (rh_upd (rh_one (by rfl) (by rfl) (by rfl)) (rh_upd (rh_one (by rfl) (renO_bx (renL_cons (ren_acc (by rfl)) (renL_cons (ren_acc (by rfl)) (renL_cons (ren_acc (by rfl)) (renL_cons (ren_acc (by rfl)) (renL_cons (ren_acc (by rfl)) (renL_cons (ren_acc (by rfl)) (renL_cons (by exact ren_accP (by rfl) q135) (renL_cons (ren_acc (by rfl)) (renL_nil _)))))))))) (by rfl)) (rh_upd (rh_acc (by rfl) (by rfl)) (rh_upd (rh_acc (by rfl) (by rfl)) (rh_upd (rh_acc (by rfl) (by rfl)) (rh_upd (rh_acc (by rfl) (by rfl)) (rh_upd (rh_acc (by rfl) (by rfl)) (rh_upd (rh_acc (by rfl) (by rfl)) (rh_upd (by exact rh_accP (by rfl) q135 (by rfl)) (rh_upd (rh_acc (by rfl) (by rfl)) (rh_no _))))))))))), Nat.lt_succ_self _⟩
                      · try simp -implicitDefEqProofs only [go_sem, Nat.reduceEqDiff, Nat.reduceAdd, ↓reduceIte, c120]
                        rcases ite_inv H121 with ⟨c136, H137⟩ | ⟨c136, H137⟩
                        · obtain ⟨l13, b138, H139⟩ := bind_inv H137
                          obtain ⟨h140, h141⟩ := app_inv b138
                          have h141 : x2.l = l13 := h141
                          subst h141
                          have h140 : x2.l.length ≤ 4294967296 := by have := h140; simpa using this
                          obtain ⟨l14, b144, H145⟩ := bind_inv H139
                          obtain ⟨h146, h147⟩ := app_inv b144
                          have h146 : t37.length + 1 ≤ 4294967296 := h146
                          have h148 : List.map eGSession t37 ++ [[.v (.string x2.a), .v (.string x2.b), .sl (List.map eS x2.l)]] = List.map eGSession l14 := app_map eGSession h147
                          have h149 : t37.length + 1 = l14.length := app_len h147
                          have h150 : l14.length ≤ 4294967296 := by omega
                          have q151 : 0 < l14.length := by omega
                          try simp -implicitDefEqProofs only [go_sem, Nat.reduceLT, Nat.reduceEqDiff, Nat.reduceAdd, Nat.reduceMul, Nat.reduceLeDiff, reduceCtorEq, ↓reduceIte, c136, plainR_map (f := eS) (fun _ => rfl) x2.l, chk_map (n := 1) (f := eS) (fun _ => rfl) x2.l, h140, List.take_succ_cons, List.take_zero, h148, h149, h150, accI_ne]
                          refine Rd_endF (by (cases t37 <;> rfl)) ?_
                          try simp -implicitDefEqProofs only [go_sem, Nat.reduceEqDiff, Nat.reduceAdd, reduceCtorEq, ↓reduceIte]
                          rcases t37 with _ | ⟨q0, q1⟩
                          · try simp only [List.map_nil, accI, accN]
                            exact ⟨⟨((c, (t30, t31, t32, t33, t34, t35, t36, l14, (IntKind.i64.wrap (t4 + 1)))), (g, g2, g3, g4, g5, g6, g7, 0)), H145⟩, ren_mk [(0, 0), (1, 1), (2, 2), (3, 3), (4, 4), (5, 5), (6, 6), (7, 7), (8, 8), (9, 50)] (by rfl) (rf_upd (by rfl) (rf_upd (by rfl) (rf_upd (by rfl) (rf_upd (by rfl) (rf_no _))))) (rh_upd (rh_one (by rfl) (by rfl) (by rfl)) (rh_upd (rh_one (by rfl) (renO_bx (renL_cons (ren_acc (by rfl)) (renL_cons (ren_acc (by rfl)) (renL_cons (ren_acc (by rfl)) (renL_cons (ren_acc (by rfl)) (renL_cons (ren_acc (by rfl)) (renL_cons (ren_acc (by rfl)) (renL_cons (ren_acc (by rfl)) (renL_cons (by exact ren_accP (by rfl) q151) (renL_nil _)))))))))) (by rfl)) (rh_upd (rh_acc (by rfl) (by rfl)) (rh_upd (rh_acc (by rfl) (by rfl)) (rh_upd (rh_acc (by rfl) (by rfl)) (rh_upd (rh_acc (by rfl) (by rfl)) (rh_upd (rh_acc (by rfl) (by rfl)) (rh_upd (rh_acc (by rfl) (by rfl)) (rh_upd (rh_acc (by rfl) (by rfl)) (rh_upd (by exact rh_accP (by rfl) q151 (by rfl)) (rh_no _))))))))))), Nat.lt_succ_self _⟩
                          · try simp only [List.map_cons, accI, accN]
                            exact ⟨⟨((c, (t30, t31, t32, t33, t34, t35, t36, l14, (IntKind.i64.wrap (t4 + 1)))), (g, g2, g3, g4, g5, g6, g7, (g8 + 1))), H145⟩, ren_mk [(0, 0), (1, 1), (2, 2), (3, 3), (4, 4), (5, 5), (6, 6), (7, 7), (8, 8), (9, 9)] (by rfl) (rf_upd (by rfl) (rf_upd (by rfl) (rf_upd (by rfl) (rf_upd (by rfl) (rf_no _))))) (rh_upd (rh_one (by rfl) (by rfl) (by rfl)) (rh_upd (rh_one (by rfl) (renO_bx (renL_cons (ren_acc (by rfl)) (renL_cons (ren_acc (by rfl)) (renL_cons (ren_acc (by rfl)) (renL_cons (ren_acc (by rfl)) (renL_cons (ren_acc (by rfl)) (renL_cons (ren_acc (by rfl)) (renL_cons (ren_acc (by rfl)) (renL_cons (by exact ren_accP (by rfl) q151) (renL_nil _)))))))))) (by rfl)) (rh_upd (rh_acc (by rfl) (by rfl)) (rh_upd (rh_acc (by rfl) (by rfl)) (rh_upd (rh_acc (by rfl) (by rfl)) (rh_upd (rh_acc (by rfl) (by rfl)) (rh_upd (rh_acc (by rfl) (by rfl)) (rh_upd (rh_acc (by rfl) (by rfl)) (rh_upd (rh_acc (by rfl) (by rfl)) (rh_upd (by exact rh_accP (by rfl) q151 (by rfl)) (rh_no _))))))))))), Nat.lt_succ_self _⟩
                        · try simp -implicitDefEqProofs only [go_sem, Nat.reduceEqDiff, Nat.reduceAdd, reduceCtorEq, ↓reduceIte, c136]
                          exact ⟨⟨((c, (t30, t31, t32, t33, t34, t35, t36, t37, (IntKind.i64.wrap (t4 + 1)))), (g, g2, g3, g4, g5, g6, g7, g8)), H137⟩, ren_mk [(0, 0), (1, 1), (2, 2), (3, 3), (4, 4), (5, 5), (6, 6), (7, 7), (8, 8), (9, 9)] (by rfl) (rf_upd (by rfl) (rf_upd (by rfl) (rf_upd (by rfl) (rf_upd (by rfl) (rf_no _))))) (rh_upd (rh_one (by rfl) (by rfl) (by rfl)) (rh_upd (rh_one (by rfl) (renO_bx (renL_cons (ren_acc (by rfl)) (renL_cons (ren_acc (by rfl)) (renL_cons (ren_acc (by rfl)) (renL_cons (ren_acc (by rfl)) (renL_cons (ren_acc (by rfl)) (renL_cons (ren_acc (by rfl)) (renL_cons (ren_acc (by rfl)) (renL_cons (ren_acc (by rfl)) (renL_nil _)))))))))) (by rfl)) (rh_upd (rh_acc (by rfl) (by rfl)) (rh_upd (rh_acc (by rfl) (by rfl)) (rh_upd (rh_acc (by rfl) (by rfl)) (rh_upd (rh_acc (by rfl) (by rfl)) (rh_upd (rh_acc (by rfl) (by rfl)) (rh_upd (rh_acc (by rfl) (by rfl)) (rh_upd (rh_acc (by rfl) (by rfl)) (rh_upd (rh_acc (by rfl) (by rfl)) (rh_no _))))))))))), Nat.lt_succ_self _⟩
        · try simp -implicitDefEqProofs only [go_sem, ↓reduceIte, c46]
          obtain rfl := Option.some.inj H47
          exact ⟨⟨⟨(t30, t31, t32, t33, t34, t35, t36, t37), rfl⟩, (g, g2, g3, g4, g5, g6, g7, g8)⟩, ren_mk [(0, 0), (1, 1), (2, 2), (3, 3), (4, 4), (5, 5), (6, 6), (7, 7), (8, 8), (9, 9)] (by rfl) (rf_upd (by rfl) (rf_upd (by rfl) (rf_no _))) (rh_upd (rh_one (by rfl) (by rfl) (by rfl)) (rh_upd (rh_one (by rfl) (renO_bx (renL_cons (ren_acc (by rfl)) (renL_cons (ren_acc (by rfl)) (renL_cons (ren_acc (by rfl)) (renL_cons (ren_acc (by rfl)) (renL_cons (ren_acc (by rfl)) (renL_cons (ren_acc (by rfl)) (renL_cons (ren_acc (by rfl)) (renL_cons (ren_acc (by rfl)) (renL_nil _)))))))))) (by rfl)) (rh_upd (rh_acc (by rfl) (by rfl)) (rh_upd (rh_acc (by rfl) (by rfl)) (rh_upd (rh_acc (by rfl) (by rfl)) (rh_upd (rh_acc (by rfl) (by rfl)) (rh_upd (rh_acc (by rfl) (by rfl)) (rh_upd (rh_acc (by rfl) (by rfl)) (rh_upd (rh_acc (by rfl) (by rfl)) (rh_upd (rh_acc (by rfl) (by rfl)) (rh_no _)))))))))))⟩
  · rintro ⟨⟨⟨t303, t313, t323, t333, t343, t353, t363, t373⟩, he152⟩, ⟨g17, g18, g19, g20, g21, g22, g23, g24⟩⟩
    replace he152 := he152.symm
    subst he152
    try dsimp only at H2
    refine runR_take tab_ok fol 1 ?_
    try simp -implicitDefEqProofs only [go_sem, Nat.reduceEqDiff, Nat.reduceAdd, reduceCtorEq, ↓reduceIte]
    obtain rfl := Option.some.inj H2
    exact end_pure (by simp -implicitDefEqProofs only [go_sem, Nat.reduceEqDiff, Nat.reduceAdd, ↓reduceIte, Try.f33] <;> rfl) (by simp -implicitDefEqProofs only [go_sem, Nat.reduceEqDiff, reduceCtorEq, ↓reduceIte]; rfl) rfl (by intro h; rfl)
end Go.Proofs.Ytkkhgdmmbhpckaa.Ab
