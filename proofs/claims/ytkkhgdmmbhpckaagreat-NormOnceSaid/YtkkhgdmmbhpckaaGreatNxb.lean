/-
 Functions, read off the code.
-/
import Derived.Test.YtkkhgdmmbhpckaaGreatNxa
namespace Go.Proofs.YtkkhgdmmbhpckaaGreat.Ab
open Go.RowKit
def norm_Of_L1 (n : Nat) (t0 : List GFact) : Nat → (List ByteArray × List ByteArray × List GPair × List GPair × List GGrant × List GSod × List GSod × List GSession × Int) → Option (List ByteArray × List ByteArray × List GPair × List GPair × List GGrant × List GSod × List GSod × List GSession)
 | 0, _ => none
 | c + 1, (t30, t31, t32, t33, t34, t35, t36, t37, t8) =>
  (if (decide (t8 < (t0.length : Int))) then
   (idx t0 t8).bind fun x2 =>
   (if (x2.kind == 1) then
    (app t30 [x2.a]).bind fun l =>
    norm_Of_L1 n t0 c (l, t31, t32, t33, t34, t35, t36, t37, (IntKind.i64.wrap (t8 + 1)))
   else
    (if (x2.kind == 2) then
     (app t31 [x2.a]).bind fun l2 =>
     norm_Of_L1 n t0 c (t30, l2, t32, t33, t34, t35, t36, t37, (IntKind.i64.wrap (t8 + 1)))
    else
     (if (x2.kind == 3) then
      (app t32 [(⟨x2.a, x2.b⟩ : GPair)]).bind fun l3 =>
      norm_Of_L1 n t0 c (t30, t31, l3, t33, t34, t35, t36, t37, (IntKind.i64.wrap (t8 + 1)))
     else
      (if (x2.kind == 4) then
       (app t33 [(⟨x2.a, x2.b⟩ : GPair)]).bind fun l4 =>
       norm_Of_L1 n t0 c (t30, t31, t32, l4, t34, t35, t36, t37, (IntKind.i64.wrap (t8 + 1)))
      else
       (if (x2.kind == 5) then
        (app t34 [(⟨x2.a, x2.b, x2.c⟩ : GGrant)]).bind fun l5 =>
        norm_Of_L1 n t0 c (t30, t31, t32, t33, l5, t35, t36, t37, (IntKind.i64.wrap (t8 + 1)))
       else
        (if (x2.kind == 6) then
         (if (decide (x2.l.length = 0)) then
          (app t35 [(⟨x2.a, x2.n_, []⟩ : GSod)]).bind fun l6 =>
          norm_Of_L1 n t0 c (t30, t31, t32, t33, t34, l6, t36, t37, (IntKind.i64.wrap (t8 + 1)))
         else
          grd (decide (x2.l.length ≤ 4294967296)) <|
          (app t35 [(⟨x2.a, x2.n_, x2.l⟩ : GSod)]).bind fun l7 =>
          norm_Of_L1 n t0 c (t30, t31, t32, t33, t34, l7, t36, t37, (IntKind.i64.wrap (t8 + 1))))
        else
         (if (x2.kind == 7) then
          (if (decide (x2.l.length = 0)) then
           (app t36 [(⟨x2.a, x2.n_, []⟩ : GSod)]).bind fun l8 =>
           norm_Of_L1 n t0 c (t30, t31, t32, t33, t34, t35, l8, t37, (IntKind.i64.wrap (t8 + 1)))
          else
           grd (decide (x2.l.length ≤ 4294967296)) <|
           (app t36 [(⟨x2.a, x2.n_, x2.l⟩ : GSod)]).bind fun l9 =>
           norm_Of_L1 n t0 c (t30, t31, t32, t33, t34, t35, l9, t37, (IntKind.i64.wrap (t8 + 1))))
         else
          (if (x2.kind == 8) then
           (if (decide (x2.l.length = 0)) then
            (app t37 [(⟨x2.a, x2.b, []⟩ : GSession)]).bind fun l10 =>
            norm_Of_L1 n t0 c (t30, t31, t32, t33, t34, t35, t36, l10, (IntKind.i64.wrap (t8 + 1)))
           else
            grd (decide (x2.l.length ≤ 4294967296)) <|
            (app t37 [(⟨x2.a, x2.b, x2.l⟩ : GSession)]).bind fun l11 =>
            norm_Of_L1 n t0 c (t30, t31, t32, t33, t34, t35, t36, l11, (IntKind.i64.wrap (t8 + 1))))
          else
           norm_Of_L1 n t0 c (t30, t31, t32, t33, t34, t35, t36, t37, (IntKind.i64.wrap (t8 + 1)))))))))))
  else
   some (t30, t31, t32, t33, t34, t35, t36, t37))
def norm_Of_L1_f (_ : Nat) (_ : List GFact) (st : List ByteArray × List ByteArray × List GPair × List GPair × List GGrant × List GSod × List GSod × List GSession) (x2 : GFact) (k : (List ByteArray × List ByteArray × List GPair × List GPair × List GGrant × List GSod × List GSod × List GSession) → Option (List ByteArray × List ByteArray × List GPair × List GPair × List GGrant × List GSod × List GSod × List GSession)) : Option (List ByteArray × List ByteArray × List GPair × List GPair × List GGrant × List GSod × List GSod × List GSession) :=
 match st with
 | (t30, t31, t32, t33, t34, t35, t36, t37) =>
  (if (x2.kind == 1) then
   (app t30 [x2.a]).bind fun l =>
   k (l, t31, t32, t33, t34, t35, t36, t37)
  else
   (if (x2.kind == 2) then
    (app t31 [x2.a]).bind fun l2 =>
    k (t30, l2, t32, t33, t34, t35, t36, t37)
   else
    (if (x2.kind == 3) then
     (app t32 [(⟨x2.a, x2.b⟩ : GPair)]).bind fun l3 =>
     k (t30, t31, l3, t33, t34, t35, t36, t37)
    else
     (if (x2.kind == 4) then
      (app t33 [(⟨x2.a, x2.b⟩ : GPair)]).bind fun l4 =>
      k (t30, t31, t32, l4, t34, t35, t36, t37)
     else
      (if (x2.kind == 5) then
       (app t34 [(⟨x2.a, x2.b, x2.c⟩ : GGrant)]).bind fun l5 =>
       k (t30, t31, t32, t33, l5, t35, t36, t37)
      else
       (if (x2.kind == 6) then
        (if (decide (x2.l.length = 0)) then
         (app t35 [(⟨x2.a, x2.n_, []⟩ : GSod)]).bind fun l6 =>
         k (t30, t31, t32, t33, t34, l6, t36, t37)
        else
         grd (decide (x2.l.length ≤ 4294967296)) <|
         (app t35 [(⟨x2.a, x2.n_, x2.l⟩ : GSod)]).bind fun l7 =>
         k (t30, t31, t32, t33, t34, l7, t36, t37))
       else
        (if (x2.kind == 7) then
         (if (decide (x2.l.length = 0)) then
          (app t36 [(⟨x2.a, x2.n_, []⟩ : GSod)]).bind fun l8 =>
          k (t30, t31, t32, t33, t34, t35, l8, t37)
         else
          grd (decide (x2.l.length ≤ 4294967296)) <|
          (app t36 [(⟨x2.a, x2.n_, x2.l⟩ : GSod)]).bind fun l9 =>
          k (t30, t31, t32, t33, t34, t35, l9, t37))
        else
         (if (x2.kind == 8) then
          (if (decide (x2.l.length = 0)) then
           (app t37 [(⟨x2.a, x2.b, []⟩ : GSession)]).bind fun l10 =>
           k (t30, t31, t32, t33, t34, t35, t36, l10)
          else
           grd (decide (x2.l.length ≤ 4294967296)) <|
           (app t37 [(⟨x2.a, x2.b, x2.l⟩ : GSession)]).bind fun l11 =>
           k (t30, t31, t32, t33, t34, t35, t36, l11))
         else
          k (t30, t31, t32, t33, t34, t35, t36, t37)))))))))
def norm_Of_L1_e (_ : Nat) (_ : List GFact) (st : List ByteArray × List ByteArray × List GPair × List GPair × List GGrant × List GSod × List GSod × List GSession) : Option (List ByteArray × List ByteArray × List GPair × List GPair × List GGrant × List GSod × List GSod × List GSession) :=
 match st with
 | (t30, t31, t32, t33, t34, t35, t36, t37) => some (t30, t31, t32, t33, t34, t35, t36, t37)
theorem norm_Of_L1_list (n : Nat) (t0 : List GFact) (hx : t0.length < 4611686018427387904) (c : Nat) (st : List ByteArray × List ByteArray × List GPair × List GPair × List GGrant × List GSod × List GSod × List GSession) (ix : Nat) (hi : ix ≤ t0.length) (hc : t0.length - ix < c) : norm_Of_L1 n t0 c (match st, (ix : Int) with | (t30, t31, t32, t33, t34, t35, t36, t37), ix => (t30, t31, t32, t33, t34, t35, t36, t37, ix)) = foldK (norm_Of_L1_f n t0) (norm_Of_L1_e n t0) (t0.drop ix) st :=
 loop_list (fun c st ix => norm_Of_L1 n t0 c (match st, ix with | (t30, t31, t32, t33, t34, t35, t36, t37), ix => (t30, t31, t32, t33, t34, t35, t36, t37, ix))) t0 (norm_Of_L1_f n t0) (norm_Of_L1_e n t0) (fun _ _ _ => rfl) hx c st ix hi hc

def norm_Of (n : Nat) (t0 : List GFact) : Option GRoles :=
 (
  norm_Of_L1 n t0 n ([], [], [], [], [], [], [], [], 0) : Option (List ByteArray × List ByteArray × List GPair × List GPair × List GGrant × List GSod × List GSod × List GSession)).bind fun (t303, t313, t323, t333, t343, t353, t363, t373) =>
 some (⟨t303, t313, t323, t333, t343, t353, t363, t373⟩ : GRoles)
set_option maxHeartbeats 8000000 in
theorem norm_Of_ok {n : Nat} {t0 : List GFact} {r : GRoles} (H : norm_Of n t0 = some r) : PureOK Tryz.prog 12 [D.sl (List.map eGFact t0)] (D.ag (eGRoles r)) true := by
 unfold norm_Of at H
 refine pure_runR (tab := tab) tab_ok Tryz.func12 rfl (by kernel_rfl) (by kernel_rfl) (by simp [Tryz.f12]) ?_
 refine runR_seq ?_
 refine runR_take tab_ok fol 1 ?_
 try simp -implicitDefEqProofs only [go_sem, ↓reduceIte, eGRoles]
 refine runR_seq ?_
 refine runR_take tab_ok fol 1 ?_
 try simp -implicitDefEqProofs only [go_sem, Nat.reduceAdd, ↓reduceIte]
 refine runR_seq ?_
 refine runR_seq ?_
 refine runR_take tab_ok fol 1 ?_
 try simp -implicitDefEqProofs only [go_sem, Nat.reduceAdd, reduceCtorEq, ↓reduceIte]
 obtain ⟨e_, E1, H2⟩ := bind_inv H
 refine runR_join (α := { y : List ByteArray × List ByteArray × List GPair × List GPair × List GGrant × List GSod × List GSod × List GSession // e_ = y } × Nat × Nat × Nat × Nat × Nat × Nat × Nat × Nat) (fun | ⟨⟨⟨t303, t313, t323, t333, t343, t353, t363, t373⟩, _⟩, ⟨g17, g18, g19, g20, g21, g22, g23, g24⟩⟩ => ⟨upd 2 (.pt 0 0) (upd 3 (.pt 1 0) noFr), upd 0 (some (.bx [.v (.slice none 0 0), .v (.slice none 0 0), .v (.slice none 0 0), .v (.slice none 0 0), .v (.slice none 0 0), .v (.slice none 0 0), .v (.slice none 0 0), .v (.slice none 0 0)])) (upd 1 (some (.bx [accV 2 g17 (List.map eS t303), accV 3 g18 (List.map eS t313), accV 4 g19 (List.map eGPair t323), accV 5 g20 (List.map eGPair t333), accV 6 g21 (List.map eGGrant t343), accV 7 g22 (List.map eGSod t353), accV 8 g23 (List.map eGSod t363), accV 9 g24 (List.map eGSession t373)])) (upd 2 (accO 1 g17 false (List.map eS t303)) (upd 3 (accO 1 g18 false (List.map eS t313)) (upd 4 (accO 2 g19 false (List.map eGPair t323)) (upd 5 (accO 2 g20 false (List.map eGPair t333)) (upd 6 (accO 3 g21 false (List.map eGGrant t343)) (upd 7 (accO 3 g22 false (List.map eGSod t353)) (upd 8 (accO 3 g23 false (List.map eGSod t363)) (upd 9 (accO 3 g24 false (List.map eGSession t373)) noHp))))))))), 10⟩) ?_ ?_
 ·refine runR_block ?_
  refine runR_loop (α := { q : (Nat × (List ByteArray × List ByteArray × List GPair × List GPair × List GGrant × List GSod × List GSod × List GSession × Int)) × Nat × Nat × Nat × Nat × Nat × Nat × Nat × Nat // norm_Of_L1 n t0 q.1.1 q.1.2 = some e_ }) (fun | ⟨⟨⟨c, ⟨t30, t31, t32, t33, t34, t35, t36, t37, t8⟩⟩, ⟨g, g2, g3, g4, g5, g6, g7, g8⟩⟩, _⟩ => ⟨upd 2 (.pt 0 0) (upd 3 (.pt 1 0) (upd 6 (.d (.sl (List.map eGFact t0)) true) (upd 7 (.v (.int .i64 (t0.length : Int))) (upd 8 (.v (.int .i64 t8)) noFr)))), upd 0 (some (.bx [.v (.slice none 0 0), .v (.slice none 0 0), .v (.slice none 0 0), .v (.slice none 0 0), .v (.slice none 0 0), .v (.slice none 0 0), .v (.slice none 0 0), .v (.slice none 0 0)])) (upd 1 (some (.bx [accV 2 g (List.map eS t30), accV 3 g2 (List.map eS t31), accV 4 g3 (List.map eGPair t32), accV 5 g4 (List.map eGPair t33), accV 6 g5 (List.map eGGrant t34), accV 7 g6 (List.map eGSod t35), accV 8 g7 (List.map eGSod t36), accV 9 g8 (List.map eGSession t37)])) (upd 2 (accO 1 g false (List.map eS t30)) (upd 3 (accO 1 g2 false (List.map eS t31)) (upd 4 (accO 2 g3 false (List.map eGPair t32)) (upd 5 (accO 2 g4 false (List.map eGPair t33)) (upd 6 (accO 3 g5 false (List.map eGGrant t34)) (upd 7 (accO 3 g6 false (List.map eGSod t35)) (upd 8 (accO 3 g7 false (List.map eGSod t36)) (upd 9 (accO 3 g8 false (List.map eGSession t37)) noHp))))))))), 10⟩) (fun q => q.1.1.1) ⟨((n, ([], [], [], [], [], [], [], [], 0)), (0, 0, 0, 0, 0, 0, 0, 0)), E1⟩ ?_ ?_
  ·exact ren_mk [(0, 0), (1, 1)] (by rfl) (ru_ (ru_ (ru_ (ru_ (ru_ (rf_no _)))))) (ro_ (rh_upd (rh_one (by rfl) (renO_bx (renL_cons (by rfl) (renL_cons (by rfl) (renL_cons (by rfl) (renL_cons (by rfl) (renL_cons (by rfl) (renL_cons (by rfl) (renL_cons (by rfl) (renL_cons (by rfl) (renL_nil _)))))))))) (by rfl)) (rh_upd rh_accN (rh_upd rh_accN (rh_upd rh_accN (rh_upd rh_accN (rh_upd rh_accN (rh_upd rh_accN (rh_upd rh_accN (rh_upd rh_accN (rh_no _)))))))))))
  ·rintro ⟨⟨⟨c, ⟨t30, t31, t32, t33, t34, t35, t36, t37, t8⟩⟩, ⟨g, g2, g3, g4, g5, g6, g7, g8⟩⟩, L3⟩
   rcases c with _ | c
   ·exact nomatch (show none = some _ from L3)
   ·unfold norm_Of_L1 at L3
    try dsimp only at L3
    refine runR_take tab_ok fol 1 ?_
    try simp -implicitDefEqProofs only [go_sem, Nat.reduceEqDiff, Nat.reduceAdd, ↓reduceIte]
    rcases ite_inv L3 with ⟨c55, H56⟩ | ⟨c55, H56⟩
    ·obtain ⟨x2, b57, H58⟩ := bind_inv H56
     obtain ⟨h59, h60⟩ := idx_inv b57
     try simp only [Int.reduceToNat, Int.toNat_natCast] at h60
     have h61 := map_at eGFact h60
     try simp -implicitDefEqProofs only [go_sem, Nat.reduceEqDiff, Nat.reduceAdd, reduceCtorEq, ↓reduceIte, eGFact, c55, nat_of .i64 h59, h61]
     rcases ite_inv H58 with ⟨c63, H64⟩ | ⟨c63, H64⟩
     ·obtain ⟨l, b65, H66⟩ := bind_inv H64
      obtain ⟨h67, h68⟩ := app_inv b65
      have h67 : t30.length + 1 ≤ 4294967296 := h67
      have h69 : List.map eS t30 ++ [[.v (.string x2.a)]] = List.map eS l := app_map eS h68
      have h70 : t30.length + 1 = l.length := app_len h68
      have h71 : l.length ≤ 4294967296 := by omega
      have q72 : 0 < l.length := by omega
      try simp -implicitDefEqProofs only [go_sem, Nat.reduceLT, Nat.reduceEqDiff, Nat.reduceAdd, Nat.reduceLeDiff, reduceCtorEq, ↓reduceIte, c63, h69, h70, h71, accI_ne]
      rcases t30 with _ | ⟨q0, q1⟩
      ·try simp only [List.map_nil, accI, accN]
       exact ⟨⟨((c, (l, t31, t32, t33, t34, t35, t36, t37, (IntKind.i64.wrap (t8 + 1)))), (0, g2, g3, g4, g5, g6, g7, g8)), H66⟩, ren_mk [(0, 0), (1, 1), (2, 24), (3, 3), (4, 4), (5, 5), (6, 6), (7, 7), (8, 8), (9, 9)] (by rfl) (ru_ (ru_ (ru_ (ru_ (ru_ (rf_no _)))))) (ro_ (rh_upd (rh_one (by rfl) (renO_bx (renL_cons (by exact ren_accP (by rfl) q72) (renL_cons (ren_acc (by rfl)) (renL_cons (ren_acc (by rfl)) (renL_cons (ren_acc (by rfl)) (renL_cons (ren_acc (by rfl)) (renL_cons (ren_acc (by rfl)) (renL_cons (ren_acc (by rfl)) (renL_cons (ren_acc (by rfl)) (renL_nil _)))))))))) (by rfl)) (rh_upd (by exact rh_accP (by rfl) q72 (by rfl)) (ra_ (ra_ (ra_ (ra_ (ra_ (ra_ (ra_ (rh_no _))))))))))), Nat.lt_succ_self _⟩
      ·try simp only [List.map_cons, accI, accN]
       exact ⟨⟨((c, (l, t31, t32, t33, t34, t35, t36, t37, (IntKind.i64.wrap (t8 + 1)))), ((g + 1), g2, g3, g4, g5, g6, g7, g8)), H66⟩, ren_mk [(0, 0), (1, 1), (2, 2), (3, 3), (4, 4), (5, 5), (6, 6), (7, 7), (8, 8), (9, 9)] (by rfl) (ru_ (ru_ (ru_ (ru_ (ru_ (rf_no _)))))) (ro_ (rh_upd (rh_one (by rfl) (renO_bx (renL_cons (by exact ren_accP (by rfl) q72) (renL_cons (ren_acc (by rfl)) (renL_cons (ren_acc (by rfl)) (renL_cons (ren_acc (by rfl)) (renL_cons (ren_acc (by rfl)) (renL_cons (ren_acc (by rfl)) (renL_cons (ren_acc (by rfl)) (renL_cons (ren_acc (by rfl)) (renL_nil _)))))))))) (by rfl)) (rh_upd (by exact rh_accP (by rfl) q72 (by rfl)) (ra_ (ra_ (ra_ (ra_ (ra_ (ra_ (ra_ (rh_no _))))))))))), Nat.lt_succ_self _⟩
     ·try simp -implicitDefEqProofs only [go_sem, Nat.reduceEqDiff, Nat.reduceAdd, ↓reduceIte, c63]
      rcases ite_inv H64 with ⟨c73, H74⟩ | ⟨c73, H74⟩
      ·obtain ⟨l2, b75, H76⟩ := bind_inv H74
       obtain ⟨h77, h78⟩ := app_inv b75
       have h77 : t31.length + 1 ≤ 4294967296 := h77
       have h79 : List.map eS t31 ++ [[.v (.string x2.a)]] = List.map eS l2 := app_map eS h78
       have h80 : t31.length + 1 = l2.length := app_len h78
       have h81 : l2.length ≤ 4294967296 := by omega
       have q82 : 0 < l2.length := by omega
       try simp -implicitDefEqProofs only [go_sem, Nat.reduceLT, Nat.reduceEqDiff, Nat.reduceAdd, Nat.reduceLeDiff, reduceCtorEq, ↓reduceIte, c73, h79, h80, h81, accI_ne]
       rcases t31 with _ | ⟨q0, q1⟩
       ·try simp only [List.map_nil, accI, accN]
        exact ⟨⟨((c, (t30, l2, t32, t33, t34, t35, t36, t37, (IntKind.i64.wrap (t8 + 1)))), (g, 0, g3, g4, g5, g6, g7, g8)), H76⟩, ren_mk [(0, 0), (1, 1), (2, 2), (3, 26), (4, 4), (5, 5), (6, 6), (7, 7), (8, 8), (9, 9)] (by rfl) (ru_ (ru_ (ru_ (ru_ (ru_ (rf_no _)))))) (ro_ (rh_upd (rh_one (by rfl) (renO_bx (renL_cons (ren_acc (by rfl)) (renL_cons (by exact ren_accP (by rfl) q82) (renL_cons (ren_acc (by rfl)) (renL_cons (ren_acc (by rfl)) (renL_cons (ren_acc (by rfl)) (renL_cons (ren_acc (by rfl)) (renL_cons (ren_acc (by rfl)) (renL_cons (ren_acc (by rfl)) (renL_nil _)))))))))) (by rfl)) (ra_ (rh_upd (by exact rh_accP (by rfl) q82 (by rfl)) (ra_ (ra_ (ra_ (ra_ (ra_ (ra_ (rh_no _))))))))))), Nat.lt_succ_self _⟩
       ·try simp only [List.map_cons, accI, accN]
        exact ⟨⟨((c, (t30, l2, t32, t33, t34, t35, t36, t37, (IntKind.i64.wrap (t8 + 1)))), (g, (g2 + 1), g3, g4, g5, g6, g7, g8)), H76⟩, ren_mk [(0, 0), (1, 1), (2, 2), (3, 3), (4, 4), (5, 5), (6, 6), (7, 7), (8, 8), (9, 9)] (by rfl) (ru_ (ru_ (ru_ (ru_ (ru_ (rf_no _)))))) (ro_ (rh_upd (rh_one (by rfl) (renO_bx (renL_cons (ren_acc (by rfl)) (renL_cons (by exact ren_accP (by rfl) q82) (renL_cons (ren_acc (by rfl)) (renL_cons (ren_acc (by rfl)) (renL_cons (ren_acc (by rfl)) (renL_cons (ren_acc (by rfl)) (renL_cons (ren_acc (by rfl)) (renL_cons (ren_acc (by rfl)) (renL_nil _)))))))))) (by rfl)) (ra_ (rh_upd (by exact rh_accP (by rfl) q82 (by rfl)) (ra_ (ra_ (ra_ (ra_ (ra_ (ra_ (rh_no _))))))))))), Nat.lt_succ_self _⟩
      ·try simp -implicitDefEqProofs only [go_sem, Nat.reduceEqDiff, Nat.reduceAdd, ↓reduceIte, c73]
       rcases ite_inv H74 with ⟨c83, H84⟩ | ⟨c83, H84⟩
       ·obtain ⟨l3, b85, H86⟩ := bind_inv H84
        obtain ⟨h87, h88⟩ := app_inv b85
        have h87 : t32.length + 1 ≤ 4294967296 := h87
        have h89 : List.map eGPair t32 ++ [[.v (.string x2.a), .v (.string x2.b)]] = List.map eGPair l3 := app_map eGPair h88
        have h90 : t32.length + 1 = l3.length := app_len h88
        have h91 : l3.length ≤ 4294967296 := by omega
        have q92 : 0 < l3.length := by omega
        try simp -implicitDefEqProofs only [go_sem, Nat.reduceLT, Nat.reduceEqDiff, Nat.reduceAdd, Nat.reduceMul, Nat.reduceLeDiff, reduceCtorEq, ↓reduceIte, c83, h89, h90, h91, accI_ne]
        rcases t32 with _ | ⟨q0, q1⟩
        ·try simp only [List.map_nil, accI, accN]
         exact ⟨⟨((c, (t30, t31, l3, t33, t34, t35, t36, t37, (IntKind.i64.wrap (t8 + 1)))), (g, g2, 0, g4, g5, g6, g7, g8)), H86⟩, ren_mk [(0, 0), (1, 1), (2, 2), (3, 3), (4, 31), (5, 5), (6, 6), (7, 7), (8, 8), (9, 9)] (by rfl) (ru_ (ru_ (ru_ (ru_ (ru_ (rf_no _)))))) (ro_ (rh_upd (rh_one (by rfl) (renO_bx (renL_cons (ren_acc (by rfl)) (renL_cons (ren_acc (by rfl)) (renL_cons (by exact ren_accP (by rfl) q92) (renL_cons (ren_acc (by rfl)) (renL_cons (ren_acc (by rfl)) (renL_cons (ren_acc (by rfl)) (renL_cons (ren_acc (by rfl)) (renL_cons (ren_acc (by rfl)) (renL_nil _)))))))))) (by rfl)) (ra_ (ra_ (rh_upd (by exact rh_accP (by rfl) q92 (by rfl)) (ra_ (ra_ (ra_ (ra_ (ra_ (rh_no _))))))))))), Nat.lt_succ_self _⟩
        ·try simp only [List.map_cons, accI, accN]
         exact ⟨⟨((c, (t30, t31, l3, t33, t34, t35, t36, t37, (IntKind.i64.wrap (t8 + 1)))), (g, g2, (g3 + 1), g4, g5, g6, g7, g8)), H86⟩, ren_mk [(0, 0), (1, 1), (2, 2), (3, 3), (4, 4), (5, 5), (6, 6), (7, 7), (8, 8), (9, 9)] (by rfl) (ru_ (ru_ (ru_ (ru_ (ru_ (rf_no _)))))) (ro_ (rh_upd (rh_one (by rfl) (renO_bx (renL_cons (ren_acc (by rfl)) (renL_cons (ren_acc (by rfl)) (renL_cons (by exact ren_accP (by rfl) q92) (renL_cons (ren_acc (by rfl)) (renL_cons (ren_acc (by rfl)) (renL_cons (ren_acc (by rfl)) (renL_cons (ren_acc (by rfl)) (renL_cons (ren_acc (by rfl)) (renL_nil _)))))))))) (by rfl)) (ra_ (ra_ (rh_upd (by exact rh_accP (by rfl) q92 (by rfl)) (ra_ (ra_ (ra_ (ra_ (ra_ (rh_no _))))))))))), Nat.lt_succ_self _⟩
       ·try simp -implicitDefEqProofs only [go_sem, Nat.reduceEqDiff, Nat.reduceAdd, ↓reduceIte, c83]
        rcases ite_inv H84 with ⟨c93, H94⟩ | ⟨c93, H94⟩
        ·obtain ⟨l4, b95, H96⟩ := bind_inv H94
         obtain ⟨h97, h98⟩ := app_inv b95
         have h97 : t33.length + 1 ≤ 4294967296 := h97
         have h99 : List.map eGPair t33 ++ [[.v (.string x2.a), .v (.string x2.b)]] = List.map eGPair l4 := app_map eGPair h98
         have h100 : t33.length + 1 = l4.length := app_len h98
         have h101 : l4.length ≤ 4294967296 := by omega
         have q102 : 0 < l4.length := by omega
         try simp -implicitDefEqProofs only [go_sem, Nat.reduceLT, Nat.reduceEqDiff, Nat.reduceAdd, Nat.reduceMul, Nat.reduceLeDiff, reduceCtorEq, ↓reduceIte, c93, h99, h100, h101, accI_ne]
         rcases t33 with _ | ⟨q0, q1⟩
         ·try simp only [List.map_nil, accI, accN]
          exact ⟨⟨((c, (t30, t31, t32, l4, t34, t35, t36, t37, (IntKind.i64.wrap (t8 + 1)))), (g, g2, g3, 0, g5, g6, g7, g8)), H96⟩, ren_mk [(0, 0), (1, 1), (2, 2), (3, 3), (4, 4), (5, 33), (6, 6), (7, 7), (8, 8), (9, 9)] (by rfl) (ru_ (ru_ (ru_ (ru_ (ru_ (rf_no _)))))) (ro_ (rh_upd (rh_one (by rfl) (renO_bx (renL_cons (ren_acc (by rfl)) (renL_cons (ren_acc (by rfl)) (renL_cons (ren_acc (by rfl)) (renL_cons (by exact ren_accP (by rfl) q102) (renL_cons (ren_acc (by rfl)) (renL_cons (ren_acc (by rfl)) (renL_cons (ren_acc (by rfl)) (renL_cons (ren_acc (by rfl)) (renL_nil _)))))))))) (by rfl)) (ra_ (ra_ (ra_ (rh_upd (by exact rh_accP (by rfl) q102 (by rfl)) (ra_ (ra_ (ra_ (ra_ (rh_no _))))))))))), Nat.lt_succ_self _⟩
         ·try simp only [List.map_cons, accI, accN]
          exact ⟨⟨((c, (t30, t31, t32, l4, t34, t35, t36, t37, (IntKind.i64.wrap (t8 + 1)))), (g, g2, g3, (g4 + 1), g5, g6, g7, g8)), H96⟩, ren_mk [(0, 0), (1, 1), (2, 2), (3, 3), (4, 4), (5, 5), (6, 6), (7, 7), (8, 8), (9, 9)] (by rfl) (ru_ (ru_ (ru_ (ru_ (ru_ (rf_no _)))))) (ro_ (rh_upd (rh_one (by rfl) (renO_bx (renL_cons (ren_acc (by rfl)) (renL_cons (ren_acc (by rfl)) (renL_cons (ren_acc (by rfl)) (renL_cons (by exact ren_accP (by rfl) q102) (renL_cons (ren_acc (by rfl)) (renL_cons (ren_acc (by rfl)) (renL_cons (ren_acc (by rfl)) (renL_cons (ren_acc (by rfl)) (renL_nil _)))))))))) (by rfl)) (ra_ (ra_ (ra_ (rh_upd (by exact rh_accP (by rfl) q102 (by rfl)) (ra_ (ra_ (ra_ (ra_ (rh_no _))))))))))), Nat.lt_succ_self _⟩
        ·try simp -implicitDefEqProofs only [go_sem, Nat.reduceEqDiff, Nat.reduceAdd, ↓reduceIte, c93]
         rcases ite_inv H94 with ⟨c103, H104⟩ | ⟨c103, H104⟩
         ·obtain ⟨l5, b105, H106⟩ := bind_inv H104
          obtain ⟨h107, h108⟩ := app_inv b105
          have h107 : t34.length + 1 ≤ 4294967296 := h107
          have h109 : List.map eGGrant t34 ++ [[.v (.string x2.a), .v (.string x2.b), .v (.string x2.c)]] = List.map eGGrant l5 := app_map eGGrant h108
          have h110 : t34.length + 1 = l5.length := app_len h108
          have h111 : l5.length ≤ 4294967296 := by omega
          have q112 : 0 < l5.length := by omega
          try simp -implicitDefEqProofs only [go_sem, Nat.reduceLT, Nat.reduceEqDiff, Nat.reduceAdd, Nat.reduceMul, Nat.reduceLeDiff, reduceCtorEq, ↓reduceIte, c103, h109, h110, h111, accI_ne]
          rcases t34 with _ | ⟨q0, q1⟩
          ·try simp only [List.map_nil, accI, accN]
           exact ⟨⟨((c, (t30, t31, t32, t33, l5, t35, t36, t37, (IntKind.i64.wrap (t8 + 1)))), (g, g2, g3, g4, 0, g6, g7, g8)), H106⟩, ren_mk [(0, 0), (1, 1), (2, 2), (3, 3), (4, 4), (5, 5), (6, 37), (7, 7), (8, 8), (9, 9)] (by rfl) (ru_ (ru_ (ru_ (ru_ (ru_ (rf_no _)))))) (ro_ (rh_upd (rh_one (by rfl) (renO_bx (renL_cons (ren_acc (by rfl)) (renL_cons (ren_acc (by rfl)) (renL_cons (ren_acc (by rfl)) (renL_cons (ren_acc (by rfl)) (renL_cons (by exact ren_accP (by rfl) q112) (renL_cons (ren_acc (by rfl)) (renL_cons (ren_acc (by rfl)) (renL_cons (ren_acc (by rfl)) (renL_nil _)))))))))) (by rfl)) (ra_ (ra_ (ra_ (ra_ (rh_upd (by exact rh_accP (by rfl) q112 (by rfl)) (ra_ (ra_ (ra_ (rh_no _))))))))))), Nat.lt_succ_self _⟩
          ·try simp only [List.map_cons, accI, accN]
           exact ⟨⟨((c, (t30, t31, t32, t33, l5, t35, t36, t37, (IntKind.i64.wrap (t8 + 1)))), (g, g2, g3, g4, (g5 + 1), g6, g7, g8)), H106⟩, ren_mk [(0, 0), (1, 1), (2, 2), (3, 3), (4, 4), (5, 5), (6, 6), (7, 7), (8, 8), (9, 9)] (by rfl) (ru_ (ru_ (ru_ (ru_ (ru_ (rf_no _)))))) (ro_ (rh_upd (rh_one (by rfl) (renO_bx (renL_cons (ren_acc (by rfl)) (renL_cons (ren_acc (by rfl)) (renL_cons (ren_acc (by rfl)) (renL_cons (ren_acc (by rfl)) (renL_cons (by exact ren_accP (by rfl) q112) (renL_cons (ren_acc (by rfl)) (renL_cons (ren_acc (by rfl)) (renL_cons (ren_acc (by rfl)) (renL_nil _)))))))))) (by rfl)) (ra_ (ra_ (ra_ (ra_ (rh_upd (by exact rh_accP (by rfl) q112 (by rfl)) (ra_ (ra_ (ra_ (rh_no _))))))))))), Nat.lt_succ_self _⟩
         ·try simp -implicitDefEqProofs only [go_sem, Nat.reduceEqDiff, Nat.reduceAdd, ↓reduceIte, c103]
          rcases ite_inv H104 with ⟨c113, H114⟩ | ⟨c113, H114⟩
          ·try simp -implicitDefEqProofs only [go_sem, Nat.reduceEqDiff, Nat.reduceAdd, reduceCtorEq, ↓reduceIte, c113]
           rcases ite_inv H114 with ⟨c115, H116⟩ | ⟨c115, H116⟩
           ·try simp -implicitDefEqProofs only [go_sem, Bool.false_and, Int.reduceToNat, Int.reduceLT, Int.reduceLE, Int.reduceBEq, Int.reduceBNe, Nat.reduceLT, Nat.reduceBEq, Int.reduceEq, Nat.reduceEqDiff, Nat.reduceAdd, Nat.reduceSub, Nat.reduceMul, Nat.reduceLeDiff, reduceCtorEq, ↓reduceIte, eGPair, eGGrant, eGSod, eGSession, eGWord, eGLine, eGFact, eGRoles, c55, nat_of .i64 h59, h61, c63, c73, c83, c93, c103, c113, c115]
            refine onCallD_pure (by rfl) (cl28_0 x2.l c115) (.inr rfl) ?_
            obtain ⟨l6, b117, H118⟩ := bind_inv H116
            obtain ⟨h119, h120⟩ := app_inv b117
            have h119 : t35.length + 1 ≤ 4294967296 := h119
            have h121 : List.map eGSod t35 ++ [[.v (.string x2.a), .v (.int .i64 x2.n_), .sl []]] = List.map eGSod l6 := app_map eGSod h120
            have h122 : t35.length + 1 = l6.length := app_len h120
            have h123 : l6.length ≤ 4294967296 := by omega
            have q124 : 0 < l6.length := by omega
            try simp -implicitDefEqProofs only [go_sem, Bool.false_and, Nat.reduceLT, Nat.reduceEqDiff, Nat.reduceAdd, Nat.reduceMul, Nat.reduceLeDiff, reduceCtorEq, ↓reduceIte, h121, h122, h123, accI_ne]
            refine Rd_endF (by (cases t35 <;> rfl)) ?_
            try simp -implicitDefEqProofs only [go_sem, Nat.reduceEqDiff, Nat.reduceAdd, ↓reduceIte]
            rcases t35 with _ | ⟨q0, q1⟩
            ·try simp only [List.map_nil, accI, accN]
             exact ⟨⟨((c, (t30, t31, t32, t33, t34, l6, t36, t37, (IntKind.i64.wrap (t8 + 1)))), (g, g2, g3, g4, g5, 0, g7, g8)), H118⟩, ren_mk [(0, 0), (1, 1), (2, 2), (3, 3), (4, 4), (5, 5), (6, 6), (7, 40), (8, 8), (9, 9)] (by rfl) (ru_ (ru_ (ru_ (ru_ (ru_ (rf_no _)))))) (ro_ (rh_upd (rh_one (by rfl) (renO_bx (renL_cons (ren_acc (by rfl)) (renL_cons (ren_acc (by rfl)) (renL_cons (ren_acc (by rfl)) (renL_cons (ren_acc (by rfl)) (renL_cons (ren_acc (by rfl)) (renL_cons (by exact ren_accP (by rfl) q124) (renL_cons (ren_acc (by rfl)) (renL_cons (ren_acc (by rfl)) (renL_nil _)))))))))) (by rfl)) (ra_ (ra_ (ra_ (ra_ (ra_ (rh_upd (by exact rh_accP (by rfl) q124 (by rfl)) (ra_ (ra_ (rh_no _))))))))))), Nat.lt_succ_self _⟩
            ·try simp only [List.map_cons, accI, accN]
             exact ⟨⟨((c, (t30, t31, t32, t33, t34, l6, t36, t37, (IntKind.i64.wrap (t8 + 1)))), (g, g2, g3, g4, g5, (g6 + 1), g7, g8)), H118⟩, ren_mk [(0, 0), (1, 1), (2, 2), (3, 3), (4, 4), (5, 5), (6, 6), (7, 7), (8, 8), (9, 9)] (by rfl) (ru_ (ru_ (ru_ (ru_ (ru_ (rf_no _)))))) (ro_ (rh_upd (rh_one (by rfl) (renO_bx (renL_cons (ren_acc (by rfl)) (renL_cons (ren_acc (by rfl)) (renL_cons (ren_acc (by rfl)) (renL_cons (ren_acc (by rfl)) (renL_cons (ren_acc (by rfl)) (renL_cons (by exact ren_accP (by rfl) q124) (renL_cons (ren_acc (by rfl)) (renL_cons (ren_acc (by rfl)) (renL_nil _)))))))))) (by rfl)) (ra_ (ra_ (ra_ (ra_ (ra_ (rh_upd (by exact rh_accP (by rfl) q124 (by rfl)) (ra_ (ra_ (rh_no _))))))))))), Nat.lt_succ_self _⟩
           ·obtain ⟨g125, H126⟩ := grd_inv H116
            have h127 : x2.l.length ≤ 4294967296 := of_decide_eq_true g125
            have q128 : 0 < x2.l.length := by have := of_decide_eq_false c115; omega
            try simp -implicitDefEqProofs only [go_sem, Bool.false_and, Int.reduceToNat, Int.reduceLT, Int.reduceLE, Int.reduceBEq, Int.reduceBNe, Nat.reduceLT, Nat.reduceBEq, Int.reduceEq, Nat.reduceEqDiff, Nat.reduceAdd, Nat.reduceSub, Nat.reduceMul, Nat.reduceLeDiff, reduceCtorEq, ↓reduceIte, eGPair, eGGrant, eGSod, eGSession, eGWord, eGLine, eGFact, eGRoles, c55, nat_of .i64 h59, h61, c63, c73, c83, c93, c103, c113, c115]
            refine onCallD_det (ids' := []) (v := .so 46 1 0 x2.l.length) (δ := [(46, .rw (List.map eS x2.l) 1 1 false false)]) (nx' := 50) (fun hp1 _ => InlOK.mono (cl28_in x2.l q128 h127) fun v2 hp2 nx2 e => e) ?_
            obtain ⟨l7, b132, H133⟩ := bind_inv H126
            obtain ⟨h134, h135⟩ := app_inv b132
            have h134 : t35.length + 1 ≤ 4294967296 := h134
            have h136 : List.map eGSod t35 ++ [[.v (.string x2.a), .v (.int .i64 x2.n_), .sl (List.map eS x2.l)]] = List.map eGSod l7 := app_map eGSod h135
            have h137 : t35.length + 1 = l7.length := app_len h135
            have h138 : l7.length ≤ 4294967296 := by omega
            have q139 : 0 < l7.length := by omega
            try simp -implicitDefEqProofs only [go_sem, Nat.reduceLT, Nat.reduceEqDiff, Nat.reduceAdd, Nat.reduceMul, Nat.reduceLeDiff, reduceCtorEq, ↓reduceIte, h136, h137, h138, accI_ne]
            refine Rd_endF (by (cases t35 <;> rfl)) ?_
            try simp -implicitDefEqProofs only [go_sem, Nat.reduceEqDiff, Nat.reduceAdd, ↓reduceIte]
            rcases t35 with _ | ⟨q0, q1⟩
            ·try simp only [List.map_nil, accI, accN]
             exact ⟨⟨((c, (t30, t31, t32, t33, t34, l7, t36, t37, (IntKind.i64.wrap (t8 + 1)))), (g, g2, g3, g4, g5, 0, g7, g8)), H133⟩, ren_mk [(0, 0), (1, 1), (2, 2), (3, 3), (4, 4), (5, 5), (6, 6), (7, 40), (8, 8), (9, 9)] (by rfl) (ru_ (ru_ (ru_ (ru_ (ru_ (rf_no _)))))) (ro_ (rh_upd (rh_one (by rfl) (renO_bx (renL_cons (ren_acc (by rfl)) (renL_cons (ren_acc (by rfl)) (renL_cons (ren_acc (by rfl)) (renL_cons (ren_acc (by rfl)) (renL_cons (ren_acc (by rfl)) (renL_cons (by exact ren_accP (by rfl) q139) (renL_cons (ren_acc (by rfl)) (renL_cons (ren_acc (by rfl)) (renL_nil _)))))))))) (by rfl)) (ra_ (ra_ (ra_ (ra_ (ra_ (rh_upd (by exact rh_accP (by rfl) q139 (by rfl)) (ra_ (ra_ (rh_no _))))))))))), Nat.lt_succ_self _⟩
            ·try simp only [List.map_cons, accI, accN]
             exact ⟨⟨((c, (t30, t31, t32, t33, t34, l7, t36, t37, (IntKind.i64.wrap (t8 + 1)))), (g, g2, g3, g4, g5, (g6 + 1), g7, g8)), H133⟩, ren_mk [(0, 0), (1, 1), (2, 2), (3, 3), (4, 4), (5, 5), (6, 6), (7, 7), (8, 8), (9, 9)] (by rfl) (ru_ (ru_ (ru_ (ru_ (ru_ (rf_no _)))))) (ro_ (rh_upd (rh_one (by rfl) (renO_bx (renL_cons (ren_acc (by rfl)) (renL_cons (ren_acc (by rfl)) (renL_cons (ren_acc (by rfl)) (renL_cons (ren_acc (by rfl)) (renL_cons (ren_acc (by rfl)) (renL_cons (by exact ren_accP (by rfl) q139) (renL_cons (ren_acc (by rfl)) (renL_cons (ren_acc (by rfl)) (renL_nil _)))))))))) (by rfl)) (ra_ (ra_ (ra_ (ra_ (ra_ (rh_upd (by exact rh_accP (by rfl) q139 (by rfl)) (ra_ (ra_ (rh_no _))))))))))), Nat.lt_succ_self _⟩
          ·try simp -implicitDefEqProofs only [go_sem, Nat.reduceEqDiff, Nat.reduceAdd, ↓reduceIte, c113]
           rcases ite_inv H114 with ⟨c140, H141⟩ | ⟨c140, H141⟩
           ·try simp -implicitDefEqProofs only [go_sem, Nat.reduceEqDiff, Nat.reduceAdd, reduceCtorEq, ↓reduceIte, c140]
            rcases ite_inv H141 with ⟨c142, H143⟩ | ⟨c142, H143⟩
            ·try simp -implicitDefEqProofs only [go_sem, Bool.false_and, Int.reduceToNat, Int.reduceLT, Int.reduceLE, Int.reduceBEq, Int.reduceBNe, Nat.reduceLT, Nat.reduceBEq, Int.reduceEq, Nat.reduceEqDiff, Nat.reduceAdd, Nat.reduceSub, Nat.reduceMul, Nat.reduceLeDiff, reduceCtorEq, ↓reduceIte, eGPair, eGGrant, eGSod, eGSession, eGWord, eGLine, eGFact, eGRoles, c55, nat_of .i64 h59, h61, c63, c73, c83, c93, c103, c113, c140, c142]
             refine onCallD_pure (by rfl) (cl28_0 x2.l c142) (.inr rfl) ?_
             obtain ⟨l8, b144, H145⟩ := bind_inv H143
             obtain ⟨h146, h147⟩ := app_inv b144
             have h146 : t36.length + 1 ≤ 4294967296 := h146
             have h148 : List.map eGSod t36 ++ [[.v (.string x2.a), .v (.int .i64 x2.n_), .sl []]] = List.map eGSod l8 := app_map eGSod h147
             have h149 : t36.length + 1 = l8.length := app_len h147
             have h150 : l8.length ≤ 4294967296 := by omega
             have q151 : 0 < l8.length := by omega
             try simp -implicitDefEqProofs only [go_sem, Bool.false_and, Nat.reduceLT, Nat.reduceEqDiff, Nat.reduceAdd, Nat.reduceMul, Nat.reduceLeDiff, reduceCtorEq, ↓reduceIte, h148, h149, h150, accI_ne]
             refine Rd_endF (by (cases t36 <;> rfl)) ?_
             try simp -implicitDefEqProofs only [go_sem, Nat.reduceEqDiff, Nat.reduceAdd, ↓reduceIte]
             rcases t36 with _ | ⟨q0, q1⟩
             ·try simp only [List.map_nil, accI, accN]
              exact ⟨⟨((c, (t30, t31, t32, t33, t34, t35, l8, t37, (IntKind.i64.wrap (t8 + 1)))), (g, g2, g3, g4, g5, g6, 0, g8)), H145⟩, ren_mk [(0, 0), (1, 1), (2, 2), (3, 3), (4, 4), (5, 5), (6, 6), (7, 7), (8, 42), (9, 9)] (by rfl) (ru_ (ru_ (ru_ (ru_ (ru_ (rf_no _)))))) (ro_ (rh_upd (rh_one (by rfl) (renO_bx (renL_cons (ren_acc (by rfl)) (renL_cons (ren_acc (by rfl)) (renL_cons (ren_acc (by rfl)) (renL_cons (ren_acc (by rfl)) (renL_cons (ren_acc (by rfl)) (renL_cons (ren_acc (by rfl)) (renL_cons (by exact ren_accP (by rfl) q151) (renL_cons (ren_acc (by rfl)) (renL_nil _)))))))))) (by rfl)) (ra_ (ra_ (ra_ (ra_ (ra_ (ra_ (rh_upd (by exact rh_accP (by rfl) q151 (by rfl)) (ra_ (rh_no _))))))))))), Nat.lt_succ_self _⟩
             ·try simp only [List.map_cons, accI, accN]
              exact ⟨⟨((c, (t30, t31, t32, t33, t34, t35, l8, t37, (IntKind.i64.wrap (t8 + 1)))), (g, g2, g3, g4, g5, g6, (g7 + 1), g8)), H145⟩, ren_mk [(0, 0), (1, 1), (2, 2), (3, 3), (4, 4), (5, 5), (6, 6), (7, 7), (8, 8), (9, 9)] (by rfl) (ru_ (ru_ (ru_ (ru_ (ru_ (rf_no _)))))) (ro_ (rh_upd (rh_one (by rfl) (renO_bx (renL_cons (ren_acc (by rfl)) (renL_cons (ren_acc (by rfl)) (renL_cons (ren_acc (by rfl)) (renL_cons (ren_acc (by rfl)) (renL_cons (ren_acc (by rfl)) (renL_cons (ren_acc (by rfl)) (renL_cons (by exact ren_accP (by rfl) q151) (renL_cons (ren_acc (by rfl)) (renL_nil _)))))))))) (by rfl)) (ra_ (ra_ (ra_ (ra_ (ra_ (ra_ (rh_upd (by exact rh_accP (by rfl) q151 (by rfl)) (ra_ (rh_no _))))))))))), Nat.lt_succ_self _⟩
            ·obtain ⟨g152, H153⟩ := grd_inv H143
             have h154 : x2.l.length ≤ 4294967296 := of_decide_eq_true g152
             have q155 : 0 < x2.l.length := by have := of_decide_eq_false c142; omega
             try simp -implicitDefEqProofs only [go_sem, Bool.false_and, Int.reduceToNat, Int.reduceLT, Int.reduceLE, Int.reduceBEq, Int.reduceBNe, Nat.reduceLT, Nat.reduceBEq, Int.reduceEq, Nat.reduceEqDiff, Nat.reduceAdd, Nat.reduceSub, Nat.reduceMul, Nat.reduceLeDiff, reduceCtorEq, ↓reduceIte, eGPair, eGGrant, eGSod, eGSession, eGWord, eGLine, eGFact, eGRoles, c55, nat_of .i64 h59, h61, c63, c73, c83, c93, c103, c113, c140, c142]
             refine onCallD_det (ids' := []) (v := .so 48 1 0 x2.l.length) (δ := [(48, .rw (List.map eS x2.l) 1 1 false false)]) (nx' := 52) (fun hp1 _ => InlOK.mono (cl28_in x2.l q155 h154) fun v2 hp2 nx2 e => e) ?_
             obtain ⟨l9, b159, H160⟩ := bind_inv H153
             obtain ⟨h161, h162⟩ := app_inv b159
             have h161 : t36.length + 1 ≤ 4294967296 := h161
             have h163 : List.map eGSod t36 ++ [[.v (.string x2.a), .v (.int .i64 x2.n_), .sl (List.map eS x2.l)]] = List.map eGSod l9 := app_map eGSod h162
             have h164 : t36.length + 1 = l9.length := app_len h162
             have h165 : l9.length ≤ 4294967296 := by omega
             have q166 : 0 < l9.length := by omega
             try simp -implicitDefEqProofs only [go_sem, Nat.reduceLT, Nat.reduceEqDiff, Nat.reduceAdd, Nat.reduceMul, Nat.reduceLeDiff, reduceCtorEq, ↓reduceIte, h163, h164, h165, accI_ne]
             refine Rd_endF (by (cases t36 <;> rfl)) ?_
             try simp -implicitDefEqProofs only [go_sem, Nat.reduceEqDiff, Nat.reduceAdd, ↓reduceIte]
             rcases t36 with _ | ⟨q0, q1⟩
             ·try simp only [List.map_nil, accI, accN]
              exact ⟨⟨((c, (t30, t31, t32, t33, t34, t35, l9, t37, (IntKind.i64.wrap (t8 + 1)))), (g, g2, g3, g4, g5, g6, 0, g8)), H160⟩, ren_mk [(0, 0), (1, 1), (2, 2), (3, 3), (4, 4), (5, 5), (6, 6), (7, 7), (8, 42), (9, 9)] (by rfl) (ru_ (ru_ (ru_ (ru_ (ru_ (rf_no _)))))) (ro_ (rh_upd (rh_one (by rfl) (renO_bx (renL_cons (ren_acc (by rfl)) (renL_cons (ren_acc (by rfl)) (renL_cons (ren_acc (by rfl)) (renL_cons (ren_acc (by rfl)) (renL_cons (ren_acc (by rfl)) (renL_cons (ren_acc (by rfl)) (renL_cons (by exact ren_accP (by rfl) q166) (renL_cons (ren_acc (by rfl)) (renL_nil _)))))))))) (by rfl)) (ra_ (ra_ (ra_ (ra_ (ra_ (ra_ (rh_upd (by exact rh_accP (by rfl) q166 (by rfl)) (ra_ (rh_no _))))))))))), Nat.lt_succ_self _⟩
             ·try simp only [List.map_cons, accI, accN]
              exact ⟨⟨((c, (t30, t31, t32, t33, t34, t35, l9, t37, (IntKind.i64.wrap (t8 + 1)))), (g, g2, g3, g4, g5, g6, (g7 + 1), g8)), H160⟩, ren_mk [(0, 0), (1, 1), (2, 2), (3, 3), (4, 4), (5, 5), (6, 6), (7, 7), (8, 8), (9, 9)] (by rfl) (ru_ (ru_ (ru_ (ru_ (ru_ (rf_no _)))))) (ro_ (rh_upd (rh_one (by rfl) (renO_bx (renL_cons (ren_acc (by rfl)) (renL_cons (ren_acc (by rfl)) (renL_cons (ren_acc (by rfl)) (renL_cons (ren_acc (by rfl)) (renL_cons (ren_acc (by rfl)) (renL_cons (ren_acc (by rfl)) (renL_cons (by exact ren_accP (by rfl) q166) (renL_cons (ren_acc (by rfl)) (renL_nil _)))))))))) (by rfl)) (ra_ (ra_ (ra_ (ra_ (ra_ (ra_ (rh_upd (by exact rh_accP (by rfl) q166 (by rfl)) (ra_ (rh_no _))))))))))), Nat.lt_succ_self _⟩
           ·try simp -implicitDefEqProofs only [go_sem, Nat.reduceEqDiff, Nat.reduceAdd, ↓reduceIte, c140]
            rcases ite_inv H141 with ⟨c167, H168⟩ | ⟨c167, H168⟩
            ·try simp -implicitDefEqProofs only [go_sem, Nat.reduceEqDiff, Nat.reduceAdd, reduceCtorEq, ↓reduceIte, c167]
             rcases ite_inv H168 with ⟨c169, H170⟩ | ⟨c169, H170⟩
             ·try simp -implicitDefEqProofs only [go_sem, Bool.false_and, Int.reduceToNat, Int.reduceLT, Int.reduceLE, Int.reduceBEq, Int.reduceBNe, Nat.reduceLT, Nat.reduceBEq, Int.reduceEq, Nat.reduceEqDiff, Nat.reduceAdd, Nat.reduceSub, Nat.reduceMul, Nat.reduceLeDiff, reduceCtorEq, ↓reduceIte, eGPair, eGGrant, eGSod, eGSession, eGWord, eGLine, eGFact, eGRoles, c55, nat_of .i64 h59, h61, c63, c73, c83, c93, c103, c113, c140, c167, c169]
              refine onCallD_pure (by rfl) (cl28_0 x2.l c169) (.inr rfl) ?_
              obtain ⟨l10, b171, H172⟩ := bind_inv H170
              obtain ⟨h173, h174⟩ := app_inv b171
              have h173 : t37.length + 1 ≤ 4294967296 := h173
              have h175 : List.map eGSession t37 ++ [[.v (.string x2.a), .v (.string x2.b), .sl []]] = List.map eGSession l10 := app_map eGSession h174
              have h176 : t37.length + 1 = l10.length := app_len h174
              have h177 : l10.length ≤ 4294967296 := by omega
              have q178 : 0 < l10.length := by omega
              try simp -implicitDefEqProofs only [go_sem, Bool.false_and, Nat.reduceLT, Nat.reduceEqDiff, Nat.reduceAdd, Nat.reduceMul, Nat.reduceLeDiff, reduceCtorEq, ↓reduceIte, h175, h176, h177, accI_ne]
              refine Rd_endF (by (cases t37 <;> rfl)) ?_
              try simp -implicitDefEqProofs only [go_sem, Nat.reduceEqDiff, Nat.reduceAdd, ↓reduceIte]
              rcases t37 with _ | ⟨q0, q1⟩
              ·try simp only [List.map_nil, accI, accN]
               exact ⟨⟨((c, (t30, t31, t32, t33, t34, t35, t36, l10, (IntKind.i64.wrap (t8 + 1)))), (g, g2, g3, g4, g5, g6, g7, 0)), H172⟩, ren_mk [(0, 0), (1, 1), (2, 2), (3, 3), (4, 4), (5, 5), (6, 6), (7, 7), (8, 8), (9, 44)] (by rfl) (ru_ (ru_ (ru_ (ru_ (ru_ (rf_no _)))))) (ro_ (rh_upd (rh_one (by rfl) (renO_bx (renL_cons (ren_acc (by rfl)) (renL_cons (ren_acc (by rfl)) (renL_cons (ren_acc (by rfl)) (renL_cons (ren_acc (by rfl)) (renL_cons (ren_acc (by rfl)) (renL_cons (ren_acc (by rfl)) (renL_cons (ren_acc (by rfl)) (renL_cons (by exact ren_accP (by rfl) q178) (renL_nil _)))))))))) (by rfl)) (ra_ (ra_ (ra_ (ra_ (ra_ (ra_ (ra_ (rh_upd (by exact rh_accP (by rfl) q178 (by rfl)) (rh_no _))))))))))), Nat.lt_succ_self _⟩
              ·try simp only [List.map_cons, accI, accN]
               exact ⟨⟨((c, (t30, t31, t32, t33, t34, t35, t36, l10, (IntKind.i64.wrap (t8 + 1)))), (g, g2, g3, g4, g5, g6, g7, (g8 + 1))), H172⟩, ren_mk [(0, 0), (1, 1), (2, 2), (3, 3), (4, 4), (5, 5), (6, 6), (7, 7), (8, 8), (9, 9)] (by rfl) (ru_ (ru_ (ru_ (ru_ (ru_ (rf_no _)))))) (ro_ (rh_upd (rh_one (by rfl) (renO_bx (renL_cons (ren_acc (by rfl)) (renL_cons (ren_acc (by rfl)) (renL_cons (ren_acc (by rfl)) (renL_cons (ren_acc (by rfl)) (renL_cons (ren_acc (by rfl)) (renL_cons (ren_acc (by rfl)) (renL_cons (ren_acc (by rfl)) (renL_cons (by exact ren_accP (by rfl) q178) (renL_nil _)))))))))) (by rfl)) (ra_ (ra_ (ra_ (ra_ (ra_ (ra_ (ra_ (rh_upd (by exact rh_accP (by rfl) q178 (by rfl)) (rh_no _))))))))))), Nat.lt_succ_self _⟩
             ·obtain ⟨g179, H180⟩ := grd_inv H170
              have h181 : x2.l.length ≤ 4294967296 := of_decide_eq_true g179
              have q182 : 0 < x2.l.length := by have := of_decide_eq_false c169; omega
              try simp -implicitDefEqProofs only [go_sem, Bool.false_and, Int.reduceToNat, Int.reduceLT, Int.reduceLE, Int.reduceBEq, Int.reduceBNe, Nat.reduceLT, Nat.reduceBEq, Int.reduceEq, Nat.reduceEqDiff, Nat.reduceAdd, Nat.reduceSub, Nat.reduceMul, Nat.reduceLeDiff, reduceCtorEq, ↓reduceIte, eGPair, eGGrant, eGSod, eGSession, eGWord, eGLine, eGFact, eGRoles, c55, nat_of .i64 h59, h61, c63, c73, c83, c93, c103, c113, c140, c167, c169]
              refine onCallD_det (ids' := []) (v := .so 50 1 0 x2.l.length) (δ := [(50, .rw (List.map eS x2.l) 1 1 false false)]) (nx' := 54) (fun hp1 _ => InlOK.mono (cl28_in x2.l q182 h181) fun v2 hp2 nx2 e => e) ?_
              obtain ⟨l11, b186, H187⟩ := bind_inv H180
              obtain ⟨h188, h189⟩ := app_inv b186
              have h188 : t37.length + 1 ≤ 4294967296 := h188
              have h190 : List.map eGSession t37 ++ [[.v (.string x2.a), .v (.string x2.b), .sl (List.map eS x2.l)]] = List.map eGSession l11 := app_map eGSession h189
              have h191 : t37.length + 1 = l11.length := app_len h189
              have h192 : l11.length ≤ 4294967296 := by omega
              have q193 : 0 < l11.length := by omega
              try simp -implicitDefEqProofs only [go_sem, Nat.reduceLT, Nat.reduceEqDiff, Nat.reduceAdd, Nat.reduceMul, Nat.reduceLeDiff, reduceCtorEq, ↓reduceIte, h190, h191, h192, accI_ne]
              refine Rd_endF (by (cases t37 <;> rfl)) ?_
              try simp -implicitDefEqProofs only [go_sem, Nat.reduceEqDiff, Nat.reduceAdd, ↓reduceIte]
              rcases t37 with _ | ⟨q0, q1⟩
              ·try simp only [List.map_nil, accI, accN]
               exact ⟨⟨((c, (t30, t31, t32, t33, t34, t35, t36, l11, (IntKind.i64.wrap (t8 + 1)))), (g, g2, g3, g4, g5, g6, g7, 0)), H187⟩, ren_mk [(0, 0), (1, 1), (2, 2), (3, 3), (4, 4), (5, 5), (6, 6), (7, 7), (8, 8), (9, 44)] (by rfl) (ru_ (ru_ (ru_ (ru_ (ru_ (rf_no _)))))) (ro_ (rh_upd (rh_one (by rfl) (renO_bx (renL_cons (ren_acc (by rfl)) (renL_cons (ren_acc (by rfl)) (renL_cons (ren_acc (by rfl)) (renL_cons (ren_acc (by rfl)) (renL_cons (ren_acc (by rfl)) (renL_cons (ren_acc (by rfl)) (renL_cons (ren_acc (by rfl)) (renL_cons (by exact ren_accP (by rfl) q193) (renL_nil _)))))))))) (by rfl)) (ra_ (ra_ (ra_ (ra_ (ra_ (ra_ (ra_ (rh_upd (by exact rh_accP (by rfl) q193 (by rfl)) (rh_no _))))))))))), Nat.lt_succ_self _⟩
              ·try simp only [List.map_cons, accI, accN]
               exact ⟨⟨((c, (t30, t31, t32, t33, t34, t35, t36, l11, (IntKind.i64.wrap (t8 + 1)))), (g, g2, g3, g4, g5, g6, g7, (g8 + 1))), H187⟩, ren_mk [(0, 0), (1, 1), (2, 2), (3, 3), (4, 4), (5, 5), (6, 6), (7, 7), (8, 8), (9, 9)] (by rfl) (ru_ (ru_ (ru_ (ru_ (ru_ (rf_no _)))))) (ro_ (rh_upd (rh_one (by rfl) (renO_bx (renL_cons (ren_acc (by rfl)) (renL_cons (ren_acc (by rfl)) (renL_cons (ren_acc (by rfl)) (renL_cons (ren_acc (by rfl)) (renL_cons (ren_acc (by rfl)) (renL_cons (ren_acc (by rfl)) (renL_cons (ren_acc (by rfl)) (renL_cons (by exact ren_accP (by rfl) q193) (renL_nil _)))))))))) (by rfl)) (ra_ (ra_ (ra_ (ra_ (ra_ (ra_ (ra_ (rh_upd (by exact rh_accP (by rfl) q193 (by rfl)) (rh_no _))))))))))), Nat.lt_succ_self _⟩
            ·try simp -implicitDefEqProofs only [go_sem, Nat.reduceEqDiff, Nat.reduceAdd, ↓reduceIte, c167]
             exact ⟨⟨((c, (t30, t31, t32, t33, t34, t35, t36, t37, (IntKind.i64.wrap (t8 + 1)))), (g, g2, g3, g4, g5, g6, g7, g8)), H168⟩, ren_mk [(0, 0), (1, 1), (2, 2), (3, 3), (4, 4), (5, 5), (6, 6), (7, 7), (8, 8), (9, 9)] (by rfl) (ru_ (ru_ (ru_ (ru_ (ru_ (rf_no _)))))) (ro_ (rh_upd (rh_one (by rfl) (renO_bx (renL_cons (ren_acc (by rfl)) (renL_cons (ren_acc (by rfl)) (renL_cons (ren_acc (by rfl)) (renL_cons (ren_acc (by rfl)) (renL_cons (ren_acc (by rfl)) (renL_cons (ren_acc (by rfl)) (renL_cons (ren_acc (by rfl)) (renL_cons (ren_acc (by rfl)) (renL_nil _)))))))))) (by rfl)) (ra_ (ra_ (ra_ (ra_ (ra_ (ra_ (ra_ (ra_ (rh_no _))))))))))), Nat.lt_succ_self _⟩
    ·try simp -implicitDefEqProofs only [go_sem, ↓reduceIte, c55]
     obtain rfl := Option.some.inj H56
     exact ⟨⟨⟨(t30, t31, t32, t33, t34, t35, t36, t37), rfl⟩, (g, g2, g3, g4, g5, g6, g7, g8)⟩, ren_mk [(0, 0), (1, 1), (2, 2), (3, 3), (4, 4), (5, 5), (6, 6), (7, 7), (8, 8), (9, 9)] (by rfl) (ru_ (ru_ (rf_no _))) (ro_ (rh_upd (rh_one (by rfl) (renO_bx (renL_cons (ren_acc (by rfl)) (renL_cons (ren_acc (by rfl)) (renL_cons (ren_acc (by rfl)) (renL_cons (ren_acc (by rfl)) (renL_cons (ren_acc (by rfl)) (renL_cons (ren_acc (by rfl)) (renL_cons (ren_acc (by rfl)) (renL_cons (ren_acc (by rfl)) (renL_nil _)))))))))) (by rfl)) (ra_ (ra_ (ra_ (ra_ (ra_ (ra_ (ra_ (ra_ (rh_no _)))))))))))⟩
 ·rintro ⟨⟨⟨t303, t313, t323, t333, t343, t353, t363, t373⟩, he194⟩, ⟨g17, g18, g19, g20, g21, g22, g23, g24⟩⟩
  replace he194 := he194.symm
  subst he194
  try dsimp only at H2
  refine runR_take tab_ok fol 1 ?_
  try simp -implicitDefEqProofs only [go_sem, Nat.reduceEqDiff, Nat.reduceAdd, reduceCtorEq, ↓reduceIte]
  obtain rfl := Option.some.inj H2
  exact end_pure (by simp -implicitDefEqProofs only [go_sem, Nat.reduceEqDiff, Nat.reduceAdd, ↓reduceIte, Tryz.f12] <;> rfl) (by simp -implicitDefEqProofs only [go_sem, Nat.reduceEqDiff, reduceCtorEq, ↓reduceIte]; rfl) rfl (by intro h; rfl)
end Go.Proofs.YtkkhgdmmbhpckaaGreat.Ab
