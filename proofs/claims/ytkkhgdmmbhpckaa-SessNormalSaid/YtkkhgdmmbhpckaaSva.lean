/-
 Functions, read off the code.
-/
import Derived.Test.YtkkhgdmmbhpckaaScb
namespace Go.Proofs.Ytkkhgdmmbhpckaa.Ab
open Go.RowKit
theorem cl74_0 (xs : List ByteArray) (h : decide (xs.length = 0) = true) : PureOK Try.prog 74 [.sl (List.map eS xs)] (.sl []) true := by
 rw [List.eq_nil_of_length_eq_zero (of_decide_eq_true h)]
 exact clone_nil tab_ok fol Try.func74 (T := 23) (B := 4) rfl (by kernel_rfl) (by kernel_rfl) (by decide) rfl (by simp only [go_sem]) (by simp only [go_sem]) (by simp only [go_sem]; decide) (by simp only [go_sem]; decide)
theorem cl74_in (xs : List ByteArray) (h0 : 0 < xs.length) (hn : xs.length ≤ 4294967296) {b : Bool} {hp : Hp} {nx : Nat} : InlOK Try.prog 74 [.d (.sl (List.map eS xs)) b] hp nx fun v hp2 nx2 => v = .so (nx + 3) 1 0 xs.length ∧ hp2 = upd (nx + 3) (some (.rw (List.map eS xs) 1 1 false false)) hp ∧ nx2 = nx + 7 := by
 have h := clone_map (e := eS) (k := 1) (b := b) (hp := hp) (nx := nx) tab_ok fol Try.func74 (T := 23) (B := 4) rfl (by kernel_rfl) (by kernel_rfl) (by decide) rfl (by simp only [go_sem]) (by simp only [go_sem]) (by simp only [go_sem]) (by decide) (by simp only [go_sem]; decide) (fun _ => rfl) xs h0 hn
 rw [plainR_map (f := eS) (fun _ => rfl), Bool.not_true, Bool.and_false] at h
 exact h
def norm_Of_L1 (n : Nat) (t0 : List GFact) : Nat → (List ByteArray × List ByteArray × List GPair × List GPair × List GGrant × List GSod × List GSod × List GSession × Int) → Option (List ByteArray × List ByteArray × List GPair × List GPair × List GGrant × List GSod × List GSod × List GSession)
 | 0, _ => none
 | c + 1, (t30, t31, t32, t33, t34, t35, t36, t37, t8) =>
  (if (decide (t8 < (t0.length : Int))) then
   (idx t0 t8).bind fun x2 =>
   (if (x2.kind == 1) then
    (app t30 [x2.a]).bind fun l =>
    norm_Of_L1 n t0 c (l, t31, t32, t33, t34, t35, t36, t37, (IntKind.i64.wrap (t8 + 1)))
   else
    (if (x2.kind == 2) then
     (app t31 [x2.a]).bind fun l2 =>
     norm_Of_L1 n t0 c (t30, l2, t32, t33, t34, t35, t36, t37, (IntKind.i64.wrap (t8 + 1)))
    else
     (if (x2.kind == 3) then
      (app t32 [(⟨x2.a, x2.b⟩ : GPair)]).bind fun l3 =>
      norm_Of_L1 n t0 c (t30, t31, l3, t33, t34, t35, t36, t37, (IntKind.i64.wrap (t8 + 1)))
     else
      (if (x2.kind == 4) then
       (app t33 [(⟨x2.a, x2.b⟩ : GPair)]).bind fun l4 =>
       norm_Of_L1 n t0 c (t30, t31, t32, l4, t34, t35, t36, t37, (IntKind.i64.wrap (t8 + 1)))
      else
       (if (x2.kind == 5) then
        (app t34 [(⟨x2.a, x2.b, x2.c⟩ : GGrant)]).bind fun l5 =>
        norm_Of_L1 n t0 c (t30, t31, t32, t33, l5, t35, t36, t37, (IntKind.i64.wrap (t8 + 1)))
       else
        (if (x2.kind == 6) then
         (if (decide (x2.l.length = 0)) then
          (app t35 [(⟨x2.a, x2.n_, []⟩ : GSod)]).bind fun l6 =>
          norm_Of_L1 n t0 c (t30, t31, t32, t33, t34, l6, t36, t37, (IntKind.i64.wrap (t8 + 1)))
         else
          grd (decide (x2.l.length ≤ 4294967296)) <|
          (app t35 [(⟨x2.a, x2.n_, x2.l⟩ : GSod)]).bind fun l7 =>
          norm_Of_L1 n t0 c (t30, t31, t32, t33, t34, l7, t36, t37, (IntKind.i64.wrap (t8 + 1))))
        else
         (if (x2.kind == 7) then
          (if (decide (x2.l.length = 0)) then
           (app t36 [(⟨x2.a, x2.n_, []⟩ : GSod)]).bind fun l8 =>
           norm_Of_L1 n t0 c (t30, t31, t32, t33, t34, t35, l8, t37, (IntKind.i64.wrap (t8 + 1)))
          else
           grd (decide (x2.l.length ≤ 4294967296)) <|
           (app t36 [(⟨x2.a, x2.n_, x2.l⟩ : GSod)]).bind fun l9 =>
           norm_Of_L1 n t0 c (t30, t31, t32, t33, t34, t35, l9, t37, (IntKind.i64.wrap (t8 + 1))))
         else
          (if (x2.kind == 8) then
           (if (decide (x2.l.length = 0)) then
            (app t37 [(⟨x2.a, x2.b, []⟩ : GSession)]).bind fun l10 =>
            norm_Of_L1 n t0 c (t30, t31, t32, t33, t34, t35, t36, l10, (IntKind.i64.wrap (t8 + 1)))
           else
            grd (decide (x2.l.length ≤ 4294967296)) <|
            (app t37 [(⟨x2.a, x2.b, x2.l⟩ : GSession)]).bind fun l11 =>
            norm_Of_L1 n t0 c (t30, t31, t32, t33, t34, t35, t36, l11, (IntKind.i64.wrap (t8 + 1))))
          else
           norm_Of_L1 n t0 c (t30, t31, t32, t33, t34, t35, t36, t37, (IntKind.i64.wrap (t8 + 1)))))))))))
  else
   some (t30, t31, t32, t33, t34, t35, t36, t37))
def norm_Of_L1_f (_ : Nat) (_ : List GFact) (st : List ByteArray × List ByteArray × List GPair × List GPair × List GGrant × List GSod × List GSod × List GSession) (x2 : GFact) (k : (List ByteArray × List ByteArray × List GPair × List GPair × List GGrant × List GSod × List GSod × List GSession) → Option (List ByteArray × List ByteArray × List GPair × List GPair × List GGrant × List GSod × List GSod × List GSession)) : Option (List ByteArray × List ByteArray × List GPair × List GPair × List GGrant × List GSod × List GSod × List GSession) :=
 match st with
 | (t30, t31, t32, t33, t34, t35, t36, t37) =>
  (if (x2.kind == 1) then
   (app t30 [x2.a]).bind fun l =>
   k (l, t31, t32, t33, t34, t35, t36, t37)
  else
   (if (x2.kind == 2) then
    (app t31 [x2.a]).bind fun l2 =>
    k (t30, l2, t32, t33, t34, t35, t36, t37)
   else
    (if (x2.kind == 3) then
     (app t32 [(⟨x2.a, x2.b⟩ : GPair)]).bind fun l3 =>
     k (t30, t31, l3, t33, t34, t35, t36, t37)
    else
     (if (x2.kind == 4) then
      (app t33 [(⟨x2.a, x2.b⟩ : GPair)]).bind fun l4 =>
      k (t30, t31, t32, l4, t34, t35, t36, t37)
     else
      (if (x2.kind == 5) then
       (app t34 [(⟨x2.a, x2.b, x2.c⟩ : GGrant)]).bind fun l5 =>
       k (t30, t31, t32, t33, l5, t35, t36, t37)
      else
       (if (x2.kind == 6) then
        (if (decide (x2.l.length = 0)) then
         (app t35 [(⟨x2.a, x2.n_, []⟩ : GSod)]).bind fun l6 =>
         k (t30, t31, t32, t33, t34, l6, t36, t37)
        else
         grd (decide (x2.l.length ≤ 4294967296)) <|
         (app t35 [(⟨x2.a, x2.n_, x2.l⟩ : GSod)]).bind fun l7 =>
         k (t30, t31, t32, t33, t34, l7, t36, t37))
       else
        (if (x2.kind == 7) then
         (if (decide (x2.l.length = 0)) then
          (app t36 [(⟨x2.a, x2.n_, []⟩ : GSod)]).bind fun l8 =>
          k (t30, t31, t32, t33, t34, t35, l8, t37)
         else
          grd (decide (x2.l.length ≤ 4294967296)) <|
          (app t36 [(⟨x2.a, x2.n_, x2.l⟩ : GSod)]).bind fun l9 =>
          k (t30, t31, t32, t33, t34, t35, l9, t37))
        else
         (if (x2.kind == 8) then
          (if (decide (x2.l.length = 0)) then
           (app t37 [(⟨x2.a, x2.b, []⟩ : GSession)]).bind fun l10 =>
           k (t30, t31, t32, t33, t34, t35, t36, l10)
          else
           grd (decide (x2.l.length ≤ 4294967296)) <|
           (app t37 [(⟨x2.a, x2.b, x2.l⟩ : GSession)]).bind fun l11 =>
           k (t30, t31, t32, t33, t34, t35, t36, l11))
         else
          k (t30, t31, t32, t33, t34, t35, t36, t37)))))))))
def norm_Of_L1_e (_ : Nat) (_ : List GFact) (st : List ByteArray × List ByteArray × List GPair × List GPair × List GGrant × List GSod × List GSod × List GSession) : Option (List ByteArray × List ByteArray × List GPair × List GPair × List GGrant × List GSod × List GSod × List GSession) :=
 match st with
 | (t30, t31, t32, t33, t34, t35, t36, t37) => some (t30, t31, t32, t33, t34, t35, t36, t37)
theorem norm_Of_L1_list (n : Nat) (t0 : List GFact) (hx : t0.length < 4611686018427387904) (c : Nat) (st : List ByteArray × List ByteArray × List GPair × List GPair × List GGrant × List GSod × List GSod × List GSession) (ix : Nat) (hi : ix ≤ t0.length) (hc : t0.length - ix < c) : norm_Of_L1 n t0 c (match st, (ix : Int) with | (t30, t31, t32, t33, t34, t35, t36, t37), ix => (t30, t31, t32, t33, t34, t35, t36, t37, ix)) = foldK (norm_Of_L1_f n t0) (norm_Of_L1_e n t0) (t0.drop ix) st :=
 loop_list (fun c st ix => norm_Of_L1 n t0 c (match st, ix with | (t30, t31, t32, t33, t34, t35, t36, t37), ix => (t30, t31, t32, t33, t34, t35, t36, t37, ix))) t0 (norm_Of_L1_f n t0) (norm_Of_L1_e n t0) (fun _ _ _ => rfl) hx c st ix hi hc
def norm_Of (n : Nat) (t0 : List GFact) : Option GRoles :=
 (
  norm_Of_L1 n t0 n ([], [], [], [], [], [], [], [], 0) : Option (List ByteArray × List ByteArray × List GPair × List GPair × List GGrant × List GSod × List GSod × List GSession)).bind fun (t303, t313, t323, t333, t343, t353, t363, t373) =>
 some (⟨t303, t313, t323, t333, t343, t353, t363, t373⟩ : GRoles)
set_option maxHeartbeats 8000000 in
theorem norm_Of_ok {n : Nat} {t0 : List GFact} {r : GRoles} (H : norm_Of n t0 = some r) : PureOK Try.prog 58 [D.sl (List.map eGFact t0)] (D.ag (eGRoles r)) true := by
 unfold norm_Of at H
 refine ZP tab_ok fol (rs := #[.cell 2 58]) Try.func58 ?_
 refine zsq (ZT 1 ?_)
 refine Z0 ?_
 refine zsq (ZT 1 ?_)
 refine Z0 ?_
 refine zsq (zsq ?_)
 refine ZT 1 ?_
 refine Z0 ?_
 obtain ⟨e_, E1, H2⟩ := zbi H
 refine zjn (α := { y : List ByteArray × List ByteArray × List GPair × List GPair × List GGrant × List GSod × List GSod × List GSession // e_ = y } × Nat × Nat × Nat × Nat × Nat × Nat × Nat × Nat) (fun | ⟨⟨⟨t303, t313, t323, t333, t343, t353, t363, t373⟩, _⟩, ⟨g17, g18, g19, g20, g21, g22, g23, g24⟩⟩ => ⟨upd 2 (.pt 0 0) (upd 3 (.pt 1 0) noFr), upd 0 (some (.bx [.v (.slice none 0 0), .v (.slice none 0 0), .v (.slice none 0 0), .v (.slice none 0 0), .v (.slice none 0 0), .v (.slice none 0 0), .v (.slice none 0 0), .v (.slice none 0 0)])) (upd 1 (some (.bx [accV 2 g17 (List.map eS t303), accV 3 g18 (List.map eS t313), accV 4 g19 (List.map eGPair t323), accV 5 g20 (List.map eGPair t333), accV 6 g21 (List.map eGGrant t343), accV 7 g22 (List.map eGSod t353), accV 8 g23 (List.map eGSod t363), accV 9 g24 (List.map eGSession t373)])) (upd 2 (accO 1 g17 false (List.map eS t303)) (upd 3 (accO 1 g18 false (List.map eS t313)) (upd 4 (accO 2 g19 false (List.map eGPair t323)) (upd 5 (accO 2 g20 false (List.map eGPair t333)) (upd 6 (accO 3 g21 false (List.map eGGrant t343)) (upd 7 (accO 3 g22 false (List.map eGSod t353)) (upd 8 (accO 3 g23 false (List.map eGSod t363)) (upd 9 (accO 3 g24 false (List.map eGSession t373)) noHp))))))))), 10⟩) ?_ ?_
 ·refine zbk ?_
  refine zlp (α := { q : (Nat × (List ByteArray × List ByteArray × List GPair × List GPair × List GGrant × List GSod × List GSod × List GSession × Int)) × Nat × Nat × Nat × Nat × Nat × Nat × Nat × Nat // norm_Of_L1 n t0 q.1.1 q.1.2 = some e_ }) (fun | ⟨⟨⟨c, ⟨t30, t31, t32, t33, t34, t35, t36, t37, t8⟩⟩, ⟨g, g2, g3, g4, g5, g6, g7, g8⟩⟩, _⟩ => ⟨upd 2 (.pt 0 0) (upd 3 (.pt 1 0) (upd 6 (.d (.sl (List.map eGFact t0)) true) (upd 7 (.v (.int .i64 (t0.length : Int))) (upd 8 (.v (.int .i64 t8)) noFr)))), upd 0 (some (.bx [.v (.slice none 0 0), .v (.slice none 0 0), .v (.slice none 0 0), .v (.slice none 0 0), .v (.slice none 0 0), .v (.slice none 0 0), .v (.slice none 0 0), .v (.slice none 0 0)])) (upd 1 (some (.bx [accV 2 g (List.map eS t30), accV 3 g2 (List.map eS t31), accV 4 g3 (List.map eGPair t32), accV 5 g4 (List.map eGPair t33), accV 6 g5 (List.map eGGrant t34), accV 7 g6 (List.map eGSod t35), accV 8 g7 (List.map eGSod t36), accV 9 g8 (List.map eGSession t37)])) (upd 2 (accO 1 g false (List.map eS t30)) (upd 3 (accO 1 g2 false (List.map eS t31)) (upd 4 (accO 2 g3 false (List.map eGPair t32)) (upd 5 (accO 2 g4 false (List.map eGPair t33)) (upd 6 (accO 3 g5 false (List.map eGGrant t34)) (upd 7 (accO 3 g6 false (List.map eGSod t35)) (upd 8 (accO 3 g7 false (List.map eGSod t36)) (upd 9 (accO 3 g8 false (List.map eGSession t37)) noHp))))))))), 10⟩) (fun q => q.1.1.1) ⟨((n, ([], [], [], [], [], [], [], [], 0)), (0, 0, 0, 0, 0, 0, 0, 0)), E1⟩ ?_ ?_
  ·exact ren_mk [(0, 0), (1, 1)] (by rfl) (rf_upd (by rfl) (rf_upd (by rfl) (rf_upd (by rfl) (rf_upd (by rfl) (rf_upd (by rfl) (rf_no _)))))) (rh_upd (rh_one (by rfl) (by rfl) (by rfl)) (rh_upd (rh_one (by rfl) (renO_bx (renL_cons (by rfl) (renL_cons (by rfl) (renL_cons (by rfl) (renL_cons (by rfl) (renL_cons (by rfl) (renL_cons (by rfl) (renL_cons (by rfl) (renL_cons (by rfl) (renL_nil _)))))))))) (by rfl)) (rh_upd rh_accN (rh_upd rh_accN (rh_upd rh_accN (rh_upd rh_accN (rh_upd rh_accN (rh_upd rh_accN (rh_upd rh_accN (rh_upd rh_accN (rh_no _)))))))))))
  ·rintro ⟨⟨⟨c, ⟨t30, t31, t32, t33, t34, t35, t36, t37, t8⟩⟩, ⟨g, g2, g3, g4, g5, g6, g7, g8⟩⟩, L3⟩
   rcases c with _ | c
   ·exact Zx L3
   ·unfold norm_Of_L1 at L3
    try dsimp only at L3
    refine ZT 1 ?_
    refine Z0 ?_
    rcases zit L3 with ⟨c55, H56⟩ | ⟨c55, H56⟩
    ·obtain ⟨x2, b57, H58⟩ := zbi H56
     obtain ⟨h59, h60⟩ := zix b57
     try simp only [Int.reduceToNat, Int.toNat_natCast] at h60
     have h61 := map_at eGFact h60
     refine Z1 (Y3 c55 (zno .i64 h59) h61) ?_
     rcases zit H58 with ⟨c63, H64⟩ | ⟨c63, H64⟩
     ·obtain ⟨l, b65, H66⟩ := zbi H64
      obtain ⟨h67, h68⟩ := app_inv b65
      have h67 : t30.length + 1 ≤ 4294967296 := h67
      have h69 : List.map eS t30 ++ [[.v (.string x2.a)]] = List.map eS l := app_map eS h68
      have h70 : t30.length + 1 = l.length := app_len h68
      have h71 : l.length ≤ 4294967296 := by omega
      have q72 : 0 < l.length := by omega
      refine Z1 (Y2 (Y6 c55 (zno .i64 h59) h61 c63 h67 h69) (Y2 h70 h71)) ?_
      rcases t30 with _ | ⟨q0, q1⟩
      ·try simp only [List.map_nil, accI, accN]
       exact ⟨⟨((c, (l, t31, t32, t33, t34, t35, t36, t37, (IntKind.i64.wrap (t8 + 1)))), (0, g2, g3, g4, g5, g6, g7, g8)), H66⟩, ren_mk [(0, 0), (1, 1), (2, 24), (3, 3), (4, 4), (5, 5), (6, 6), (7, 7), (8, 8), (9, 9)] (by rfl) (rf_upd (by rfl) (rf_upd (by rfl) (rf_upd (by rfl) (rf_upd (by rfl) (rf_upd (by rfl) (rf_no _)))))) (rh_upd (rh_one (by rfl) (by rfl) (by rfl)) (rh_upd (rh_one (by rfl) (renO_bx (renL_cons (by first | exact ren_accP (by rfl) q72 | rfl) (renL_cons (ren_acc (by rfl)) (renL_cons (ren_acc (by rfl)) (renL_cons (ren_acc (by rfl)) (renL_cons (ren_acc (by rfl)) (renL_cons (ren_acc (by rfl)) (renL_cons (ren_acc (by rfl)) (renL_cons (ren_acc (by rfl)) (renL_nil _)))))))))) (by rfl)) (rh_upd (by first | exact rh_accP (by rfl) q72 (by rfl) | exact rh_one (by rfl) (by rfl) (by rfl)) (rh_upd (rh_acc (by rfl) (by rfl)) (rh_upd (rh_acc (by rfl) (by rfl)) (rh_upd (rh_acc (by rfl) (by rfl)) (rh_upd (rh_acc (by rfl) (by rfl)) (rh_upd (rh_acc (by rfl) (by rfl)) (rh_upd (rh_acc (by rfl) (by rfl)) (rh_upd (rh_acc (by rfl) (by rfl)) (rh_no _))))))))))), Nat.lt_succ_self _⟩
      ·try simp only [List.map_cons, accI, accN]
       exact ⟨⟨((c, (l, t31, t32, t33, t34, t35, t36, t37, (IntKind.i64.wrap (t8 + 1)))), ((g + 1), g2, g3, g4, g5, g6, g7, g8)), H66⟩, ren_mk [(0, 0), (1, 1), (2, 2), (3, 3), (4, 4), (5, 5), (6, 6), (7, 7), (8, 8), (9, 9)] (by rfl) (rf_upd (by rfl) (rf_upd (by rfl) (rf_upd (by rfl) (rf_upd (by rfl) (rf_upd (by rfl) (rf_no _)))))) (rh_upd (rh_one (by rfl) (by rfl) (by rfl)) (rh_upd (rh_one (by rfl) (renO_bx (renL_cons (by first | exact ren_accP (by rfl) q72 | rfl) (renL_cons (ren_acc (by rfl)) (renL_cons (ren_acc (by rfl)) (renL_cons (ren_acc (by rfl)) (renL_cons (ren_acc (by rfl)) (renL_cons (ren_acc (by rfl)) (renL_cons (ren_acc (by rfl)) (renL_cons (ren_acc (by rfl)) (renL_nil _)))))))))) (by rfl)) (rh_upd (by first | exact rh_accP (by rfl) q72 (by rfl) | exact rh_one (by rfl) (by rfl) (by rfl)) (rh_upd (rh_acc (by rfl) (by rfl)) (rh_upd (rh_acc (by rfl) (by rfl)) (rh_upd (rh_acc (by rfl) (by rfl)) (rh_upd (rh_acc (by rfl) (by rfl)) (rh_upd (rh_acc (by rfl) (by rfl)) (rh_upd (rh_acc (by rfl) (by rfl)) (rh_upd (rh_acc (by rfl) (by rfl)) (rh_no _))))))))))), Nat.lt_succ_self _⟩
     ·refine Z1 (Y4 c55 (zno .i64 h59) h61 c63) ?_
      rcases zit H64 with ⟨c73, H74⟩ | ⟨c73, H74⟩
      ·obtain ⟨l2, b75, H76⟩ := zbi H74
       obtain ⟨h77, h78⟩ := app_inv b75
       have h77 : t31.length + 1 ≤ 4294967296 := h77
       have h79 : List.map eS t31 ++ [[.v (.string x2.a)]] = List.map eS l2 := app_map eS h78
       have h80 : t31.length + 1 = l2.length := app_len h78
       have h81 : l2.length ≤ 4294967296 := by omega
       have q82 : 0 < l2.length := by omega
       refine Z1 (Y2 (Y6 c55 (zno .i64 h59) h61 c63 c73 h77) (Y3 h79 h80 h81)) ?_
       rcases t31 with _ | ⟨q0, q1⟩
       ·try simp only [List.map_nil, accI, accN]
        exact ⟨⟨((c, (t30, l2, t32, t33, t34, t35, t36, t37, (IntKind.i64.wrap (t8 + 1)))), (g, 0, g3, g4, g5, g6, g7, g8)), H76⟩, ren_mk [(0, 0), (1, 1), (2, 2), (3, 26), (4, 4), (5, 5), (6, 6), (7, 7), (8, 8), (9, 9)] (by rfl) (rf_upd (by rfl) (rf_upd (by rfl) (rf_upd (by rfl) (rf_upd (by rfl) (rf_upd (by rfl) (rf_no _)))))) (rh_upd (rh_one (by rfl) (by rfl) (by rfl)) (rh_upd (rh_one (by rfl) (renO_bx (renL_cons (ren_acc (by rfl)) (renL_cons (by first | exact ren_accP (by rfl) q82 | rfl) (renL_cons (ren_acc (by rfl)) (renL_cons (ren_acc (by rfl)) (renL_cons (ren_acc (by rfl)) (renL_cons (ren_acc (by rfl)) (renL_cons (ren_acc (by rfl)) (renL_cons (ren_acc (by rfl)) (renL_nil _)))))))))) (by rfl)) (rh_upd (rh_acc (by rfl) (by rfl)) (rh_upd (by first | exact rh_accP (by rfl) q82 (by rfl) | exact rh_one (by rfl) (by rfl) (by rfl)) (rh_upd (rh_acc (by rfl) (by rfl)) (rh_upd (rh_acc (by rfl) (by rfl)) (rh_upd (rh_acc (by rfl) (by rfl)) (rh_upd (rh_acc (by rfl) (by rfl)) (rh_upd (rh_acc (by rfl) (by rfl)) (rh_upd (rh_acc (by rfl) (by rfl)) (rh_no _))))))))))), Nat.lt_succ_self _⟩
       ·try simp only [List.map_cons, accI, accN]
        exact ⟨⟨((c, (t30, l2, t32, t33, t34, t35, t36, t37, (IntKind.i64.wrap (t8 + 1)))), (g, (g2 + 1), g3, g4, g5, g6, g7, g8)), H76⟩, ren_mk [(0, 0), (1, 1), (2, 2), (3, 3), (4, 4), (5, 5), (6, 6), (7, 7), (8, 8), (9, 9)] (by rfl) (rf_upd (by rfl) (rf_upd (by rfl) (rf_upd (by rfl) (rf_upd (by rfl) (rf_upd (by rfl) (rf_no _)))))) (rh_upd (rh_one (by rfl) (by rfl) (by rfl)) (rh_upd (rh_one (by rfl) (renO_bx (renL_cons (ren_acc (by rfl)) (renL_cons (by first | exact ren_accP (by rfl) q82 | rfl) (renL_cons (ren_acc (by rfl)) (renL_cons (ren_acc (by rfl)) (renL_cons (ren_acc (by rfl)) (renL_cons (ren_acc (by rfl)) (renL_cons (ren_acc (by rfl)) (renL_cons (ren_acc (by rfl)) (renL_nil _)))))))))) (by rfl)) (rh_upd (rh_acc (by rfl) (by rfl)) (rh_upd (by first | exact rh_accP (by rfl) q82 (by rfl) | exact rh_one (by rfl) (by rfl) (by rfl)) (rh_upd (rh_acc (by rfl) (by rfl)) (rh_upd (rh_acc (by rfl) (by rfl)) (rh_upd (rh_acc (by rfl) (by rfl)) (rh_upd (rh_acc (by rfl) (by rfl)) (rh_upd (rh_acc (by rfl) (by rfl)) (rh_upd (rh_acc (by rfl) (by rfl)) (rh_no _))))))))))), Nat.lt_succ_self _⟩
      ·refine Z1 (Y5 c55 (zno .i64 h59) h61 c63 c73) ?_
       rcases zit H74 with ⟨c83, H84⟩ | ⟨c83, H84⟩
       ·obtain ⟨l3, b85, H86⟩ := zbi H84
        obtain ⟨h87, h88⟩ := app_inv b85
        have h87 : t32.length + 1 ≤ 4294967296 := h87
        have h89 : List.map eGPair t32 ++ [[.v (.string x2.a), .v (.string x2.b)]] = List.map eGPair l3 := app_map eGPair h88
        have h90 : t32.length + 1 = l3.length := app_len h88
        have h91 : l3.length ≤ 4294967296 := by omega
        have q92 : 0 < l3.length := by omega
        refine Z1 (Y2 (Y6 c55 (zno .i64 h59) h61 c63 c73 c83) (Y4 h87 h89 h90 h91)) ?_
        rcases t32 with _ | ⟨q0, q1⟩
        ·try simp only [List.map_nil, accI, accN]
         exact ⟨⟨((c, (t30, t31, l3, t33, t34, t35, t36, t37, (IntKind.i64.wrap (t8 + 1)))), (g, g2, 0, g4, g5, g6, g7, g8)), H86⟩, ren_mk [(0, 0), (1, 1), (2, 2), (3, 3), (4, 31), (5, 5), (6, 6), (7, 7), (8, 8), (9, 9)] (by rfl) (rf_upd (by rfl) (rf_upd (by rfl) (rf_upd (by rfl) (rf_upd (by rfl) (rf_upd (by rfl) (rf_no _)))))) (rh_upd (rh_one (by rfl) (by rfl) (by rfl)) (rh_upd (rh_one (by rfl) (renO_bx (renL_cons (ren_acc (by rfl)) (renL_cons (ren_acc (by rfl)) (renL_cons (by first | exact ren_accP (by rfl) q92 | rfl) (renL_cons (ren_acc (by rfl)) (renL_cons (ren_acc (by rfl)) (renL_cons (ren_acc (by rfl)) (renL_cons (ren_acc (by rfl)) (renL_cons (ren_acc (by rfl)) (renL_nil _)))))))))) (by rfl)) (rh_upd (rh_acc (by rfl) (by rfl)) (rh_upd (rh_acc (by rfl) (by rfl)) (rh_upd (by first | exact rh_accP (by rfl) q92 (by rfl) | exact rh_one (by rfl) (by rfl) (by rfl)) (rh_upd (rh_acc (by rfl) (by rfl)) (rh_upd (rh_acc (by rfl) (by rfl)) (rh_upd (rh_acc (by rfl) (by rfl)) (rh_upd (rh_acc (by rfl) (by rfl)) (rh_upd (rh_acc (by rfl) (by rfl)) (rh_no _))))))))))), Nat.lt_succ_self _⟩
        ·try simp only [List.map_cons, accI, accN]
         exact ⟨⟨((c, (t30, t31, l3, t33, t34, t35, t36, t37, (IntKind.i64.wrap (t8 + 1)))), (g, g2, (g3 + 1), g4, g5, g6, g7, g8)), H86⟩, ren_mk [(0, 0), (1, 1), (2, 2), (3, 3), (4, 4), (5, 5), (6, 6), (7, 7), (8, 8), (9, 9)] (by rfl) (rf_upd (by rfl) (rf_upd (by rfl) (rf_upd (by rfl) (rf_upd (by rfl) (rf_upd (by rfl) (rf_no _)))))) (rh_upd (rh_one (by rfl) (by rfl) (by rfl)) (rh_upd (rh_one (by rfl) (renO_bx (renL_cons (ren_acc (by rfl)) (renL_cons (ren_acc (by rfl)) (renL_cons (by first | exact ren_accP (by rfl) q92 | rfl) (renL_cons (ren_acc (by rfl)) (renL_cons (ren_acc (by rfl)) (renL_cons (ren_acc (by rfl)) (renL_cons (ren_acc (by rfl)) (renL_cons (ren_acc (by rfl)) (renL_nil _)))))))))) (by rfl)) (rh_upd (rh_acc (by rfl) (by rfl)) (rh_upd (rh_acc (by rfl) (by rfl)) (rh_upd (by first | exact rh_accP (by rfl) q92 (by rfl) | exact rh_one (by rfl) (by rfl) (by rfl)) (rh_upd (rh_acc (by rfl) (by rfl)) (rh_upd (rh_acc (by rfl) (by rfl)) (rh_upd (rh_acc (by rfl) (by rfl)) (rh_upd (rh_acc (by rfl) (by rfl)) (rh_upd (rh_acc (by rfl) (by rfl)) (rh_no _))))))))))), Nat.lt_succ_self _⟩
       ·refine Z1 (Y6 c55 (zno .i64 h59) h61 c63 c73 c83) ?_
        rcases zit H84 with ⟨c93, H94⟩ | ⟨c93, H94⟩
        ·obtain ⟨l4, b95, H96⟩ := zbi H94
         obtain ⟨h97, h98⟩ := app_inv b95
         have h97 : t33.length + 1 ≤ 4294967296 := h97
         have h99 : List.map eGPair t33 ++ [[.v (.string x2.a), .v (.string x2.b)]] = List.map eGPair l4 := app_map eGPair h98
         have h100 : t33.length + 1 = l4.length := app_len h98
         have h101 : l4.length ≤ 4294967296 := by omega
         have q102 : 0 < l4.length := by omega
         refine Z1 (Y2 (Y6 c55 (zno .i64 h59) h61 c63 c73 c83) (Y5 c93 h97 h99 h100 h101)) ?_
         rcases t33 with _ | ⟨q0, q1⟩
         ·try simp only [List.map_nil, accI, accN]
          exact ⟨⟨((c, (t30, t31, t32, l4, t34, t35, t36, t37, (IntKind.i64.wrap (t8 + 1)))), (g, g2, g3, 0, g5, g6, g7, g8)), H96⟩, ren_mk [(0, 0), (1, 1), (2, 2), (3, 3), (4, 4), (5, 33), (6, 6), (7, 7), (8, 8), (9, 9)] (by rfl) (rf_upd (by rfl) (rf_upd (by rfl) (rf_upd (by rfl) (rf_upd (by rfl) (rf_upd (by rfl) (rf_no _)))))) (rh_upd (rh_one (by rfl) (by rfl) (by rfl)) (rh_upd (rh_one (by rfl) (renO_bx (renL_cons (ren_acc (by rfl)) (renL_cons (ren_acc (by rfl)) (renL_cons (ren_acc (by rfl)) (renL_cons (by first | exact ren_accP (by rfl) q102 | rfl) (renL_cons (ren_acc (by rfl)) (renL_cons (ren_acc (by rfl)) (renL_cons (ren_acc (by rfl)) (renL_cons (ren_acc (by rfl)) (renL_nil _)))))))))) (by rfl)) (rh_upd (rh_acc (by rfl) (by rfl)) (rh_upd (rh_acc (by rfl) (by rfl)) (rh_upd (rh_acc (by rfl) (by rfl)) (rh_upd (by first | exact rh_accP (by rfl) q102 (by rfl) | exact rh_one (by rfl) (by rfl) (by rfl)) (rh_upd (rh_acc (by rfl) (by rfl)) (rh_upd (rh_acc (by rfl) (by rfl)) (rh_upd (rh_acc (by rfl) (by rfl)) (rh_upd (rh_acc (by rfl) (by rfl)) (rh_no _))))))))))), Nat.lt_succ_self _⟩
         ·try simp only [List.map_cons, accI, accN]
          exact ⟨⟨((c, (t30, t31, t32, l4, t34, t35, t36, t37, (IntKind.i64.wrap (t8 + 1)))), (g, g2, g3, (g4 + 1), g5, g6, g7, g8)), H96⟩, ren_mk [(0, 0), (1, 1), (2, 2), (3, 3), (4, 4), (5, 5), (6, 6), (7, 7), (8, 8), (9, 9)] (by rfl) (rf_upd (by rfl) (rf_upd (by rfl) (rf_upd (by rfl) (rf_upd (by rfl) (rf_upd (by rfl) (rf_no _)))))) (rh_upd (rh_one (by rfl) (by rfl) (by rfl)) (rh_upd (rh_one (by rfl) (renO_bx (renL_cons (ren_acc (by rfl)) (renL_cons (ren_acc (by rfl)) (renL_cons (ren_acc (by rfl)) (renL_cons (by first | exact ren_accP (by rfl) q102 | rfl) (renL_cons (ren_acc (by rfl)) (renL_cons (ren_acc (by rfl)) (renL_cons (ren_acc (by rfl)) (renL_cons (ren_acc (by rfl)) (renL_nil _)))))))))) (by rfl)) (rh_upd (rh_acc (by rfl) (by rfl)) (rh_upd (rh_acc (by rfl) (by rfl)) (rh_upd (rh_acc (by rfl) (by rfl)) (rh_upd (by first | exact rh_accP (by rfl) q102 (by rfl) | exact rh_one (by rfl) (by rfl) (by rfl)) (rh_upd (rh_acc (by rfl) (by rfl)) (rh_upd (rh_acc (by rfl) (by rfl)) (rh_upd (rh_acc (by rfl) (by rfl)) (rh_upd (rh_acc (by rfl) (by rfl)) (rh_no _))))))))))), Nat.lt_succ_self _⟩
        ·refine Z1 (Y2 (Y6 c55 (zno .i64 h59) h61 c63 c73 c83) c93) ?_
         rcases zit H94 with ⟨c103, H104⟩ | ⟨c103, H104⟩
         ·obtain ⟨l5, b105, H106⟩ := zbi H104
          obtain ⟨h107, h108⟩ := app_inv b105
          have h107 : t34.length + 1 ≤ 4294967296 := h107
          have h109 : List.map eGGrant t34 ++ [[.v (.string x2.a), .v (.string x2.b), .v (.string x2.c)]] = List.map eGGrant l5 := app_map eGGrant h108
          have h110 : t34.length + 1 = l5.length := app_len h108
          have h111 : l5.length ≤ 4294967296 := by omega
          have q112 : 0 < l5.length := by omega
          refine Z1 (Y2 (Y6 c55 (zno .i64 h59) h61 c63 c73 c83) (Y6 c93 c103 h107 h109 h110 h111)) ?_
          rcases t34 with _ | ⟨q0, q1⟩
          ·try simp only [List.map_nil, accI, accN]
           exact ⟨⟨((c, (t30, t31, t32, t33, l5, t35, t36, t37, (IntKind.i64.wrap (t8 + 1)))), (g, g2, g3, g4, 0, g6, g7, g8)), H106⟩, ren_mk [(0, 0), (1, 1), (2, 2), (3, 3), (4, 4), (5, 5), (6, 37), (7, 7), (8, 8), (9, 9)] (by rfl) (rf_upd (by rfl) (rf_upd (by rfl) (rf_upd (by rfl) (rf_upd (by rfl) (rf_upd (by rfl) (rf_no _)))))) (rh_upd (rh_one (by rfl) (by rfl) (by rfl)) (rh_upd (rh_one (by rfl) (renO_bx (renL_cons (ren_acc (by rfl)) (renL_cons (ren_acc (by rfl)) (renL_cons (ren_acc (by rfl)) (renL_cons (ren_acc (by rfl)) (renL_cons (by first | exact ren_accP (by rfl) q112 | rfl) (renL_cons (ren_acc (by rfl)) (renL_cons (ren_acc (by rfl)) (renL_cons (ren_acc (by rfl)) (renL_nil _)))))))))) (by rfl)) (rh_upd (rh_acc (by rfl) (by rfl)) (rh_upd (rh_acc (by rfl) (by rfl)) (rh_upd (rh_acc (by rfl) (by rfl)) (rh_upd (rh_acc (by rfl) (by rfl)) (rh_upd (by first | exact rh_accP (by rfl) q112 (by rfl) | exact rh_one (by rfl) (by rfl) (by rfl)) (rh_upd (rh_acc (by rfl) (by rfl)) (rh_upd (rh_acc (by rfl) (by rfl)) (rh_upd (rh_acc (by rfl) (by rfl)) (rh_no _))))))))))), Nat.lt_succ_self _⟩
          ·try simp only [List.map_cons, accI, accN]
           exact ⟨⟨((c, (t30, t31, t32, t33, l5, t35, t36, t37, (IntKind.i64.wrap (t8 + 1)))), (g, g2, g3, g4, (g5 + 1), g6, g7, g8)), H106⟩, ren_mk [(0, 0), (1, 1), (2, 2), (3, 3), (4, 4), (5, 5), (6, 6), (7, 7), (8, 8), (9, 9)] (by rfl) (rf_upd (by rfl) (rf_upd (by rfl) (rf_upd (by rfl) (rf_upd (by rfl) (rf_upd (by rfl) (rf_no _)))))) (rh_upd (rh_one (by rfl) (by rfl) (by rfl)) (rh_upd (rh_one (by rfl) (renO_bx (renL_cons (ren_acc (by rfl)) (renL_cons (ren_acc (by rfl)) (renL_cons (ren_acc (by rfl)) (renL_cons (ren_acc (by rfl)) (renL_cons (by first | exact ren_accP (by rfl) q112 | rfl) (renL_cons (ren_acc (by rfl)) (renL_cons (ren_acc (by rfl)) (renL_cons (ren_acc (by rfl)) (renL_nil _)))))))))) (by rfl)) (rh_upd (rh_acc (by rfl) (by rfl)) (rh_upd (rh_acc (by rfl) (by rfl)) (rh_upd (rh_acc (by rfl) (by rfl)) (rh_upd (rh_acc (by rfl) (by rfl)) (rh_upd (by first | exact rh_accP (by rfl) q112 (by rfl) | exact rh_one (by rfl) (by rfl) (by rfl)) (rh_upd (rh_acc (by rfl) (by rfl)) (rh_upd (rh_acc (by rfl) (by rfl)) (rh_upd (rh_acc (by rfl) (by rfl)) (rh_no _))))))))))), Nat.lt_succ_self _⟩
         ·refine Z1 (Y2 (Y6 c55 (zno .i64 h59) h61 c63 c73 c83) (Y2 c93 c103)) ?_
          rcases zit H104 with ⟨c113, H114⟩ | ⟨c113, H114⟩
          ·refine Z1 (Y2 (Y6 c55 (zno .i64 h59) h61 c63 c73 c83) (Y3 c93 c103 c113)) ?_
           rcases zit H114 with ⟨c115, H116⟩ | ⟨c115, H116⟩
           ·refine Z1 (Y2 (Y6 c55 (zno .i64 h59) h61 c63 c73 c83) (Y4 c93 c103 c113 c115)) ?_
            refine ZD0 (cl74_0 x2.l c115) ?_
            obtain ⟨l6, b117, H118⟩ := zbi H116
            obtain ⟨h119, h120⟩ := app_inv b117
            have h119 : t35.length + 1 ≤ 4294967296 := h119
            have h121 : List.map eGSod t35 ++ [[.v (.string x2.a), .v (.int .i64 x2.n_), .sl []]] = List.map eGSod l6 := app_map eGSod h120
            have h122 : t35.length + 1 = l6.length := app_len h120
            have h123 : l6.length ≤ 4294967296 := by omega
            have q124 : 0 < l6.length := by omega
            refine Z1 (Y3 (Y6 c55 (zno .i64 h59) h61 c63 c73 c83) (Y6 c93 c103 c113 c115 h119 h121) (Y2 h122 h123)) ?_
            refine Rd_endF (by (cases t35 <;> rfl)) ?_
            refine Z1 (Y3 (Y6 c55 (zno .i64 h59) h61 c63 c73 c83) (Y6 c93 c103 c113 c115 h119 h121) (Y2 h122 h123)) ?_
            rcases t35 with _ | ⟨q0, q1⟩
            ·try simp only [List.map_nil, accI, accN]
             exact ⟨⟨((c, (t30, t31, t32, t33, t34, l6, t36, t37, (IntKind.i64.wrap (t8 + 1)))), (g, g2, g3, g4, g5, 0, g7, g8)), H118⟩, ren_mk [(0, 0), (1, 1), (2, 2), (3, 3), (4, 4), (5, 5), (6, 6), (7, 40), (8, 8), (9, 9)] (by rfl) (rf_upd (by rfl) (rf_upd (by rfl) (rf_upd (by rfl) (rf_upd (by rfl) (rf_upd (by rfl) (rf_no _)))))) (rh_upd (rh_one (by rfl) (by rfl) (by rfl)) (rh_upd (rh_one (by rfl) (renO_bx (renL_cons (ren_acc (by rfl)) (renL_cons (ren_acc (by rfl)) (renL_cons (ren_acc (by rfl)) (renL_cons (ren_acc (by rfl)) (renL_cons (ren_acc (by rfl)) (renL_cons (by first | exact ren_accP (by rfl) q124 | rfl) (renL_cons (ren_acc (by rfl)) (renL_cons (ren_acc (by rfl)) (renL_nil _)))))))))) (by rfl)) (rh_upd (rh_acc (by rfl) (by rfl)) (rh_upd (rh_acc (by rfl) (by rfl)) (rh_upd (rh_acc (by rfl) (by rfl)) (rh_upd (rh_acc (by rfl) (by rfl)) (rh_upd (rh_acc (by rfl) (by rfl)) (rh_upd (by first | exact rh_accP (by rfl) q124 (by rfl) | exact rh_one (by rfl) (by rfl) (by rfl)) (rh_upd (rh_acc (by rfl) (by rfl)) (rh_upd (rh_acc (by rfl) (by rfl)) (rh_no _))))))))))), Nat.lt_succ_self _⟩
            ·try simp only [List.map_cons, accI, accN]
             exact ⟨⟨((c, (t30, t31, t32, t33, t34, l6, t36, t37, (IntKind.i64.wrap (t8 + 1)))), (g, g2, g3, g4, g5, (g6 + 1), g7, g8)), H118⟩, ren_mk [(0, 0), (1, 1), (2, 2), (3, 3), (4, 4), (5, 5), (6, 6), (7, 7), (8, 8), (9, 9)] (by rfl) (rf_upd (by rfl) (rf_upd (by rfl) (rf_upd (by rfl) (rf_upd (by rfl) (rf_upd (by rfl) (rf_no _)))))) (rh_upd (rh_one (by rfl) (by rfl) (by rfl)) (rh_upd (rh_one (by rfl) (renO_bx (renL_cons (ren_acc (by rfl)) (renL_cons (ren_acc (by rfl)) (renL_cons (ren_acc (by rfl)) (renL_cons (ren_acc (by rfl)) (renL_cons (ren_acc (by rfl)) (renL_cons (by first | exact ren_accP (by rfl) q124 | rfl) (renL_cons (ren_acc (by rfl)) (renL_cons (ren_acc (by rfl)) (renL_nil _)))))))))) (by rfl)) (rh_upd (rh_acc (by rfl) (by rfl)) (rh_upd (rh_acc (by rfl) (by rfl)) (rh_upd (rh_acc (by rfl) (by rfl)) (rh_upd (rh_acc (by rfl) (by rfl)) (rh_upd (rh_acc (by rfl) (by rfl)) (rh_upd (by first | exact rh_accP (by rfl) q124 (by rfl) | exact rh_one (by rfl) (by rfl) (by rfl)) (rh_upd (rh_acc (by rfl) (by rfl)) (rh_upd (rh_acc (by rfl) (by rfl)) (rh_no _))))))))))), Nat.lt_succ_self _⟩
           ·obtain ⟨g125, H126⟩ := grd_inv H116
            have h127 : x2.l.length ≤ 4294967296 := of_decide_eq_true g125
            have q128 : 0 < x2.l.length := by have := of_decide_eq_false c115; omega
            refine Z1 (Y2 (Y6 c55 (zno .i64 h59) h61 c63 c73 c83) (Y4 c93 c103 c113 c115)) ?_
            refine onCallD_det (ids' := []) (v := .so 46 1 0 x2.l.length) (δ := [(46, .rw (List.map eS x2.l) 1 1 false false)]) (nx' := 50) (fun hp1 _ => InlOK.mono (cl74_in x2.l q128 h127) fun v2 hp2 nx2 e => e) ?_
            obtain ⟨l7, b132, H133⟩ := zbi H126
            obtain ⟨h134, h135⟩ := app_inv b132
            have h134 : t35.length + 1 ≤ 4294967296 := h134
            have h136 : List.map eGSod t35 ++ [[.v (.string x2.a), .v (.int .i64 x2.n_), .sl (List.map eS x2.l)]] = List.map eGSod l7 := app_map eGSod h135
            have h137 : t35.length + 1 = l7.length := app_len h135
            have h138 : l7.length ≤ 4294967296 := by omega
            have q139 : 0 < l7.length := by omega
            refine Z1 (Y3 (Y6 c55 (zno .i64 h59) h61 c63 c73 c83) (Y6 c93 c103 c113 c115 h127 h134) (Y3 h136 h137 h138)) ?_
            refine Rd_endF (by (cases t35 <;> rfl)) ?_
            refine Z1 (Y3 (Y6 c55 (zno .i64 h59) h61 c63 c73 c83) (Y6 c93 c103 c113 c115 h127 h134) (Y3 h136 h137 h138)) ?_
            rcases t35 with _ | ⟨q0, q1⟩
            ·try simp only [List.map_nil, accI, accN]
             exact ⟨⟨((c, (t30, t31, t32, t33, t34, l7, t36, t37, (IntKind.i64.wrap (t8 + 1)))), (g, g2, g3, g4, g5, 0, g7, g8)), H133⟩, ren_mk [(0, 0), (1, 1), (2, 2), (3, 3), (4, 4), (5, 5), (6, 6), (7, 40), (8, 8), (9, 9)] (by rfl) (rf_upd (by rfl) (rf_upd (by rfl) (rf_upd (by rfl) (rf_upd (by rfl) (rf_upd (by rfl) (rf_no _)))))) (rh_upd (rh_one (by rfl) (by rfl) (by rfl)) (rh_upd (rh_one (by rfl) (renO_bx (renL_cons (ren_acc (by rfl)) (renL_cons (ren_acc (by rfl)) (renL_cons (ren_acc (by rfl)) (renL_cons (ren_acc (by rfl)) (renL_cons (ren_acc (by rfl)) (renL_cons (by first | exact ren_accP (by rfl) q139 | rfl) (renL_cons (ren_acc (by rfl)) (renL_cons (ren_acc (by rfl)) (renL_nil _)))))))))) (by rfl)) (rh_upd (rh_acc (by rfl) (by rfl)) (rh_upd (rh_acc (by rfl) (by rfl)) (rh_upd (rh_acc (by rfl) (by rfl)) (rh_upd (rh_acc (by rfl) (by rfl)) (rh_upd (rh_acc (by rfl) (by rfl)) (rh_upd (by first | exact rh_accP (by rfl) q139 (by rfl) | exact rh_one (by rfl) (by rfl) (by rfl)) (rh_upd (rh_acc (by rfl) (by rfl)) (rh_upd (rh_acc (by rfl) (by rfl)) (rh_no _))))))))))), Nat.lt_succ_self _⟩
            ·try simp only [List.map_cons, accI, accN]
             exact ⟨⟨((c, (t30, t31, t32, t33, t34, l7, t36, t37, (IntKind.i64.wrap (t8 + 1)))), (g, g2, g3, g4, g5, (g6 + 1), g7, g8)), H133⟩, ren_mk [(0, 0), (1, 1), (2, 2), (3, 3), (4, 4), (5, 5), (6, 6), (7, 7), (8, 8), (9, 9)] (by rfl) (rf_upd (by rfl) (rf_upd (by rfl) (rf_upd (by rfl) (rf_upd (by rfl) (rf_upd (by rfl) (rf_no _)))))) (rh_upd (rh_one (by rfl) (by rfl) (by rfl)) (rh_upd (rh_one (by rfl) (renO_bx (renL_cons (ren_acc (by rfl)) (renL_cons (ren_acc (by rfl)) (renL_cons (ren_acc (by rfl)) (renL_cons (ren_acc (by rfl)) (renL_cons (ren_acc (by rfl)) (renL_cons (by first | exact ren_accP (by rfl) q139 | rfl) (renL_cons (ren_acc (by rfl)) (renL_cons (ren_acc (by rfl)) (renL_nil _)))))))))) (by rfl)) (rh_upd (rh_acc (by rfl) (by rfl)) (rh_upd (rh_acc (by rfl) (by rfl)) (rh_upd (rh_acc (by rfl) (by rfl)) (rh_upd (rh_acc (by rfl) (by rfl)) (rh_upd (rh_acc (by rfl) (by rfl)) (rh_upd (by first | exact rh_accP (by rfl) q139 (by rfl) | exact rh_one (by rfl) (by rfl) (by rfl)) (rh_upd (rh_acc (by rfl) (by rfl)) (rh_upd (rh_acc (by rfl) (by rfl)) (rh_no _))))))))))), Nat.lt_succ_self _⟩
          ·refine Z1 (Y2 (Y6 c55 (zno .i64 h59) h61 c63 c73 c83) (Y3 c93 c103 c113)) ?_
           rcases zit H114 with ⟨c140, H141⟩ | ⟨c140, H141⟩
           ·refine Z1 (Y2 (Y6 c55 (zno .i64 h59) h61 c63 c73 c83) (Y4 c93 c103 c113 c140)) ?_
            rcases zit H141 with ⟨c142, H143⟩ | ⟨c142, H143⟩
            ·refine Z1 (Y2 (Y6 c55 (zno .i64 h59) h61 c63 c73 c83) (Y5 c93 c103 c113 c140 c142)) ?_
             refine ZD0 (cl74_0 x2.l c142) ?_
             obtain ⟨l8, b144, H145⟩ := zbi H143
             obtain ⟨h146, h147⟩ := app_inv b144
             have h146 : t36.length + 1 ≤ 4294967296 := h146
             have h148 : List.map eGSod t36 ++ [[.v (.string x2.a), .v (.int .i64 x2.n_), .sl []]] = List.map eGSod l8 := app_map eGSod h147
             have h149 : t36.length + 1 = l8.length := app_len h147
             have h150 : l8.length ≤ 4294967296 := by omega
             have q151 : 0 < l8.length := by omega
             refine Z1 (Y3 (Y6 c55 (zno .i64 h59) h61 c63 c73 c83) (Y6 c93 c103 c113 c140 c142 h146) (Y3 h148 h149 h150)) ?_
             refine Rd_endF (by (cases t36 <;> rfl)) ?_
             refine Z1 (Y3 (Y6 c55 (zno .i64 h59) h61 c63 c73 c83) (Y6 c93 c103 c113 c140 c142 h146) (Y3 h148 h149 h150)) ?_
             rcases t36 with _ | ⟨q0, q1⟩
             ·try simp only [List.map_nil, accI, accN]
              exact ⟨⟨((c, (t30, t31, t32, t33, t34, t35, l8, t37, (IntKind.i64.wrap (t8 + 1)))), (g, g2, g3, g4, g5, g6, 0, g8)), H145⟩, ren_mk [(0, 0), (1, 1), (2, 2), (3, 3), (4, 4), (5, 5), (6, 6), (7, 7), (8, 42), (9, 9)] (by rfl) (rf_upd (by rfl) (rf_upd (by rfl) (rf_upd (by rfl) (rf_upd (by rfl) (rf_upd (by rfl) (rf_no _)))))) (rh_upd (rh_one (by rfl) (by rfl) (by rfl)) (rh_upd (rh_one (by rfl) (renO_bx (renL_cons (ren_acc (by rfl)) (renL_cons (ren_acc (by rfl)) (renL_cons (ren_acc (by rfl)) (renL_cons (ren_acc (by rfl)) (renL_cons (ren_acc (by rfl)) (renL_cons (ren_acc (by rfl)) (renL_cons (by first | exact ren_accP (by rfl) q151 | rfl) (renL_cons (ren_acc (by rfl)) (renL_nil _)))))))))) (by rfl)) (rh_upd (rh_acc (by rfl) (by rfl)) (rh_upd (rh_acc (by rfl) (by rfl)) (rh_upd (rh_acc (by rfl) (by rfl)) (rh_upd (rh_acc (by rfl) (by rfl)) (rh_upd (rh_acc (by rfl) (by rfl)) (rh_upd (rh_acc (by rfl) (by rfl)) (rh_upd (by first | exact rh_accP (by rfl) q151 (by rfl) | exact rh_one (by rfl) (by rfl) (by rfl)) (rh_upd (rh_acc (by rfl) (by rfl)) (rh_no _))))))))))), Nat.lt_succ_self _⟩
             ·try simp only [List.map_cons, accI, accN]
              exact ⟨⟨((c, (t30, t31, t32, t33, t34, t35, l8, t37, (IntKind.i64.wrap (t8 + 1)))), (g, g2, g3, g4, g5, g6, (g7 + 1), g8)), H145⟩, ren_mk [(0, 0), (1, 1), (2, 2), (3, 3), (4, 4), (5, 5), (6, 6), (7, 7), (8, 8), (9, 9)] (by rfl) (rf_upd (by rfl) (rf_upd (by rfl) (rf_upd (by rfl) (rf_upd (by rfl) (rf_upd (by rfl) (rf_no _)))))) (rh_upd (rh_one (by rfl) (by rfl) (by rfl)) (rh_upd (rh_one (by rfl) (renO_bx (renL_cons (ren_acc (by rfl)) (renL_cons (ren_acc (by rfl)) (renL_cons (ren_acc (by rfl)) (renL_cons (ren_acc (by rfl)) (renL_cons (ren_acc (by rfl)) (renL_cons (ren_acc (by rfl)) (renL_cons (by first | exact ren_accP (by rfl) q151 | rfl) (renL_cons (ren_acc (by rfl)) (renL_nil _)))))))))) (by rfl)) (rh_upd (rh_acc (by rfl) (by rfl)) (rh_upd (rh_acc (by rfl) (by rfl)) (rh_upd (rh_acc (by rfl) (by rfl)) (rh_upd (rh_acc (by rfl) (by rfl)) (rh_upd (rh_acc (by rfl) (by rfl)) (rh_upd (rh_acc (by rfl) (by rfl)) (rh_upd (by first | exact rh_accP (by rfl) q151 (by rfl) | exact rh_one (by rfl) (by rfl) (by rfl)) (rh_upd (rh_acc (by rfl) (by rfl)) (rh_no _))))))))))), Nat.lt_succ_self _⟩
            ·obtain ⟨g152, H153⟩ := grd_inv H143
             have h154 : x2.l.length ≤ 4294967296 := of_decide_eq_true g152
             have q155 : 0 < x2.l.length := by have := of_decide_eq_false c142; omega
             refine Z1 (Y2 (Y6 c55 (zno .i64 h59) h61 c63 c73 c83) (Y5 c93 c103 c113 c140 c142)) ?_
             refine onCallD_det (ids' := []) (v := .so 48 1 0 x2.l.length) (δ := [(48, .rw (List.map eS x2.l) 1 1 false false)]) (nx' := 52) (fun hp1 _ => InlOK.mono (cl74_in x2.l q155 h154) fun v2 hp2 nx2 e => e) ?_
             obtain ⟨l9, b159, H160⟩ := zbi H153
             obtain ⟨h161, h162⟩ := app_inv b159
             have h161 : t36.length + 1 ≤ 4294967296 := h161
             have h163 : List.map eGSod t36 ++ [[.v (.string x2.a), .v (.int .i64 x2.n_), .sl (List.map eS x2.l)]] = List.map eGSod l9 := app_map eGSod h162
             have h164 : t36.length + 1 = l9.length := app_len h162
             have h165 : l9.length ≤ 4294967296 := by omega
             have q166 : 0 < l9.length := by omega
             refine Z1 (Y3 (Y6 c55 (zno .i64 h59) h61 c63 c73 c83) (Y6 c93 c103 c113 c140 c142 h154) (Y4 h161 h163 h164 h165)) ?_
             refine Rd_endF (by (cases t36 <;> rfl)) ?_
             refine Z1 (Y3 (Y6 c55 (zno .i64 h59) h61 c63 c73 c83) (Y6 c93 c103 c113 c140 c142 h154) (Y4 h161 h163 h164 h165)) ?_
             rcases t36 with _ | ⟨q0, q1⟩
             ·try simp only [List.map_nil, accI, accN]
              exact ⟨⟨((c, (t30, t31, t32, t33, t34, t35, l9, t37, (IntKind.i64.wrap (t8 + 1)))), (g, g2, g3, g4, g5, g6, 0, g8)), H160⟩, ren_mk [(0, 0), (1, 1), (2, 2), (3, 3), (4, 4), (5, 5), (6, 6), (7, 7), (8, 42), (9, 9)] (by rfl) (rf_upd (by rfl) (rf_upd (by rfl) (rf_upd (by rfl) (rf_upd (by rfl) (rf_upd (by rfl) (rf_no _)))))) (rh_upd (rh_one (by rfl) (by rfl) (by rfl)) (rh_upd (rh_one (by rfl) (renO_bx (renL_cons (ren_acc (by rfl)) (renL_cons (ren_acc (by rfl)) (renL_cons (ren_acc (by rfl)) (renL_cons (ren_acc (by rfl)) (renL_cons (ren_acc (by rfl)) (renL_cons (ren_acc (by rfl)) (renL_cons (by first | exact ren_accP (by rfl) q166 | rfl) (renL_cons (ren_acc (by rfl)) (renL_nil _)))))))))) (by rfl)) (rh_upd (rh_acc (by rfl) (by rfl)) (rh_upd (rh_acc (by rfl) (by rfl)) (rh_upd (rh_acc (by rfl) (by rfl)) (rh_upd (rh_acc (by rfl) (by rfl)) (rh_upd (rh_acc (by rfl) (by rfl)) (rh_upd (rh_acc (by rfl) (by rfl)) (rh_upd (by first | exact rh_accP (by rfl) q166 (by rfl) | exact rh_one (by rfl) (by rfl) (by rfl)) (rh_upd (rh_acc (by rfl) (by rfl)) (rh_no _))))))))))), Nat.lt_succ_self _⟩
             ·try simp only [List.map_cons, accI, accN]
              exact ⟨⟨((c, (t30, t31, t32, t33, t34, t35, l9, t37, (IntKind.i64.wrap (t8 + 1)))), (g, g2, g3, g4, g5, g6, (g7 + 1), g8)), H160⟩, ren_mk [(0, 0), (1, 1), (2, 2), (3, 3), (4, 4), (5, 5), (6, 6), (7, 7), (8, 8), (9, 9)] (by rfl) (rf_upd (by rfl) (rf_upd (by rfl) (rf_upd (by rfl) (rf_upd (by rfl) (rf_upd (by rfl) (rf_no _)))))) (rh_upd (rh_one (by rfl) (by rfl) (by rfl)) (rh_upd (rh_one (by rfl) (renO_bx (renL_cons (ren_acc (by rfl)) (renL_cons (ren_acc (by rfl)) (renL_cons (ren_acc (by rfl)) (renL_cons (ren_acc (by rfl)) (renL_cons (ren_acc (by rfl)) (renL_cons (ren_acc (by rfl)) (renL_cons (by first | exact ren_accP (by rfl) q166 | rfl) (renL_cons (ren_acc (by rfl)) (renL_nil _)))))))))) (by rfl)) (rh_upd (rh_acc (by rfl) (by rfl)) (rh_upd (rh_acc (by rfl) (by rfl)) (rh_upd (rh_acc (by rfl) (by rfl)) (rh_upd (rh_acc (by rfl) (by rfl)) (rh_upd (rh_acc (by rfl) (by rfl)) (rh_upd (rh_acc (by rfl) (by rfl)) (rh_upd (by first | exact rh_accP (by rfl) q166 (by rfl) | exact rh_one (by rfl) (by rfl) (by rfl)) (rh_upd (rh_acc (by rfl) (by rfl)) (rh_no _))))))))))), Nat.lt_succ_self _⟩
           ·refine Z1 (Y2 (Y6 c55 (zno .i64 h59) h61 c63 c73 c83) (Y4 c93 c103 c113 c140)) ?_
            rcases zit H141 with ⟨c167, H168⟩ | ⟨c167, H168⟩
            ·refine Z1 (Y2 (Y6 c55 (zno .i64 h59) h61 c63 c73 c83) (Y5 c93 c103 c113 c140 c167)) ?_
             rcases zit H168 with ⟨c169, H170⟩ | ⟨c169, H170⟩
             ·refine Z1 (Y2 (Y6 c55 (zno .i64 h59) h61 c63 c73 c83) (Y6 c93 c103 c113 c140 c167 c169)) ?_
              refine ZD0 (cl74_0 x2.l c169) ?_
              obtain ⟨l10, b171, H172⟩ := zbi H170
              obtain ⟨h173, h174⟩ := app_inv b171
              have h173 : t37.length + 1 ≤ 4294967296 := h173
              have h175 : List.map eGSession t37 ++ [[.v (.string x2.a), .v (.string x2.b), .sl []]] = List.map eGSession l10 := app_map eGSession h174
              have h176 : t37.length + 1 = l10.length := app_len h174
              have h177 : l10.length ≤ 4294967296 := by omega
              have q178 : 0 < l10.length := by omega
              refine Z1 (Y3 (Y6 c55 (zno .i64 h59) h61 c63 c73 c83) (Y6 c93 c103 c113 c140 c167 c169) (Y4 h173 h175 h176 h177)) ?_
              refine Rd_endF (by (cases t37 <;> rfl)) ?_
              refine Z1 (Y3 (Y6 c55 (zno .i64 h59) h61 c63 c73 c83) (Y6 c93 c103 c113 c140 c167 c169) (Y4 h173 h175 h176 h177)) ?_
              rcases t37 with _ | ⟨q0, q1⟩
              ·try simp only [List.map_nil, accI, accN]
               exact ⟨⟨((c, (t30, t31, t32, t33, t34, t35, t36, l10, (IntKind.i64.wrap (t8 + 1)))), (g, g2, g3, g4, g5, g6, g7, 0)), H172⟩, ren_mk [(0, 0), (1, 1), (2, 2), (3, 3), (4, 4), (5, 5), (6, 6), (7, 7), (8, 8), (9, 44)] (by rfl) (rf_upd (by rfl) (rf_upd (by rfl) (rf_upd (by rfl) (rf_upd (by rfl) (rf_upd (by rfl) (rf_no _)))))) (rh_upd (rh_one (by rfl) (by rfl) (by rfl)) (rh_upd (rh_one (by rfl) (renO_bx (renL_cons (ren_acc (by rfl)) (renL_cons (ren_acc (by rfl)) (renL_cons (ren_acc (by rfl)) (renL_cons (ren_acc (by rfl)) (renL_cons (ren_acc (by rfl)) (renL_cons (ren_acc (by rfl)) (renL_cons (ren_acc (by rfl)) (renL_cons (by first | exact ren_accP (by rfl) q178 | rfl) (renL_nil _)))))))))) (by rfl)) (rh_upd (rh_acc (by rfl) (by rfl)) (rh_upd (rh_acc (by rfl) (by rfl)) (rh_upd (rh_acc (by rfl) (by rfl)) (rh_upd (rh_acc (by rfl) (by rfl)) (rh_upd (rh_acc (by rfl) (by rfl)) (rh_upd (rh_acc (by rfl) (by rfl)) (rh_upd (rh_acc (by rfl) (by rfl)) (rh_upd (by first | exact rh_accP (by rfl) q178 (by rfl) | exact rh_one (by rfl) (by rfl) (by rfl)) (rh_no _))))))))))), Nat.lt_succ_self _⟩
              ·try simp only [List.map_cons, accI, accN]
               exact ⟨⟨((c, (t30, t31, t32, t33, t34, t35, t36, l10, (IntKind.i64.wrap (t8 + 1)))), (g, g2, g3, g4, g5, g6, g7, (g8 + 1))), H172⟩, ren_mk [(0, 0), (1, 1), (2, 2), (3, 3), (4, 4), (5, 5), (6, 6), (7, 7), (8, 8), (9, 9)] (by rfl) (rf_upd (by rfl) (rf_upd (by rfl) (rf_upd (by rfl) (rf_upd (by rfl) (rf_upd (by rfl) (rf_no _)))))) (rh_upd (rh_one (by rfl) (by rfl) (by rfl)) (rh_upd (rh_one (by rfl) (renO_bx (renL_cons (ren_acc (by rfl)) (renL_cons (ren_acc (by rfl)) (renL_cons (ren_acc (by rfl)) (renL_cons (ren_acc (by rfl)) (renL_cons (ren_acc (by rfl)) (renL_cons (ren_acc (by rfl)) (renL_cons (ren_acc (by rfl)) (renL_cons (by first | exact ren_accP (by rfl) q178 | rfl) (renL_nil _)))))))))) (by rfl)) (rh_upd (rh_acc (by rfl) (by rfl)) (rh_upd (rh_acc (by rfl) (by rfl)) (rh_upd (rh_acc (by rfl) (by rfl)) (rh_upd (rh_acc (by rfl) (by rfl)) (rh_upd (rh_acc (by rfl) (by rfl)) (rh_upd (rh_acc (by rfl) (by rfl)) (rh_upd (rh_acc (by rfl) (by rfl)) (rh_upd (by first | exact rh_accP (by rfl) q178 (by rfl) | exact rh_one (by rfl) (by rfl) (by rfl)) (rh_no _))))))))))), Nat.lt_succ_self _⟩
             ·obtain ⟨g179, H180⟩ := grd_inv H170
              have h181 : x2.l.length ≤ 4294967296 := of_decide_eq_true g179
              have q182 : 0 < x2.l.length := by have := of_decide_eq_false c169; omega
              refine Z1 (Y2 (Y6 c55 (zno .i64 h59) h61 c63 c73 c83) (Y6 c93 c103 c113 c140 c167 c169)) ?_
              refine onCallD_det (ids' := []) (v := .so 50 1 0 x2.l.length) (δ := [(50, .rw (List.map eS x2.l) 1 1 false false)]) (nx' := 54) (fun hp1 _ => InlOK.mono (cl74_in x2.l q182 h181) fun v2 hp2 nx2 e => e) ?_
              obtain ⟨l11, b186, H187⟩ := zbi H180
              obtain ⟨h188, h189⟩ := app_inv b186
              have h188 : t37.length + 1 ≤ 4294967296 := h188
              have h190 : List.map eGSession t37 ++ [[.v (.string x2.a), .v (.string x2.b), .sl (List.map eS x2.l)]] = List.map eGSession l11 := app_map eGSession h189
              have h191 : t37.length + 1 = l11.length := app_len h189
              have h192 : l11.length ≤ 4294967296 := by omega
              have q193 : 0 < l11.length := by omega
              refine Z1 (Y3 (Y6 c55 (zno .i64 h59) h61 c63 c73 c83) (Y6 c93 c103 c113 c140 c167 c169) (Y5 h181 h188 h190 h191 h192)) ?_
              refine Rd_endF (by (cases t37 <;> rfl)) ?_
              refine Z1 (Y3 (Y6 c55 (zno .i64 h59) h61 c63 c73 c83) (Y6 c93 c103 c113 c140 c167 c169) (Y5 h181 h188 h190 h191 h192)) ?_
              rcases t37 with _ | ⟨q0, q1⟩
              ·try simp only [List.map_nil, accI, accN]
               exact ⟨⟨((c, (t30, t31, t32, t33, t34, t35, t36, l11, (IntKind.i64.wrap (t8 + 1)))), (g, g2, g3, g4, g5, g6, g7, 0)), H187⟩, ren_mk [(0, 0), (1, 1), (2, 2), (3, 3), (4, 4), (5, 5), (6, 6), (7, 7), (8, 8), (9, 44)] (by rfl) (rf_upd (by rfl) (rf_upd (by rfl) (rf_upd (by rfl) (rf_upd (by rfl) (rf_upd (by rfl) (rf_no _)))))) (rh_upd (rh_one (by rfl) (by rfl) (by rfl)) (rh_upd (rh_one (by rfl) (renO_bx (renL_cons (ren_acc (by rfl)) (renL_cons (ren_acc (by rfl)) (renL_cons (ren_acc (by rfl)) (renL_cons (ren_acc (by rfl)) (renL_cons (ren_acc (by rfl)) (renL_cons (ren_acc (by rfl)) (renL_cons (ren_acc (by rfl)) (renL_cons (by first | exact ren_accP (by rfl) q193 | rfl) (renL_nil _)))))))))) (by rfl)) (rh_upd (rh_acc (by rfl) (by rfl)) (rh_upd (rh_acc (by rfl) (by rfl)) (rh_upd (rh_acc (by rfl) (by rfl)) (rh_upd (rh_acc (by rfl) (by rfl)) (rh_upd (rh_acc (by rfl) (by rfl)) (rh_upd (rh_acc (by rfl) (by rfl)) (rh_upd (rh_acc (by rfl) (by rfl)) (rh_upd (by first | exact rh_accP (by rfl) q193 (by rfl) | exact rh_one (by rfl) (by rfl) (by rfl)) (rh_no _))))))))))), Nat.lt_succ_self _⟩
              ·try simp only [List.map_cons, accI, accN]
               exact ⟨⟨((c, (t30, t31, t32, t33, t34, t35, t36, l11, (IntKind.i64.wrap (t8 + 1)))), (g, g2, g3, g4, g5, g6, g7, (g8 + 1))), H187⟩, ren_mk [(0, 0), (1, 1), (2, 2), (3, 3), (4, 4), (5, 5), (6, 6), (7, 7), (8, 8), (9, 9)] (by rfl) (rf_upd (by rfl) (rf_upd (by rfl) (rf_upd (by rfl) (rf_upd (by rfl) (rf_upd (by rfl) (rf_no _)))))) (rh_upd (rh_one (by rfl) (by rfl) (by rfl)) (rh_upd (rh_one (by rfl) (renO_bx (renL_cons (ren_acc (by rfl)) (renL_cons (ren_acc (by rfl)) (renL_cons (ren_acc (by rfl)) (renL_cons (ren_acc (by rfl)) (renL_cons (ren_acc (by rfl)) (renL_cons (ren_acc (by rfl)) (renL_cons (ren_acc (by rfl)) (renL_cons (by first | exact ren_accP (by rfl) q193 | rfl) (renL_nil _)))))))))) (by rfl)) (rh_upd (rh_acc (by rfl) (by rfl)) (rh_upd (rh_acc (by rfl) (by rfl)) (rh_upd (rh_acc (by rfl) (by rfl)) (rh_upd (rh_acc (by rfl) (by rfl)) (rh_upd (rh_acc (by rfl) (by rfl)) (rh_upd (rh_acc (by rfl) (by rfl)) (rh_upd (rh_acc (by rfl) (by rfl)) (rh_upd (by first | exact rh_accP (by rfl) q193 (by rfl) | exact rh_one (by rfl) (by rfl) (by rfl)) (rh_no _))))))))))), Nat.lt_succ_self _⟩
            ·refine Z1 (Y2 (Y6 c55 (zno .i64 h59) h61 c63 c73 c83) (Y5 c93 c103 c113 c140 c167)) ?_
             exact ⟨⟨((c, (t30, t31, t32, t33, t34, t35, t36, t37, (IntKind.i64.wrap (t8 + 1)))), (g, g2, g3, g4, g5, g6, g7, g8)), H168⟩, ren_mk [(0, 0), (1, 1), (2, 2), (3, 3), (4, 4), (5, 5), (6, 6), (7, 7), (8, 8), (9, 9)] (by rfl) (rf_upd (by rfl) (rf_upd (by rfl) (rf_upd (by rfl) (rf_upd (by rfl) (rf_upd (by rfl) (rf_no _)))))) (rh_upd (rh_one (by rfl) (by rfl) (by rfl)) (rh_upd (rh_one (by rfl) (renO_bx (renL_cons (ren_acc (by rfl)) (renL_cons (ren_acc (by rfl)) (renL_cons (ren_acc (by rfl)) (renL_cons (ren_acc (by rfl)) (renL_cons (ren_acc (by rfl)) (renL_cons (ren_acc (by rfl)) (renL_cons (ren_acc (by rfl)) (renL_cons (ren_acc (by rfl)) (renL_nil _)))))))))) (by rfl)) (rh_upd (rh_acc (by rfl) (by rfl)) (rh_upd (rh_acc (by rfl) (by rfl)) (rh_upd (rh_acc (by rfl) (by rfl)) (rh_upd (rh_acc (by rfl) (by rfl)) (rh_upd (rh_acc (by rfl) (by rfl)) (rh_upd (rh_acc (by rfl) (by rfl)) (rh_upd (rh_acc (by rfl) (by rfl)) (rh_upd (rh_acc (by rfl) (by rfl)) (rh_no _))))))))))), Nat.lt_succ_self _⟩
    ·refine Z1 c55 ?_
     obtain rfl := Zi H56
     exact ⟨⟨⟨(t30, t31, t32, t33, t34, t35, t36, t37), rfl⟩, (g, g2, g3, g4, g5, g6, g7, g8)⟩, ren_mk [(0, 0), (1, 1), (2, 2), (3, 3), (4, 4), (5, 5), (6, 6), (7, 7), (8, 8), (9, 9)] (by rfl) (rf_upd (by rfl) (rf_upd (by rfl) (rf_no _))) (rh_upd (rh_one (by rfl) (by rfl) (by rfl)) (rh_upd (rh_one (by rfl) (renO_bx (renL_cons (ren_acc (by rfl)) (renL_cons (ren_acc (by rfl)) (renL_cons (ren_acc (by rfl)) (renL_cons (ren_acc (by rfl)) (renL_cons (ren_acc (by rfl)) (renL_cons (ren_acc (by rfl)) (renL_cons (ren_acc (by rfl)) (renL_cons (ren_acc (by rfl)) (renL_nil _)))))))))) (by rfl)) (rh_upd (rh_acc (by rfl) (by rfl)) (rh_upd (rh_acc (by rfl) (by rfl)) (rh_upd (rh_acc (by rfl) (by rfl)) (rh_upd (rh_acc (by rfl) (by rfl)) (rh_upd (rh_acc (by rfl) (by rfl)) (rh_upd (rh_acc (by rfl) (by rfl)) (rh_upd (rh_acc (by rfl) (by rfl)) (rh_upd (rh_acc (by rfl) (by rfl)) (rh_no _)))))))))))⟩
 ·rintro ⟨⟨⟨t303, t313, t323, t333, t343, t353, t363, t373⟩, he194⟩, ⟨g17, g18, g19, g20, g21, g22, g23, g24⟩⟩
  obtain rfl := he194.symm
  try dsimp only at H2
  refine ZT 1 ?_
  refine Z0 ?_
  obtain rfl := Zi H2
  exact ZE0
def sess_told_names_c1 (_ : Nat) (s : ByteArray) (c2 : SessTold) : Option Bool :=
 some ((mgetD s 0 c2.roles) == 0)
theorem sess_told_names_c1_ok {n : Nat} {s : ByteArray} {c2 : SessTold} {r : Bool} (H : sess_told_names_c1 n s c2 = some r) : PureOK Try.prog 100 [D.v (.string s), D.pt (eSessTold c2) 0] (D.v (.bool r)) true := by
 unfold sess_told_names_c1 at H
 refine ZP tab_ok fol (rs := #[.tmp 3]) Try.func100 ?_
 refine ZT 1 ?_
 have h1 : lookA (false, [.string]) (.string s) (.v (.int .i64 0)) false (dEnts true (encMp Value.string false eI c2.roles)) = some (.v (.int .i64 (mgetD s 0 c2.roles)), []) := lookD (b := true) (ag := false) (enc := eI) key_str s (0 : Int) false c2.roles
 refine Z1 h1 ?_
 obtain rfl := Zi H
 exact ZE0
def slices_IndexFunc_string__sess_told_names_c1_L1 (n : Nat) (s : List ByteArray) (c2 : SessTold) : Nat → Int → Option ((Unit) ⊕ Int)
 | 0, _ => none
 | c + 1, t8 =>
  (if (decide (t8 < (s.length : Int))) then
   (idx s t8).bind fun x2 =>
   (sess_told_names_c1 n x2 c2).bind fun t162 =>
   (if t162 then
    some (.inr t8)
   else
    slices_IndexFunc_string__sess_told_names_c1_L1 n s c2 c (IntKind.i64.wrap (t8 + 1)))
  else
   some (.inl ()))
def slices_IndexFunc_string__sess_told_names_c1 (n : Nat) (s : List ByteArray) (c2 : SessTold) : Option Int :=
 (
  slices_IndexFunc_string__sess_told_names_c1_L1 n s c2 n 0 : Option ((Unit) ⊕ Int)).bind fun
  | .inl _ =>
   some (-1)
  | .inr r => some r
theorem slices_IndexFunc_string__sess_told_names_c1_ok {n : Nat} {s : List ByteArray} {c2 : SessTold} {r : Int} (H : slices_IndexFunc_string__sess_told_names_c1 n s c2 = some r) : PureA Try.prog 93 [.d (D.sl (List.map eS s)), .fn 100 [D.pt (eSessTold c2) 0]] (D.v (.int .i64 r)) true := by
 unfold slices_IndexFunc_string__sess_told_names_c1 at H
 refine ZPA tab_ok fol (rs := #[.tmp 4]) Try.func93 ?_
 refine zsq (ZT 1 ?_)
 refine Z0 ?_
 refine zsq (zsq ?_)
 refine ZT 1 ?_
 refine Z0 ?_
 obtain ⟨e_, E1, H2⟩ := zbi H
 refine zjn (α := { y : Unit // e_ = .inl y }) (fun | ⟨_, _⟩ => ⟨noFr, noHp, 0⟩) ?_ ?_
 ·refine zbk ?_
  refine zlp (α := { q : Nat × Int // slices_IndexFunc_string__sess_told_names_c1_L1 n s c2 q.1 q.2 = some e_ }) (fun | ⟨⟨c, t8⟩, _⟩ => ⟨upd 0 (.d (.sl (List.map eS s)) true) (upd 1 (.fn 100 [.d (.pt [.mp (encMp Value.string false eI c2.users), .mp (encMp Value.string false eI c2.roles)] 0) true]) (upd 7 (.v (.int .i64 (s.length : Int))) (upd 8 (.v (.int .i64 t8)) noFr))), noHp, 0⟩) (fun q => q.1.1) ⟨(n, 0), E1⟩ ?_ ?_
  ·exact ZR []
  ·rintro ⟨⟨c, t8⟩, L3⟩
   rcases c with _ | c
   ·exact Zx L3
   ·unfold slices_IndexFunc_string__sess_told_names_c1_L1 at L3
    try dsimp only at L3
    refine ZT 1 ?_
    refine Z0 ?_
    rcases zit L3 with ⟨c16, H17⟩ | ⟨c16, H17⟩
    ·obtain ⟨x2, b18, H19⟩ := zbi H17
     obtain ⟨h20, h21⟩ := zix b18
     try simp only [Int.reduceToNat, Int.toNat_natCast] at h21
     have h22 := map_at eS h21
     obtain ⟨t162, b24, H25⟩ := zbi H19
     refine Z1 (Y3 c16 (zno .i64 h20) h22) ?_
     refine ZC0 (sess_told_names_c1_ok b24) ?_
     refine Z1 (Y3 c16 (zno .i64 h20) h22) ?_
     rcases zit H25 with ⟨c26, H27⟩ | ⟨c26, H27⟩
     ·refine Z1 (Y4 c16 (zno .i64 h20) h22 c26) ?_
      obtain rfl := Zi H27
      obtain rfl := Zi H2
      exact ZE0
     ·refine Z1 (Y4 c16 (zno .i64 h20) h22 c26) ?_
      exact ⟨⟨(c, (IntKind.i64.wrap (t8 + 1))), H27⟩, ZR [], Nat.lt_succ_self _⟩
    ·refine Z1 c16 ?_
     obtain rfl := Zi H17
     exact ⟨⟨(), rfl⟩, ZR []⟩
 ·rintro ⟨_, he28⟩
  obtain rfl := he28.symm
  try dsimp only at H2
  refine ZT 1 ?_
  refine Z0 ?_
  obtain rfl := Zi H2
  exact ZE0
def slices_ContainsFunc_string__sess_told_names_c1 (n : Nat) (s : List ByteArray) (c2 : SessTold) : Option Bool :=
 (slices_IndexFunc_string__sess_told_names_c1 n s c2).bind fun t7 =>
 some (decide (0 ≤ t7))
theorem slices_ContainsFunc_string__sess_told_names_c1_ok {n : Nat} {s : List ByteArray} {c2 : SessTold} {r : Bool} (H : slices_ContainsFunc_string__sess_told_names_c1 n s c2 = some r) : PureA Try.prog 68 [.d (D.sl (List.map eS s)), .fn 100 [D.pt (eSessTold c2) 0]] (D.v (.bool r)) true := by
 unfold slices_ContainsFunc_string__sess_told_names_c1 at H
 refine ZPA tab_ok fol (rs := #[.tmp 4]) Try.func68 ?_
 refine ZT 1 ?_
 obtain ⟨t7, b1, H2⟩ := zbi H
 refine Z0 ?_
 refine ZA0 (slices_IndexFunc_string__sess_told_names_c1_ok b1) ?_
 refine Z0 ?_
 obtain rfl := Zi H2
 exact ZE0
def sess_told_names (n : Nat) (t : SessTold) (f : GFact) : Option Bool :=
 (
  (if (f.kind == 3) then
   some (.inl ({ data := #[] }, [f.a, f.b]))
  else
   (if (f.kind == 4) then
    some (.inl (f.a, [f.b]))
   else
    (if (f.kind == 5) then
     some (.inl ({ data := #[] }, [f.a]))
    else
     (if (f.kind == 6) then
      some (.inl ({ data := #[] }, f.l))
     else
      (if (f.kind == 7) then
       some (.inl ({ data := #[] }, f.l))
      else
       (if (f.kind == 8) then
        some (.inl (f.b, f.l))
       else
        some (.inr true))))))) : Option ((ByteArray × List ByteArray) ⊕ Bool)).bind fun
  | .inl (user3, roles) =>
   (
    (if (f.kind == 4) then
     some true
    else
     some (f.kind == 8)) : Option (Bool)).bind fun needs =>
   (if needs then
    (if ((mgetD user3 0 t.users) == 0) then
     some false
    else
     (slices_ContainsFunc_string__sess_told_names_c1 n roles t).bind fun t56 =>
     some (!t56))
   else
    (slices_ContainsFunc_string__sess_told_names_c1 n roles t).bind fun t562 =>
    some (!t562))
  | .inr r => some r
theorem sess_told_names_ok {n : Nat} {t : SessTold} {f : GFact} {r : Bool} (H : sess_told_names n t f = some r) : PureOK Try.prog 85 [D.ag (eSessTold t), D.ag (eGFact f)] (D.v (.bool r)) true := by
 unfold sess_told_names at H
 refine ZP tab_ok fol (rs := #[.tmp 4]) Try.func85 ?_
 refine zsq (ZT 1 ?_)
 refine Z0 ?_
 refine zsq (ZT 1 ?_)
 refine Z0 ?_
 refine Rd_endF (by rfl) ?_
 refine Z0 ?_
 refine zsq (zsq ?_)
 refine ZT 1 ?_
 refine Z0 ?_
 obtain ⟨e_, E1, H2⟩ := zbi H
 refine zjn (α := { y : ByteArray × List ByteArray // e_ = .inl y }) (fun | ⟨⟨user3, roles⟩, _⟩ => ⟨upd 2 (.pt 0 0) (upd 3 (.pt 1 0) (upd 5 (.v (.string user3)) (upd 6 (.d (.sl (List.map eS roles)) true) noFr))), upd 0 (some (.bx [.d (.mp (encMp Value.string false eI t.users)) true, .d (.mp (encMp Value.string false eI t.roles)) true])) (upd 1 (some (.bx [.v (.int .i64 f.kind), .v (.string f.a), .v (.string f.b), .v (.string f.c), .v (.int .i64 f.n_), .d (.sl (List.map eS f.l)) true, .v (.int .i64 f.at_)])) noHp), 2⟩) ?_ ?_
 ·refine ZT 1 ?_
  refine Z0 ?_
  rcases zit E1 with ⟨c3, H4⟩ | ⟨c3, H4⟩
  ·refine Z1 c3 ?_
   obtain rfl := Zi H4
   exact ⟨⟨({ data := #[] }, [f.a, f.b]), rfl⟩, WeakR.trans (m := ⟨upd 2 (.pt 0 0) (upd 3 (.pt 1 0) (upd 5 (.v (.string { data := #[] })) (upd 6 (.d (.sl (List.map eS [f.a, f.b])) true) (noFr)))), upd 0 (some (.bx [.d (.mp (encMp Value.string false eI t.users)) true, .d (.mp (encMp Value.string false eI t.roles)) true])) (upd 1 (some (.bx [.v (.int .i64 f.kind), .v (.string f.a), .v (.string f.b), .v (.string f.c), .v (.int .i64 f.n_), .d (.sl (List.map eS f.l)) true, .v (.int .i64 f.at_)])) (noHp)), 17⟩) (ZR [(0, 0), (1, 1)]) (dat_mk (Nat.le_refl _) (df_upd (dv_same (by rfl)) (df_upd (dv_same (by rfl)) (df_upd (dv_same (by rfl)) (df_upd (dv_c (by rfl) (dc_so (by rfl) (by first | rfl | simp) (by rfl) (fun _ => rfl))) (df_no _))))) (dh_upd (dh_eq (by rfl)) (dh_upd (dh_eq (by rfl)) dh_no)))⟩
  ·refine Z1 c3 ?_
   rcases zit H4 with ⟨c5, H6⟩ | ⟨c5, H6⟩
   ·refine Z1 (Y2 c3 c5) ?_
    refine Rd_endF (by rfl) ?_
    refine Z1 (Y2 c3 c5) ?_
    obtain rfl := Zi H6
    exact ⟨⟨(f.a, [f.b]), rfl⟩, WeakR.trans (m := ⟨upd 2 (.pt 0 0) (upd 3 (.pt 1 0) (upd 5 (.v (.string f.a)) (upd 6 (.d (.sl (List.map eS [f.b])) true) (noFr)))), upd 0 (some (.bx [.d (.mp (encMp Value.string false eI t.users)) true, .d (.mp (encMp Value.string false eI t.roles)) true])) (upd 1 (some (.bx [.v (.int .i64 f.kind), .v (.string f.a), .v (.string f.b), .v (.string f.c), .v (.int .i64 f.n_), .d (.sl (List.map eS f.l)) true, .v (.int .i64 f.at_)])) (noHp)), 20⟩) (ZR [(0, 0), (1, 1)]) (dat_mk (Nat.le_refl _) (df_upd (dv_same (by rfl)) (df_upd (dv_same (by rfl)) (df_upd (dv_same (by rfl)) (df_upd (dv_c (by rfl) (dc_so (by rfl) (by first | rfl | simp) (by rfl) (fun _ => rfl))) (df_no _))))) (dh_upd (dh_eq (by rfl)) (dh_upd (dh_eq (by rfl)) dh_no)))⟩
   ·refine Z1 (Y2 c3 c5) ?_
    rcases zit H6 with ⟨c7, H8⟩ | ⟨c7, H8⟩
    ·refine Z1 (Y3 c3 c5 c7) ?_
     obtain rfl := Zi H8
     exact ⟨⟨({ data := #[] }, [f.a]), rfl⟩, WeakR.trans (m := ⟨upd 2 (.pt 0 0) (upd 3 (.pt 1 0) (upd 5 (.v (.string { data := #[] })) (upd 6 (.d (.sl (List.map eS [f.a])) true) (noFr)))), upd 0 (some (.bx [.d (.mp (encMp Value.string false eI t.users)) true, .d (.mp (encMp Value.string false eI t.roles)) true])) (upd 1 (some (.bx [.v (.int .i64 f.kind), .v (.string f.a), .v (.string f.b), .v (.string f.c), .v (.int .i64 f.n_), .d (.sl (List.map eS f.l)) true, .v (.int .i64 f.at_)])) (noHp)), 19⟩) (ZR [(0, 0), (1, 1)]) (dat_mk (Nat.le_refl _) (df_upd (dv_same (by rfl)) (df_upd (dv_same (by rfl)) (df_upd (dv_same (by rfl)) (df_upd (dv_c (by rfl) (dc_so (by rfl) (by first | rfl | simp) (by rfl) (fun _ => rfl))) (df_no _))))) (dh_upd (dh_eq (by rfl)) (dh_upd (dh_eq (by rfl)) dh_no)))⟩
    ·refine Z1 (Y3 c3 c5 c7) ?_
     rcases zit H8 with ⟨c9, H10⟩ | ⟨c9, H10⟩
     ·refine Z1 (Y4 c3 c5 c7 c9) ?_
      obtain rfl := Zi H10
      exact ⟨⟨({ data := #[] }, f.l), rfl⟩, ZR [(0, 0), (1, 1)]⟩
     ·refine Z1 (Y4 c3 c5 c7 c9) ?_
      rcases zit H10 with ⟨c11, H12⟩ | ⟨c11, H12⟩
      ·refine Z1 (Y5 c3 c5 c7 c9 c11) ?_
       obtain rfl := Zi H12
       exact ⟨⟨({ data := #[] }, f.l), rfl⟩, ZR [(0, 0), (1, 1)]⟩
      ·refine Z1 (Y5 c3 c5 c7 c9 c11) ?_
       rcases zit H12 with ⟨c13, H14⟩ | ⟨c13, H14⟩
       ·refine Z1 (Y6 c3 c5 c7 c9 c11 c13) ?_
        obtain rfl := Zi H14
        exact ⟨⟨(f.b, f.l), rfl⟩, ZR [(0, 0), (1, 1)]⟩
       ·refine Z1 (Y6 c3 c5 c7 c9 c11 c13) ?_
        obtain rfl := Zi H14
        obtain rfl := Zi H2
        exact ZE0
 ·rintro ⟨⟨user3, roles⟩, he29⟩
  obtain rfl := he29.symm
  try dsimp only at H2
  refine zsq ?_
  obtain ⟨e_2, E15, H16⟩ := zbi H2
  refine zjn (α := { y : Bool // e_2 = y }) (fun | ⟨needs, _⟩ => ⟨upd 2 (.pt 0 0) (upd 5 (.v (.string user3)) (upd 6 (.d (.sl (List.map eS roles)) true) (upd 7 (.v (.bool needs)) noFr))), upd 0 (some (.bx [.d (.mp (encMp Value.string false eI t.users)) true, .d (.mp (encMp Value.string false eI t.roles)) true])) noHp, 1⟩) ?_ ?_
  ·refine ZT 1 ?_
   refine Z0 ?_
   rcases zit E15 with ⟨c17, H18⟩ | ⟨c17, H18⟩
   ·refine Z1 c17 ?_
    obtain rfl := Zi H18
    exact ⟨⟨true, rfl⟩, ZR [(0, 0)]⟩
   ·refine Z1 c17 ?_
    obtain rfl := Zi H18
    exact ⟨⟨(f.kind == 8), rfl⟩, ZR [(0, 0)]⟩
  ·rintro ⟨needs, he28⟩
   obtain rfl := he28.symm
   try dsimp only at H16
   refine ZT 1 ?_
   refine Z0 ?_
   rcases zit H16 with ⟨c19, H20⟩ | ⟨c19, H20⟩
   ·have h21 : lookA (false, [.string]) (.string user3) (.v (.int .i64 0)) false (dEnts true (encMp Value.string false eI t.users)) = some (.v (.int .i64 (mgetD user3 0 t.users)), []) := lookD (b := true) (ag := false) (enc := eI) key_str user3 (0 : Int) false t.users
    refine Z1 (Y2 c19 h21) ?_
    rcases zit H20 with ⟨c22, H23⟩ | ⟨c22, H23⟩
    ·refine Z1 (Y3 c19 h21 c22) ?_
     obtain rfl := Zi H23
     exact ZE0
    ·obtain ⟨t56, b24, H25⟩ := zbi H23
     refine Z1 (Y3 c19 h21 c22) ?_
     refine ZA1 (Y3 c19 h21 c22) (slices_ContainsFunc_string__sess_told_names_c1_ok b24) ?_
     refine Z1 (Y3 c19 h21 c22) ?_
     obtain rfl := Zi H25
     exact ZE0
   ·obtain ⟨t562, b26, H27⟩ := zbi H20
    refine Z1 c19 ?_
    refine ZA1 c19 (slices_ContainsFunc_string__sess_told_names_c1_ok b26) ?_
    refine Z1 c19 ?_
    obtain rfl := Zi H27
    exact ZE0
def slices_Equal_string_L1 (n : Nat) (s1 : List ByteArray) (s2 : List ByteArray) : Nat → Int → Option ((Unit) ⊕ Bool)
 | 0, _ => none
 | c + 1, t13 =>
  (if (decide (t13 < (s1.length : Int))) then
   (idx s1 t13).bind fun x3 =>
   (idx s2 t13).bind fun x4 =>
   (if (x3.toList == x4.toList) then
    slices_Equal_string_L1 n s1 s2 c (IntKind.i64.wrap (t13 + 1))
   else
    some (.inr false))
  else
   some (.inl ()))
def slices_Equal_string (n : Nat) (s1 : List ByteArray) (s2 : List ByteArray) : Option Bool :=
 (if ((s1.length : Int) != (s2.length : Int)) then
  some false
 else
  (
   slices_Equal_string_L1 n s1 s2 n 0 : Option ((Unit) ⊕ Bool)).bind fun
   | .inl _ =>
    some true
   | .inr r => some r)
theorem slices_Equal_string_ok {n : Nat} {s1 : List ByteArray} {s2 : List ByteArray} {r : Bool} (H : slices_Equal_string n s1 s2 = some r) : PureOK Try.prog 102 [D.sl (List.map eS s1), D.sl (List.map eS s2)] (D.v (.bool r)) true := by
 unfold slices_Equal_string at H
 refine ZP tab_ok fol (rs := #[.tmp 4]) Try.func102 ?_
 refine zsq (ZT 1 ?_)
 refine Z0 ?_
 refine zsq (ZT 1 ?_)
 refine Z0 ?_
 rcases zit H with ⟨c1, H2⟩ | ⟨c1, H2⟩
 ·refine Z1 c1 ?_
  obtain rfl := Zi H2
  exact ZE0
 ·refine Z1 c1 ?_
  refine zsq (zsq ?_)
  refine ZT 1 ?_
  refine Z1 c1 ?_
  obtain ⟨e_, E3, H4⟩ := zbi H2
  refine zjn (α := { y : Unit // e_ = .inl y }) (fun | ⟨_, _⟩ => ⟨noFr, noHp, 0⟩) ?_ ?_
  ·refine zbk ?_
   refine zlp (α := { q : Nat × Int // slices_Equal_string_L1 n s1 s2 q.1 q.2 = some e_ }) (fun | ⟨⟨c, t13⟩, _⟩ => ⟨upd 0 (.d (.sl (List.map eS s1)) true) (upd 1 (.d (.sl (List.map eS s2)) true) (upd 12 (.v (.int .i64 (s1.length : Int))) (upd 13 (.v (.int .i64 t13)) noFr))), noHp, 0⟩) (fun q => q.1.1) ⟨(n, 0), E3⟩ ?_ ?_
   ·exact ZR []
   ·rintro ⟨⟨c, t13⟩, L5⟩
    rcases c with _ | c
    ·exact Zx L5
    ·unfold slices_Equal_string_L1 at L5
     try dsimp only at L5
     refine ZT 1 ?_
     refine Z0 ?_
     rcases zit L5 with ⟨c22, H23⟩ | ⟨c22, H23⟩
     ·obtain ⟨x3, b24, H25⟩ := zbi H23
      obtain ⟨h26, h27⟩ := zix b24
      try simp only [Int.reduceToNat, Int.toNat_natCast] at h27
      have h28 := map_at eS h27
      obtain ⟨x4, b30, H31⟩ := zbi H25
      obtain ⟨h32, h33⟩ := zix b30
      try simp only [Int.reduceToNat, Int.toNat_natCast] at h33
      have h34 := map_at eS h33
      refine Z1 (Y5 c22 (zno .i64 h26) h28 (zno .i64 h32) h34) ?_
      refine Rd_endF (by rfl) ?_
      refine Z1 (Y5 c22 (zno .i64 h26) h28 (zno .i64 h32) h34) ?_
      rcases zit H31 with ⟨c36, H37⟩ | ⟨c36, H37⟩
      ·refine Z1 (Y6 c22 (zno .i64 h26) h28 (zno .i64 h32) h34 c36) ?_
       exact ⟨⟨(c, (IntKind.i64.wrap (t13 + 1))), H37⟩, ZR [], Nat.lt_succ_self _⟩
      ·refine Z1 (Y6 c22 (zno .i64 h26) h28 (zno .i64 h32) h34 c36) ?_
       obtain rfl := Zi H37
       obtain rfl := Zi H4
       exact ZE0
     ·refine Z1 c22 ?_
      obtain rfl := Zi H23
      exact ⟨⟨(), rfl⟩, ZR []⟩
  ·rintro ⟨_, he38⟩
   obtain rfl := he38.symm
   try dsimp only at H4
   refine ZT 1 ?_
   refine Z0 ?_
   obtain rfl := Zi H4
   exact ZE0
def sess_unlike (n : Nat) (a : GFact) (b : GFact) : Option Bool :=
 (
  (if (a.kind != b.kind) then
   some true
  else
   (if (a.a.toList == b.a.toList) then
    (if (decide (a.kind < 6)) then
     some true
    else
     some (decide (8 < a.kind)))
   else
    some true)) : Option (Bool)).bind fun t26 =>
 (if t26 then
  some false
 else
  (if (a.n_ != b.n_) then
   some true
  else
   (if (a.b.toList == b.b.toList) then
    (norm_Once n a.l).bind fun t42 =>
    (norm_Once n b.l).bind fun t45 =>
    (slices_Equal_string n t42 t45).bind fun t46 =>
    some (!t46)
   else
    some true)))
theorem sess_unlike_ok {n : Nat} {a : GFact} {b : GFact} {r : Bool} (H : sess_unlike n a b = some r) : PureOK Try.prog 88 [D.ag (eGFact a), D.ag (eGFact b)] (D.v (.bool r)) true := by
 unfold sess_unlike at H
 refine ZP tab_ok fol (rs := #[.tmp 4]) Try.func88 ?_
 refine zsq (ZT 1 ?_)
 refine Z0 ?_
 refine zsq (zsq ?_)
 obtain ⟨e_, E1, H2⟩ := zbi H
 refine zjn (α := { y : Bool // e_ = y }) (fun | ⟨t26, _⟩ => ⟨upd 2 (.pt 0 0) (upd 3 (.pt 1 0) (upd 26 (.v (.bool t26)) noFr)), upd 0 (some (.bx [.v (.int .i64 a.kind), .v (.string a.a), .v (.string a.b), .v (.string a.c), .v (.int .i64 a.n_), .d (.sl (List.map eS a.l)) true, .v (.int .i64 a.at_)])) (upd 1 (some (.bx [.v (.int .i64 b.kind), .v (.string b.a), .v (.string b.b), .v (.string b.c), .v (.int .i64 b.n_), .d (.sl (List.map eS b.l)) true, .v (.int .i64 b.at_)])) noHp), 2⟩) ?_ ?_
 ·refine ZT 1 ?_
  refine Z0 ?_
  rcases zit E1 with ⟨c3, H4⟩ | ⟨c3, H4⟩
  ·refine Z1 c3 ?_
   obtain rfl := Zi H4
   exact ⟨⟨true, rfl⟩, ZR [(0, 0), (1, 1)]⟩
  ·refine Z1 c3 ?_
   rcases zit H4 with ⟨c5, H6⟩ | ⟨c5, H6⟩
   ·refine Z1 (Y2 c3 c5) ?_
    rcases zit H6 with ⟨c7, H8⟩ | ⟨c7, H8⟩
    ·refine Z1 (Y3 c3 c5 c7) ?_
     obtain rfl := Zi H8
     exact ⟨⟨true, rfl⟩, ZR [(0, 0), (1, 1)]⟩
    ·refine Z1 (Y3 c3 c5 c7) ?_
     obtain rfl := Zi H8
     exact ⟨⟨(decide (8 < a.kind)), rfl⟩, ZR [(0, 0), (1, 1)]⟩
   ·refine Z1 (Y2 c3 c5) ?_
    obtain rfl := Zi H6
    exact ⟨⟨true, rfl⟩, ZR [(0, 0), (1, 1)]⟩
 ·rintro ⟨t26, he21⟩
  obtain rfl := he21.symm
  try dsimp only at H2
  refine ZT 2 ?_
  refine Z0 ?_
  rcases zit H2 with ⟨c9, H10⟩ | ⟨c9, H10⟩
  ·refine Z1 c9 ?_
   obtain rfl := Zi H10
   exact ZE0
  ·refine Z1 c9 ?_
   rcases zit H10 with ⟨c11, H12⟩ | ⟨c11, H12⟩
   ·refine Z1 (Y2 c9 c11) ?_
    refine Rd_endF (by rfl) ?_
    refine Z1 (Y2 c9 c11) ?_
    obtain rfl := Zi H12
    exact ZE0
   ·refine Z1 (Y2 c9 c11) ?_
    rcases zit H12 with ⟨c13, H14⟩ | ⟨c13, H14⟩
    ·obtain ⟨t42, b15, H16⟩ := zbi H14
     refine Z1 (Y3 c9 c11 c13) ?_
     refine ZD0 (norm_Once_ok b15) ?_
     obtain ⟨t45, b17, H18⟩ := zbi H16
     refine Z1 (Y3 c9 c11 c13) ?_
     refine ZD0 (norm_Once_ok b17) ?_
     obtain ⟨t46, b19, H20⟩ := zbi H18
     refine Z1 (Y3 c9 c11 c13) ?_
     refine ZD0 (slices_Equal_string_ok b19) ?_
     refine Z1 (Y3 c9 c11 c13) ?_
     refine Rd_endF (by rfl) ?_
     refine Z1 (Y3 c9 c11 c13) ?_
     obtain rfl := Zi H20
     exact ZE0
    ·refine Z1 (Y3 c9 c11 c13) ?_
     refine Rd_endF (by rfl) ?_
     refine Z1 (Y3 c9 c11 c13) ?_
     obtain rfl := Zi H14
     exact ZE0
def sess_told_one_c1 (n : Nat) (x : GFact) (c2 : GFact) : Option Bool :=
 (sess_unlike n x c2).bind fun t6 =>
 some t6
theorem sess_told_one_c1_ok {n : Nat} {x : GFact} {c2 : GFact} {r : Bool} (H : sess_told_one_c1 n x c2 = some r) : PureOK Try.prog 87 [D.ag (eGFact x), D.pt (eGFact c2) 0] (D.v (.bool r)) true := by
 unfold sess_told_one_c1 at H
 refine ZP tab_ok fol (rs := #[.tmp 3]) Try.func87 ?_
 refine ZT 1 ?_
 obtain ⟨t6, b1, H2⟩ := zbi H
 refine Z0 ?_
 refine ZC0 (sess_unlike_ok b1) ?_
 refine Z0 ?_
 obtain rfl := Zi H2
 exact ZE0
def slices_IndexFunc_Fact__sess_told_one_c1_L1 (n : Nat) (s : List GFact) (c2 : GFact) : Nat → Int → Option ((Unit) ⊕ Int)
 | 0, _ => none
 | c + 1, t8 =>
  (if (decide (t8 < (s.length : Int))) then
   (idx s t8).bind fun x2 =>
   (sess_told_one_c1 n x2 c2).bind fun t162 =>
   (if t162 then
    some (.inr t8)
   else
    slices_IndexFunc_Fact__sess_told_one_c1_L1 n s c2 c (IntKind.i64.wrap (t8 + 1)))
  else
   some (.inl ()))
def slices_IndexFunc_Fact__sess_told_one_c1 (n : Nat) (s : List GFact) (c2 : GFact) : Option Int :=
 (
  slices_IndexFunc_Fact__sess_told_one_c1_L1 n s c2 n 0 : Option ((Unit) ⊕ Int)).bind fun
  | .inl _ =>
   some (-1)
  | .inr r => some r
theorem slices_IndexFunc_Fact__sess_told_one_c1_ok {n : Nat} {s : List GFact} {c2 : GFact} {r : Int} (H : slices_IndexFunc_Fact__sess_told_one_c1 n s c2 = some r) : PureA Try.prog 101 [.d (D.sl (List.map eGFact s)), .fn 87 [D.pt (eGFact c2) 0]] (D.v (.int .i64 r)) true := by
 unfold slices_IndexFunc_Fact__sess_told_one_c1 at H
 refine ZPA tab_ok fol (rs := #[.tmp 4]) Try.func101 ?_
 refine zsq (ZT 1 ?_)
 refine Z0 ?_
 refine zsq (zsq ?_)
 refine ZT 1 ?_
 refine Z0 ?_
 obtain ⟨e_, E1, H2⟩ := zbi H
 refine zjn (α := { y : Unit // e_ = .inl y }) (fun | ⟨_, _⟩ => ⟨noFr, noHp, 0⟩) ?_ ?_
 ·refine zbk ?_
  refine zlp (α := { q : Nat × Int // slices_IndexFunc_Fact__sess_told_one_c1_L1 n s c2 q.1 q.2 = some e_ }) (fun | ⟨⟨c, t8⟩, _⟩ => ⟨upd 0 (.d (.sl (List.map eGFact s)) true) (upd 1 (.fn 87 [.d (.pt [.v (.int .i64 c2.kind), .v (.string c2.a), .v (.string c2.b), .v (.string c2.c), .v (.int .i64 c2.n_), .sl (List.map eS c2.l), .v (.int .i64 c2.at_)] 0) true]) (upd 7 (.v (.int .i64 (s.length : Int))) (upd 8 (.v (.int .i64 t8)) noFr))), noHp, 0⟩) (fun q => q.1.1) ⟨(n, 0), E1⟩ ?_ ?_
  ·exact ZR []
  ·rintro ⟨⟨c, t8⟩, L3⟩
   rcases c with _ | c
   ·exact Zx L3
   ·unfold slices_IndexFunc_Fact__sess_told_one_c1_L1 at L3
    try dsimp only at L3
    refine ZT 1 ?_
    refine Z0 ?_
    rcases zit L3 with ⟨c16, H17⟩ | ⟨c16, H17⟩
    ·obtain ⟨x2, b18, H19⟩ := zbi H17
     obtain ⟨h20, h21⟩ := zix b18
     try simp only [Int.reduceToNat, Int.toNat_natCast] at h21
     have h22 := map_at eGFact h21
     obtain ⟨t162, b24, H25⟩ := zbi H19
     refine Z1 (Y3 c16 (zno .i64 h20) h22) ?_
     refine ZC0 (sess_told_one_c1_ok b24) ?_
     refine Z1 (Y3 c16 (zno .i64 h20) h22) ?_
     rcases zit H25 with ⟨c26, H27⟩ | ⟨c26, H27⟩
     ·refine Z1 (Y4 c16 (zno .i64 h20) h22 c26) ?_
      obtain rfl := Zi H27
      obtain rfl := Zi H2
      exact ZE0
     ·refine Z1 (Y4 c16 (zno .i64 h20) h22 c26) ?_
      exact ⟨⟨(c, (IntKind.i64.wrap (t8 + 1))), H27⟩, ZR [], Nat.lt_succ_self _⟩
    ·refine Z1 c16 ?_
     obtain rfl := Zi H17
     exact ⟨⟨(), rfl⟩, ZR []⟩
 ·rintro ⟨_, he28⟩
  obtain rfl := he28.symm
  try dsimp only at H2
  refine ZT 1 ?_
  refine Z0 ?_
  obtain rfl := Zi H2
  exact ZE0
def slices_ContainsFunc_Fact__sess_told_one_c1 (n : Nat) (s : List GFact) (c2 : GFact) : Option Bool :=
 (slices_IndexFunc_Fact__sess_told_one_c1 n s c2).bind fun t7 =>
 some (decide (0 ≤ t7))
theorem slices_ContainsFunc_Fact__sess_told_one_c1_ok {n : Nat} {s : List GFact} {c2 : GFact} {r : Bool} (H : slices_ContainsFunc_Fact__sess_told_one_c1 n s c2 = some r) : PureA Try.prog 86 [.d (D.sl (List.map eGFact s)), .fn 87 [D.pt (eGFact c2) 0]] (D.v (.bool r)) true := by
 unfold slices_ContainsFunc_Fact__sess_told_one_c1 at H
 refine ZPA tab_ok fol (rs := #[.tmp 4]) Try.func86 ?_
 refine ZT 1 ?_
 obtain ⟨t7, b1, H2⟩ := zbi H
 refine Z0 ?_
 refine ZA0 (slices_IndexFunc_Fact__sess_told_one_c1_ok b1) ?_
 refine Z0 ?_
 obtain rfl := Zi H2
 exact ZE0
def sess_told_one (n : Nat) (t : SessTold) (f : GFact) (ahead : List GFact) : Option Int :=
 (
  (if (f.kind == 6) then
   some true
  else
   some (f.kind == 7)) : Option (Bool)).bind fun sod =>
 (sess_told_names n t f).bind fun t19 =>
 (if t19 then
  (slices_ContainsFunc_Fact__sess_told_one_c1 n ahead f).bind fun t24 =>
  (if t24 then
   some 11
  else
   (if sod then
    (if (decide (f.n_ < 2)) then
     some 16
    else
     (norm_Once n f.l).bind fun t36 =>
     (if (decide ((t36.length : Int) < f.n_)) then
      some 16
     else
      some 0))
   else
    some 0))
 else
  some 12)
theorem sess_told_one_ok {n : Nat} {t : SessTold} {f : GFact} {ahead : List GFact} {r : Int} (H : sess_told_one n t f ahead = some r) : PureOK Try.prog 59 [D.ag (eSessTold t), D.ag (eGFact f), D.sl (List.map eGFact ahead)] (D.v (.int .i64 r)) true := by
 unfold sess_told_one at H
 refine ZP tab_ok fol (rs := #[.tmp 6]) Try.func59 ?_
 refine zsq (ZT 1 ?_)
 refine Z0 ?_
 refine zsq ?_
 obtain ⟨e_, E1, H2⟩ := zbi H
 refine zjn (α := { y : Bool // e_ = y }) (fun | ⟨sod, _⟩ => ⟨upd 2 (.d (.sl (List.map eGFact ahead)) true) (upd 3 (.pt 0 0) (upd 4 (.pt 1 0) (upd 7 (.v (.bool sod)) noFr))), upd 0 (some (.bx [.d (.mp (encMp Value.string false eI t.users)) true, .d (.mp (encMp Value.string false eI t.roles)) true])) (upd 1 (some (.bx [.v (.int .i64 f.kind), .v (.string f.a), .v (.string f.b), .v (.string f.c), .v (.int .i64 f.n_), .d (.sl (List.map eS f.l)) true, .v (.int .i64 f.at_)])) noHp), 2⟩) ?_ ?_
 ·refine ZT 1 ?_
  refine Z0 ?_
  rcases zit E1 with ⟨c3, H4⟩ | ⟨c3, H4⟩
  ·refine Z1 c3 ?_
   obtain rfl := Zi H4
   exact ⟨⟨true, rfl⟩, ZR [(0, 0), (1, 1)]⟩
  ·refine Z1 c3 ?_
   obtain rfl := Zi H4
   exact ⟨⟨(f.kind == 7), rfl⟩, ZR [(0, 0), (1, 1)]⟩
 ·rintro ⟨sod, he21⟩
  obtain rfl := he21.symm
  try dsimp only at H2
  refine ZT 1 ?_
  obtain ⟨t19, b5, H6⟩ := zbi H2
  refine Z0 ?_
  refine ZC0 (sess_told_names_ok b5) ?_
  refine Z0 ?_
  rcases zit H6 with ⟨c7, H8⟩ | ⟨c7, H8⟩
  ·obtain ⟨t24, b9, H10⟩ := zbi H8
   refine Z1 c7 ?_
   refine ZA1 c7 (slices_ContainsFunc_Fact__sess_told_one_c1_ok b9) ?_
   refine Z1 c7 ?_
   rcases zit H10 with ⟨c11, H12⟩ | ⟨c11, H12⟩
   ·refine Z1 (Y2 c7 c11) ?_
    obtain rfl := Zi H12
    exact ZE0
   ·refine Z1 (Y2 c7 c11) ?_
    rcases zit H12 with ⟨c13, H14⟩ | ⟨c13, H14⟩
    ·refine Z1 (Y3 c7 c11 c13) ?_
     rcases zit H14 with ⟨c15, H16⟩ | ⟨c15, H16⟩
     ·refine Z1 (Y4 c7 c11 c13 c15) ?_
      refine Rd_endF (by rfl) ?_
      refine Z1 (Y4 c7 c11 c13 c15) ?_
      obtain rfl := Zi H16
      exact ZE0
     ·obtain ⟨t36, b17, H18⟩ := zbi H16
      refine Z1 (Y4 c7 c11 c13 c15) ?_
      refine ZD0 (norm_Once_ok b17) ?_
      refine Z1 (Y4 c7 c11 c13 c15) ?_
      refine Rd_endF (by rfl) ?_
      refine Z1 (Y4 c7 c11 c13 c15) ?_
      rcases zit H18 with ⟨c19, H20⟩ | ⟨c19, H20⟩
      ·refine Z1 (Y5 c7 c11 c13 c15 c19) ?_
       obtain rfl := Zi H20
       exact ZE0
      ·refine Z1 (Y5 c7 c11 c13 c15 c19) ?_
       obtain rfl := Zi H20
       exact ZE0
    ·refine Z1 (Y3 c7 c11 c13) ?_
     refine Rd_endF (by rfl) ?_
     refine Z1 (Y3 c7 c11 c13) ?_
     obtain rfl := Zi H14
     exact ZE0
  ·refine Z1 c7 ?_
   obtain rfl := Zi H8
   exact ZE0
def sess_loop_L1 (n : Nat) (l : List GFact) : Nat → (List GPair × Int) → Option ((Unit) ⊕ (Int × Bool))
 | 0, _ => none
 | c + 1, (pairs, t10) =>
  (if (decide (t10 < (l.length : Int))) then
   (idx l t10).bind fun x2 =>
   (if (x2.kind != 3) then
    sess_loop_L1 n l c (pairs, (IntKind.i64.wrap (t10 + 1)))
   else
    (norm_Down n (⟨[], [], pairs, [], [], [], [], []⟩ : GRoles) x2.b).bind fun t222 =>
    (slices_Contains_string n t222 x2.a).bind fun t252 =>
    (if t252 then
     some (.inr (x2.at_, true))
    else
     (app pairs [(⟨x2.a, x2.b⟩ : GPair)]).bind fun l2 =>
     sess_loop_L1 n l c (l2, (IntKind.i64.wrap (t10 + 1)))))
  else
   some (.inl ()))
def sess_loop_L1_f (n : Nat) (_ : List GFact) (st : List GPair) (x2 : GFact) (k : List GPair → Option ((Unit) ⊕ (Int × Bool))) : Option ((Unit) ⊕ (Int × Bool)) :=
 match st with
 | pairs =>
  (if (x2.kind != 3) then
   k pairs
  else
   (norm_Down n (⟨[], [], pairs, [], [], [], [], []⟩ : GRoles) x2.b).bind fun t222 =>
   (slices_Contains_string n t222 x2.a).bind fun t252 =>
   (if t252 then
    some (.inr (x2.at_, true))
   else
    (app pairs [(⟨x2.a, x2.b⟩ : GPair)]).bind fun l2 =>
    k l2))
def sess_loop_L1_e (_ : Nat) (_ : List GFact) (st : List GPair) : Option ((Unit) ⊕ (Int × Bool)) :=
 match st with
 | _ => some (.inl ())
theorem sess_loop_L1_list (n : Nat) (l : List GFact) (hx : l.length < 4611686018427387904) (c : Nat) (st : List GPair) (ix : Nat) (hi : ix ≤ l.length) (hc : l.length - ix < c) : sess_loop_L1 n l c (match st, (ix : Int) with | pairs, ix => (pairs, ix)) = foldK (sess_loop_L1_f n l) (sess_loop_L1_e n l) (l.drop ix) st :=
 loop_list (fun c st ix => sess_loop_L1 n l c (match st, ix with | pairs, ix => (pairs, ix))) l (sess_loop_L1_f n l) (sess_loop_L1_e n l) (fun _ _ _ => rfl) hx c st ix hi hc
def sess_loop (n : Nat) (l : List GFact) : Option (Int × Bool) :=
 (
  sess_loop_L1 n l n ([], 0) : Option ((Unit) ⊕ (Int × Bool))).bind fun
  | .inl _ =>
   some (0, false)
  | .inr r => some r
theorem sess_loop_ok {n : Nat} {l : List GFact} {r : Int × Bool} (H : sess_loop n l = some r) : PureOK Try.prog 60 [D.sl (List.map eGFact l)] (D.tu [D.v (.int .i64 r.1), D.v (.bool r.2)]) true := by
 unfold sess_loop at H
 refine ZP tab_ok fol (rs := #[.tmp 2, .tmp 3]) Try.func60 ?_
 refine zsq (ZT 1 ?_)
 refine Z0 ?_
 refine zsq (ZT 1 ?_)
 refine Z0 ?_
 refine zsq (zsq ?_)
 refine ZT 1 ?_
 refine Z0 ?_
 obtain ⟨e_, E1, H2⟩ := zbi H
 refine zjn (α := { y : Unit // e_ = .inl y }) (fun | ⟨_, _⟩ => ⟨noFr, noHp, 0⟩) ?_ ?_
 ·refine zbk ?_
  refine zlp (α := { q : (Nat × (List GPair × Int)) × Nat // sess_loop_L1 n l q.1.1 q.1.2 = some e_ }) (fun | ⟨⟨⟨c, ⟨pairs, t10⟩⟩, g⟩, _⟩ => ⟨upd 4 (accV 0 g (List.map eGPair pairs)) (upd 8 (.d (.sl (List.map eGFact l)) true) (upd 9 (.v (.int .i64 (l.length : Int))) (upd 10 (.v (.int .i64 t10)) noFr))), upd 0 (accO 2 g false (List.map eGPair pairs)) noHp, 1⟩) (fun q => q.1.1.1) ⟨((n, ([], 0)), 0), E1⟩ ?_ ?_
  ·exact ZR []
  ·rintro ⟨⟨⟨c, ⟨pairs, t10⟩⟩, g⟩, L3⟩
   rcases c with _ | c
   ·exact Zx L3
   ·unfold sess_loop_L1 at L3
    try dsimp only at L3
    refine ZT 1 ?_
    refine Z0 ?_
    rcases zit L3 with ⟨c20, H21⟩ | ⟨c20, H21⟩
    ·obtain ⟨x2, b22, H23⟩ := zbi H21
     obtain ⟨h24, h25⟩ := zix b22
     try simp only [Int.reduceToNat, Int.toNat_natCast] at h25
     have h26 := map_at eGFact h25
     refine Z1 (Y3 c20 (zno .i64 h24) h26) ?_
     rcases zit H23 with ⟨c28, H29⟩ | ⟨c28, H29⟩
     ·refine Z1 (Y4 c20 (zno .i64 h24) h26 c28) ?_
      exact ⟨⟨((c, (pairs, (IntKind.i64.wrap (t10 + 1)))), g), H29⟩, ZR [(0, 0)], Nat.lt_succ_self _⟩
     ·obtain ⟨t222, b30, H31⟩ := zbi H29
      refine Z1 (Y4 c20 (zno .i64 h24) h26 c28) ?_
      refine ZD1 (Y4 c20 (zno .i64 h24) h26 c28) (norm_Down_ok b30) ?_
      obtain ⟨t252, b32, H33⟩ := zbi H31
      refine Z1 (Y4 c20 (zno .i64 h24) h26 c28) ?_
      refine ZD0 (slices_Contains_string_ok b32) ?_
      refine Z1 (Y4 c20 (zno .i64 h24) h26 c28) ?_
      refine Rd_endF (by rfl) ?_
      refine Z1 (Y4 c20 (zno .i64 h24) h26 c28) ?_
      rcases zit H33 with ⟨c34, H35⟩ | ⟨c34, H35⟩
      ·refine Z1 (Y5 c20 (zno .i64 h24) h26 c28 c34) ?_
       obtain rfl := Zi H35
       obtain rfl := Zi H2
       exact ZE0
      ·obtain ⟨l2, b36, H37⟩ := zbi H35
       obtain ⟨h38, h39⟩ := app_inv b36
       have h38 : pairs.length + 1 ≤ 4294967296 := h38
       have h40 : List.map eGPair pairs ++ [[.v (.string x2.a), .v (.string x2.b)]] = List.map eGPair l2 := app_map eGPair h39
       have h41 : pairs.length + 1 = l2.length := app_len h39
       have h42 : l2.length ≤ 4294967296 := by omega
       have q43 : 0 < l2.length := by omega
       refine Z1 (Y2 (Y6 c20 (zno .i64 h24) h26 c28 c34 h38) (Y3 h40 h41 h42)) ?_
       rcases pairs with _ | ⟨q0, q1⟩
       ·try simp only [List.map_nil, accI, accN]
        exact ⟨⟨((c, (l2, (IntKind.i64.wrap (t10 + 1)))), 0), H37⟩, ZR [(0, 27)], Nat.lt_succ_self _⟩
       ·try simp only [List.map_cons, accI, accN]
        exact ⟨⟨((c, (l2, (IntKind.i64.wrap (t10 + 1)))), (g + 1)), H37⟩, ZR [(0, 0)], Nat.lt_succ_self _⟩
    ·refine Z1 c20 ?_
     obtain rfl := Zi H21
     exact ⟨⟨(), rfl⟩, ZR []⟩
 ·rintro ⟨_, he44⟩
  obtain rfl := he44.symm
  try dsimp only at H2
  refine ZT 1 ?_
  refine Z0 ?_
  obtain rfl := Zi H2
  exact ZE0
def cmp_isNaN_string (_ : Nat) (_ : ByteArray) : Option Bool :=
 some false
theorem cmp_isNaN_string_ok {n : Nat} {x : ByteArray} {r : Bool} (H : cmp_isNaN_string n x = some r) : PureOK Try.prog 124 [D.v (.string x)] (D.v (.bool r)) true := by
 unfold cmp_isNaN_string at H
 refine ZP tab_ok fol (rs := #[.tmp 2]) Try.func124 ?_
 refine ZT 1 ?_
 refine Z0 ?_
 obtain rfl := Zi H
 exact ZE0
def cmp_Less_string (n : Nat) (x : ByteArray) (y : ByteArray) : Option Bool :=
 (cmp_isNaN_string n x).bind fun t6 =>
 (if t6 then
  (cmp_isNaN_string n y).bind fun t9 =>
  (if t9 then
   some (Op.bytesLess x.toList y.toList)
  else
   some true)
 else
  some (Op.bytesLess x.toList y.toList))
theorem cmp_Less_string_ok {n : Nat} {x : ByteArray} {y : ByteArray} {r : Bool} (H : cmp_Less_string n x y = some r) : PureOK Try.prog 113 [D.v (.string x), D.v (.string y)] (D.v (.bool r)) true := by
 unfold cmp_Less_string at H
 refine ZP tab_ok fol (rs := #[.tmp 4]) Try.func113 ?_
 refine ZT 1 ?_
 obtain ⟨t6, b1, H2⟩ := zbi H
 refine Z0 ?_
 refine ZC0 (cmp_isNaN_string_ok b1) ?_
 refine Z0 ?_
 rcases zit H2 with ⟨c3, H4⟩ | ⟨c3, H4⟩
 ·obtain ⟨t9, b5, H6⟩ := zbi H4
  refine Z1 c3 ?_
  refine ZC0 (cmp_isNaN_string_ok b5) ?_
  refine Z1 c3 ?_
  rcases zit H6 with ⟨c7, H8⟩ | ⟨c7, H8⟩
  ·refine Z1 (Y2 c3 c7) ?_
   obtain rfl := Zi H8
   exact ZE0
  ·refine Z1 (Y2 c3 c7) ?_
   obtain rfl := Zi H8
   exact ZE0
 ·refine Z1 c3 ?_
  obtain rfl := Zi H4
  exact ZE0
def slices_isNaN_string (_ : Nat) (_ : ByteArray) : Option Bool :=
 some false
theorem slices_isNaN_string_ok {n : Nat} {x : ByteArray} {r : Bool} (H : slices_isNaN_string n x = some r) : PureOK Try.prog 118 [D.v (.string x)] (D.v (.bool r)) true := by
 unfold slices_isNaN_string at H
 refine ZP tab_ok fol (rs := #[.tmp 2]) Try.func118 ?_
 refine ZT 1 ?_
 refine Z0 ?_
 obtain rfl := Zi H
 exact ZE0
def slices_BinarySearch_string_L1 (n : Nat) (x : List ByteArray) (target : ByteArray) : Nat → (Int × Int) → Option (Int)
 | 0, _ => none
 | c + 1, (i, j) =>
  (if (decide (i < j)) then
   (idx x (IntKind.i64.wrap (sh (IntKind.u64.wrap (IntKind.i64.wrap (i + j))) 1))).bind fun x3 =>
   (cmp_Less_string n x3 target).bind fun t272 =>
   (if t272 then
    slices_BinarySearch_string_L1 n x target c ((IntKind.i64.wrap ((IntKind.i64.wrap (sh (IntKind.u64.wrap (IntKind.i64.wrap (i + j))) 1)) + 1)), j)
   else
    slices_BinarySearch_string_L1 n x target c (i, (IntKind.i64.wrap (sh (IntKind.u64.wrap (IntKind.i64.wrap (i + j))) 1))))
  else
   some i)
def slices_BinarySearch_string (n : Nat) (x : List ByteArray) (target : ByteArray) : Option (Int × Bool) :=
 (
  slices_BinarySearch_string_L1 n x target n (0, (x.length : Int)) : Option (Int)).bind fun i3 =>
 (if (decide (i3 < (x.length : Int))) then
  (idx x i3).bind fun x4 =>
  (if (x4.toList == target.toList) then
   some (i3, true)
  else
   (slices_isNaN_string n x4).bind fun t47 =>
   (if t47 then
    (slices_isNaN_string n target).bind fun t50 =>
    some (i3, t50)
   else
    some (i3, false)))
 else
  some (i3, false))
theorem slices_BinarySearch_string_ok {n : Nat} {x : List ByteArray} {target : ByteArray} {r : Int × Bool} (H : slices_BinarySearch_string n x target = some r) : PureOK Try.prog 104 [D.sl (List.map eS x), D.v (.string target)] (D.tu [D.v (.int .i64 r.1), D.v (.bool r.2)]) true := by
 unfold slices_BinarySearch_string at H
 refine ZP tab_ok fol (rs := #[.tmp 4, .tmp 5]) Try.func104 ?_
 refine zsq (ZT 1 ?_)
 refine Z0 ?_
 refine zsq (ZT 1 ?_)
 refine Z0 ?_
 refine zsq (ZT 1 ?_)
 refine Z0 ?_
 refine zsq ?_
 obtain ⟨e_, E1, H2⟩ := zbi H
 refine zjn (α := { y : Int // e_ = y }) (fun | ⟨i3, _⟩ => ⟨upd 0 (.d (.sl (List.map eS x)) true) (upd 1 (.v (.string target)) (upd 6 (.v (.int .i64 (x.length : Int))) (upd 7 (.v (.int .i64 i3)) noFr))), noHp, 0⟩) ?_ ?_
 ·refine zbk ?_
  refine zlp (α := { q : Nat × (Int × Int) // slices_BinarySearch_string_L1 n x target q.1 q.2 = some e_ }) (fun | ⟨⟨c, ⟨i, j⟩⟩, _⟩ => ⟨upd 0 (.d (.sl (List.map eS x)) true) (upd 1 (.v (.string target)) (upd 6 (.v (.int .i64 (x.length : Int))) (upd 7 (.v (.int .i64 i)) (upd 8 (.v (.int .i64 j)) noFr)))), noHp, 0⟩) (fun q => q.1.1) ⟨(n, (0, (x.length : Int))), E1⟩ ?_ ?_
  ·exact ZR []
  ·rintro ⟨⟨c, ⟨i, j⟩⟩, L3⟩
   rcases c with _ | c
   ·exact Zx L3
   ·unfold slices_BinarySearch_string_L1 at L3
    try dsimp only at L3
    refine ZT 1 ?_
    refine Z0 ?_
    rcases zit L3 with ⟨c16, H17⟩ | ⟨c16, H17⟩
    ·obtain ⟨x3, b18, H19⟩ := zbi H17
     obtain ⟨h20, h21⟩ := zix b18
     try simp only [Int.reduceToNat, Int.toNat_natCast] at h21
     have h22 := map_at eS h21
     obtain ⟨t272, b24, H25⟩ := zbi H19
     refine Z1 (Y3 c16 (zno .i64 h20) h22) ?_
     refine ZC0 (cmp_Less_string_ok b24) ?_
     refine Z1 (Y3 c16 (zno .i64 h20) h22) ?_
     rcases zit H25 with ⟨c26, H27⟩ | ⟨c26, H27⟩
     ·refine Z1 (Y4 c16 (zno .i64 h20) h22 c26) ?_
      exact ⟨⟨(c, ((IntKind.i64.wrap ((IntKind.i64.wrap (sh (IntKind.u64.wrap (IntKind.i64.wrap (i + j))) 1)) + 1)), j)), H27⟩, ZR [], Nat.lt_succ_self _⟩
     ·refine Z1 (Y4 c16 (zno .i64 h20) h22 c26) ?_
      exact ⟨⟨(c, (i, (IntKind.i64.wrap (sh (IntKind.u64.wrap (IntKind.i64.wrap (i + j))) 1)))), H27⟩, ZR [], Nat.lt_succ_self _⟩
    ·refine Z1 c16 ?_
     obtain rfl := Zi H17
     exact ⟨⟨i, rfl⟩, ZR []⟩
 ·rintro ⟨i3, he44⟩
  obtain rfl := he44.symm
  try dsimp only at H2
  refine ZT 1 ?_
  refine Z0 ?_
  rcases zit H2 with ⟨c28, H29⟩ | ⟨c28, H29⟩
  ·obtain ⟨x4, b30, H31⟩ := zbi H29
   obtain ⟨h32, h33⟩ := zix b30
   try simp only [Int.reduceToNat, Int.toNat_natCast] at h33
   have h34 := map_at eS h33
   refine Z1 (Y3 c28 (zno .i64 h32) h34) ?_
   rcases zit H31 with ⟨c36, H37⟩ | ⟨c36, H37⟩
   ·refine Z1 (Y4 c28 (zno .i64 h32) h34 c36) ?_
    obtain rfl := Zi H37
    exact ZE0
   ·obtain ⟨t47, b38, H39⟩ := zbi H37
    refine Z1 (Y4 c28 (zno .i64 h32) h34 c36) ?_
    refine ZC0 (slices_isNaN_string_ok b38) ?_
    refine Z1 (Y4 c28 (zno .i64 h32) h34 c36) ?_
    rcases zit H39 with ⟨c40, H41⟩ | ⟨c40, H41⟩
    ·obtain ⟨t50, b42, H43⟩ := zbi H41
     refine Z1 (Y5 c28 (zno .i64 h32) h34 c36 c40) ?_
     refine ZC0 (slices_isNaN_string_ok b42) ?_
     refine Z1 (Y5 c28 (zno .i64 h32) h34 c36 c40) ?_
     obtain rfl := Zi H43
     exact ZE0
    ·refine Z1 (Y5 c28 (zno .i64 h32) h34 c36 c40) ?_
     obtain rfl := Zi H41
     exact ZE0
  ·refine Z1 c28 ?_
   obtain rfl := Zi H29
   exact ZE0
def sess_common_L1 (n : Nat) (among : List ByteArray) (t11 : List ByteArray) : Nat → (Int × Int) → Option (Int)
 | 0, _ => none
 | c + 1, (n_, t13) =>
  (if (decide (t13 < (t11.length : Int))) then
   (idx t11 t13).bind fun x2 =>
   (slices_BinarySearch_string n among x2).bind fun t202 =>
   (if t202.2 then
    sess_common_L1 n among t11 c ((IntKind.i64.wrap (n_ + 1)), (IntKind.i64.wrap (t13 + 1)))
   else
    sess_common_L1 n among t11 c (n_, (IntKind.i64.wrap (t13 + 1))))
  else
   some n_)
def sess_common_L1_f (n : Nat) (among : List ByteArray) (_ : List ByteArray) (st : Int) (x2 : ByteArray) (k : Int → Option (Int)) : Option (Int) :=
 match st with
 | n_ =>
  (slices_BinarySearch_string n among x2).bind fun t202 =>
  (if t202.2 then
   k (IntKind.i64.wrap (n_ + 1))
  else
   k n_)
def sess_common_L1_e (_ : Nat) (_ : List ByteArray) (_ : List ByteArray) (st : Int) : Option (Int) :=
 match st with
 | n_ => some n_
theorem sess_common_L1_list (n : Nat) (among : List ByteArray) (t11 : List ByteArray) (hx : t11.length < 4611686018427387904) (c : Nat) (st : Int) (ix : Nat) (hi : ix ≤ t11.length) (hc : t11.length - ix < c) : sess_common_L1 n among t11 c (match st, (ix : Int) with | n_, ix => (n_, ix)) = foldK (sess_common_L1_f n among t11) (sess_common_L1_e n among t11) (t11.drop ix) st :=
 loop_list (fun c st ix => sess_common_L1 n among t11 c (match st, ix with | n_, ix => (n_, ix))) t11 (sess_common_L1_f n among t11) (sess_common_L1_e n among t11) (fun _ _ _ => rfl) hx c st ix hi hc
def sess_common (n : Nat) (roles : List ByteArray) (among : List ByteArray) : Option Int :=
 (norm_Once n roles).bind fun t11 =>
 (
  sess_common_L1 n among t11 n (0, 0) : Option (Int)).bind fun n_3 =>
 some n_3
theorem sess_common_ok {n : Nat} {roles : List ByteArray} {among : List ByteArray} {r : Int} (H : sess_common n roles among = some r) : PureOK Try.prog 91 [D.sl (List.map eS roles), D.sl (List.map eS among)] (D.v (.int .i64 r)) true := by
 unfold sess_common at H
 refine ZP tab_ok fol (rs := #[.tmp 4]) Try.func91 ?_
 refine zsq (ZT 1 ?_)
 refine Z0 ?_
 refine zsq (ZT 1 ?_)
 refine Z0 ?_
 refine zsq (zsq ?_)
 refine ZT 1 ?_
 obtain ⟨t11, b1, H2⟩ := zbi H
 refine Z0 ?_
 refine ZC0 (norm_Once_ok b1) ?_
 refine Z0 ?_
 obtain ⟨e_, E3, H4⟩ := zbi H2
 refine zjn (α := { y : Int // e_ = y }) (fun | ⟨n_3, _⟩ => ⟨upd 5 (.v (.int .i64 n_3)) noFr, noHp, 0⟩) ?_ ?_
 ·refine zbk ?_
  refine zlp (α := { q : Nat × (Int × Int) // sess_common_L1 n among t11 q.1 q.2 = some e_ }) (fun | ⟨⟨c, ⟨n_, t13⟩⟩, _⟩ => ⟨upd 1 (.d (.sl (List.map eS among)) true) (upd 5 (.v (.int .i64 n_)) (upd 11 (.d (.sl (List.map eS t11)) false) (upd 12 (.v (.int .i64 (t11.length : Int))) (upd 13 (.v (.int .i64 t13)) noFr)))), noHp, 0⟩) (fun q => q.1.1) ⟨(n, (0, 0)), E3⟩ ?_ ?_
  ·exact ZR []
  ·rintro ⟨⟨c, ⟨n_, t13⟩⟩, L5⟩
   rcases c with _ | c
   ·exact Zx L5
   ·unfold sess_common_L1 at L5
    try dsimp only at L5
    refine ZT 1 ?_
    refine Z0 ?_
    rcases zit L5 with ⟨c18, H19⟩ | ⟨c18, H19⟩
    ·obtain ⟨x2, b20, H21⟩ := zbi H19
     obtain ⟨h22, h23⟩ := zix b20
     try simp only [Int.reduceToNat, Int.toNat_natCast] at h23
     have h24 := map_at eS h23
     obtain ⟨t202, b26, H27⟩ := zbi H21
     refine Z1 (Y3 c18 (zno .i64 h22) h24) ?_
     refine ZC0 (slices_BinarySearch_string_ok b26) ?_
     refine Z1 (Y3 c18 (zno .i64 h22) h24) ?_
     rcases zit H27 with ⟨c28, H29⟩ | ⟨c28, H29⟩
     ·refine Z1 (Y4 c18 (zno .i64 h22) h24 c28) ?_
      exact ⟨⟨(c, ((IntKind.i64.wrap (n_ + 1)), (IntKind.i64.wrap (t13 + 1)))), H29⟩, ZR [], Nat.lt_succ_self _⟩
     ·refine Z1 (Y4 c18 (zno .i64 h22) h24 c28) ?_
      exact ⟨⟨(c, (n_, (IntKind.i64.wrap (t13 + 1)))), H29⟩, ZR [], Nat.lt_succ_self _⟩
    ·refine Z1 c18 ?_
     obtain rfl := Zi H19
     exact ⟨⟨n_, rfl⟩, ZR []⟩
 ·rintro ⟨n_3, he30⟩
  obtain rfl := he30.symm
  try dsimp only at H4
  refine ZT 1 ?_
  refine Z0 ?_
  obtain rfl := Zi H4
  exact ZE0
def sess_static_c1 (n : Nat) (have_ : List ByteArray) (c2 : GFact) : Option Bool :=
 (sess_common n c2.l have_).bind fun t7 =>
 some (decide (c2.n_ ≤ t7))
theorem sess_static_c1_ok {n : Nat} {have_ : List ByteArray} {c2 : GFact} {r : Bool} (H : sess_static_c1 n have_ c2 = some r) : PureOK Try.prog 90 [D.sl (List.map eS have_), D.pt (eGFact c2) 0] (D.v (.bool r)) true := by
 unfold sess_static_c1 at H
 refine ZP tab_ok fol (rs := #[.tmp 3]) Try.func90 ?_
 refine ZT 1 ?_
 obtain ⟨t7, b1, H2⟩ := zbi H
 refine Z0 ?_
 refine ZD0 (sess_common_ok b1) ?_
 refine Z0 ?_
 refine Rd_endF (by rfl) ?_
 refine Z0 ?_
 obtain rfl := Zi H2
 exact ZE0
def slices_IndexFunc_____string___string___sess_static_c1_L1 (n : Nat) (s : List (List ByteArray)) (c2 : GFact) : Nat → Int → Option ((Unit) ⊕ Int)
 | 0, _ => none
 | c + 1, t8 =>
  (if (decide (t8 < (s.length : Int))) then
   (idx s t8).bind fun x2 =>
   (sess_static_c1 n x2 c2).bind fun t162 =>
   (if t162 then
    some (.inr t8)
   else
    slices_IndexFunc_____string___string___sess_static_c1_L1 n s c2 c (IntKind.i64.wrap (t8 + 1)))
  else
   some (.inl ()))
def slices_IndexFunc_____string___string___sess_static_c1 (n : Nat) (s : List (List ByteArray)) (c2 : GFact) : Option Int :=
 (
  slices_IndexFunc_____string___string___sess_static_c1_L1 n s c2 n 0 : Option ((Unit) ⊕ Int)).bind fun
  | .inl _ =>
   some (-1)
  | .inr r => some r
theorem slices_IndexFunc_____string___string___sess_static_c1_ok {n : Nat} {s : List (List ByteArray)} {c2 : GFact} {r : Int} (H : slices_IndexFunc_____string___string___sess_static_c1 n s c2 = some r) : PureA Try.prog 103 [.d (D.sl (List.map (eL eS) s)), .fn 90 [D.pt (eGFact c2) 0]] (D.v (.int .i64 r)) true := by
 unfold slices_IndexFunc_____string___string___sess_static_c1 at H
 refine ZPA tab_ok fol (rs := #[.tmp 4]) Try.func103 ?_
 refine zsq (ZT 1 ?_)
 refine Z0 ?_
 refine zsq (zsq ?_)
 refine ZT 1 ?_
 refine Z0 ?_
 obtain ⟨e_, E1, H2⟩ := zbi H
 refine zjn (α := { y : Unit // e_ = .inl y }) (fun | ⟨_, _⟩ => ⟨noFr, noHp, 0⟩) ?_ ?_
 ·refine zbk ?_
  refine zlp (α := { q : Nat × Int // slices_IndexFunc_____string___string___sess_static_c1_L1 n s c2 q.1 q.2 = some e_ }) (fun | ⟨⟨c, t8⟩, _⟩ => ⟨upd 0 (.d (.sl (List.map (eL eS) s)) true) (upd 1 (.fn 90 [.d (.pt [.v (.int .i64 c2.kind), .v (.string c2.a), .v (.string c2.b), .v (.string c2.c), .v (.int .i64 c2.n_), .sl (List.map eS c2.l), .v (.int .i64 c2.at_)] 0) true]) (upd 7 (.v (.int .i64 (s.length : Int))) (upd 8 (.v (.int .i64 t8)) noFr))), noHp, 0⟩) (fun q => q.1.1) ⟨(n, 0), E1⟩ ?_ ?_
  ·exact ZR []
  ·rintro ⟨⟨c, t8⟩, L3⟩
   rcases c with _ | c
   ·exact Zx L3
   ·unfold slices_IndexFunc_____string___string___sess_static_c1_L1 at L3
    try dsimp only at L3
    refine ZT 1 ?_
    refine Z0 ?_
    rcases zit L3 with ⟨c16, H17⟩ | ⟨c16, H17⟩
    ·obtain ⟨x2, b18, H19⟩ := zbi H17
     obtain ⟨h20, h21⟩ := zix b18
     try simp only [Int.reduceToNat, Int.toNat_natCast] at h21
     have h22 := map_at (eL eS) h21
     obtain ⟨t162, b24, H25⟩ := zbi H19
     refine Z1 (Y3 c16 (zno .i64 h20) h22) ?_
     refine ZC0 (sess_static_c1_ok b24) ?_
     refine Z1 (Y3 c16 (zno .i64 h20) h22) ?_
     rcases zit H25 with ⟨c26, H27⟩ | ⟨c26, H27⟩
     ·refine Z1 (Y4 c16 (zno .i64 h20) h22 c26) ?_
      obtain rfl := Zi H27
      obtain rfl := Zi H2
      exact ZE0
     ·refine Z1 (Y4 c16 (zno .i64 h20) h22 c26) ?_
      exact ⟨⟨(c, (IntKind.i64.wrap (t8 + 1))), H27⟩, ZR [], Nat.lt_succ_self _⟩
    ·refine Z1 c16 ?_
     obtain rfl := Zi H17
     exact ⟨⟨(), rfl⟩, ZR []⟩
 ·rintro ⟨_, he28⟩
  obtain rfl := he28.symm
  try dsimp only at H2
  refine ZT 1 ?_
  refine Z0 ?_
  obtain rfl := Zi H2
  exact ZE0
def slices_ContainsFunc_____string___string___sess_static_c1 (n : Nat) (s : List (List ByteArray)) (c2 : GFact) : Option Bool :=
 (slices_IndexFunc_____string___string___sess_static_c1 n s c2).bind fun t7 =>
 some (decide (0 ≤ t7))
theorem slices_ContainsFunc_____string___string___sess_static_c1_ok {n : Nat} {s : List (List ByteArray)} {c2 : GFact} {r : Bool} (H : slices_ContainsFunc_____string___string___sess_static_c1 n s c2 = some r) : PureA Try.prog 89 [.d (D.sl (List.map (eL eS) s)), .fn 90 [D.pt (eGFact c2) 0]] (D.v (.bool r)) true := by
 unfold slices_ContainsFunc_____string___string___sess_static_c1 at H
 refine ZPA tab_ok fol (rs := #[.tmp 4]) Try.func89 ?_
 refine ZT 1 ?_
 obtain ⟨t7, b1, H2⟩ := zbi H
 refine Z0 ?_
 refine ZA0 (slices_IndexFunc_____string___string___sess_static_c1_ok b1) ?_
 refine Z0 ?_
 obtain rfl := Zi H2
 exact ZE0
def sess_static_L1 (n : Nat) (p : GRoles) (t13 : List ByteArray) : Nat → (List (List ByteArray) × Int) → Option (List (List ByteArray))
 | 0, _ => none
 | c + 1, (of, t15) =>
  (if (decide (t15 < (t13.length : Int))) then
   (idx t13 t15).bind fun x2 =>
   (sess_Roles n p x2).bind fun t222 =>
   (app of [t222]).bind fun l2 =>
   sess_static_L1 n p t13 c (l2, (IntKind.i64.wrap (t15 + 1)))
  else
   some of)
def sess_static_L1_f (n : Nat) (p : GRoles) (_ : List ByteArray) (st : List (List ByteArray)) (x2 : ByteArray) (k : List (List ByteArray) → Option (List (List ByteArray))) : Option (List (List ByteArray)) :=
 match st with
 | of =>
  (sess_Roles n p x2).bind fun t222 =>
  (app of [t222]).bind fun l2 =>
  k l2
def sess_static_L1_e (_ : Nat) (_ : GRoles) (_ : List ByteArray) (st : List (List ByteArray)) : Option (List (List ByteArray)) :=
 match st with
 | of => some of
theorem sess_static_L1_list (n : Nat) (p : GRoles) (t13 : List ByteArray) (hx : t13.length < 4611686018427387904) (c : Nat) (st : List (List ByteArray)) (ix : Nat) (hi : ix ≤ t13.length) (hc : t13.length - ix < c) : sess_static_L1 n p t13 c (match st, (ix : Int) with | of, ix => (of, ix)) = foldK (sess_static_L1_f n p t13) (sess_static_L1_e n p t13) (t13.drop ix) st :=
 loop_list (fun c st ix => sess_static_L1 n p t13 c (match st, ix with | of, ix => (of, ix))) t13 (sess_static_L1_f n p t13) (sess_static_L1_e n p t13) (fun _ _ _ => rfl) hx c st ix hi hc
def sess_static_L2 (n : Nat) (l : List GFact) (of3 : List (List ByteArray)) : Nat → Int → Option ((Unit) ⊕ (Int × Bool))
 | 0, _ => none
 | c + 1, t28 =>
  (if (decide (t28 < (l.length : Int))) then
   (idx l t28).bind fun x4 =>
   (if (x4.kind == 6) then
    (slices_ContainsFunc_____string___string___sess_static_c1 n of3 x4).bind fun t382 =>
    (if t382 then
     some (.inr (x4.at_, true))
    else
     sess_static_L2 n l of3 c (IntKind.i64.wrap (t28 + 1)))
   else
    sess_static_L2 n l of3 c (IntKind.i64.wrap (t28 + 1)))
  else
   some (.inl ()))
def sess_static_L2_f (n : Nat) (_ : List GFact) (of3 : List (List ByteArray)) (st : Unit) (x4 : GFact) (k : Unit → Option ((Unit) ⊕ (Int × Bool))) : Option ((Unit) ⊕ (Int × Bool)) :=
 match st with
 | _ =>
  (if (x4.kind == 6) then
   (slices_ContainsFunc_____string___string___sess_static_c1 n of3 x4).bind fun t382 =>
   (if t382 then
    some (.inr (x4.at_, true))
   else
    k ())
  else
   k ())
def sess_static_L2_e (_ : Nat) (_ : List GFact) (_ : List (List ByteArray)) (st : Unit) : Option ((Unit) ⊕ (Int × Bool)) :=
 match st with
 | _ => some (.inl ())
theorem sess_static_L2_list (n : Nat) (l : List GFact) (of3 : List (List ByteArray)) (hx : l.length < 4611686018427387904) (c : Nat) (st : Unit) (ix : Nat) (hi : ix ≤ l.length) (hc : l.length - ix < c) : sess_static_L2 n l of3 c (match st, (ix : Int) with | _, ix => ix) = foldK (sess_static_L2_f n l of3) (sess_static_L2_e n l of3) (l.drop ix) st :=
 loop_list (fun c st ix => sess_static_L2 n l of3 c (match st, ix with | _, ix => ix)) l (sess_static_L2_f n l of3) (sess_static_L2_e n l of3) (fun _ _ _ => rfl) hx c st ix hi hc
def sess_static (n : Nat) (l : List GFact) (p : GRoles) : Option (Int × Bool) :=
 (norm_Once n p.users).bind fun t13 =>
 (
  sess_static_L1 n p t13 n ([], 0) : Option (List (List ByteArray))).bind fun of3 =>
 (
  sess_static_L2 n l of3 n 0 : Option ((Unit) ⊕ (Int × Bool))).bind fun
  | .inl _ =>
   some (0, false)
  | .inr r => some r
theorem sess_static_ok {n : Nat} {l : List GFact} {p : GRoles} {r : Int × Bool} (H : sess_static n l p = some r) : PureOK Try.prog 61 [D.sl (List.map eGFact l), D.ag (eGRoles p)] (D.tu [D.v (.int .i64 r.1), D.v (.bool r.2)]) true := by
 unfold sess_static at H
 refine ZP tab_ok fol (rs := #[.tmp 4, .tmp 5]) Try.func61 ?_
 refine zsq (ZT 1 ?_)
 refine Z0 ?_
 refine zsq (ZT 1 ?_)
 refine Z0 ?_
 refine zsq (zsq ?_)
 refine ZT 1 ?_
 obtain ⟨t13, b1, H2⟩ := zbi H
 refine Z0 ?_
 refine ZC0 (norm_Once_ok b1) ?_
 refine Z0 ?_
 obtain ⟨e_, E3, H4⟩ := zbi H2
 refine zjn (α := { y : List (List ByteArray) // e_ = y } × Nat) (fun | ⟨⟨of3, _⟩, g3⟩ => ⟨upd 0 (.d (.sl (List.map eGFact l)) true) (upd 6 (accV 0 g3 (List.map (eL eS) of3)) noFr), upd 0 (accO 1 g3 false (List.map (eL eS) of3)) noHp, 1⟩) ?_ ?_
 ·refine zbk ?_
  refine zlp (α := { q : (Nat × (List (List ByteArray) × Int)) × Nat // sess_static_L1 n p t13 q.1.1 q.1.2 = some e_ }) (fun | ⟨⟨⟨c, ⟨of, t15⟩⟩, g⟩, _⟩ => ⟨upd 0 (.d (.sl (List.map eGFact l)) true) (upd 3 (.pt 0 0) (upd 6 (accV 1 g (List.map (eL eS) of)) (upd 13 (.d (.sl (List.map eS t13)) false) (upd 14 (.v (.int .i64 (t13.length : Int))) (upd 15 (.v (.int .i64 t15)) noFr))))), upd 0 (some (.bx [.d (.sl (List.map eS p.users)) true, .d (.sl (List.map eS p.roles)) true, .d (.sl (List.map eGPair p.inherit)) true, .d (.sl (List.map eGPair p.assign)) true, .d (.sl (List.map eGGrant p.grants)) true, .d (.sl (List.map eGSod p.ssd)) true, .d (.sl (List.map eGSod p.dsd)) true, .d (.sl (List.map eGSession p.sessions)) true])) (upd 1 (accO 1 g false (List.map (eL eS) of)) noHp), 2⟩) (fun q => q.1.1.1) ⟨((n, ([], 0)), 0), E3⟩ ?_ ?_
  ·exact ZR [(0, 0)]
  ·rintro ⟨⟨⟨c, ⟨of, t15⟩⟩, g⟩, L5⟩
   rcases c with _ | c
   ·exact Zx L5
   ·unfold sess_static_L1 at L5
    try dsimp only at L5
    refine ZT 1 ?_
    refine Z0 ?_
    rcases zit L5 with ⟨c16, H17⟩ | ⟨c16, H17⟩
    ·obtain ⟨x2, b18, H19⟩ := zbi H17
     obtain ⟨h20, h21⟩ := zix b18
     try simp only [Int.reduceToNat, Int.toNat_natCast] at h21
     have h22 := map_at eS h21
     obtain ⟨t222, b24, H25⟩ := zbi H19
     refine Z1 (Y3 c16 (zno .i64 h20) h22) ?_
     refine ZC0 (sess_Roles_ok b24) ?_
     obtain ⟨l2, b26, H27⟩ := zbi H25
     obtain ⟨h28, h29⟩ := app_inv b26
     have h28 : of.length + 1 ≤ 4294967296 := h28
     have h30 : List.map (eL eS) of ++ [[.sl (List.map eS t222)]] = List.map (eL eS) l2 := app_map (eL eS) h29
     have h31 : of.length + 1 = l2.length := app_len h29
     have h32 : l2.length ≤ 4294967296 := by omega
     have q33 : 0 < l2.length := by omega
     refine Z1 (Y2 (Y6 c16 (zno .i64 h20) h22 h28 h30 h31) h32) ?_
     rcases of with _ | ⟨q0, q1⟩
     ·try simp only [List.map_nil, accI, accN]
      exact ⟨⟨((c, (l2, (IntKind.i64.wrap (t15 + 1)))), 0), H27⟩, ZR [(0, 0), (1, 11)], Nat.lt_succ_self _⟩
     ·try simp only [List.map_cons, accI, accN]
      exact ⟨⟨((c, (l2, (IntKind.i64.wrap (t15 + 1)))), (g + 1)), H27⟩, ZR [(0, 0), (1, 1)], Nat.lt_succ_self _⟩
    ·refine Z1 c16 ?_
     obtain rfl := Zi H17
     exact ⟨⟨⟨of, rfl⟩, g⟩, ZR [(0, 1)]⟩
 ·rintro ⟨⟨of3, he66⟩, g3⟩
  obtain rfl := he66.symm
  try dsimp only at H4
  refine zsq (zsq ?_)
  refine ZT 1 ?_
  refine Z0 ?_
  obtain ⟨e_2, E34, H35⟩ := zbi H4
  refine zjn (α := { y : Unit // e_2 = .inl y }) (fun | ⟨_, _⟩ => ⟨noFr, noHp, 0⟩) ?_ ?_
  ·refine zbk ?_
   refine zlp (α := { q : (Nat × Int) × Nat // sess_static_L2 n l of3 q.1.1 q.1.2 = some e_2 }) (fun | ⟨⟨⟨c, t28⟩, g5⟩, _⟩ => ⟨upd 6 (accV 0 g5 (List.map (eL eS) of3)) (upd 26 (.d (.sl (List.map eGFact l)) true) (upd 27 (.v (.int .i64 (l.length : Int))) (upd 28 (.v (.int .i64 t28)) noFr))), upd 0 (accO 1 g5 false (List.map (eL eS) of3)) noHp, 1⟩) (fun q => q.1.1.1) ⟨((n, 0), g3), E34⟩ ?_ ?_
   ·exact ZR [(0, 0)]
   ·rintro ⟨⟨⟨c, t28⟩, g5⟩, L36⟩
    rcases c with _ | c
    ·exact Zx L36
    ·unfold sess_static_L2 at L36
     try dsimp only at L36
     refine ZT 1 ?_
     refine Z0 ?_
     rcases zit L36 with ⟨c51, H52⟩ | ⟨c51, H52⟩
     ·obtain ⟨x4, b53, H54⟩ := zbi H52
      obtain ⟨h55, h56⟩ := zix b53
      try simp only [Int.reduceToNat, Int.toNat_natCast] at h56
      have h57 := map_at eGFact h56
      refine Z1 (Y3 c51 (zno .i64 h55) h57) ?_
      rcases zit H54 with ⟨c59, H60⟩ | ⟨c59, H60⟩
      ·obtain ⟨t382, b61, H62⟩ := zbi H60
       refine Z1 (Y4 c51 (zno .i64 h55) h57 c59) ?_
       refine ZA1 (Y4 c51 (zno .i64 h55) h57 c59) (slices_ContainsFunc_____string___string___sess_static_c1_ok b61) ?_
       refine Z1 (Y4 c51 (zno .i64 h55) h57 c59) ?_
       rcases zit H62 with ⟨c63, H64⟩ | ⟨c63, H64⟩
       ·refine Z1 (Y5 c51 (zno .i64 h55) h57 c59 c63) ?_
        obtain rfl := Zi H64
        obtain rfl := Zi H35
        exact ZE0
       ·refine Z1 (Y5 c51 (zno .i64 h55) h57 c59 c63) ?_
        exact ⟨⟨((c, (IntKind.i64.wrap (t28 + 1))), g5), H64⟩, ZR [(0, 0)], Nat.lt_succ_self _⟩
      ·refine Z1 (Y4 c51 (zno .i64 h55) h57 c59) ?_
       exact ⟨⟨((c, (IntKind.i64.wrap (t28 + 1))), g5), H60⟩, ZR [(0, 0)], Nat.lt_succ_self _⟩
     ·refine Z1 c51 ?_
      obtain rfl := Zi H52
      exact ⟨⟨(), rfl⟩, ZR []⟩
  ·rintro ⟨_, he65⟩
   obtain rfl := he65.symm
   try dsimp only at H35
   refine ZT 1 ?_
   refine Z0 ?_
   obtain rfl := Zi H35
   exact ZE0
def sess_session_L1 (n : Nat) (p : GRoles) (t25 : List ByteArray) : Nat → Int → Option ((Unit) ⊕ Int)
 | 0, _ => none
 | c + 1, t29 =>
  (if (decide (t29 < (p.dsd.length : Int))) then
   (idx p.dsd t29).bind fun x2 =>
   (sess_common n x2.roles t25).bind fun t362 =>
   (if (decide (x2.n_ ≤ t362)) then
    some (.inr 19)
   else
    sess_session_L1 n p t25 c (IntKind.i64.wrap (t29 + 1)))
  else
   some (.inl ()))
def sess_session_L1_f (n : Nat) (_ : GRoles) (t25 : List ByteArray) (st : Unit) (x2 : GSod) (k : Unit → Option ((Unit) ⊕ Int)) : Option ((Unit) ⊕ Int) :=
 match st with
 | _ =>
  (sess_common n x2.roles t25).bind fun t362 =>
  (if (decide (x2.n_ ≤ t362)) then
   some (.inr 19)
  else
   k ())
def sess_session_L1_e (_ : Nat) (_ : GRoles) (_ : List ByteArray) (st : Unit) : Option ((Unit) ⊕ Int) :=
 match st with
 | _ => some (.inl ())
theorem sess_session_L1_list (n : Nat) (p : GRoles) (t25 : List ByteArray) (hx : p.dsd.length < 4611686018427387904) (c : Nat) (st : Unit) (ix : Nat) (hi : ix ≤ p.dsd.length) (hc : p.dsd.length - ix < c) : sess_session_L1 n p t25 c (match st, (ix : Int) with | _, ix => ix) = foldK (sess_session_L1_f n p t25) (sess_session_L1_e n p t25) (p.dsd.drop ix) st :=
 loop_list (fun c st ix => sess_session_L1 n p t25 c (match st, ix with | _, ix => ix)) p.dsd (sess_session_L1_f n p t25) (sess_session_L1_e n p t25) (fun _ _ _ => rfl) hx c st ix hi hc
def sess_session (n : Nat) (f : GFact) (p : GRoles) : Option Int :=
 (sess_Roles n p f.b).bind fun t12 =>
 (sess_common n f.l t12).bind fun t16 =>
 (norm_Once n f.l).bind fun t19 =>
 (if (decide (t16 < (t19.length : Int))) then
  some 18
 else
  (sess_Active n p f.a).bind fun t25 =>
  (
   sess_session_L1 n p t25 n 0 : Option ((Unit) ⊕ Int)).bind fun
   | .inl _ =>
    some 0
   | .inr r => some r)
theorem sess_session_ok {n : Nat} {f : GFact} {p : GRoles} {r : Int} (H : sess_session n f p = some r) : PureOK Try.prog 62 [D.ag (eGFact f), D.ag (eGRoles p)] (D.v (.int .i64 r)) true := by
 unfold sess_session at H
 refine ZP tab_ok fol (rs := #[.tmp 4]) Try.func62 ?_
 refine zsq (ZT 1 ?_)
 refine Z0 ?_
 refine zsq (ZT 1 ?_)
 obtain ⟨t12, b1, H2⟩ := zbi H
 refine Z0 ?_
 refine ZC0 (sess_Roles_ok b1) ?_
 refine Z0 ?_
 refine zsq (ZT 1 ?_)
 obtain ⟨t16, b3, H4⟩ := zbi H2
 refine Z0 ?_
 refine ZD0 (sess_common_ok b3) ?_
 obtain ⟨t19, b5, H6⟩ := zbi H4
 refine Z0 ?_
 refine ZD0 (norm_Once_ok b5) ?_
 refine Z0 ?_
 refine Rd_endF (by rfl) ?_
 refine Z0 ?_
 rcases zit H6 with ⟨c7, H8⟩ | ⟨c7, H8⟩
 ·refine Z1 c7 ?_
  obtain rfl := Zi H8
  exact ZE0
 ·refine Z1 c7 ?_
  refine zsq (ZT 1 ?_)
  obtain ⟨t25, b9, H10⟩ := zbi H8
  refine Z1 c7 ?_
  refine ZC0 (sess_Active_ok b9) ?_
  refine Z1 c7 ?_
  refine zsq (zsq ?_)
  refine ZT 1 ?_
  refine Z1 c7 ?_
  obtain ⟨e_, E11, H12⟩ := zbi H10
  refine zjn (α := { y : Unit // e_ = .inl y }) (fun | ⟨_, _⟩ => ⟨noFr, noHp, 0⟩) ?_ ?_
  ·refine zbk ?_
   refine zlp (α := { q : Nat × Int // sess_session_L1 n p t25 q.1 q.2 = some e_ }) (fun | ⟨⟨c, t29⟩, _⟩ => ⟨upd 6 (.d (.sl (List.map eS t25)) false) (upd 27 (.d (.sl (List.map eGSod p.dsd)) true) (upd 28 (.v (.int .i64 (p.dsd.length : Int))) (upd 29 (.v (.int .i64 t29)) noFr))), noHp, 0⟩) (fun q => q.1.1) ⟨(n, 0), E11⟩ ?_ ?_
   ·exact ZR []
   ·rintro ⟨⟨c, t29⟩, L13⟩
    rcases c with _ | c
    ·exact Zx L13
    ·unfold sess_session_L1 at L13
     try dsimp only at L13
     refine ZT 1 ?_
     refine Z0 ?_
     rcases zit L13 with ⟨c26, H27⟩ | ⟨c26, H27⟩
     ·obtain ⟨x2, b28, H29⟩ := zbi H27
      obtain ⟨h30, h31⟩ := zix b28
      try simp only [Int.reduceToNat, Int.toNat_natCast] at h31
      have h32 := map_at eGSod h31
      obtain ⟨t362, b34, H35⟩ := zbi H29
      refine Z1 (Y3 c26 (zno .i64 h30) h32) ?_
      refine ZD0 (sess_common_ok b34) ?_
      refine Z1 (Y3 c26 (zno .i64 h30) h32) ?_
      refine Rd_endF (by rfl) ?_
      refine Z1 (Y3 c26 (zno .i64 h30) h32) ?_
      rcases zit H35 with ⟨c36, H37⟩ | ⟨c36, H37⟩
      ·refine Z1 (Y4 c26 (zno .i64 h30) h32 c36) ?_
       obtain rfl := Zi H37
       obtain rfl := Zi H12
       exact ZE0
      ·refine Z1 (Y4 c26 (zno .i64 h30) h32 c36) ?_
       exact ⟨⟨(c, (IntKind.i64.wrap (t29 + 1))), H37⟩, ZR [], Nat.lt_succ_self _⟩
     ·refine Z1 c26 ?_
      obtain rfl := Zi H27
      exact ⟨⟨(), rfl⟩, ZR []⟩
  ·rintro ⟨_, he38⟩
   obtain rfl := he38.symm
   try dsimp only at H12
   refine ZT 1 ?_
   refine Z0 ?_
   obtain rfl := Zi H12
   exact ZE0
end Go.Proofs.Ytkkhgdmmbhpckaa.Ab
