/-
 Functions, read off the code.
-/
import Derived.Test.YtkkhgdmmbhpckaaGreatNxb
namespace Go.Proofs.YtkkhgdmmbhpckaaGreat.Ab
open Go.RowKit
def jP_ (n : Nat) (t0 : List GFact) (t3 : Int) : Nat → Int → Option ((Unit) ⊕ Bool)
 | 0, _ => none
 | c + 1, t43 =>
  (idx t0 t3).bind fun x9 =>
  (if (decide (t43 < (x9.l.length : Int))) then
   (idx x9.l t43).bind fun x10 =>
   (if (decide (60 < (x10.size : Int))) then
    some (.inr false)
   else
    jP_ n t0 t3 c (IntKind.i64.wrap (t43 + 1)))
  else
   some (.inl ()))
def jQ_ (n : Nat) (t0 : List GFact) : Nat → Int → Option ((Unit) ⊕ Bool)
 | 0, _ => none
 | c + 1, t3 =>
  (if (decide (t3 < (t0.length : Int))) then
   (
    (idx t0 t3).bind fun x6 =>
    (if (decide (200 < (IntKind.i64.wrap ((IntKind.i64.wrap ((x6.a.size : Int) + (x6.b.size : Int))) + (x6.c.size : Int))))) then
     some true
    else
     (if (decide (10 < (x6.l.length : Int))) then
      some true
     else
      (if (decide (x6.n_ < 0)) then
       some true
      else
       some (decide (99 < x6.n_))))) : Option (Bool)).bind fun t592 =>
   (if t592 then
    some (.inr false)
   else
    (
     jP_ n t0 t3 n 0 : Option ((Unit) ⊕ Bool)).bind fun
     | .inl _ =>
      jQ_ n t0 c (IntKind.i64.wrap (t3 + 1))
     | .inr r => some (.inr r))
  else
   some (.inl ()))
def z4_ (n : Nat) (t0 : List GFact) : Option Bool :=
 (if (decide (40 < (t0.length : Int))) then
  some false
 else
  (
   jQ_ n t0 n 0 : Option ((Unit) ⊕ Bool)).bind fun
   | .inl _ =>
    some true
   | .inr r => some r)
theorem uI_ {n : Nat} {t0 : List GFact} {r : Bool} (H : z4_ n t0 = some r) : PureOK Tryz.prog 11 [D.sl (List.map eGFact t0)] (D.v (.bool r)) true := by
 unfold z4_ at H;refine ZP qo_ fol (rs := #[.tmp 2]) Tryz.func11 ?_;refine zsq (ZT 1 ?_);refine Z0 ?_;refine zsq (ZT 1 ?_);refine Z0 ?_;rcases zit H with ⟨c1, H2⟩ | ⟨c1, H2⟩
 ·refine Z1 c1 ?_
  obtain rfl := Zi H2;exact ZE0
 ·refine Z1 c1 ?_
  refine zsq (zsq ?_);refine ZT 1 ?_;refine Z1 c1 ?_;obtain ⟨e_, E3, H4⟩ := zbi H2;refine zjn (α := { y : Unit // e_ = .inl y }) (fun | ⟨_, _⟩ => ⟨noFr, noHp, 0⟩) ?_ ?_
  ·refine zbk ?_
   refine zlp (α := { q : Nat × Int // jQ_ n t0 q.1 q.2 = some e_ }) (fun | ⟨⟨c, t3⟩, _⟩ => ⟨upd 0 (.d (.sl (List.map eGFact t0)) true) (upd 3 (.v (.int .i64 t3)) noFr), noHp, 0⟩) (fun q => q.1.1) ⟨(n, 0), E3⟩ ?_ ?_
   ·exact ZR []
   ·rintro ⟨⟨c, t3⟩, L5⟩
    rcases c with _ | c
    ·exact Zx L5
    ·unfold jQ_ at L5
     try dsimp only at L5
     refine zsq (ZT 1 ?_);refine Z0 ?_;rcases zit L5 with ⟨c61, H62⟩ | ⟨c61, H62⟩
     ·refine Z1 c61 ?_
      refine zsq (zbk ?_);refine zsq (zsq ?_);obtain ⟨e_4, E63, H64⟩ := zbi H62;refine zjn (α := { y : Bool // e_4 = y }) (fun | ⟨t592, _⟩ => ⟨upd 0 (.d (.sl (List.map eGFact t0)) true) (upd 3 (.v (.int .i64 t3)) (upd 59 (.v (.bool t592)) noFr)), noHp, 0⟩) ?_ ?_
      ·refine ZT 1 ?_
       obtain ⟨x6, b65, H66⟩ := zbi E63;obtain ⟨h67, h68⟩ := zix b65;try simp only [Int.reduceToNat, Int.toNat_natCast] at h68
       have h69 := qi_ eGFact h68;refine Z1 (Y2 (zno .i64 h67) h69) ?_;rcases zit H66 with ⟨c71, H72⟩ | ⟨c71, H72⟩
       ·refine Z1 (Y3 (zno .i64 h67) h69 c71) ?_
        refine qf_ (by kernel_rfl) ?_;refine Z1 (Y3 (zno .i64 h67) h69 c71) ?_;obtain rfl := Zi H72;exact ⟨⟨true, rfl⟩, ZR []⟩
       ·refine Z1 (Y3 (zno .i64 h67) h69 c71) ?_
        rcases zit H72 with ⟨c73, H74⟩ | ⟨c73, H74⟩
        ·refine Z1 (Y4 (zno .i64 h67) h69 c71 c73) ?_
         refine qf_ (by kernel_rfl) ?_;refine Z1 (Y4 (zno .i64 h67) h69 c71 c73) ?_;obtain rfl := Zi H74;exact ⟨⟨true, rfl⟩, ZR []⟩
        ·refine Z1 (Y4 (zno .i64 h67) h69 c71 c73) ?_
         rcases zit H74 with ⟨c75, H76⟩ | ⟨c75, H76⟩
         ·refine Z1 (Y5 (zno .i64 h67) h69 c71 c73 c75) ?_
          refine qf_ (by kernel_rfl) ?_;refine Z1 (Y5 (zno .i64 h67) h69 c71 c73 c75) ?_;obtain rfl := Zi H76;exact ⟨⟨true, rfl⟩, ZR []⟩
         ·refine Z1 (Y5 (zno .i64 h67) h69 c71 c73 c75) ?_
          refine qf_ (by kernel_rfl) ?_;refine Z1 (Y5 (zno .i64 h67) h69 c71 c73 c75) ?_;obtain rfl := Zi H76;exact ⟨⟨(decide (99 < x6.n_)), rfl⟩, ZR []⟩
      ·rintro ⟨t592, he115⟩
       obtain rfl := he115.symm;try dsimp only at H64
       refine ZT 1 ?_;refine Z0 ?_;rcases zit H64 with ⟨c77, H78⟩ | ⟨c77, H78⟩
       ·refine Z1 c77 ?_
        obtain rfl := Zi H78;obtain rfl := Zi H4;exact ZE0
       ·refine Z1 c77 ?_
        refine zsq (ZT 1 ?_);refine Z1 c77 ?_;obtain ⟨e_5, E79, H80⟩ := zbi H78;refine zjn (α := { y : Unit // e_5 = .inl y }) (fun | ⟨_, _⟩ => ⟨upd 0 (.d (.sl (List.map eGFact t0)) true) (upd 3 (.v (.int .i64 t3)) noFr), noHp, 0⟩) ?_ ?_
        ·refine zbk ?_
         refine zlp (α := { q : Nat × Int // jP_ n t0 t3 q.1 q.2 = some e_5 }) (fun | ⟨⟨c, t43⟩, _⟩ => ⟨upd 0 (.d (.sl (List.map eGFact t0)) true) (upd 3 (.v (.int .i64 t3)) (upd 4 (.v (.int .i64 t43)) noFr)), noHp, 0⟩) (fun q => q.1.1) ⟨(n, 0), E79⟩ ?_ ?_
         ·exact ZR []
         ·rintro ⟨⟨c, t43⟩, L81⟩
          rcases c with _ | c
          ·exact Zx L81
          ·unfold jP_ at L81
           try dsimp only at L81
           refine ZT 1 ?_;obtain ⟨x9, b98, H99⟩ := zbi L81;obtain ⟨h100, h101⟩ := zix b98;try simp only [Int.reduceToNat, Int.toNat_natCast] at h101
           have h102 := qi_ eGFact h101;refine Z1 (Y2 (zno .i64 h100) h102) ?_;rcases zit H99 with ⟨c104, H105⟩ | ⟨c104, H105⟩
           ·obtain ⟨x10, b106, H107⟩ := zbi H105
            obtain ⟨h108, h109⟩ := zix b106;try simp only [Int.reduceToNat, Int.toNat_natCast] at h109
            have h110 := qi_ eS h109;refine Z1 (Y5 (zno .i64 h100) h102 c104 (zno .i64 h108) h110) ?_;rcases zit H107 with ⟨c112, H113⟩ | ⟨c112, H113⟩
            ·refine Z1 (Y6 (zno .i64 h100) h102 c104 (zno .i64 h108) h110 c112) ?_
             obtain rfl := Zi H113;obtain rfl := Zi H80;obtain rfl := Zi H4;exact ZE0
            ·refine Z1 (Y6 (zno .i64 h100) h102 c104 (zno .i64 h108) h110 c112) ?_
             exact ⟨⟨(c, (IntKind.i64.wrap (t43 + 1))), H113⟩, ZR [], Nat.lt_succ_self _⟩
           ·refine Z1 (Y3 (zno .i64 h100) h102 c104) ?_
            obtain rfl := Zi H105;exact ⟨⟨(), rfl⟩, ZR []⟩
        ·rintro ⟨_, he114⟩
         obtain rfl := he114.symm;try dsimp only at H80
         refine Z0 ?_;refine ZT 1 ?_;refine Z0 ?_;exact ⟨⟨(c, (IntKind.i64.wrap (t3 + 1))), H80⟩, ZR [], Nat.lt_succ_self _⟩
     ·refine Z1 c61 ?_
      obtain rfl := Zi H62;exact ⟨⟨(), rfl⟩, ZR []⟩
  ·rintro ⟨_, he116⟩
   obtain rfl := he116.symm;try dsimp only at H4
   refine ZT 1 ?_;refine Z0 ?_;obtain rfl := Zi H4;exact ZE0
def qR_ (n : Nat) (t0 : List GFact) : Nat → (List ByteArray × List ByteArray × List GPair × List GPair × List GGrant × List GSod × List GSod × List GSession × Int) → Option (List ByteArray × List ByteArray × List GPair × List GPair × List GGrant × List GSod × List GSod × List GSession)
 | 0, _ => none
 | c + 1, (t30, t31, t32, t33, t34, t35, t36, t37, t4) =>
  (if (decide (t4 < (t0.length : Int))) then
   (idx t0 t4).bind fun x2 =>
   (if (x2.kind == 1) then
    (app t30 [x2.a]).bind fun l4 =>
    qR_ n t0 c (l4, t31, t32, t33, t34, t35, t36, t37, (IntKind.i64.wrap (t4 + 1)))
   else
    (if (x2.kind == 2) then
     (app t31 [x2.a]).bind fun l5 =>
     qR_ n t0 c (t30, l5, t32, t33, t34, t35, t36, t37, (IntKind.i64.wrap (t4 + 1)))
    else
     (if (x2.kind == 3) then
      (app t32 [(⟨x2.a, x2.b⟩ : GPair)]).bind fun l6 =>
      qR_ n t0 c (t30, t31, l6, t33, t34, t35, t36, t37, (IntKind.i64.wrap (t4 + 1)))
     else
      (if (x2.kind == 4) then
       (app t33 [(⟨x2.a, x2.b⟩ : GPair)]).bind fun l7 =>
       qR_ n t0 c (t30, t31, t32, l7, t34, t35, t36, t37, (IntKind.i64.wrap (t4 + 1)))
      else
       (if (x2.kind == 5) then
        (app t34 [(⟨x2.a, x2.b, x2.c⟩ : GGrant)]).bind fun l8 =>
        qR_ n t0 c (t30, t31, t32, t33, l8, t35, t36, t37, (IntKind.i64.wrap (t4 + 1)))
       else
        (if (x2.kind == 6) then
         (app [] x2.l).bind fun l9 =>
         (app t35 [(⟨x2.a, x2.n_, x2.l⟩ : GSod)]).bind fun l10 =>
         qR_ n t0 c (t30, t31, t32, t33, t34, l10, t36, t37, (IntKind.i64.wrap (t4 + 1)))
        else
         (if (x2.kind == 7) then
          (app [] x2.l).bind fun l11 =>
          (app t36 [(⟨x2.a, x2.n_, x2.l⟩ : GSod)]).bind fun l12 =>
          qR_ n t0 c (t30, t31, t32, t33, t34, t35, l12, t37, (IntKind.i64.wrap (t4 + 1)))
         else
          (if (x2.kind == 8) then
           (app [] x2.l).bind fun l13 =>
           (app t37 [(⟨x2.a, x2.b, x2.l⟩ : GSession)]).bind fun l14 =>
           qR_ n t0 c (t30, t31, t32, t33, t34, t35, t36, l14, (IntKind.i64.wrap (t4 + 1)))
          else
           qR_ n t0 c (t30, t31, t32, t33, t34, t35, t36, t37, (IntKind.i64.wrap (t4 + 1)))))))))))
  else
   some (t30, t31, t32, t33, t34, t35, t36, t37))
def x5_ (n : Nat) (t0 : List GFact) (st : List ByteArray × List ByteArray × List GPair × List GPair × List GGrant × List GSod × List GSod × List GSession) (x2 : GFact) (k : (List ByteArray × List ByteArray × List GPair × List GPair × List GGrant × List GSod × List GSod × List GSession) → Option (List ByteArray × List ByteArray × List GPair × List GPair × List GGrant × List GSod × List GSod × List GSession)) : Option (List ByteArray × List ByteArray × List GPair × List GPair × List GGrant × List GSod × List GSod × List GSession) :=
 match st with
 | (t30, t31, t32, t33, t34, t35, t36, t37) =>
  (if (x2.kind == 1) then
   (app t30 [x2.a]).bind fun l4 =>
   k (l4, t31, t32, t33, t34, t35, t36, t37)
  else
   (if (x2.kind == 2) then
    (app t31 [x2.a]).bind fun l5 =>
    k (t30, l5, t32, t33, t34, t35, t36, t37)
   else
    (if (x2.kind == 3) then
     (app t32 [(⟨x2.a, x2.b⟩ : GPair)]).bind fun l6 =>
     k (t30, t31, l6, t33, t34, t35, t36, t37)
    else
     (if (x2.kind == 4) then
      (app t33 [(⟨x2.a, x2.b⟩ : GPair)]).bind fun l7 =>
      k (t30, t31, t32, l7, t34, t35, t36, t37)
     else
      (if (x2.kind == 5) then
       (app t34 [(⟨x2.a, x2.b, x2.c⟩ : GGrant)]).bind fun l8 =>
       k (t30, t31, t32, t33, l8, t35, t36, t37)
      else
       (if (x2.kind == 6) then
        (app [] x2.l).bind fun l9 =>
        (app t35 [(⟨x2.a, x2.n_, x2.l⟩ : GSod)]).bind fun l10 =>
        k (t30, t31, t32, t33, t34, l10, t36, t37)
       else
        (if (x2.kind == 7) then
         (app [] x2.l).bind fun l11 =>
         (app t36 [(⟨x2.a, x2.n_, x2.l⟩ : GSod)]).bind fun l12 =>
         k (t30, t31, t32, t33, t34, t35, l12, t37)
        else
         (if (x2.kind == 8) then
          (app [] x2.l).bind fun l13 =>
          (app t37 [(⟨x2.a, x2.b, x2.l⟩ : GSession)]).bind fun l14 =>
          k (t30, t31, t32, t33, t34, t35, t36, l14)
         else
          k (t30, t31, t32, t33, t34, t35, t36, t37)))))))))
def zC_ (n : Nat) (t0 : List GFact) (st : List ByteArray × List ByteArray × List GPair × List GPair × List GGrant × List GSod × List GSod × List GSession) : Option (List ByteArray × List ByteArray × List GPair × List GPair × List GGrant × List GSod × List GSod × List GSession) :=
 match st with
 | (t30, t31, t32, t33, t34, t35, t36, t37) => some (t30, t31, t32, t33, t34, t35, t36, t37)
theorem yl_ (n : Nat) (t0 : List GFact) (hx : t0.length < 4611686018427387904) (c : Nat) (st : List ByteArray × List ByteArray × List GPair × List GPair × List GGrant × List GSod × List GSod × List GSession) (ix : Nat) (hi : ix ≤ t0.length) (hc : t0.length - ix < c) : qR_ n t0 c (match st, (ix : Int) with | (t30, t31, t32, t33, t34, t35, t36, t37), ix => (t30, t31, t32, t33, t34, t35, t36, t37, ix)) = jg_ (x5_ n t0) (zC_ n t0) (t0.drop ix) st :=
 q0_ (fun c st ix => qR_ n t0 c (match st, ix with | (t30, t31, t32, t33, t34, t35, t36, t37), ix => (t30, t31, t32, t33, t34, t35, t36, t37, ix))) t0 (x5_ n t0) (zC_ n t0) (fun _ _ _ => rfl) hx c st ix hi hc
def ve_ (n : Nat) (t0 : List GFact) : Option GRoles :=
 (
  qR_ n t0 n ([], [], [], [], [], [], [], [], 0) : Option (List ByteArray × List ByteArray × List GPair × List GPair × List GGrant × List GSod × List GSod × List GSession)).bind fun (t303, t313, t323, t333, t343, t353, t363, t373) =>
 some (⟨t303, t313, t323, t333, t343, t353, t363, t373⟩ : GRoles)
set_option maxHeartbeats 8000000 in
theorem uo_ {n : Nat} {t0 : List GFact} {r : GRoles} (H : ve_ n t0 = some r) : PureOK Tryz.prog 13 [D.sl (List.map eGFact t0)] (D.ag (eGRoles r)) true := by
 unfold ve_ at H;refine ZP qo_ fol (rs := #[.cell 2 29]) Tryz.func13 ?_;refine zsq (ZT 1 ?_);refine Z0 ?_;refine zsq (ZT 1 ?_);refine Z0 ?_;refine zsq (zsq ?_);refine ZT 1 ?_;refine Z0 ?_;obtain ⟨e_, E1, H2⟩ := zbi H
 refine zjn (α := { y : List ByteArray × List ByteArray × List GPair × List GPair × List GGrant × List GSod × List GSod × List GSession // e_ = y } × Nat × Nat × Nat × Nat × Nat × Nat × Nat × Nat) (fun | ⟨⟨⟨t303, t313, t323, t333, t343, t353, t363, t373⟩, _⟩, ⟨g17, g18, g19, g20, g21, g22, g23, g24⟩⟩ => ⟨upd 2 (.pt 0 0) (upd 3 (.pt 1 0) noFr), upd 0 (some (.bx [.v (.slice none 0 0), .v (.slice none 0 0), .v (.slice none 0 0), .v (.slice none 0 0), .v (.slice none 0 0), .v (.slice none 0 0), .v (.slice none 0 0), .v (.slice none 0 0)])) (upd 1 (some (.bx [accV 2 g17 (List.map eS t303), accV 3 g18 (List.map eS t313), accV 4 g19 (List.map eGPair t323), accV 5 g20 (List.map eGPair t333), accV 6 g21 (List.map eGGrant t343), accV 7 g22 (List.map eGSod t353), accV 8 g23 (List.map eGSod t363), accV 9 g24 (List.map eGSession t373)])) (upd 2 (accO 1 g17 false (List.map eS t303)) (upd 3 (accO 1 g18 false (List.map eS t313)) (upd 4 (accO 2 g19 false (List.map eGPair t323)) (upd 5 (accO 2 g20 false (List.map eGPair t333)) (upd 6 (accO 3 g21 false (List.map eGGrant t343)) (upd 7 (accO 3 g22 false (List.map eGSod t353)) (upd 8 (accO 3 g23 false (List.map eGSod t363)) (upd 9 (accO 3 g24 false (List.map eGSession t373)) noHp))))))))), 10⟩) ?_ ?_
 ·refine zbk ?_
  refine zlp (α := { q : (Nat × (List ByteArray × List ByteArray × List GPair × List GPair × List GGrant × List GSod × List GSod × List GSession × Int)) × Nat × Nat × Nat × Nat × Nat × Nat × Nat × Nat // qR_ n t0 q.1.1 q.1.2 = some e_ }) (fun | ⟨⟨⟨c, ⟨t30, t31, t32, t33, t34, t35, t36, t37, t4⟩⟩, ⟨g, g2, g3, g4, g5, g6, g7, g8⟩⟩, _⟩ => ⟨upd 0 (.d (.sl (List.map eGFact t0)) true) (upd 2 (.pt 0 0) (upd 3 (.pt 1 0) (upd 4 (.v (.int .i64 t4)) noFr))), upd 0 (some (.bx [.v (.slice none 0 0), .v (.slice none 0 0), .v (.slice none 0 0), .v (.slice none 0 0), .v (.slice none 0 0), .v (.slice none 0 0), .v (.slice none 0 0), .v (.slice none 0 0)])) (upd 1 (some (.bx [accV 2 g (List.map eS t30), accV 3 g2 (List.map eS t31), accV 4 g3 (List.map eGPair t32), accV 5 g4 (List.map eGPair t33), accV 6 g5 (List.map eGGrant t34), accV 7 g6 (List.map eGSod t35), accV 8 g7 (List.map eGSod t36), accV 9 g8 (List.map eGSession t37)])) (upd 2 (accO 1 g false (List.map eS t30)) (upd 3 (accO 1 g2 false (List.map eS t31)) (upd 4 (accO 2 g3 false (List.map eGPair t32)) (upd 5 (accO 2 g4 false (List.map eGPair t33)) (upd 6 (accO 3 g5 false (List.map eGGrant t34)) (upd 7 (accO 3 g6 false (List.map eGSod t35)) (upd 8 (accO 3 g7 false (List.map eGSod t36)) (upd 9 (accO 3 g8 false (List.map eGSession t37)) noHp))))))))), 10⟩) (fun q => q.1.1.1) ⟨((n, ([], [], [], [], [], [], [], [], 0)), (0, 0, 0, 0, 0, 0, 0, 0)), E1⟩ ?_ ?_
  ·exact ZR [(0, 0), (1, 2)]
  ·rintro ⟨⟨⟨c, ⟨t30, t31, t32, t33, t34, t35, t36, t37, t4⟩⟩, ⟨g, g2, g3, g4, g5, g6, g7, g8⟩⟩, L3⟩
   rcases c with _ | c
   ·exact Zx L3
   ·unfold qR_ at L3
    try dsimp only at L3
    refine ZT 1 ?_;refine Z0 ?_;rcases zit L3 with ⟨c46, H47⟩ | ⟨c46, H47⟩
    ·obtain ⟨x2, b48, H49⟩ := zbi H47
     obtain ⟨h50, h51⟩ := zix b48;try simp only [Int.reduceToNat, Int.toNat_natCast] at h51
     have h52 := qi_ eGFact h51;refine Z1 (Y3 c46 (zno .i64 h50) h52) ?_;rcases zit H49 with ⟨c54, H55⟩ | ⟨c54, H55⟩
     ·obtain ⟨l4, b56, H57⟩ := zbi H55
      obtain ⟨h58, h59⟩ := qj_ b56;have h58 : t30.length + 1 ≤ 4294967296 := h58;have h60 : List.map eS t30 ++ [[.v (.string x2.a)]] = List.map eS l4 := qm_ eS h59;have h61 : t30.length + 1 = l4.length := qn_ h59;have h62 : l4.length ≤ 4294967296 := by omega
      have q63 : 0 < l4.length := by omega
      refine Z1 (Y2 (Y6 c46 (zno .i64 h50) h52 c54 h58 h60) (Y2 h61 h62)) ?_;rcases t30 with _ | ⟨q0, q1⟩
      ·try simp only [List.map_nil, accI, accN]
       exact ⟨⟨((c, (l4, t31, t32, t33, t34, t35, t36, t37, (IntKind.i64.wrap (t4 + 1)))), (0, g2, g3, g4, g5, g6, g7, g8)), H57⟩, ZR [(0, 0), (1, 1), (2, 29), (3, 3), (4, 4), (5, 5), (6, 6), (7, 7), (8, 8), (9, 9)], Nat.lt_succ_self _⟩
      ·try simp only [List.map_cons, accI, accN]
       exact ⟨⟨((c, (l4, t31, t32, t33, t34, t35, t36, t37, (IntKind.i64.wrap (t4 + 1)))), ((g + 1), g2, g3, g4, g5, g6, g7, g8)), H57⟩, ZR [(0, 0), (1, 1), (2, 2), (3, 3), (4, 4), (5, 5), (6, 6), (7, 7), (8, 8), (9, 9)], Nat.lt_succ_self _⟩
     ·refine Z1 (Y4 c46 (zno .i64 h50) h52 c54) ?_
      rcases zit H55 with ⟨c64, H65⟩ | ⟨c64, H65⟩
      ·obtain ⟨l5, b66, H67⟩ := zbi H65
       obtain ⟨h68, h69⟩ := qj_ b66;have h68 : t31.length + 1 ≤ 4294967296 := h68;have h70 : List.map eS t31 ++ [[.v (.string x2.a)]] = List.map eS l5 := qm_ eS h69;have h71 : t31.length + 1 = l5.length := qn_ h69;have h72 : l5.length ≤ 4294967296 := by omega
       have q73 : 0 < l5.length := by omega
       refine Z1 (Y2 (Y6 c46 (zno .i64 h50) h52 c54 c64 h68) (Y3 h70 h71 h72)) ?_;rcases t31 with _ | ⟨q0, q1⟩
       ·try simp only [List.map_nil, accI, accN]
        exact ⟨⟨((c, (t30, l5, t32, t33, t34, t35, t36, t37, (IntKind.i64.wrap (t4 + 1)))), (g, 0, g3, g4, g5, g6, g7, g8)), H67⟩, ZR [(0, 0), (1, 1), (2, 2), (3, 31), (4, 4), (5, 5), (6, 6), (7, 7), (8, 8), (9, 9)], Nat.lt_succ_self _⟩
       ·try simp only [List.map_cons, accI, accN]
        exact ⟨⟨((c, (t30, l5, t32, t33, t34, t35, t36, t37, (IntKind.i64.wrap (t4 + 1)))), (g, (g2 + 1), g3, g4, g5, g6, g7, g8)), H67⟩, ZR [(0, 0), (1, 1), (2, 2), (3, 3), (4, 4), (5, 5), (6, 6), (7, 7), (8, 8), (9, 9)], Nat.lt_succ_self _⟩
      ·refine Z1 (Y5 c46 (zno .i64 h50) h52 c54 c64) ?_
       rcases zit H65 with ⟨c74, H75⟩ | ⟨c74, H75⟩
       ·obtain ⟨l6, b76, H77⟩ := zbi H75
        obtain ⟨h78, h79⟩ := qj_ b76;have h78 : t32.length + 1 ≤ 4294967296 := h78;have h80 : List.map eGPair t32 ++ [[.v (.string x2.a), .v (.string x2.b)]] = List.map eGPair l6 := qm_ eGPair h79;have h81 : t32.length + 1 = l6.length := qn_ h79;have h82 : l6.length ≤ 4294967296 := by omega
        have q83 : 0 < l6.length := by omega
        refine Z1 (Y2 (Y6 c46 (zno .i64 h50) h52 c54 c64 c74) (Y4 h78 h80 h81 h82)) ?_;rcases t32 with _ | ⟨q0, q1⟩
        ·try simp only [List.map_nil, accI, accN]
         exact ⟨⟨((c, (t30, t31, l6, t33, t34, t35, t36, t37, (IntKind.i64.wrap (t4 + 1)))), (g, g2, 0, g4, g5, g6, g7, g8)), H77⟩, ZR [(0, 0), (1, 1), (2, 2), (3, 3), (4, 36), (5, 5), (6, 6), (7, 7), (8, 8), (9, 9)], Nat.lt_succ_self _⟩
        ·try simp only [List.map_cons, accI, accN]
         exact ⟨⟨((c, (t30, t31, l6, t33, t34, t35, t36, t37, (IntKind.i64.wrap (t4 + 1)))), (g, g2, (g3 + 1), g4, g5, g6, g7, g8)), H77⟩, ZR [(0, 0), (1, 1), (2, 2), (3, 3), (4, 4), (5, 5), (6, 6), (7, 7), (8, 8), (9, 9)], Nat.lt_succ_self _⟩
       ·refine Z1 (Y6 c46 (zno .i64 h50) h52 c54 c64 c74) ?_
        rcases zit H75 with ⟨c84, H85⟩ | ⟨c84, H85⟩
        ·obtain ⟨l7, b86, H87⟩ := zbi H85
         obtain ⟨h88, h89⟩ := qj_ b86;have h88 : t33.length + 1 ≤ 4294967296 := h88;have h90 : List.map eGPair t33 ++ [[.v (.string x2.a), .v (.string x2.b)]] = List.map eGPair l7 := qm_ eGPair h89;have h91 : t33.length + 1 = l7.length := qn_ h89;have h92 : l7.length ≤ 4294967296 := by omega
         have q93 : 0 < l7.length := by omega
         refine Z1 (Y2 (Y6 c46 (zno .i64 h50) h52 c54 c64 c74) (Y5 c84 h88 h90 h91 h92)) ?_;rcases t33 with _ | ⟨q0, q1⟩
         ·try simp only [List.map_nil, accI, accN]
          exact ⟨⟨((c, (t30, t31, t32, l7, t34, t35, t36, t37, (IntKind.i64.wrap (t4 + 1)))), (g, g2, g3, 0, g5, g6, g7, g8)), H87⟩, ZR [(0, 0), (1, 1), (2, 2), (3, 3), (4, 4), (5, 38), (6, 6), (7, 7), (8, 8), (9, 9)], Nat.lt_succ_self _⟩
         ·try simp only [List.map_cons, accI, accN]
          exact ⟨⟨((c, (t30, t31, t32, l7, t34, t35, t36, t37, (IntKind.i64.wrap (t4 + 1)))), (g, g2, g3, (g4 + 1), g5, g6, g7, g8)), H87⟩, ZR [(0, 0), (1, 1), (2, 2), (3, 3), (4, 4), (5, 5), (6, 6), (7, 7), (8, 8), (9, 9)], Nat.lt_succ_self _⟩
        ·refine Z1 (Y2 (Y6 c46 (zno .i64 h50) h52 c54 c64 c74) c84) ?_
         rcases zit H85 with ⟨c94, H95⟩ | ⟨c94, H95⟩
         ·obtain ⟨l8, b96, H97⟩ := zbi H95
          obtain ⟨h98, h99⟩ := qj_ b96;have h98 : t34.length + 1 ≤ 4294967296 := h98;have h100 : List.map eGGrant t34 ++ [[.v (.string x2.a), .v (.string x2.b), .v (.string x2.c)]] = List.map eGGrant l8 := qm_ eGGrant h99;have h101 : t34.length + 1 = l8.length := qn_ h99;have h102 : l8.length ≤ 4294967296 := by omega
          have q103 : 0 < l8.length := by omega
          refine Z1 (Y2 (Y6 c46 (zno .i64 h50) h52 c54 c64 c74) (Y6 c84 c94 h98 h100 h101 h102)) ?_;rcases t34 with _ | ⟨q0, q1⟩
          ·try simp only [List.map_nil, accI, accN]
           exact ⟨⟨((c, (t30, t31, t32, t33, l8, t35, t36, t37, (IntKind.i64.wrap (t4 + 1)))), (g, g2, g3, g4, 0, g6, g7, g8)), H97⟩, ZR [(0, 0), (1, 1), (2, 2), (3, 3), (4, 4), (5, 5), (6, 42), (7, 7), (8, 8), (9, 9)], Nat.lt_succ_self _⟩
          ·try simp only [List.map_cons, accI, accN]
           exact ⟨⟨((c, (t30, t31, t32, t33, l8, t35, t36, t37, (IntKind.i64.wrap (t4 + 1)))), (g, g2, g3, g4, (g5 + 1), g6, g7, g8)), H97⟩, ZR [(0, 0), (1, 1), (2, 2), (3, 3), (4, 4), (5, 5), (6, 6), (7, 7), (8, 8), (9, 9)], Nat.lt_succ_self _⟩
         ·refine Z1 (Y2 (Y6 c46 (zno .i64 h50) h52 c54 c64 c74) (Y2 c84 c94)) ?_
          rcases zit H95 with ⟨c104, H105⟩ | ⟨c104, H105⟩
          ·obtain ⟨l9, b106, H107⟩ := zbi H105
           obtain ⟨h108, h109⟩ := qj_ b106;have h109 : x2.l = l9 := h109;subst h109;have h108 : x2.l.length ≤ 4294967296 := by have := h108; simpa using this
           obtain ⟨l10, b112, H113⟩ := zbi H107;obtain ⟨h114, h115⟩ := qj_ b112;have h114 : t35.length + 1 ≤ 4294967296 := h114;have h116 : List.map eGSod t35 ++ [[.v (.string x2.a), .v (.int .i64 x2.n_), .sl (List.map eS x2.l)]] = List.map eGSod l10 := qm_ eGSod h115;have h117 : t35.length + 1 = l10.length := qn_ h115;have h118 : l10.length ≤ 4294967296 := by omega
           have q119 : 0 < l10.length := by omega
           refine Z1 (Y3 (Y6 c46 (zno .i64 h50) h52 c54 c64 c74) (Y6 c84 c94 c104 (qx_ (f := eS) (fun _ => rfl) x2.l) (qF_ (n := 1) (f := eS) (fun _ => rfl) x2.l) h108) (Y4 h114 h116 h117 h118)) ?_;refine qf_ (by (cases t35 <;> rfl)) ?_
           refine Z1 (Y3 (Y6 c46 (zno .i64 h50) h52 c54 c64 c74) (Y6 c84 c94 c104 (qx_ (f := eS) (fun _ => rfl) x2.l) (qF_ (n := 1) (f := eS) (fun _ => rfl) x2.l) h108) (Y4 h114 h116 h117 h118)) ?_;rcases t35 with _ | ⟨q0, q1⟩
           ·try simp only [List.map_nil, accI, accN]
            exact ⟨⟨((c, (t30, t31, t32, t33, t34, l10, t36, t37, (IntKind.i64.wrap (t4 + 1)))), (g, g2, g3, g4, g5, 0, g7, g8)), H113⟩, ZR [(0, 0), (1, 1), (2, 2), (3, 3), (4, 4), (5, 5), (6, 6), (7, 46), (8, 8), (9, 9)], Nat.lt_succ_self _⟩
           ·try simp only [List.map_cons, accI, accN]
            exact ⟨⟨((c, (t30, t31, t32, t33, t34, l10, t36, t37, (IntKind.i64.wrap (t4 + 1)))), (g, g2, g3, g4, g5, (g6 + 1), g7, g8)), H113⟩, ZR [(0, 0), (1, 1), (2, 2), (3, 3), (4, 4), (5, 5), (6, 6), (7, 7), (8, 8), (9, 9)], Nat.lt_succ_self _⟩
          ·refine Z1 (Y2 (Y6 c46 (zno .i64 h50) h52 c54 c64 c74) (Y3 c84 c94 c104)) ?_
           rcases zit H105 with ⟨c120, H121⟩ | ⟨c120, H121⟩
           ·obtain ⟨l11, b122, H123⟩ := zbi H121
            obtain ⟨h124, h125⟩ := qj_ b122;have h125 : x2.l = l11 := h125;subst h125;have h124 : x2.l.length ≤ 4294967296 := by have := h124; simpa using this
            obtain ⟨l12, b128, H129⟩ := zbi H123;obtain ⟨h130, h131⟩ := qj_ b128;have h130 : t36.length + 1 ≤ 4294967296 := h130;have h132 : List.map eGSod t36 ++ [[.v (.string x2.a), .v (.int .i64 x2.n_), .sl (List.map eS x2.l)]] = List.map eGSod l12 := qm_ eGSod h131;have h133 : t36.length + 1 = l12.length := qn_ h131;have h134 : l12.length ≤ 4294967296 := by omega
            have q135 : 0 < l12.length := by omega
            refine Z1 (Y3 (Y6 c46 (zno .i64 h50) h52 c54 c64 c74) (Y6 c84 c94 c104 c120 (qx_ (f := eS) (fun _ => rfl) x2.l) (qF_ (n := 1) (f := eS) (fun _ => rfl) x2.l)) (Y5 h124 h130 h132 h133 h134)) ?_;refine qf_ (by (cases t36 <;> rfl)) ?_
            refine Z1 (Y3 (Y6 c46 (zno .i64 h50) h52 c54 c64 c74) (Y6 c84 c94 c104 c120 (qx_ (f := eS) (fun _ => rfl) x2.l) (qF_ (n := 1) (f := eS) (fun _ => rfl) x2.l)) (Y5 h124 h130 h132 h133 h134)) ?_;rcases t36 with _ | ⟨q0, q1⟩
            ·try simp only [List.map_nil, accI, accN]
             exact ⟨⟨((c, (t30, t31, t32, t33, t34, t35, l12, t37, (IntKind.i64.wrap (t4 + 1)))), (g, g2, g3, g4, g5, g6, 0, g8)), H129⟩, ZR [(0, 0), (1, 1), (2, 2), (3, 3), (4, 4), (5, 5), (6, 6), (7, 7), (8, 48), (9, 9)], Nat.lt_succ_self _⟩
            ·try simp only [List.map_cons, accI, accN]
             exact ⟨⟨((c, (t30, t31, t32, t33, t34, t35, l12, t37, (IntKind.i64.wrap (t4 + 1)))), (g, g2, g3, g4, g5, g6, (g7 + 1), g8)), H129⟩, ZR [(0, 0), (1, 1), (2, 2), (3, 3), (4, 4), (5, 5), (6, 6), (7, 7), (8, 8), (9, 9)], Nat.lt_succ_self _⟩
           ·refine Z1 (Y2 (Y6 c46 (zno .i64 h50) h52 c54 c64 c74) (Y4 c84 c94 c104 c120)) ?_
            rcases zit H121 with ⟨c136, H137⟩ | ⟨c136, H137⟩
            ·obtain ⟨l13, b138, H139⟩ := zbi H137
             obtain ⟨h140, h141⟩ := qj_ b138;have h141 : x2.l = l13 := h141;subst h141;have h140 : x2.l.length ≤ 4294967296 := by have := h140; simpa using this
             obtain ⟨l14, b144, H145⟩ := zbi H139;obtain ⟨h146, h147⟩ := qj_ b144;have h146 : t37.length + 1 ≤ 4294967296 := h146;have h148 : List.map eGSession t37 ++ [[.v (.string x2.a), .v (.string x2.b), .sl (List.map eS x2.l)]] = List.map eGSession l14 := qm_ eGSession h147;have h149 : t37.length + 1 = l14.length := qn_ h147;have h150 : l14.length ≤ 4294967296 := by omega
             have q151 : 0 < l14.length := by omega
             refine Z1 (Y3 (Y6 c46 (zno .i64 h50) h52 c54 c64 c74) (Y6 c84 c94 c104 c120 c136 (qx_ (f := eS) (fun _ => rfl) x2.l)) (Y6 (qF_ (n := 1) (f := eS) (fun _ => rfl) x2.l) h140 h146 h148 h149 h150)) ?_;refine qf_ (by (cases t37 <;> rfl)) ?_
             refine Z1 (Y3 (Y6 c46 (zno .i64 h50) h52 c54 c64 c74) (Y6 c84 c94 c104 c120 c136 (qx_ (f := eS) (fun _ => rfl) x2.l)) (Y6 (qF_ (n := 1) (f := eS) (fun _ => rfl) x2.l) h140 h146 h148 h149 h150)) ?_;rcases t37 with _ | ⟨q0, q1⟩
             ·try simp only [List.map_nil, accI, accN]
              exact ⟨⟨((c, (t30, t31, t32, t33, t34, t35, t36, l14, (IntKind.i64.wrap (t4 + 1)))), (g, g2, g3, g4, g5, g6, g7, 0)), H145⟩, ZR [(0, 0), (1, 1), (2, 2), (3, 3), (4, 4), (5, 5), (6, 6), (7, 7), (8, 8), (9, 50)], Nat.lt_succ_self _⟩
             ·try simp only [List.map_cons, accI, accN]
              exact ⟨⟨((c, (t30, t31, t32, t33, t34, t35, t36, l14, (IntKind.i64.wrap (t4 + 1)))), (g, g2, g3, g4, g5, g6, g7, (g8 + 1))), H145⟩, ZR [(0, 0), (1, 1), (2, 2), (3, 3), (4, 4), (5, 5), (6, 6), (7, 7), (8, 8), (9, 9)], Nat.lt_succ_self _⟩
            ·refine Z1 (Y2 (Y6 c46 (zno .i64 h50) h52 c54 c64 c74) (Y5 c84 c94 c104 c120 c136)) ?_
             exact ⟨⟨((c, (t30, t31, t32, t33, t34, t35, t36, t37, (IntKind.i64.wrap (t4 + 1)))), (g, g2, g3, g4, g5, g6, g7, g8)), H137⟩, ZR [(0, 0), (1, 1), (2, 2), (3, 3), (4, 4), (5, 5), (6, 6), (7, 7), (8, 8), (9, 9)], Nat.lt_succ_self _⟩
    ·refine Z1 c46 ?_
     obtain rfl := Zi H47;exact ⟨⟨⟨(t30, t31, t32, t33, t34, t35, t36, t37), rfl⟩, (g, g2, g3, g4, g5, g6, g7, g8)⟩, ZR [(0, 0), (1, 1), (2, 2), (3, 3), (4, 4), (5, 5), (6, 6), (7, 7), (8, 8), (9, 9)]⟩
 ·rintro ⟨⟨⟨t303, t313, t323, t333, t343, t353, t363, t373⟩, he152⟩, ⟨g17, g18, g19, g20, g21, g22, g23, g24⟩⟩
  obtain rfl := he152.symm;try dsimp only at H2
  refine ZT 1 ?_;refine Z0 ?_;obtain rfl := Zi H2;exact ZE0
def jd_ (n : Nat) (t0 : List GFact) (t1 : List GFact) : Nat → Int → Option ((Unit) ⊕ Bool)
 | 0, _ => none
 | c + 1, t5 =>
  (if (decide (t5 < (t0.length : Int))) then
   (idx t0 t5).bind fun x3 =>
   (idx t1 t5).bind fun x4 =>
   (if (x3.kind != x4.kind) then
    some (.inr false)
   else
    (if (x3.a.toList == x4.a.toList) then
     (if (x3.b.toList == x4.b.toList) then
      (if (x3.c.toList == x4.c.toList) then
       (if (x3.n_ != x4.n_) then
        some (.inr false)
       else
        (qJ_ n x3.l x4.l).bind fun t652 =>
        (if t652 then
         jd_ n t0 t1 c (IntKind.i64.wrap (t5 + 1))
        else
         some (.inr false)))
      else
       some (.inr false))
     else
      some (.inr false))
    else
     some (.inr false)))
  else
   some (.inl ()))
def q2_ (n : Nat) (t0 : List GFact) (t1 : List GFact) : Option Bool :=
 (if ((t0.length : Int) != (t1.length : Int)) then
  some false
 else
  (
   jd_ n t0 t1 n 0 : Option ((Unit) ⊕ Bool)).bind fun
   | .inl _ =>
    some true
   | .inr r => some r)
theorem vf_ {n : Nat} {t0 : List GFact} {t1 : List GFact} {r : Bool} (H : q2_ n t0 t1 = some r) : PureOK Tryz.prog 15 [D.sl (List.map eGFact t0), D.sl (List.map eGFact t1)] (D.v (.bool r)) true := by
 unfold q2_ at H;refine ZP qo_ fol (rs := #[.tmp 4]) Tryz.func15 ?_;refine zsq (ZT 1 ?_);refine Z0 ?_;refine zsq (ZT 1 ?_);refine Z0 ?_;rcases zit H with ⟨c1, H2⟩ | ⟨c1, H2⟩
 ·refine Z1 c1 ?_
  obtain rfl := Zi H2;exact ZE0
 ·refine Z1 c1 ?_
  refine zsq (zsq ?_);refine ZT 1 ?_;refine Z1 c1 ?_;obtain ⟨e_, E3, H4⟩ := zbi H2;refine zjn (α := { y : Unit // e_ = .inl y }) (fun | ⟨_, _⟩ => ⟨noFr, noHp, 0⟩) ?_ ?_
  ·refine zbk ?_
   refine zlp (α := { q : Nat × Int // jd_ n t0 t1 q.1 q.2 = some e_ }) (fun | ⟨⟨c, t5⟩, _⟩ => ⟨upd 0 (.d (.sl (List.map eGFact t0)) true) (upd 1 (.d (.sl (List.map eGFact t1)) true) (upd 5 (.v (.int .i64 t5)) noFr)), noHp, 0⟩) (fun q => q.1.1) ⟨(n, 0), E3⟩ ?_ ?_
   ·exact ZR []
   ·rintro ⟨⟨c, t5⟩, L5⟩
    rcases c with _ | c
    ·exact Zx L5
    ·unfold jd_ at L5
     try dsimp only at L5
     refine ZT 1 ?_;refine Z0 ?_;rcases zit L5 with ⟨c34, H35⟩ | ⟨c34, H35⟩
     ·obtain ⟨x3, b36, H37⟩ := zbi H35
      obtain ⟨h38, h39⟩ := zix b36;try simp only [Int.reduceToNat, Int.toNat_natCast] at h39
      have h40 := qi_ eGFact h39;obtain ⟨x4, b42, H43⟩ := zbi H37;obtain ⟨h44, h45⟩ := zix b42;try simp only [Int.reduceToNat, Int.toNat_natCast] at h45
      have h46 := qi_ eGFact h45;refine Z1 (Y5 c34 (zno .i64 h38) h40 (zno .i64 h44) h46) ?_;refine qf_ (by rfl) ?_;refine Z1 (Y5 c34 (zno .i64 h38) h40 (zno .i64 h44) h46) ?_;rcases zit H43 with ⟨c48, H49⟩ | ⟨c48, H49⟩
      ·refine Z1 (Y6 c34 (zno .i64 h38) h40 (zno .i64 h44) h46 c48) ?_
       obtain rfl := Zi H49;obtain rfl := Zi H4;exact ZE0
      ·refine Z1 (Y6 c34 (zno .i64 h38) h40 (zno .i64 h44) h46 c48) ?_
       rcases zit H49 with ⟨c50, H51⟩ | ⟨c50, H51⟩
       ·refine Z1 (Y2 (Y6 c34 (zno .i64 h38) h40 (zno .i64 h44) h46 c48) c50) ?_
        rcases zit H51 with ⟨c52, H53⟩ | ⟨c52, H53⟩
        ·refine Z1 (Y2 (Y6 c34 (zno .i64 h38) h40 (zno .i64 h44) h46 c48) (Y2 c50 c52)) ?_
         rcases zit H53 with ⟨c54, H55⟩ | ⟨c54, H55⟩
         ·refine Z1 (Y2 (Y6 c34 (zno .i64 h38) h40 (zno .i64 h44) h46 c48) (Y3 c50 c52 c54)) ?_
          rcases zit H55 with ⟨c56, H57⟩ | ⟨c56, H57⟩
          ·refine Z1 (Y2 (Y6 c34 (zno .i64 h38) h40 (zno .i64 h44) h46 c48) (Y4 c50 c52 c54 c56)) ?_
           obtain rfl := Zi H57;obtain rfl := Zi H4;exact ZE0
          ·obtain ⟨t652, b58, H59⟩ := zbi H57
           refine Z1 (Y2 (Y6 c34 (zno .i64 h38) h40 (zno .i64 h44) h46 c48) (Y4 c50 c52 c54 c56)) ?_;refine ZC0 (jX_ b58) ?_;refine Z1 (Y2 (Y6 c34 (zno .i64 h38) h40 (zno .i64 h44) h46 c48) (Y4 c50 c52 c54 c56)) ?_;rcases zit H59 with ⟨c60, H61⟩ | ⟨c60, H61⟩
           ·refine Z1 (Y2 (Y6 c34 (zno .i64 h38) h40 (zno .i64 h44) h46 c48) (Y5 c50 c52 c54 c56 c60)) ?_
            exact ⟨⟨(c, (IntKind.i64.wrap (t5 + 1))), H61⟩, ZR [], Nat.lt_succ_self _⟩
           ·refine Z1 (Y2 (Y6 c34 (zno .i64 h38) h40 (zno .i64 h44) h46 c48) (Y5 c50 c52 c54 c56 c60)) ?_
            obtain rfl := Zi H61;obtain rfl := Zi H4;exact ZE0
         ·refine Z1 (Y2 (Y6 c34 (zno .i64 h38) h40 (zno .i64 h44) h46 c48) (Y3 c50 c52 c54)) ?_
          obtain rfl := Zi H55;obtain rfl := Zi H4;exact ZE0
        ·refine Z1 (Y2 (Y6 c34 (zno .i64 h38) h40 (zno .i64 h44) h46 c48) (Y2 c50 c52)) ?_
         obtain rfl := Zi H53;obtain rfl := Zi H4;exact ZE0
       ·refine Z1 (Y2 (Y6 c34 (zno .i64 h38) h40 (zno .i64 h44) h46 c48) c50) ?_
        obtain rfl := Zi H51;obtain rfl := Zi H4;exact ZE0
     ·refine Z1 c34 ?_
      obtain rfl := Zi H35;exact ⟨⟨(), rfl⟩, ZR []⟩
  ·rintro ⟨_, he62⟩
   obtain rfl := he62.symm;try dsimp only at H4
   refine ZT 1 ?_;refine Z0 ?_;obtain rfl := Zi H4;exact ZE0
def jl_ (n : Nat) (t0 : GRoles) : Nat → (List GFact × Int) → Option (List GFact)
 | 0, _ => none
 | c + 1, (t3, t4) =>
  (if (decide (t4 < (t0.users.length : Int))) then
   (idx t0.users t4).bind fun x2 =>
   (app t3 [(⟨1, x2, ByteArray.empty, ByteArray.empty, 0, [], 0⟩ : GFact)]).bind fun l =>
   jl_ n t0 c (l, (IntKind.i64.wrap (t4 + 1)))
  else
   some t3)
def jm_ (n : Nat) (t0 : GRoles) : Nat → (List GFact × Int) → Option (List GFact)
 | 0, _ => none
 | c + 1, (t34, t5) =>
  (if (decide (t5 < (t0.roles.length : Int))) then
   (idx t0.roles t5).bind fun x4 =>
   (app t34 [(⟨2, x4, ByteArray.empty, ByteArray.empty, 0, [], 0⟩ : GFact)]).bind fun l3 =>
   jm_ n t0 c (l3, (IntKind.i64.wrap (t5 + 1)))
  else
   some t34)
def jn_ (n : Nat) (t0 : GRoles) : Nat → (List GFact × Int) → Option (List GFact)
 | 0, _ => none
 | c + 1, (t37, t6) =>
  (if (decide (t6 < (t0.inherit.length : Int))) then
   (idx t0.inherit t6).bind fun x6 =>
   (app t37 [(⟨3, x6.a, x6.b, ByteArray.empty, 0, [], 0⟩ : GFact)]).bind fun l5 =>
   jn_ n t0 c (l5, (IntKind.i64.wrap (t6 + 1)))
  else
   some t37)
def jo_ (n : Nat) (t0 : GRoles) : Nat → (List GFact × Int) → Option (List GFact)
 | 0, _ => none
 | c + 1, (t310, t7) =>
  (if (decide (t7 < (t0.assign.length : Int))) then
   (idx t0.assign t7).bind fun x8 =>
   (app t310 [(⟨4, x8.a, x8.b, ByteArray.empty, 0, [], 0⟩ : GFact)]).bind fun l7 =>
   jo_ n t0 c (l7, (IntKind.i64.wrap (t7 + 1)))
  else
   some t310)
def jp_ (n : Nat) (t0 : GRoles) : Nat → (List GFact × Int) → Option (List GFact)
 | 0, _ => none
 | c + 1, (t313, t8) =>
  (if (decide (t8 < (t0.grants.length : Int))) then
   (idx t0.grants t8).bind fun x10 =>
   (app t313 [(⟨5, x10.role, x10.op, x10.obj, 0, [], 0⟩ : GFact)]).bind fun l9 =>
   jp_ n t0 c (l9, (IntKind.i64.wrap (t8 + 1)))
  else
   some t313)
def jq_ (n : Nat) (t0 : GRoles) : Nat → (List GFact × Int) → Option (List GFact)
 | 0, _ => none
 | c + 1, (t316, t9) =>
  (if (decide (t9 < (t0.ssd.length : Int))) then
   (idx t0.ssd t9).bind fun x12 =>
   (app [] x12.roles).bind fun l12 =>
   (app t316 [(⟨6, x12.name, ByteArray.empty, ByteArray.empty, x12.n_, x12.roles, 0⟩ : GFact)]).bind fun l13 =>
   jq_ n t0 c (l13, (IntKind.i64.wrap (t9 + 1)))
  else
   some t316)
def jr_ (n : Nat) (t0 : GRoles) : Nat → (List GFact × Int) → Option (List GFact)
 | 0, _ => none
 | c + 1, (t319, t10) =>
  (if (decide (t10 < (t0.dsd.length : Int))) then
   (idx t0.dsd t10).bind fun x14 =>
   (app [] x14.roles).bind fun l16 =>
   (app t319 [(⟨7, x14.name, ByteArray.empty, ByteArray.empty, x14.n_, x14.roles, 0⟩ : GFact)]).bind fun l17 =>
   jr_ n t0 c (l17, (IntKind.i64.wrap (t10 + 1)))
  else
   some t319)
def js_ (n : Nat) (t0 : GRoles) : Nat → (List GFact × Int) → Option (List GFact)
 | 0, _ => none
 | c + 1, (t322, t11) =>
  (if (decide (t11 < (t0.sessions.length : Int))) then
   (idx t0.sessions t11).bind fun x16 =>
   (app [] x16.roles).bind fun l20 =>
   (app t322 [(⟨8, x16.name, x16.user, ByteArray.empty, 0, x16.roles, 0⟩ : GFact)]).bind fun l21 =>
   js_ n t0 c (l21, (IntKind.i64.wrap (t11 + 1)))
  else
   some t322)
def xL_ (n : Nat) (t0 : GRoles) : Option (List GFact) :=
 (
  jl_ n t0 n ([], 0) : Option (List GFact)).bind fun t33 =>
 (
  jm_ n t0 n (t33, 0) : Option (List GFact)).bind fun t36 =>
 (
  jn_ n t0 n (t36, 0) : Option (List GFact)).bind fun t39 =>
 (
  jo_ n t0 n (t39, 0) : Option (List GFact)).bind fun t312 =>
 (
  jp_ n t0 n (t312, 0) : Option (List GFact)).bind fun t315 =>
 (
  jq_ n t0 n (t315, 0) : Option (List GFact)).bind fun t318 =>
 (
  jr_ n t0 n (t318, 0) : Option (List GFact)).bind fun t321 =>
 (
  js_ n t0 n (t321, 0) : Option (List GFact)).bind fun t324 =>
 some t324
set_option maxHeartbeats 8000000 in
theorem vo_ {n : Nat} {t0 : GRoles} {r : List GFact} (H : xL_ n t0 = some r) : PureOK Tryz.prog 17 [D.ag (eGRoles t0)] (D.sl (List.map eGFact r)) true := by
 unfold xL_ at H;refine ZP qo_ fol (rs := #[.tmp 2]) Tryz.func17 ?_;refine zsq (ZT 1 ?_);refine Z0 ?_;refine zsq (ZT 1 ?_);refine Z0 ?_;refine zsq (zsq ?_);refine ZT 1 ?_;refine Z0 ?_;obtain ⟨e_, E1, H2⟩ := zbi H
 refine zjn (α := { y : List GFact // e_ = y } × Nat) (fun | ⟨⟨t33, _⟩, g3⟩ => ⟨upd 1 (.pt 0 0) (upd 3 (accV 1 g3 (List.map eGFact t33)) noFr), upd 0 (some (.bx [.d (.sl (List.map eS t0.users)) true, .d (.sl (List.map eS t0.roles)) true, .d (.sl (List.map eGPair t0.inherit)) true, .d (.sl (List.map eGPair t0.assign)) true, .d (.sl (List.map eGGrant t0.grants)) true, .d (.sl (List.map eGSod t0.ssd)) true, .d (.sl (List.map eGSod t0.dsd)) true, .d (.sl (List.map eGSession t0.sessions)) true])) (upd 1 (accO 7 g3 false (List.map eGFact t33)) noHp), 2⟩) ?_ ?_
 ·refine zbk ?_
  refine zlp (α := { q : (Nat × (List GFact × Int)) × Nat // jl_ n t0 q.1.1 q.1.2 = some e_ }) (fun | ⟨⟨⟨c, ⟨t3, t4⟩⟩, g⟩, _⟩ => ⟨upd 1 (.pt 0 0) (upd 3 (accV 1 g (List.map eGFact t3)) (upd 4 (.v (.int .i64 t4)) noFr)), upd 0 (some (.bx [.d (.sl (List.map eS t0.users)) true, .d (.sl (List.map eS t0.roles)) true, .d (.sl (List.map eGPair t0.inherit)) true, .d (.sl (List.map eGPair t0.assign)) true, .d (.sl (List.map eGGrant t0.grants)) true, .d (.sl (List.map eGSod t0.ssd)) true, .d (.sl (List.map eGSod t0.dsd)) true, .d (.sl (List.map eGSession t0.sessions)) true])) (upd 1 (accO 7 g false (List.map eGFact t3)) noHp), 2⟩) (fun q => q.1.1.1) ⟨((n, ([], 0)), 0), E1⟩ ?_ ?_
  ·exact ZR [(0, 0)]
  ·rintro ⟨⟨⟨c, ⟨t3, t4⟩⟩, g⟩, L3⟩
   rcases c with _ | c
   ·exact Zx L3
   ·unfold jl_ at L3
    try dsimp only at L3
    refine ZT 1 ?_;refine Z0 ?_;rcases zit L3 with ⟨c12, H13⟩ | ⟨c12, H13⟩
    ·obtain ⟨x2, b14, H15⟩ := zbi H13
     obtain ⟨h16, h17⟩ := zix b14;try simp only [Int.reduceToNat, Int.toNat_natCast] at h17
     have h18 := qi_ eS h17;obtain ⟨l, b20, H21⟩ := zbi H15;obtain ⟨h22, h23⟩ := qj_ b20;have h22 : t3.length + 1 ≤ 4294967296 := h22;have h24 : List.map eGFact t3 ++ [[.v (.int .i64 1), .v (.string x2), .v (.string ByteArray.empty), .v (.string ByteArray.empty), .v (.int .i64 0), .sl [], .v (.int .i64 0)]] = List.map eGFact l := qm_ eGFact h23;have h25 : t3.length + 1 = l.length := qn_ h23
     have h26 : l.length ≤ 4294967296 := by omega
     have q27 : 0 < l.length := by omega
     refine Z1 (Y2 (Y6 c12 (zno .i64 h16) h18 h22 h24 h25) h26) ?_;rcases t3 with _ | ⟨q0, q1⟩
     ·try simp only [List.map_nil, accI, accN]
      exact ⟨⟨((c, (l, (IntKind.i64.wrap (t4 + 1)))), 0), H21⟩, ZR [(0, 0), (1, 15)], Nat.lt_succ_self _⟩
     ·try simp only [List.map_cons, accI, accN]
      exact ⟨⟨((c, (l, (IntKind.i64.wrap (t4 + 1)))), (g + 1)), H21⟩, ZR [(0, 0), (1, 1)], Nat.lt_succ_self _⟩
    ·refine Z1 c12 ?_
     obtain rfl := Zi H13;exact ⟨⟨⟨t3, rfl⟩, g⟩, ZR [(0, 0), (1, 1)]⟩
 ·rintro ⟨⟨t33, he316⟩, g3⟩
  obtain rfl := he316.symm;try dsimp only at H2
  refine zsq (zsq ?_);refine ZT 1 ?_;refine Z0 ?_;obtain ⟨e_2, E28, H29⟩ := zbi H2
  refine zjn (α := { y : List GFact // e_2 = y } × Nat) (fun | ⟨⟨t36, _⟩, g7⟩ => ⟨upd 1 (.pt 0 0) (upd 3 (accV 1 g7 (List.map eGFact t36)) noFr), upd 0 (some (.bx [.d (.sl (List.map eS t0.users)) true, .d (.sl (List.map eS t0.roles)) true, .d (.sl (List.map eGPair t0.inherit)) true, .d (.sl (List.map eGPair t0.assign)) true, .d (.sl (List.map eGGrant t0.grants)) true, .d (.sl (List.map eGSod t0.ssd)) true, .d (.sl (List.map eGSod t0.dsd)) true, .d (.sl (List.map eGSession t0.sessions)) true])) (upd 1 (accO 7 g7 false (List.map eGFact t36)) noHp), 2⟩) ?_ ?_
  ·refine zbk ?_
   refine zlp (α := { q : (Nat × (List GFact × Int)) × Nat // jm_ n t0 q.1.1 q.1.2 = some e_2 }) (fun | ⟨⟨⟨c, ⟨t34, t5⟩⟩, g5⟩, _⟩ => ⟨upd 1 (.pt 0 0) (upd 3 (accV 1 g5 (List.map eGFact t34)) (upd 5 (.v (.int .i64 t5)) noFr)), upd 0 (some (.bx [.d (.sl (List.map eS t0.users)) true, .d (.sl (List.map eS t0.roles)) true, .d (.sl (List.map eGPair t0.inherit)) true, .d (.sl (List.map eGPair t0.assign)) true, .d (.sl (List.map eGGrant t0.grants)) true, .d (.sl (List.map eGSod t0.ssd)) true, .d (.sl (List.map eGSod t0.dsd)) true, .d (.sl (List.map eGSession t0.sessions)) true])) (upd 1 (accO 7 g5 false (List.map eGFact t34)) noHp), 2⟩) (fun q => q.1.1.1) ⟨((n, (t33, 0)), g3), E28⟩ ?_ ?_
   ·exact ZR [(0, 0), (1, 1)]
   ·rintro ⟨⟨⟨c, ⟨t34, t5⟩⟩, g5⟩, L30⟩
    rcases c with _ | c
    ·exact Zx L30
    ·unfold jm_ at L30
     try dsimp only at L30
     refine ZT 1 ?_;refine Z0 ?_;rcases zit L30 with ⟨c47, H48⟩ | ⟨c47, H48⟩
     ·obtain ⟨x4, b49, H50⟩ := zbi H48
      obtain ⟨h51, h52⟩ := zix b49;try simp only [Int.reduceToNat, Int.toNat_natCast] at h52
      have h53 := qi_ eS h52;obtain ⟨l3, b55, H56⟩ := zbi H50;obtain ⟨h57, h58⟩ := qj_ b55;have h57 : t34.length + 1 ≤ 4294967296 := h57;have h59 : List.map eGFact t34 ++ [[.v (.int .i64 2), .v (.string x4), .v (.string ByteArray.empty), .v (.string ByteArray.empty), .v (.int .i64 0), .sl [], .v (.int .i64 0)]] = List.map eGFact l3 := qm_ eGFact h58
      have h60 : t34.length + 1 = l3.length := qn_ h58;have h61 : l3.length ≤ 4294967296 := by omega
      have q62 : 0 < l3.length := by omega
      refine Z1 (Y2 (Y6 c47 (zno .i64 h51) h53 h57 h59 h60) h61) ?_;rcases t34 with _ | ⟨q0, q1⟩
      ·try simp only [List.map_nil, accI, accN]
       exact ⟨⟨((c, (l3, (IntKind.i64.wrap (t5 + 1)))), 0), H56⟩, ZR [(0, 0), (1, 15)], Nat.lt_succ_self _⟩
      ·try simp only [List.map_cons, accI, accN]
       exact ⟨⟨((c, (l3, (IntKind.i64.wrap (t5 + 1)))), (g5 + 1)), H56⟩, ZR [(0, 0), (1, 1)], Nat.lt_succ_self _⟩
     ·refine Z1 c47 ?_
      obtain rfl := Zi H48;exact ⟨⟨⟨t34, rfl⟩, g5⟩, ZR [(0, 0), (1, 1)]⟩
  ·rintro ⟨⟨t36, he315⟩, g7⟩
   obtain rfl := he315.symm;try dsimp only at H29
   refine zsq (zsq ?_);refine ZT 1 ?_;refine Z0 ?_;obtain ⟨e_3, E63, H64⟩ := zbi H29
   refine zjn (α := { y : List GFact // e_3 = y } × Nat) (fun | ⟨⟨t39, _⟩, g11⟩ => ⟨upd 1 (.pt 0 0) (upd 3 (accV 1 g11 (List.map eGFact t39)) noFr), upd 0 (some (.bx [.d (.sl (List.map eS t0.users)) true, .d (.sl (List.map eS t0.roles)) true, .d (.sl (List.map eGPair t0.inherit)) true, .d (.sl (List.map eGPair t0.assign)) true, .d (.sl (List.map eGGrant t0.grants)) true, .d (.sl (List.map eGSod t0.ssd)) true, .d (.sl (List.map eGSod t0.dsd)) true, .d (.sl (List.map eGSession t0.sessions)) true])) (upd 1 (accO 7 g11 false (List.map eGFact t39)) noHp), 2⟩) ?_ ?_
   ·refine zbk ?_
    refine zlp (α := { q : (Nat × (List GFact × Int)) × Nat // jn_ n t0 q.1.1 q.1.2 = some e_3 }) (fun | ⟨⟨⟨c, ⟨t37, t6⟩⟩, g9⟩, _⟩ => ⟨upd 1 (.pt 0 0) (upd 3 (accV 1 g9 (List.map eGFact t37)) (upd 6 (.v (.int .i64 t6)) noFr)), upd 0 (some (.bx [.d (.sl (List.map eS t0.users)) true, .d (.sl (List.map eS t0.roles)) true, .d (.sl (List.map eGPair t0.inherit)) true, .d (.sl (List.map eGPair t0.assign)) true, .d (.sl (List.map eGGrant t0.grants)) true, .d (.sl (List.map eGSod t0.ssd)) true, .d (.sl (List.map eGSod t0.dsd)) true, .d (.sl (List.map eGSession t0.sessions)) true])) (upd 1 (accO 7 g9 false (List.map eGFact t37)) noHp), 2⟩) (fun q => q.1.1.1) ⟨((n, (t36, 0)), g7), E63⟩ ?_ ?_
    ·exact ZR [(0, 0), (1, 1)]
    ·rintro ⟨⟨⟨c, ⟨t37, t6⟩⟩, g9⟩, L65⟩
     rcases c with _ | c
     ·exact Zx L65
     ·unfold jn_ at L65
      try dsimp only at L65
      refine ZT 1 ?_;refine Z0 ?_;rcases zit L65 with ⟨c82, H83⟩ | ⟨c82, H83⟩
      ·obtain ⟨x6, b84, H85⟩ := zbi H83
       obtain ⟨h86, h87⟩ := zix b84;try simp only [Int.reduceToNat, Int.toNat_natCast] at h87
       have h88 := qi_ eGPair h87;obtain ⟨l5, b90, H91⟩ := zbi H85;obtain ⟨h92, h93⟩ := qj_ b90;have h92 : t37.length + 1 ≤ 4294967296 := h92;have h94 : List.map eGFact t37 ++ [[.v (.int .i64 3), .v (.string x6.a), .v (.string x6.b), .v (.string ByteArray.empty), .v (.int .i64 0), .sl [], .v (.int .i64 0)]] = List.map eGFact l5 := qm_ eGFact h93
       have h95 : t37.length + 1 = l5.length := qn_ h93;have h96 : l5.length ≤ 4294967296 := by omega
       have q97 : 0 < l5.length := by omega
       refine Z1 (Y2 (Y6 c82 (zno .i64 h86) h88 h92 h94 h95) h96) ?_;refine qf_ (by (cases t37 <;> rfl)) ?_;refine Z1 (Y2 (Y6 c82 (zno .i64 h86) h88 h92 h94 h95) h96) ?_;rcases t37 with _ | ⟨q0, q1⟩
       ·try simp only [List.map_nil, accI, accN]
        exact ⟨⟨((c, (l5, (IntKind.i64.wrap (t6 + 1)))), 0), H91⟩, ZR [(0, 0), (1, 22)], Nat.lt_succ_self _⟩
       ·try simp only [List.map_cons, accI, accN]
        exact ⟨⟨((c, (l5, (IntKind.i64.wrap (t6 + 1)))), (g9 + 1)), H91⟩, ZR [(0, 0), (1, 1)], Nat.lt_succ_self _⟩
      ·refine Z1 c82 ?_
       obtain rfl := Zi H83;exact ⟨⟨⟨t37, rfl⟩, g9⟩, ZR [(0, 0), (1, 1)]⟩
   ·rintro ⟨⟨t39, he314⟩, g11⟩
    obtain rfl := he314.symm;try dsimp only at H64
    refine zsq (zsq ?_);refine ZT 1 ?_;refine Z0 ?_;obtain ⟨e_4, E98, H99⟩ := zbi H64
    refine zjn (α := { y : List GFact // e_4 = y } × Nat) (fun | ⟨⟨t312, _⟩, g15⟩ => ⟨upd 1 (.pt 0 0) (upd 3 (accV 1 g15 (List.map eGFact t312)) noFr), upd 0 (some (.bx [.d (.sl (List.map eS t0.users)) true, .d (.sl (List.map eS t0.roles)) true, .d (.sl (List.map eGPair t0.inherit)) true, .d (.sl (List.map eGPair t0.assign)) true, .d (.sl (List.map eGGrant t0.grants)) true, .d (.sl (List.map eGSod t0.ssd)) true, .d (.sl (List.map eGSod t0.dsd)) true, .d (.sl (List.map eGSession t0.sessions)) true])) (upd 1 (accO 7 g15 false (List.map eGFact t312)) noHp), 2⟩) ?_ ?_
    ·refine zbk ?_
     refine zlp (α := { q : (Nat × (List GFact × Int)) × Nat // jo_ n t0 q.1.1 q.1.2 = some e_4 }) (fun | ⟨⟨⟨c, ⟨t310, t7⟩⟩, g13⟩, _⟩ => ⟨upd 1 (.pt 0 0) (upd 3 (accV 1 g13 (List.map eGFact t310)) (upd 7 (.v (.int .i64 t7)) noFr)), upd 0 (some (.bx [.d (.sl (List.map eS t0.users)) true, .d (.sl (List.map eS t0.roles)) true, .d (.sl (List.map eGPair t0.inherit)) true, .d (.sl (List.map eGPair t0.assign)) true, .d (.sl (List.map eGGrant t0.grants)) true, .d (.sl (List.map eGSod t0.ssd)) true, .d (.sl (List.map eGSod t0.dsd)) true, .d (.sl (List.map eGSession t0.sessions)) true])) (upd 1 (accO 7 g13 false (List.map eGFact t310)) noHp), 2⟩) (fun q => q.1.1.1) ⟨((n, (t39, 0)), g11), E98⟩ ?_ ?_
     ·exact ZR [(0, 0), (1, 1)]
     ·rintro ⟨⟨⟨c, ⟨t310, t7⟩⟩, g13⟩, L100⟩
      rcases c with _ | c
      ·exact Zx L100
      ·unfold jo_ at L100
       try dsimp only at L100
       refine ZT 1 ?_;refine Z0 ?_;rcases zit L100 with ⟨c117, H118⟩ | ⟨c117, H118⟩
       ·obtain ⟨x8, b119, H120⟩ := zbi H118
        obtain ⟨h121, h122⟩ := zix b119;try simp only [Int.reduceToNat, Int.toNat_natCast] at h122
        have h123 := qi_ eGPair h122;obtain ⟨l7, b125, H126⟩ := zbi H120;obtain ⟨h127, h128⟩ := qj_ b125;have h127 : t310.length + 1 ≤ 4294967296 := h127;have h129 : List.map eGFact t310 ++ [[.v (.int .i64 4), .v (.string x8.a), .v (.string x8.b), .v (.string ByteArray.empty), .v (.int .i64 0), .sl [], .v (.int .i64 0)]] = List.map eGFact l7 := qm_ eGFact h128
        have h130 : t310.length + 1 = l7.length := qn_ h128;have h131 : l7.length ≤ 4294967296 := by omega
        have q132 : 0 < l7.length := by omega
        refine Z1 (Y2 (Y6 c117 (zno .i64 h121) h123 h127 h129 h130) h131) ?_;refine qf_ (by (cases t310 <;> rfl)) ?_;refine Z1 (Y2 (Y6 c117 (zno .i64 h121) h123 h127 h129 h130) h131) ?_;rcases t310 with _ | ⟨q0, q1⟩
        ·try simp only [List.map_nil, accI, accN]
         exact ⟨⟨((c, (l7, (IntKind.i64.wrap (t7 + 1)))), 0), H126⟩, ZR [(0, 0), (1, 22)], Nat.lt_succ_self _⟩
        ·try simp only [List.map_cons, accI, accN]
         exact ⟨⟨((c, (l7, (IntKind.i64.wrap (t7 + 1)))), (g13 + 1)), H126⟩, ZR [(0, 0), (1, 1)], Nat.lt_succ_self _⟩
       ·refine Z1 c117 ?_
        obtain rfl := Zi H118;exact ⟨⟨⟨t310, rfl⟩, g13⟩, ZR [(0, 0), (1, 1)]⟩
    ·rintro ⟨⟨t312, he313⟩, g15⟩
     obtain rfl := he313.symm;try dsimp only at H99
     refine zsq (zsq ?_);refine ZT 1 ?_;refine Z0 ?_;obtain ⟨e_5, E133, H134⟩ := zbi H99
     refine zjn (α := { y : List GFact // e_5 = y } × Nat) (fun | ⟨⟨t315, _⟩, g19⟩ => ⟨upd 1 (.pt 0 0) (upd 3 (accV 1 g19 (List.map eGFact t315)) noFr), upd 0 (some (.bx [.d (.sl (List.map eS t0.users)) true, .d (.sl (List.map eS t0.roles)) true, .d (.sl (List.map eGPair t0.inherit)) true, .d (.sl (List.map eGPair t0.assign)) true, .d (.sl (List.map eGGrant t0.grants)) true, .d (.sl (List.map eGSod t0.ssd)) true, .d (.sl (List.map eGSod t0.dsd)) true, .d (.sl (List.map eGSession t0.sessions)) true])) (upd 1 (accO 7 g19 false (List.map eGFact t315)) noHp), 2⟩) ?_ ?_
     ·refine zbk ?_
      refine zlp (α := { q : (Nat × (List GFact × Int)) × Nat // jp_ n t0 q.1.1 q.1.2 = some e_5 }) (fun | ⟨⟨⟨c, ⟨t313, t8⟩⟩, g17⟩, _⟩ => ⟨upd 1 (.pt 0 0) (upd 3 (accV 1 g17 (List.map eGFact t313)) (upd 8 (.v (.int .i64 t8)) noFr)), upd 0 (some (.bx [.d (.sl (List.map eS t0.users)) true, .d (.sl (List.map eS t0.roles)) true, .d (.sl (List.map eGPair t0.inherit)) true, .d (.sl (List.map eGPair t0.assign)) true, .d (.sl (List.map eGGrant t0.grants)) true, .d (.sl (List.map eGSod t0.ssd)) true, .d (.sl (List.map eGSod t0.dsd)) true, .d (.sl (List.map eGSession t0.sessions)) true])) (upd 1 (accO 7 g17 false (List.map eGFact t313)) noHp), 2⟩) (fun q => q.1.1.1) ⟨((n, (t312, 0)), g15), E133⟩ ?_ ?_
      ·exact ZR [(0, 0), (1, 1)]
      ·rintro ⟨⟨⟨c, ⟨t313, t8⟩⟩, g17⟩, L135⟩
       rcases c with _ | c
       ·exact Zx L135
       ·unfold jp_ at L135
        try dsimp only at L135
        refine ZT 1 ?_;refine Z0 ?_;rcases zit L135 with ⟨c152, H153⟩ | ⟨c152, H153⟩
        ·obtain ⟨x10, b154, H155⟩ := zbi H153
         obtain ⟨h156, h157⟩ := zix b154;try simp only [Int.reduceToNat, Int.toNat_natCast] at h157
         have h158 := qi_ eGGrant h157;obtain ⟨l9, b160, H161⟩ := zbi H155;obtain ⟨h162, h163⟩ := qj_ b160;have h162 : t313.length + 1 ≤ 4294967296 := h162;have h164 : List.map eGFact t313 ++ [[.v (.int .i64 5), .v (.string x10.role), .v (.string x10.op), .v (.string x10.obj), .v (.int .i64 0), .sl [], .v (.int .i64 0)]] = List.map eGFact l9 := qm_ eGFact h163
         have h165 : t313.length + 1 = l9.length := qn_ h163;have h166 : l9.length ≤ 4294967296 := by omega
         have q167 : 0 < l9.length := by omega
         refine Z1 (Y2 (Y6 c152 (zno .i64 h156) h158 h162 h164 h165) h166) ?_;refine qf_ (by (cases t313 <;> rfl)) ?_;refine Z1 (Y2 (Y6 c152 (zno .i64 h156) h158 h162 h164 h165) h166) ?_;rcases t313 with _ | ⟨q0, q1⟩
         ·try simp only [List.map_nil, accI, accN]
          exact ⟨⟨((c, (l9, (IntKind.i64.wrap (t8 + 1)))), 0), H161⟩, ZR [(0, 0), (1, 28)], Nat.lt_succ_self _⟩
         ·try simp only [List.map_cons, accI, accN]
          exact ⟨⟨((c, (l9, (IntKind.i64.wrap (t8 + 1)))), (g17 + 1)), H161⟩, ZR [(0, 0), (1, 1)], Nat.lt_succ_self _⟩
        ·refine Z1 c152 ?_
         obtain rfl := Zi H153;exact ⟨⟨⟨t313, rfl⟩, g17⟩, ZR [(0, 0), (1, 1)]⟩
     ·rintro ⟨⟨t315, he312⟩, g19⟩
      obtain rfl := he312.symm;try dsimp only at H134
      refine zsq (zsq ?_);refine ZT 1 ?_;refine Z0 ?_;obtain ⟨e_6, E168, H169⟩ := zbi H134
      refine zjn (α := { y : List GFact // e_6 = y } × Nat) (fun | ⟨⟨t318, _⟩, g23⟩ => ⟨upd 1 (.pt 0 0) (upd 3 (accV 1 g23 (List.map eGFact t318)) noFr), upd 0 (some (.bx [.d (.sl (List.map eS t0.users)) true, .d (.sl (List.map eS t0.roles)) true, .d (.sl (List.map eGPair t0.inherit)) true, .d (.sl (List.map eGPair t0.assign)) true, .d (.sl (List.map eGGrant t0.grants)) true, .d (.sl (List.map eGSod t0.ssd)) true, .d (.sl (List.map eGSod t0.dsd)) true, .d (.sl (List.map eGSession t0.sessions)) true])) (upd 1 (accO 7 g23 false (List.map eGFact t318)) noHp), 2⟩) ?_ ?_
      ·refine zbk ?_
       refine zlp (α := { q : (Nat × (List GFact × Int)) × Nat // jq_ n t0 q.1.1 q.1.2 = some e_6 }) (fun | ⟨⟨⟨c, ⟨t316, t9⟩⟩, g21⟩, _⟩ => ⟨upd 1 (.pt 0 0) (upd 3 (accV 1 g21 (List.map eGFact t316)) (upd 9 (.v (.int .i64 t9)) noFr)), upd 0 (some (.bx [.d (.sl (List.map eS t0.users)) true, .d (.sl (List.map eS t0.roles)) true, .d (.sl (List.map eGPair t0.inherit)) true, .d (.sl (List.map eGPair t0.assign)) true, .d (.sl (List.map eGGrant t0.grants)) true, .d (.sl (List.map eGSod t0.ssd)) true, .d (.sl (List.map eGSod t0.dsd)) true, .d (.sl (List.map eGSession t0.sessions)) true])) (upd 1 (accO 7 g21 false (List.map eGFact t316)) noHp), 2⟩) (fun q => q.1.1.1) ⟨((n, (t315, 0)), g19), E168⟩ ?_ ?_
       ·exact ZR [(0, 0), (1, 1)]
       ·rintro ⟨⟨⟨c, ⟨t316, t9⟩⟩, g21⟩, L170⟩
        rcases c with _ | c
        ·exact Zx L170
        ·unfold jq_ at L170
         try dsimp only at L170
         refine ZT 1 ?_;refine Z0 ?_;rcases zit L170 with ⟨c193, H194⟩ | ⟨c193, H194⟩
         ·obtain ⟨x12, b195, H196⟩ := zbi H194
          obtain ⟨h197, h198⟩ := zix b195;try simp only [Int.reduceToNat, Int.toNat_natCast] at h198
          have h199 := qi_ eGSod h198;obtain ⟨l12, b201, H202⟩ := zbi H196;obtain ⟨h203, h204⟩ := qj_ b201;have h204 : x12.roles = l12 := h204;subst h204;have h203 : x12.roles.length ≤ 4294967296 := by have := h203; simpa using this
          obtain ⟨l13, b207, H208⟩ := zbi H202;obtain ⟨h209, h210⟩ := qj_ b207;have h209 : t316.length + 1 ≤ 4294967296 := h209;have h211 : List.map eGFact t316 ++ [[.v (.int .i64 6), .v (.string x12.name), .v (.string ByteArray.empty), .v (.string ByteArray.empty), .v (.int .i64 x12.n_), .sl (List.map eS x12.roles), .v (.int .i64 0)]] = List.map eGFact l13 := qm_ eGFact h210
          have h212 : t316.length + 1 = l13.length := qn_ h210;have h213 : l13.length ≤ 4294967296 := by omega
          have q214 : 0 < l13.length := by omega
          refine Z1 (Y2 (Y6 c193 (zno .i64 h197) h199 (qx_ (f := eS) (fun _ => rfl) x12.roles) (qF_ (n := 1) (f := eS) (fun _ => rfl) x12.roles) h203) (Y4 h209 h211 h212 h213)) ?_;refine qf_ (by (cases t316 <;> rfl)) ?_;refine Z1 (Y2 (Y6 c193 (zno .i64 h197) h199 (qx_ (f := eS) (fun _ => rfl) x12.roles) (qF_ (n := 1) (f := eS) (fun _ => rfl) x12.roles) h203) (Y4 h209 h211 h212 h213)) ?_
          rcases t316 with _ | ⟨q0, q1⟩
          ·try simp only [List.map_nil, accI, accN]
           exact ⟨⟨((c, (l13, (IntKind.i64.wrap (t9 + 1)))), 0), H208⟩, ZR [(0, 0), (1, 30)], Nat.lt_succ_self _⟩
          ·try simp only [List.map_cons, accI, accN]
           exact ⟨⟨((c, (l13, (IntKind.i64.wrap (t9 + 1)))), (g21 + 1)), H208⟩, ZR [(0, 0), (1, 1)], Nat.lt_succ_self _⟩
         ·refine Z1 c193 ?_
          obtain rfl := Zi H194;exact ⟨⟨⟨t316, rfl⟩, g21⟩, ZR [(0, 0), (1, 1)]⟩
      ·rintro ⟨⟨t318, he311⟩, g23⟩
       obtain rfl := he311.symm;try dsimp only at H169
       refine zsq (zsq ?_);refine ZT 1 ?_;refine Z0 ?_;obtain ⟨e_7, E215, H216⟩ := zbi H169
       refine zjn (α := { y : List GFact // e_7 = y } × Nat) (fun | ⟨⟨t321, _⟩, g27⟩ => ⟨upd 1 (.pt 0 0) (upd 3 (accV 1 g27 (List.map eGFact t321)) noFr), upd 0 (some (.bx [.d (.sl (List.map eS t0.users)) true, .d (.sl (List.map eS t0.roles)) true, .d (.sl (List.map eGPair t0.inherit)) true, .d (.sl (List.map eGPair t0.assign)) true, .d (.sl (List.map eGGrant t0.grants)) true, .d (.sl (List.map eGSod t0.ssd)) true, .d (.sl (List.map eGSod t0.dsd)) true, .d (.sl (List.map eGSession t0.sessions)) true])) (upd 1 (accO 7 g27 false (List.map eGFact t321)) noHp), 2⟩) ?_ ?_
       ·refine zbk ?_
        refine zlp (α := { q : (Nat × (List GFact × Int)) × Nat // jr_ n t0 q.1.1 q.1.2 = some e_7 }) (fun | ⟨⟨⟨c, ⟨t319, t10⟩⟩, g25⟩, _⟩ => ⟨upd 1 (.pt 0 0) (upd 3 (accV 1 g25 (List.map eGFact t319)) (upd 10 (.v (.int .i64 t10)) noFr)), upd 0 (some (.bx [.d (.sl (List.map eS t0.users)) true, .d (.sl (List.map eS t0.roles)) true, .d (.sl (List.map eGPair t0.inherit)) true, .d (.sl (List.map eGPair t0.assign)) true, .d (.sl (List.map eGGrant t0.grants)) true, .d (.sl (List.map eGSod t0.ssd)) true, .d (.sl (List.map eGSod t0.dsd)) true, .d (.sl (List.map eGSession t0.sessions)) true])) (upd 1 (accO 7 g25 false (List.map eGFact t319)) noHp), 2⟩) (fun q => q.1.1.1) ⟨((n, (t318, 0)), g23), E215⟩ ?_ ?_
        ·exact ZR [(0, 0), (1, 1)]
        ·rintro ⟨⟨⟨c, ⟨t319, t10⟩⟩, g25⟩, L217⟩
         rcases c with _ | c
         ·exact Zx L217
         ·unfold jr_ at L217
          try dsimp only at L217
          refine ZT 1 ?_;refine Z0 ?_;rcases zit L217 with ⟨c240, H241⟩ | ⟨c240, H241⟩
          ·obtain ⟨x14, b242, H243⟩ := zbi H241
           obtain ⟨h244, h245⟩ := zix b242;try simp only [Int.reduceToNat, Int.toNat_natCast] at h245
           have h246 := qi_ eGSod h245;obtain ⟨l16, b248, H249⟩ := zbi H243;obtain ⟨h250, h251⟩ := qj_ b248;have h251 : x14.roles = l16 := h251;subst h251;have h250 : x14.roles.length ≤ 4294967296 := by have := h250; simpa using this
           obtain ⟨l17, b254, H255⟩ := zbi H249;obtain ⟨h256, h257⟩ := qj_ b254;have h256 : t319.length + 1 ≤ 4294967296 := h256;have h258 : List.map eGFact t319 ++ [[.v (.int .i64 7), .v (.string x14.name), .v (.string ByteArray.empty), .v (.string ByteArray.empty), .v (.int .i64 x14.n_), .sl (List.map eS x14.roles), .v (.int .i64 0)]] = List.map eGFact l17 := qm_ eGFact h257
           have h259 : t319.length + 1 = l17.length := qn_ h257;have h260 : l17.length ≤ 4294967296 := by omega
           have q261 : 0 < l17.length := by omega
           refine Z1 (Y2 (Y6 c240 (zno .i64 h244) h246 (qx_ (f := eS) (fun _ => rfl) x14.roles) (qF_ (n := 1) (f := eS) (fun _ => rfl) x14.roles) h250) (Y4 h256 h258 h259 h260)) ?_;refine qf_ (by (cases t319 <;> rfl)) ?_
           refine Z1 (Y2 (Y6 c240 (zno .i64 h244) h246 (qx_ (f := eS) (fun _ => rfl) x14.roles) (qF_ (n := 1) (f := eS) (fun _ => rfl) x14.roles) h250) (Y4 h256 h258 h259 h260)) ?_;rcases t319 with _ | ⟨q0, q1⟩
           ·try simp only [List.map_nil, accI, accN]
            exact ⟨⟨((c, (l17, (IntKind.i64.wrap (t10 + 1)))), 0), H255⟩, ZR [(0, 0), (1, 30)], Nat.lt_succ_self _⟩
           ·try simp only [List.map_cons, accI, accN]
            exact ⟨⟨((c, (l17, (IntKind.i64.wrap (t10 + 1)))), (g25 + 1)), H255⟩, ZR [(0, 0), (1, 1)], Nat.lt_succ_self _⟩
          ·refine Z1 c240 ?_
           obtain rfl := Zi H241;exact ⟨⟨⟨t319, rfl⟩, g25⟩, ZR [(0, 0), (1, 1)]⟩
       ·rintro ⟨⟨t321, he310⟩, g27⟩
        obtain rfl := he310.symm;try dsimp only at H216
        refine zsq (zsq ?_);refine ZT 1 ?_;refine Z0 ?_;obtain ⟨e_8, E262, H263⟩ := zbi H216;refine zjn (α := { y : List GFact // e_8 = y } × Nat) (fun | ⟨⟨t324, _⟩, g31⟩ => ⟨upd 3 (accV 0 g31 (List.map eGFact t324)) noFr, upd 0 (accO 7 g31 false (List.map eGFact t324)) noHp, 1⟩) ?_ ?_
        ·refine zbk ?_
         refine zlp (α := { q : (Nat × (List GFact × Int)) × Nat // js_ n t0 q.1.1 q.1.2 = some e_8 }) (fun | ⟨⟨⟨c, ⟨t322, t11⟩⟩, g29⟩, _⟩ => ⟨upd 1 (.pt 0 0) (upd 3 (accV 1 g29 (List.map eGFact t322)) (upd 11 (.v (.int .i64 t11)) noFr)), upd 0 (some (.bx [.d (.sl (List.map eS t0.users)) true, .d (.sl (List.map eS t0.roles)) true, .d (.sl (List.map eGPair t0.inherit)) true, .d (.sl (List.map eGPair t0.assign)) true, .d (.sl (List.map eGGrant t0.grants)) true, .d (.sl (List.map eGSod t0.ssd)) true, .d (.sl (List.map eGSod t0.dsd)) true, .d (.sl (List.map eGSession t0.sessions)) true])) (upd 1 (accO 7 g29 false (List.map eGFact t322)) noHp), 2⟩) (fun q => q.1.1.1) ⟨((n, (t321, 0)), g27), E262⟩ ?_ ?_
         ·exact ZR [(0, 0), (1, 1)]
         ·rintro ⟨⟨⟨c, ⟨t322, t11⟩⟩, g29⟩, L264⟩
          rcases c with _ | c
          ·exact Zx L264
          ·unfold js_ at L264
           try dsimp only at L264
           refine ZT 1 ?_;refine Z0 ?_;rcases zit L264 with ⟨c287, H288⟩ | ⟨c287, H288⟩
           ·obtain ⟨x16, b289, H290⟩ := zbi H288
            obtain ⟨h291, h292⟩ := zix b289;try simp only [Int.reduceToNat, Int.toNat_natCast] at h292
            have h293 := qi_ eGSession h292;obtain ⟨l20, b295, H296⟩ := zbi H290;obtain ⟨h297, h298⟩ := qj_ b295;have h298 : x16.roles = l20 := h298;subst h298;have h297 : x16.roles.length ≤ 4294967296 := by have := h297; simpa using this
            obtain ⟨l21, b301, H302⟩ := zbi H296;obtain ⟨h303, h304⟩ := qj_ b301;have h303 : t322.length + 1 ≤ 4294967296 := h303;have h305 : List.map eGFact t322 ++ [[.v (.int .i64 8), .v (.string x16.name), .v (.string x16.user), .v (.string ByteArray.empty), .v (.int .i64 0), .sl (List.map eS x16.roles), .v (.int .i64 0)]] = List.map eGFact l21 := qm_ eGFact h304
            have h306 : t322.length + 1 = l21.length := qn_ h304;have h307 : l21.length ≤ 4294967296 := by omega
            have q308 : 0 < l21.length := by omega
            refine Z1 (Y2 (Y6 c287 (zno .i64 h291) h293 (qx_ (f := eS) (fun _ => rfl) x16.roles) (qF_ (n := 1) (f := eS) (fun _ => rfl) x16.roles) h297) (Y4 h303 h305 h306 h307)) ?_;refine qf_ (by (cases t322 <;> rfl)) ?_
            refine Z1 (Y2 (Y6 c287 (zno .i64 h291) h293 (qx_ (f := eS) (fun _ => rfl) x16.roles) (qF_ (n := 1) (f := eS) (fun _ => rfl) x16.roles) h297) (Y4 h303 h305 h306 h307)) ?_;rcases t322 with _ | ⟨q0, q1⟩
            ·try simp only [List.map_nil, accI, accN]
             exact ⟨⟨((c, (l21, (IntKind.i64.wrap (t11 + 1)))), 0), H302⟩, ZR [(0, 0), (1, 30)], Nat.lt_succ_self _⟩
            ·try simp only [List.map_cons, accI, accN]
             exact ⟨⟨((c, (l21, (IntKind.i64.wrap (t11 + 1)))), (g29 + 1)), H302⟩, ZR [(0, 0), (1, 1)], Nat.lt_succ_self _⟩
           ·refine Z1 c287 ?_
            obtain rfl := Zi H288;exact ⟨⟨⟨t322, rfl⟩, g29⟩, ZR [(0, 1)]⟩
        ·rintro ⟨⟨t324, he309⟩, g31⟩
         obtain rfl := he309.symm;try dsimp only at H263
         refine ZT 1 ?_;refine Z0 ?_;obtain rfl := Zi H263;exact ZE0
def zf_ (n : Nat) (a : GRoles) (b : GRoles) : Option Bool :=
 (xL_ n a).bind fun t6 =>
 (xL_ n b).bind fun t8 =>
 (q2_ n t6 t8).bind fun t9 =>
 some t9
theorem vP_ {n : Nat} {a : GRoles} {b : GRoles} {r : Bool} (H : zf_ n a b = some r) : PureOK Tryz.prog 14 [D.ag (eGRoles a), D.ag (eGRoles b)] (D.v (.bool r)) true := by
 unfold zf_ at H;refine ZP qo_ fol (rs := #[.tmp 4]) Tryz.func14 ?_;refine ZT 1 ?_;obtain ⟨t6, b1, H2⟩ := zbi H;refine Z0 ?_;refine ZD0 (vo_ b1) ?_;obtain ⟨t8, b3, H4⟩ := zbi H2;refine Z0 ?_;refine ZD0 (vo_ b3) ?_;obtain ⟨t9, b5, H6⟩ := zbi H4;refine Z0 ?_;refine ZD0 (vf_ b5) ?_;refine Z0 ?_;refine qf_ (by rfl) ?_;refine Z0 ?_;obtain rfl := Zi H6;exact ZE0
end Go.Proofs.YtkkhgdmmbhpckaaGreat.Ab
