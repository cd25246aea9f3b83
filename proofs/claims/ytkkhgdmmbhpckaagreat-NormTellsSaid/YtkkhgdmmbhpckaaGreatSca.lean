/-
 Functions, read off the code.
-/
import Derived.Test.YtkkhgdmmbhpckaaGreatSot
namespace Go.Proofs.YtkkhgdmmbhpckaaGreat.Ab
open Go.RowKit
def xd_ (n : Nat) (s : ByteArray) : Nat → Int → Option (Int)
 | 0, _ => none
 | c + 1, k5 =>
  (if (decide (k5 < (s.size : Int))) then
   (bidx s k5).bind fun ch8 =>
   (if (ch8 != 32) then
    (if (ch8 != 9) then
     xd_ n s c (IntKind.i64.wrap (k5 + 1))
    else
     some k5)
   else
    some k5)
  else
   some k5)
def qZ_ (n : Nat) (s : ByteArray) (at_ : Int) : Nat → (List GWord × Int) → Option ((List GWord) ⊕ (List GWord))
 | 0, _ => none
 | c + 1, (out, i) =>
  (if (decide (i < (s.size : Int))) then
   (
    (bidx s i).bind fun ch5 =>
    (if (ch5 == 32) then
     some true
    else
     some (ch5 == 9)) : Option (Bool)).bind fun t212 =>
   (if t212 then
    qZ_ n s at_ c (out, (IntKind.i64.wrap (i + 1)))
   else
    (bidx s i).bind fun ch6 =>
    (if (ch6 == 35) then
     some (.inr out)
    else
     (
      xd_ n s n i : Option (Int)).bind fun k7 =>
     (bslc s i k7).bind fun s3 =>
     (app out [(⟨s3, (IntKind.i64.wrap (at_ + i))⟩ : GWord)]).bind fun l =>
     qZ_ n s at_ c (l, k7)))
  else
   some (.inl out))
def vI_ (n : Nat) (s : ByteArray) (at_ : Int) : Option (List GWord) :=
 (
  qZ_ n s at_ n ([], 0) : Option ((List GWord) ⊕ (List GWord))).bind fun
  | .inl out3 =>
   some out3
  | .inr r => some r
theorem g7_ {n : Nat} {s : ByteArray} {at_ : Int} {r : List GWord} (H : vI_ n s at_ = some r) : PureOK Tryz.prog 74 [D.v (.string s), D.v (.int .i64 at_)] (D.sl (List.map eGWord r)) true := by
 unfold vI_ at H;refine ZP qo_ fol (rs := #[.tmp 4]) Tryz.func74 ?_;refine zsq (ZT 1 ?_);refine Z0 ?_;refine zsq (ZT 1 ?_);refine Z0 ?_;refine zsq (ZT 1 ?_);refine Z0 ?_;refine zsq ?_;obtain ⟨e_, E1, H2⟩ := zbi H
 refine zjn (α := { y : List GWord // e_ = .inl y } × Nat) (fun | ⟨⟨out3, _⟩, g8⟩ => ⟨upd 5 (accV 0 g8 (List.map eGWord out3)) noFr, upd 0 (accO 2 g8 false (List.map eGWord out3)) noHp, 1⟩) ?_ ?_
 ·refine zbk ?_
  refine zlp (α := { q : (Nat × (List GWord × Int)) × Nat // qZ_ n s at_ q.1.1 q.1.2 = some e_ }) (fun | ⟨⟨⟨c, ⟨out, i⟩⟩, g⟩, _⟩ => ⟨upd 0 (.v (.string s)) (upd 1 (.v (.int .i64 at_)) (upd 5 (accV 0 g (List.map eGWord out)) (upd 6 (.v (.int .i64 i)) noFr))), upd 0 (accO 2 g false (List.map eGWord out)) noHp, 1⟩) (fun q => q.1.1.1) ⟨((n, ([], 0)), 0), E1⟩ ?_ ?_
  ·exact ZR []
  ·rintro ⟨⟨⟨c, ⟨out, i⟩⟩, g⟩, L3⟩
   rcases c with _ | c
   ·exact Zx L3
   ·unfold qZ_ at L3
    try dsimp only at L3
    refine zsq (ZT 1 ?_);refine Z0 ?_;rcases zit L3 with ⟨c60, H61⟩ | ⟨c60, H61⟩
    ·refine Z1 c60 ?_
     refine zbk ?_;refine zsq (zsq ?_);obtain ⟨e_4, E62, H63⟩ := zbi H61;refine zjn (α := { y : Bool // e_4 = y } × Nat) (fun | ⟨⟨t212, _⟩, g2⟩ => ⟨upd 0 (.v (.string s)) (upd 1 (.v (.int .i64 at_)) (upd 5 (accV 0 g2 (List.map eGWord out)) (upd 6 (.v (.int .i64 i)) (upd 21 (.v (.bool t212)) noFr)))), upd 0 (accO 2 g2 false (List.map eGWord out)) noHp, 1⟩) ?_ ?_
     ·refine ZT 1 ?_
      obtain ⟨ch5, b64, H65⟩ := zbi E62;obtain ⟨h66, by_5, h67, h68⟩ := zbx b64;try simp only [Int.reduceToNat, Int.toNat_natCast] at h67
      refine Z1 (Y3 (zno .i64 h66) h67 h68.symm) ?_;rcases zit H65 with ⟨c69, H70⟩ | ⟨c69, H70⟩
      ·refine Z1 (Y4 (zno .i64 h66) h67 h68.symm c69) ?_
       obtain rfl := Zi H70;exact ⟨⟨⟨true, rfl⟩, g⟩, ZR [(0, 0)]⟩
      ·refine Z1 (Y4 (zno .i64 h66) h67 h68.symm c69) ?_
       obtain rfl := Zi H70;exact ⟨⟨⟨(ch5 == 9), rfl⟩, g⟩, ZR [(0, 0)]⟩
     ·rintro ⟨⟨t212, he123⟩, g2⟩
      obtain rfl := he123.symm;try dsimp only at H63
      refine ZT 1 ?_;refine Z0 ?_;rcases zit H63 with ⟨c71, H72⟩ | ⟨c71, H72⟩
      ·refine Z1 c71 ?_
       exact ⟨⟨((c, (out, (IntKind.i64.wrap (i + 1)))), g2), H72⟩, ZR [(0, 0)], Nat.lt_succ_self _⟩
      ·refine Z1 c71 ?_
       refine zsq (ZT 1 ?_);obtain ⟨ch6, b73, H74⟩ := zbi H72;obtain ⟨h75, by_6, h76, h77⟩ := zbx b73;try simp only [Int.reduceToNat, Int.toNat_natCast] at h76
       refine Z1 (Y4 c71 (zno .i64 h75) h76 h77.symm) ?_;rcases zit H74 with ⟨c78, H79⟩ | ⟨c78, H79⟩
       ·refine Z1 (Y5 c71 (zno .i64 h75) h76 h77.symm c78) ?_
        obtain rfl := Zi H79;obtain rfl := Zi H2;exact ZE1 (Y5 c71 (zno .i64 h75) h76 h77.symm c78)
       ·refine Z1 (Y5 c71 (zno .i64 h75) h76 h77.symm c78) ?_
        refine zsq (ZT 1 ?_);refine Z1 (Y5 c71 (zno .i64 h75) h76 h77.symm c78) ?_;refine zsq ?_;obtain ⟨e_5, E80, H81⟩ := zbi H79
        refine zjn (α := { y : Int // e_5 = y } × Nat) (fun | ⟨⟨k7, _⟩, g6⟩ => ⟨upd 0 (.v (.string s)) (upd 1 (.v (.int .i64 at_)) (upd 5 (accV 0 g6 (List.map eGWord out)) (upd 6 (.v (.int .i64 i)) (upd 7 (.v (.int .i64 k7)) noFr)))), upd 0 (accO 2 g6 false (List.map eGWord out)) noHp, 1⟩) ?_ ?_
        ·refine zbk ?_
         refine zlp (α := { q : (Nat × Int) × Nat // xd_ n s q.1.1 q.1.2 = some e_5 }) (fun | ⟨⟨⟨c, k5⟩, g4⟩, _⟩ => ⟨upd 0 (.v (.string s)) (upd 1 (.v (.int .i64 at_)) (upd 5 (accV 0 g4 (List.map eGWord out)) (upd 6 (.v (.int .i64 i)) (upd 7 (.v (.int .i64 k5)) noFr)))), upd 0 (accO 2 g4 false (List.map eGWord out)) noHp, 1⟩) (fun q => q.1.1.1) ⟨((n, i), g2), E80⟩ ?_ ?_
         ·exact ZR [(0, 0)]
         ·rintro ⟨⟨⟨c, k5⟩, g4⟩, L82⟩
          rcases c with _ | c
          ·exact Zx L82
          ·unfold xd_ at L82
           try dsimp only at L82
           refine ZT 1 ?_;refine Z0 ?_;rcases zit L82 with ⟨c94, H95⟩ | ⟨c94, H95⟩
           ·obtain ⟨ch8, b96, H97⟩ := zbi H95
            obtain ⟨h98, by_8, h99, h100⟩ := zbx b96;try simp only [Int.reduceToNat, Int.toNat_natCast] at h99
            refine Z1 (Y4 c94 (zno .i64 h98) h99 h100.symm) ?_;rcases zit H97 with ⟨c101, H102⟩ | ⟨c101, H102⟩
            ·refine Z1 (Y5 c94 (zno .i64 h98) h99 h100.symm c101) ?_
             rcases zit H102 with ⟨c103, H104⟩ | ⟨c103, H104⟩
             ·refine Z1 (Y6 c94 (zno .i64 h98) h99 h100.symm c101 c103) ?_
              exact ⟨⟨((c, (IntKind.i64.wrap (k5 + 1))), g4), H104⟩, ZR [(0, 0)], Nat.lt_succ_self _⟩
             ·refine Z1 (Y6 c94 (zno .i64 h98) h99 h100.symm c101 c103) ?_
              obtain rfl := Zi H104;exact ⟨⟨⟨k5, rfl⟩, g4⟩, ZR [(0, 0)]⟩
            ·refine Z1 (Y5 c94 (zno .i64 h98) h99 h100.symm c101) ?_
             obtain rfl := Zi H102;exact ⟨⟨⟨k5, rfl⟩, g4⟩, ZR [(0, 0)]⟩
           ·refine Z1 c94 ?_
            obtain rfl := Zi H95;exact ⟨⟨⟨k5, rfl⟩, g4⟩, ZR [(0, 0)]⟩
        ·rintro ⟨⟨k7, he122⟩, g6⟩
         obtain rfl := he122.symm;try dsimp only at H81
         refine ZT 2 ?_;obtain ⟨s3, b105, H106⟩ := zbi H81;obtain ⟨h107, h108, h109, h110⟩ := zbs b105;have h111 : Int.toNat i ≤ Int.toNat k7 := by omega
         have h112 : Int.toNat k7 ≤ s.size := by omega
         have h113 : ByteArray.extract s (Int.toNat i) (Int.toNat k7) = s3 := h110.symm;try simp only [Int.toNat_natCast] at h111 h112 h113
         obtain ⟨l, b114, H115⟩ := zbi H106;obtain ⟨h116, h117⟩ := qj_ b114;have h116 : out.length + 1 ≤ 4294967296 := h116;have h118 : List.map eGWord out ++ [[.v (.string s3), .v (.int .i64 (IntKind.i64.wrap (at_ + i)))]] = List.map eGWord l := qm_ eGWord h117;have h119 : out.length + 1 = l.length := qn_ h117;have h120 : l.length ≤ 4294967296 := by omega
         have q121 : 0 < l.length := by omega
         refine Z1 (Y2 (Y6 (zno .i64 h107) (zno .i64 (Int.le_trans h107 h108)) h111 h112 h113 h116) (Y3 h118 h119 h120)) ?_;rcases out with _ | ⟨q0, q1⟩
         ·try simp only [List.map_nil, accI, accN]
          exact ⟨⟨((c, (l, k7)), 0), H115⟩, ZR [(0, 11)], Nat.lt_succ_self _⟩
         ·try simp only [List.map_cons, accI, accN]
          exact ⟨⟨((c, (l, k7)), (g6 + 1)), H115⟩, ZR [(0, 0)], Nat.lt_succ_self _⟩
    ·refine Z1 c60 ?_
     obtain rfl := Zi H61;exact ⟨⟨⟨out, rfl⟩, g⟩, ZR [(0, 0)]⟩
 ·rintro ⟨⟨out3, he124⟩, g8⟩
  obtain rfl := he124.symm;try dsimp only at H2
  refine ZT 1 ?_;refine Z0 ?_;obtain rfl := Zi H2;exact ZE0
def jK_ (n : Nat) (t0 : ByteArray) : Nat → (Int × Int) → Option (Int)
 | 0, _ => none
 | c + 1, (t5, t6) =>
  (if (decide (t6 < (t0.size : Int))) then
   (bidx t0 t6).bind fun ch2 =>
   (if (ch2 == 10) then
    jK_ n t0 c ((IntKind.i64.wrap (t5 + 1)), (IntKind.i64.wrap (t6 + 1)))
   else
    jK_ n t0 c (t5, (IntKind.i64.wrap (t6 + 1))))
  else
   some t5)
def qH_ (n : Nat) (t0 : ByteArray) : Nat → Int → Option ((Unit) ⊕ (List GLine × Int × Int))
 | 0, _ => none
 | c + 1, t7 =>
  (if (decide (t7 < (t0.size : Int))) then
   (bidx t0 t7).bind fun ch5 =>
   (if (ch5 == 13) then
    (if ((IntKind.i64.wrap (t7 + 1)) == (t0.size : Int)) then
     qH_ n t0 c (IntKind.i64.wrap (t7 + 1))
    else
     (bidx t0 (IntKind.i64.wrap (t7 + 1))).bind fun ch6 =>
     (if (ch6 == 10) then
      qH_ n t0 c (IntKind.i64.wrap (t7 + 1))
     else
      (if (ch5 == 9) then
       qH_ n t0 c (IntKind.i64.wrap (t7 + 1))
      else
       (if (ch5 == 10) then
        qH_ n t0 c (IntKind.i64.wrap (t7 + 1))
       else
        (if (decide (32 ≤ ch5)) then
         (if (decide (ch5 ≤ 126)) then
          qH_ n t0 c (IntKind.i64.wrap (t7 + 1))
         else
          some (.inr ([], t7, 7)))
        else
         some (.inr ([], t7, 7)))))))
   else
    (if (ch5 == 9) then
     qH_ n t0 c (IntKind.i64.wrap (t7 + 1))
    else
     (if (ch5 == 10) then
      qH_ n t0 c (IntKind.i64.wrap (t7 + 1))
     else
      (if (decide (32 ≤ ch5)) then
       (if (decide (ch5 ≤ 126)) then
        qH_ n t0 c (IntKind.i64.wrap (t7 + 1))
       else
        some (.inr ([], t7, 7)))
      else
       some (.inr ([], t7, 7))))))
  else
   some (.inl ()))
def jj_ (n : Nat) (t0 : ByteArray) : Nat → (List GLine × Int × Int) → Option (List GLine)
 | 0, _ => none
 | c + 1, (t9, t10, t11) =>
  (if (decide (t11 ≤ (t0.size : Int))) then
   (
    (if (decide (t11 < (t0.size : Int))) then
     (bidx t0 t11).bind fun ch8 =>
     some (ch8 != 10)
    else
     some false) : Option (Bool)).bind fun t902 =>
   (if t902 then
    jj_ n t0 c (t9, t10, (IntKind.i64.wrap (t11 + 1)))
   else
    (
     (if (decide (t10 < t11)) then
      (bidx t0 (IntKind.i64.wrap (t11 - 1))).bind fun ch9 =>
      some (ch9 == 13)
     else
      some false) : Option (Bool)).bind fun t101 =>
    (
     (if t101 then
      some (IntKind.i64.wrap (t11 - 1))
     else
      some t11) : Option (Int)).bind fun t12 =>
    (bslc t0 t10 t12).bind fun s2 =>
    (vI_ n s2 t10).bind fun t1092 =>
    (if (decide (0 < (t1092.length : Int))) then
     (idx t1092 0).bind fun x2 =>
     (app t9 [(⟨x2.at_, t1092⟩ : GLine)]).bind fun l =>
     jj_ n t0 c (l, (IntKind.i64.wrap (t11 + 1)), (IntKind.i64.wrap (t11 + 1)))
    else
     jj_ n t0 c (t9, (IntKind.i64.wrap (t11 + 1)), (IntKind.i64.wrap (t11 + 1)))))
  else
   some t9)
def vJ_ (n : Nat) (t0 : ByteArray) : Option (List GLine × Int × Int) :=
 (
  jK_ n t0 n (0, 0) : Option (Int)).bind fun t53 =>
 (
  (if (decide (200000 < (t0.size : Int))) then
   some true
  else
   some (decide (5000 < t53))) : Option (Bool)).bind fun t32 =>
 (if t32 then
  some ([], 0, 8)
 else
  (
   qH_ n t0 n 0 : Option ((Unit) ⊕ (List GLine × Int × Int))).bind fun
   | .inl _ =>
    (
     jj_ n t0 n ([], 0, 0) : Option (List GLine)).bind fun t93 =>
    some (t93, 0, 0)
   | .inr r => some r)
set_option maxHeartbeats 8000000 in
theorem g8_ {n : Nat} {t0 : ByteArray} {r : List GLine × Int × Int} (H : vJ_ n t0 = some r) : PureOK Tryz.prog 47 [D.v (.string t0)] (D.tu [D.sl (List.map eGLine r.1), D.v (.int .i64 r.2.1), D.v (.int .i64 r.2.2)]) true := by
 unfold vJ_ at H;refine ZP qo_ fol (rs := #[.tmp 2, .tmp 3, .tmp 4]) Tryz.func47 ?_;refine zsq (ZT 1 ?_);refine Z0 ?_;refine zsq (ZT 1 ?_);refine Z0 ?_;refine zsq (zsq ?_);refine ZT 1 ?_;refine Z0 ?_;obtain ⟨e_, E1, H2⟩ := zbi H;refine zjn (α := { y : Int // e_ = y }) (fun | ⟨t53, _⟩ => ⟨upd 0 (.v (.string t0)) (upd 5 (.v (.int .i64 t53)) noFr), noHp, 0⟩) ?_ ?_
 ·refine zbk ?_
  refine zlp (α := { q : Nat × (Int × Int) // jK_ n t0 q.1 q.2 = some e_ }) (fun | ⟨⟨c, ⟨t5, t6⟩⟩, _⟩ => ⟨upd 0 (.v (.string t0)) (upd 5 (.v (.int .i64 t5)) (upd 6 (.v (.int .i64 t6)) noFr)), noHp, 0⟩) (fun q => q.1.1) ⟨(n, (0, 0)), E1⟩ ?_ ?_
  ·exact ZR []
  ·rintro ⟨⟨c, ⟨t5, t6⟩⟩, L3⟩
   rcases c with _ | c
   ·exact Zx L3
   ·unfold jK_ at L3
    try dsimp only at L3
    refine ZT 1 ?_;refine Z0 ?_;rcases zit L3 with ⟨c13, H14⟩ | ⟨c13, H14⟩
    ·obtain ⟨ch2, b15, H16⟩ := zbi H14
     obtain ⟨h17, by_2, h18, h19⟩ := zbx b15;try simp only [Int.reduceToNat, Int.toNat_natCast] at h18
     refine Z1 (Y4 c13 (zno .i64 h17) h18 h19.symm) ?_;rcases zit H16 with ⟨c20, H21⟩ | ⟨c20, H21⟩
     ·refine Z1 (Y5 c13 (zno .i64 h17) h18 h19.symm c20) ?_
      exact ⟨⟨(c, ((IntKind.i64.wrap (t5 + 1)), (IntKind.i64.wrap (t6 + 1)))), H21⟩, ZR [], Nat.lt_succ_self _⟩
     ·refine Z1 (Y5 c13 (zno .i64 h17) h18 h19.symm c20) ?_
      exact ⟨⟨(c, (t5, (IntKind.i64.wrap (t6 + 1)))), H21⟩, ZR [], Nat.lt_succ_self _⟩
    ·refine Z1 c13 ?_
     obtain rfl := Zi H14;exact ⟨⟨t5, rfl⟩, ZR []⟩
 ·rintro ⟨t53, he200⟩
  obtain rfl := he200.symm;try dsimp only at H2
  refine zsq (zsq ?_);obtain ⟨e_2, E22, H23⟩ := zbi H2;refine zjn (α := { y : Bool // e_2 = y }) (fun | ⟨t32, _⟩ => ⟨upd 0 (.v (.string t0)) (upd 32 (.v (.bool t32)) noFr), noHp, 0⟩) ?_ ?_
  ·refine ZT 1 ?_
   refine Z0 ?_;rcases zit E22 with ⟨c24, H25⟩ | ⟨c24, H25⟩
   ·refine Z1 c24 ?_
    obtain rfl := Zi H25;exact ⟨⟨true, rfl⟩, ZR []⟩
   ·refine Z1 c24 ?_
    obtain rfl := Zi H25;exact ⟨⟨(decide (5000 < t53)), rfl⟩, ZR []⟩
  ·rintro ⟨t32, he199⟩
   obtain rfl := he199.symm;try dsimp only at H23
   refine ZT 1 ?_;refine Z0 ?_;rcases zit H23 with ⟨c26, H27⟩ | ⟨c26, H27⟩
   ·refine Z1 c26 ?_
    obtain rfl := Zi H27;exact ZE0
   ·refine Z1 c26 ?_
    refine zsq (zsq ?_);refine ZT 1 ?_;refine Z1 c26 ?_;obtain ⟨e_3, E28, H29⟩ := zbi H27;refine zjn (α := { y : Unit // e_3 = .inl y }) (fun | ⟨_, _⟩ => ⟨upd 0 (.v (.string t0)) noFr, noHp, 0⟩) ?_ ?_
    ·refine zbk ?_
     refine zlp (α := { q : Nat × Int // qH_ n t0 q.1 q.2 = some e_3 }) (fun | ⟨⟨c, t7⟩, _⟩ => ⟨upd 0 (.v (.string t0)) (upd 7 (.v (.int .i64 t7)) noFr), noHp, 0⟩) (fun q => q.1.1) ⟨(n, 0), E28⟩ ?_ ?_
     ·exact ZR []
     ·rintro ⟨⟨c, t7⟩, L30⟩
      rcases c with _ | c
      ·exact Zx L30
      ·unfold qH_ at L30
       try dsimp only at L30
       refine ZT 1 ?_;refine Z0 ?_;rcases zit L30 with ⟨c65, H66⟩ | ⟨c65, H66⟩
       ·obtain ⟨ch5, b67, H68⟩ := zbi H66
        obtain ⟨h69, by_5, h70, h71⟩ := zbx b67;try simp only [Int.reduceToNat, Int.toNat_natCast] at h70
        refine Z1 (Y4 c65 (zno .i64 h69) h70 h71.symm) ?_;rcases zit H68 with ⟨c72, H73⟩ | ⟨c72, H73⟩
        ·refine Z1 (Y5 c65 (zno .i64 h69) h70 h71.symm c72) ?_
         rcases zit H73 with ⟨c74, H75⟩ | ⟨c74, H75⟩
         ·refine Z1 (Y6 c65 (zno .i64 h69) h70 h71.symm c72 c74) ?_
          exact ⟨⟨(c, (IntKind.i64.wrap (t7 + 1))), H75⟩, ZR [], Nat.lt_succ_self _⟩
         ·obtain ⟨ch6, b76, H77⟩ := zbi H75
          obtain ⟨h78, by_6, h79, h80⟩ := zbx b76;try simp only [Int.reduceToNat, Int.toNat_natCast] at h79
          refine Z1 (Y2 (Y6 c65 (zno .i64 h69) h70 h71.symm c72 c74) (Y3 (zno .i64 h78) h79 h80.symm)) ?_;rcases zit H77 with ⟨c81, H82⟩ | ⟨c81, H82⟩
          ·refine Z1 (Y2 (Y6 c65 (zno .i64 h69) h70 h71.symm c72 c74) (Y4 (zno .i64 h78) h79 h80.symm c81)) ?_
           exact ⟨⟨(c, (IntKind.i64.wrap (t7 + 1))), H82⟩, ZR [], Nat.lt_succ_self _⟩
          ·refine Z1 (Y2 (Y6 c65 (zno .i64 h69) h70 h71.symm c72 c74) (Y4 (zno .i64 h78) h79 h80.symm c81)) ?_
           rcases zit H82 with ⟨c83, H84⟩ | ⟨c83, H84⟩
           ·refine Z1 (Y2 (Y6 c65 (zno .i64 h69) h70 h71.symm c72 c74) (Y5 (zno .i64 h78) h79 h80.symm c81 c83)) ?_
            exact ⟨⟨(c, (IntKind.i64.wrap (t7 + 1))), H84⟩, ZR [], Nat.lt_succ_self _⟩
           ·refine Z1 (Y2 (Y6 c65 (zno .i64 h69) h70 h71.symm c72 c74) (Y5 (zno .i64 h78) h79 h80.symm c81 c83)) ?_
            rcases zit H84 with ⟨c85, H86⟩ | ⟨c85, H86⟩
            ·refine Z1 (Y2 (Y6 c65 (zno .i64 h69) h70 h71.symm c72 c74) (Y6 (zno .i64 h78) h79 h80.symm c81 c83 c85)) ?_
             exact ⟨⟨(c, (IntKind.i64.wrap (t7 + 1))), H86⟩, ZR [], Nat.lt_succ_self _⟩
            ·refine Z1 (Y2 (Y6 c65 (zno .i64 h69) h70 h71.symm c72 c74) (Y6 (zno .i64 h78) h79 h80.symm c81 c83 c85)) ?_
             rcases zit H86 with ⟨c87, H88⟩ | ⟨c87, H88⟩
             ·refine Z1 (Y3 (Y6 c65 (zno .i64 h69) h70 h71.symm c72 c74) (Y6 (zno .i64 h78) h79 h80.symm c81 c83 c85) c87) ?_
              rcases zit H88 with ⟨c89, H90⟩ | ⟨c89, H90⟩
              ·refine Z1 (Y3 (Y6 c65 (zno .i64 h69) h70 h71.symm c72 c74) (Y6 (zno .i64 h78) h79 h80.symm c81 c83 c85) (Y2 c87 c89)) ?_
               exact ⟨⟨(c, (IntKind.i64.wrap (t7 + 1))), H90⟩, ZR [], Nat.lt_succ_self _⟩
              ·refine Z1 (Y3 (Y6 c65 (zno .i64 h69) h70 h71.symm c72 c74) (Y6 (zno .i64 h78) h79 h80.symm c81 c83 c85) (Y2 c87 c89)) ?_
               obtain rfl := Zi H90;obtain rfl := Zi H29;exact ZE0
             ·refine Z1 (Y3 (Y6 c65 (zno .i64 h69) h70 h71.symm c72 c74) (Y6 (zno .i64 h78) h79 h80.symm c81 c83 c85) c87) ?_
              obtain rfl := Zi H88;obtain rfl := Zi H29;exact ZE0
        ·refine Z1 (Y5 c65 (zno .i64 h69) h70 h71.symm c72) ?_
         rcases zit H73 with ⟨c91, H92⟩ | ⟨c91, H92⟩
         ·refine Z1 (Y6 c65 (zno .i64 h69) h70 h71.symm c72 c91) ?_
          exact ⟨⟨(c, (IntKind.i64.wrap (t7 + 1))), H92⟩, ZR [], Nat.lt_succ_self _⟩
         ·refine Z1 (Y6 c65 (zno .i64 h69) h70 h71.symm c72 c91) ?_
          rcases zit H92 with ⟨c93, H94⟩ | ⟨c93, H94⟩
          ·refine Z1 (Y2 (Y6 c65 (zno .i64 h69) h70 h71.symm c72 c91) c93) ?_
           exact ⟨⟨(c, (IntKind.i64.wrap (t7 + 1))), H94⟩, ZR [], Nat.lt_succ_self _⟩
          ·refine Z1 (Y2 (Y6 c65 (zno .i64 h69) h70 h71.symm c72 c91) c93) ?_
           rcases zit H94 with ⟨c95, H96⟩ | ⟨c95, H96⟩
           ·refine Z1 (Y2 (Y6 c65 (zno .i64 h69) h70 h71.symm c72 c91) (Y2 c93 c95)) ?_
            rcases zit H96 with ⟨c97, H98⟩ | ⟨c97, H98⟩
            ·refine Z1 (Y2 (Y6 c65 (zno .i64 h69) h70 h71.symm c72 c91) (Y3 c93 c95 c97)) ?_
             exact ⟨⟨(c, (IntKind.i64.wrap (t7 + 1))), H98⟩, ZR [], Nat.lt_succ_self _⟩
            ·refine Z1 (Y2 (Y6 c65 (zno .i64 h69) h70 h71.symm c72 c91) (Y3 c93 c95 c97)) ?_
             obtain rfl := Zi H98;obtain rfl := Zi H29;exact ZE0
           ·refine Z1 (Y2 (Y6 c65 (zno .i64 h69) h70 h71.symm c72 c91) (Y2 c93 c95)) ?_
            obtain rfl := Zi H96;obtain rfl := Zi H29;exact ZE0
       ·refine Z1 c65 ?_
        obtain rfl := Zi H66;exact ⟨⟨(), rfl⟩, ZR []⟩
    ·rintro ⟨_, he198⟩
     obtain rfl := he198.symm;try dsimp only at H29
     refine zsq (ZT 1 ?_);refine Z0 ?_;refine zsq (ZT 1 ?_);refine Z0 ?_;refine zsq (zsq ?_);refine ZT 1 ?_;refine Z0 ?_;obtain ⟨e_4, E99, H100⟩ := zbi H29;refine zjn (α := { y : List GLine // e_4 = y } × Nat) (fun | ⟨⟨t93, _⟩, g6⟩ => ⟨upd 9 (accV 0 g6 (List.map eGLine t93)) noFr, upd 0 (accO 2 g6 false (List.map eGLine t93)) noHp, 1⟩) ?_ ?_
     ·refine zbk ?_
      refine zlp (α := { q : (Nat × (List GLine × Int × Int)) × Nat // jj_ n t0 q.1.1 q.1.2 = some e_4 }) (fun | ⟨⟨⟨c, ⟨t9, t10, t11⟩⟩, g⟩, _⟩ => ⟨upd 0 (.v (.string t0)) (upd 9 (accV 0 g (List.map eGLine t9)) (upd 10 (.v (.int .i64 t10)) (upd 11 (.v (.int .i64 t11)) noFr))), upd 0 (accO 2 g false (List.map eGLine t9)) noHp, 1⟩) (fun q => q.1.1.1) ⟨((n, ([], 0, 0)), 0), E99⟩ ?_ ?_
      ·exact ZR []
      ·rintro ⟨⟨⟨c, ⟨t9, t10, t11⟩⟩, g⟩, L101⟩
       rcases c with _ | c
       ·exact Zx L101
       ·unfold jj_ at L101
        try dsimp only at L101
        refine zsq (ZT 1 ?_);refine Z0 ?_;rcases zit L101 with ⟨c141, H142⟩ | ⟨c141, H142⟩
        ·refine Z1 c141 ?_
         refine zsq (zbk ?_);refine zsq (zsq ?_);obtain ⟨e_8, E143, H144⟩ := zbi H142;refine zjn (α := { y : Bool // e_8 = y } × Nat) (fun | ⟨⟨t902, _⟩, g2⟩ => ⟨upd 0 (.v (.string t0)) (upd 9 (accV 0 g2 (List.map eGLine t9)) (upd 10 (.v (.int .i64 t10)) (upd 11 (.v (.int .i64 t11)) (upd 90 (.v (.bool t902)) noFr)))), upd 0 (accO 2 g2 false (List.map eGLine t9)) noHp, 1⟩) ?_ ?_
         ·refine ZT 1 ?_
          refine Z0 ?_;rcases zit E143 with ⟨c145, H146⟩ | ⟨c145, H146⟩
          ·obtain ⟨ch8, b147, H148⟩ := zbi H146
           obtain ⟨h149, by_8, h150, h151⟩ := zbx b147;try simp only [Int.reduceToNat, Int.toNat_natCast] at h150
           refine Z1 (Y4 c145 (zno .i64 h149) h150 h151.symm) ?_;obtain rfl := Zi H148;exact ⟨⟨⟨(ch8 != 10), rfl⟩, g⟩, ZR [(0, 0)]⟩
          ·refine Z1 c145 ?_
           obtain rfl := Zi H146;exact ⟨⟨⟨false, rfl⟩, g⟩, ZR [(0, 0)]⟩
         ·rintro ⟨⟨t902, he196⟩, g2⟩
          obtain rfl := he196.symm;try dsimp only at H144
          refine ZT 1 ?_;refine Z0 ?_;rcases zit H144 with ⟨c152, H153⟩ | ⟨c152, H153⟩
          ·refine Z1 c152 ?_
           refine ZT 1 ?_;refine Z1 c152 ?_;exact ⟨⟨((c, (t9, t10, (IntKind.i64.wrap (t11 + 1)))), g2), H153⟩, ZR [(0, 0)], Nat.lt_succ_self _⟩
          ·refine Z1 c152 ?_
           refine zsq (ZT 1 ?_);refine Z1 c152 ?_;refine zsq (zsq ?_);obtain ⟨e_9, E154, H155⟩ := zbi H153
           refine zjn (α := { y : Bool // e_9 = y } × Nat) (fun | ⟨⟨t101, _⟩, g3⟩ => ⟨upd 0 (.v (.string t0)) (upd 9 (accV 0 g3 (List.map eGLine t9)) (upd 10 (.v (.int .i64 t10)) (upd 11 (.v (.int .i64 t11)) (upd 12 (.v (.int .i64 t11)) (upd 101 (.v (.bool t101)) noFr))))), upd 0 (accO 2 g3 false (List.map eGLine t9)) noHp, 1⟩) ?_ ?_
           ·refine ZT 1 ?_
            refine Z0 ?_;rcases zit E154 with ⟨c156, H157⟩ | ⟨c156, H157⟩
            ·obtain ⟨ch9, b158, H159⟩ := zbi H157
             obtain ⟨h160, by_9, h161, h162⟩ := zbx b158;try simp only [Int.reduceToNat, Int.toNat_natCast] at h161
             refine Z1 (Y4 c156 (zno .i64 h160) h161 h162.symm) ?_;obtain rfl := Zi H159;exact ⟨⟨⟨(ch9 == 13), rfl⟩, g2⟩, ZR [(0, 0)]⟩
            ·refine Z1 c156 ?_
             obtain rfl := Zi H157;exact ⟨⟨⟨false, rfl⟩, g2⟩, ZR [(0, 0)]⟩
           ·rintro ⟨⟨t101, he195⟩, g3⟩
            obtain rfl := he195.symm;try dsimp only at H155
            obtain ⟨e_10, E163, H164⟩ := zbi H155;refine zjn (α := { y : Int // e_10 = y } × Nat) (fun | ⟨⟨t12, _⟩, g4⟩ => ⟨upd 0 (.v (.string t0)) (upd 9 (accV 0 g4 (List.map eGLine t9)) (upd 10 (.v (.int .i64 t10)) (upd 11 (.v (.int .i64 t11)) (upd 12 (.v (.int .i64 t12)) noFr)))), upd 0 (accO 2 g4 false (List.map eGLine t9)) noHp, 1⟩) ?_ ?_
            ·refine ZT 1 ?_
             refine Z0 ?_;rcases zit E163 with ⟨c165, H166⟩ | ⟨c165, H166⟩
             ·refine Z1 c165 ?_
              obtain rfl := Zi H166;exact ⟨⟨⟨(IntKind.i64.wrap (t11 - 1)), rfl⟩, g3⟩, ZR [(0, 0)]⟩
             ·refine Z1 c165 ?_
              obtain rfl := Zi H166;exact ⟨⟨⟨t11, rfl⟩, g3⟩, ZR [(0, 0)]⟩
            ·rintro ⟨⟨t12, he194⟩, g4⟩
             obtain rfl := he194.symm;try dsimp only at H164
             refine ZT 3 ?_;obtain ⟨s2, b167, H168⟩ := zbi H164;obtain ⟨h169, h170, h171, h172⟩ := zbs b167;have h173 : Int.toNat t10 ≤ Int.toNat t12 := by omega
             have h174 : Int.toNat t12 ≤ t0.size := by omega
             have h175 : ByteArray.extract t0 (Int.toNat t10) (Int.toNat t12) = s2 := h172.symm;try simp only [Int.toNat_natCast] at h173 h174 h175
             obtain ⟨t1092, b176, H177⟩ := zbi H168;refine Z1 (Y5 (zno .i64 h169) (zno .i64 (Int.le_trans h169 h170)) h173 h174 h175) ?_;refine ZC0 (g7_ b176) ?_;refine Z1 (Y5 (zno .i64 h169) (zno .i64 (Int.le_trans h169 h170)) h173 h174 h175) ?_;rcases zit H177 with ⟨c178, H179⟩ | ⟨c178, H179⟩
             ·obtain ⟨x2, b180, H181⟩ := zbi H179
              obtain ⟨h182, h183⟩ := zix b180;try simp only [Int.reduceToNat] at h183
              have h184 := qi_ eGWord h183;obtain ⟨l, b186, H187⟩ := zbi H181;obtain ⟨h188, h189⟩ := qj_ b186;have h188 : t9.length + 1 ≤ 4294967296 := h188;have h190 : List.map eGLine t9 ++ [[.v (.int .i64 x2.at_), .sl (List.map eGWord t1092)]] = List.map eGLine l := qm_ eGLine h189;have h191 : t9.length + 1 = l.length := qn_ h189;have h192 : l.length ≤ 4294967296 := by omega
              have q193 : 0 < l.length := by omega
              refine Z1 (Y2 (Y6 (zno .i64 h169) (zno .i64 (Int.le_trans h169 h170)) h173 h174 h175 c178) (Y6 (zno .i64 h182) h184 h188 h190 h191 h192)) ?_;rcases t9 with _ | ⟨q0, q1⟩
              ·try simp only [List.map_nil, accI, accN]
               exact ⟨⟨((c, (l, (IntKind.i64.wrap (t11 + 1)), (IntKind.i64.wrap (t11 + 1)))), 0), H187⟩, ZR [(0, 19)], Nat.lt_succ_self _⟩
              ·try simp only [List.map_cons, accI, accN]
               exact ⟨⟨((c, (l, (IntKind.i64.wrap (t11 + 1)), (IntKind.i64.wrap (t11 + 1)))), (g4 + 1)), H187⟩, ZR [(0, 0)], Nat.lt_succ_self _⟩
             ·refine Z1 (Y6 (zno .i64 h169) (zno .i64 (Int.le_trans h169 h170)) h173 h174 h175 c178) ?_
              exact ⟨⟨((c, (t9, (IntKind.i64.wrap (t11 + 1)), (IntKind.i64.wrap (t11 + 1)))), g4), H179⟩, ZR [(0, 0)], Nat.lt_succ_self _⟩
        ·refine Z1 c141 ?_
         obtain rfl := Zi H142;exact ⟨⟨⟨t9, rfl⟩, g⟩, ZR [(0, 0)]⟩
     ·rintro ⟨⟨t93, he197⟩, g6⟩
      obtain rfl := he197.symm;try dsimp only at H100
      refine ZT 1 ?_;refine Z0 ?_;obtain rfl := Zi H100;exact ZE0
def wQ_ (_ : Nat) : Option (List ByteArray) :=
 some ([{ data := #[] }, { data := #[117, 115, 101, 114] }, { data := #[114, 111, 108, 101] }, { data := #[105, 110, 104, 101, 114, 105, 116] }, { data := #[97, 115, 115, 105, 103, 110] }, { data := #[103, 114, 97, 110, 116] }, { data := #[115, 115, 100] }, { data := #[100, 115, 100] }, { data := #[115, 101, 115, 115, 105, 111, 110] }] : List ByteArray)
theorem uM_ {n : Nat} {r : List ByteArray} (H : wQ_ n  = some r) : PureOK Tryz.prog 75 [] (D.sl (List.map eS r)) true := by
 unfold wQ_ at H;refine ZP qo_ fol (rs := #[.tmp 0]) Tryz.func75 ?_;refine ZT 1 ?_;refine Z0 ?_;obtain rfl := Zi H;exact ZE0
def jx_ (n : Nat) (s : ByteArray) : Nat → (Int × Int) → Option ((Int) ⊕ Int)
 | 0, _ => none
 | c + 1, (n_, i) =>
  (if (decide (i < (s.size : Int))) then
   (
    (bidx s i).bind fun ch3 =>
    (if (decide (ch3 < 48)) then
     some true
    else
     some (decide (57 < ch3))) : Option (Bool)).bind fun t202 =>
   (if t202 then
    some (.inr 0)
   else
    (bidx s i).bind fun ch4 =>
    (if (i == 2) then
     some (.inr 0)
    else
     (bidx s 0).bind fun ch5 =>
     (if (ch5 == 48) then
      some (.inr 0)
     else
      jx_ n s c ((IntKind.i64.wrap ((IntKind.i64.wrap (10 * n_)) + (IntKind.i64.wrap (IntKind.u8.wrap (ch4 - 48))))), (IntKind.i64.wrap (i + 1))))))
  else
   some (.inl n_))
def zr_ (n : Nat) (s : ByteArray) : Option Int :=
 (
  jx_ n s n (0, 0) : Option ((Int) ⊕ Int)).bind fun
  | .inl n_3 =>
   some n_3
  | .inr r => some r
theorem ut_ {n : Nat} {s : ByteArray} {r : Int} (H : zr_ n s = some r) : PureOK Tryz.prog 76 [D.v (.string s)] (D.v (.int .i64 r)) true := by
 unfold zr_ at H;refine ZP qo_ fol (rs := #[.tmp 2]) Tryz.func76 ?_;refine zsq (ZT 1 ?_);refine Z0 ?_;refine zsq (ZT 1 ?_);refine Z0 ?_;refine zsq (zsq ?_);refine ZT 1 ?_;refine Z0 ?_;obtain ⟨e_, E1, H2⟩ := zbi H;refine zjn (α := { y : Int // e_ = .inl y }) (fun | ⟨n_3, _⟩ => ⟨upd 3 (.v (.int .i64 n_3)) noFr, noHp, 0⟩) ?_ ?_
 ·refine zbk ?_
  refine zlp (α := { q : Nat × (Int × Int) // jx_ n s q.1 q.2 = some e_ }) (fun | ⟨⟨c, ⟨n_, i⟩⟩, _⟩ => ⟨upd 0 (.v (.string s)) (upd 3 (.v (.int .i64 n_)) (upd 4 (.v (.int .i64 i)) noFr)), noHp, 0⟩) (fun q => q.1.1) ⟨(n, (0, 0)), E1⟩ ?_ ?_
  ·exact ZR []
  ·rintro ⟨⟨c, ⟨n_, i⟩⟩, L3⟩
   rcases c with _ | c
   ·exact Zx L3
   ·unfold jx_ at L3
    try dsimp only at L3
    refine zsq (ZT 1 ?_);refine Z0 ?_;rcases zit L3 with ⟨c25, H26⟩ | ⟨c25, H26⟩
    ·refine Z1 c25 ?_
     refine zsq (zbk ?_);refine zsq (zsq ?_);obtain ⟨e_3, E27, H28⟩ := zbi H26;refine zjn (α := { y : Bool // e_3 = y }) (fun | ⟨t202, _⟩ => ⟨upd 0 (.v (.string s)) (upd 3 (.v (.int .i64 n_)) (upd 4 (.v (.int .i64 i)) (upd 20 (.v (.bool t202)) noFr))), noHp, 0⟩) ?_ ?_
     ·refine ZT 1 ?_
      obtain ⟨ch3, b29, H30⟩ := zbi E27;obtain ⟨h31, by_3, h32, h33⟩ := zbx b29;try simp only [Int.reduceToNat, Int.toNat_natCast] at h32
      refine Z1 (Y3 (zno .i64 h31) h32 h33.symm) ?_;rcases zit H30 with ⟨c34, H35⟩ | ⟨c34, H35⟩
      ·refine Z1 (Y4 (zno .i64 h31) h32 h33.symm c34) ?_
       obtain rfl := Zi H35;exact ⟨⟨true, rfl⟩, ZR []⟩
      ·refine Z1 (Y4 (zno .i64 h31) h32 h33.symm c34) ?_
       obtain rfl := Zi H35;exact ⟨⟨(decide (57 < ch3)), rfl⟩, ZR []⟩
     ·rintro ⟨t202, he52⟩
      obtain rfl := he52.symm;try dsimp only at H28
      refine ZT 4 ?_;refine Z0 ?_;rcases zit H28 with ⟨c36, H37⟩ | ⟨c36, H37⟩
      ·refine Z1 c36 ?_
       obtain rfl := Zi H37;obtain rfl := Zi H2;exact ZE0
      ·obtain ⟨ch4, b38, H39⟩ := zbi H37
       obtain ⟨h40, by_4, h41, h42⟩ := zbx b38;try simp only [Int.reduceToNat, Int.toNat_natCast] at h41
       refine Z1 (Y4 c36 (zno .i64 h40) h41 h42.symm) ?_;rcases zit H39 with ⟨c43, H44⟩ | ⟨c43, H44⟩
       ·refine Z1 (Y5 c36 (zno .i64 h40) h41 h42.symm c43) ?_
        obtain rfl := Zi H44;obtain rfl := Zi H2;exact ZE0
       ·obtain ⟨ch5, b45, H46⟩ := zbi H44
        obtain ⟨h47, by_5, h48, h49⟩ := zbx b45;try simp only [Int.reduceToNat] at h48
        refine Z1 (Y2 (Y6 c36 (zno .i64 h40) h41 h42.symm c43 (zno .i64 h47)) (Y2 h48 h49.symm)) ?_;rcases zit H46 with ⟨c50, H51⟩ | ⟨c50, H51⟩
        ·refine Z1 (Y2 (Y6 c36 (zno .i64 h40) h41 h42.symm c43 (zno .i64 h47)) (Y3 h48 h49.symm c50)) ?_
         obtain rfl := Zi H51;obtain rfl := Zi H2;exact ZE0
        ·refine Z1 (Y2 (Y6 c36 (zno .i64 h40) h41 h42.symm c43 (zno .i64 h47)) (Y3 h48 h49.symm c50)) ?_
         exact ⟨⟨(c, ((IntKind.i64.wrap ((IntKind.i64.wrap (10 * n_)) + (IntKind.i64.wrap (IntKind.u8.wrap (ch4 - 48))))), (IntKind.i64.wrap (i + 1)))), H51⟩, ZR [], Nat.lt_succ_self _⟩
    ·refine Z1 c25 ?_
     obtain rfl := Zi H26;exact ⟨⟨n_, rfl⟩, ZR []⟩
 ·rintro ⟨n_3, he53⟩
  obtain rfl := he53.symm;try dsimp only at H2
  refine ZT 1 ?_;refine Z0 ?_;obtain rfl := Zi H2;exact ZE0
def zH_ (_ : Nat) (c2 : Int) : Option Bool :=
 (if (decide (97 ≤ c2)) then
  (if (decide (c2 ≤ 122)) then
   some true
  else
   (if (decide (48 ≤ c2)) then
    some (decide (c2 ≤ 57))
   else
    some false))
 else
  (if (decide (48 ≤ c2)) then
   some (decide (c2 ≤ 57))
  else
   some false))
theorem kx_ {n : Nat} {c2 : Int} {r : Bool} (H : zH_ n c2 = some r) : PureOK Tryz.prog 92 [D.v (.int .u8 c2)] (D.v (.bool r)) true := by
 unfold zH_ at H;refine ZP qo_ fol (rs := #[.tmp 2]) Tryz.func92 ?_;refine ZT 1 ?_;refine Z0 ?_;rcases zit H with ⟨c1, H2⟩ | ⟨c1, H2⟩
 ·refine Z1 c1 ?_
  rcases zit H2 with ⟨c3, H4⟩ | ⟨c3, H4⟩
  ·refine Z1 (Y2 c1 c3) ?_
   obtain rfl := Zi H4;exact ZE0
  ·refine Z1 (Y2 c1 c3) ?_
   rcases zit H4 with ⟨c5, H6⟩ | ⟨c5, H6⟩
   ·refine Z1 (Y3 c1 c3 c5) ?_
    obtain rfl := Zi H6;exact ZE0
   ·refine Z1 (Y3 c1 c3 c5) ?_
    obtain rfl := Zi H6;exact ZE0
 ·refine Z1 c1 ?_
  rcases zit H2 with ⟨c7, H8⟩ | ⟨c7, H8⟩
  ·refine Z1 (Y2 c1 c7) ?_
   obtain rfl := Zi H8;exact ZE0
  ·refine Z1 (Y2 c1 c7) ?_
   obtain rfl := Zi H8;exact ZE0
def jt_ (n : Nat) (s : ByteArray) : Nat → Int → Option ((Unit) ⊕ Bool)
 | 0, _ => none
 | c + 1, i =>
  (if (decide (i < (s.size : Int))) then
   (bidx s i).bind fun ch3 =>
   (zH_ n ch3).bind fun t272 =>
   (if t272 then
    jt_ n s c (IntKind.i64.wrap (i + 1))
   else
    (if (ch3 != 95) then
     (if (ch3 != 45) then
      (if (ch3 != 46) then
       some (.inr false)
      else
       jt_ n s c (IntKind.i64.wrap (i + 1)))
     else
      jt_ n s c (IntKind.i64.wrap (i + 1)))
    else
     jt_ n s c (IntKind.i64.wrap (i + 1))))
  else
   some (.inl ()))
def wi_ (n : Nat) (s : ByteArray) : Option Bool :=
 (
  (if (decide ((s.size : Int) < 1)) then
   some true
  else
   (if (decide (30 < (s.size : Int))) then
    some true
   else
    (bidx s 0).bind fun ch =>
    (zH_ n ch).bind fun t15 =>
    some (!t15))) : Option (Bool)).bind fun t17 =>
 (if t17 then
  some false
 else
  (
   jt_ n s n 0 : Option ((Unit) ⊕ Bool)).bind fun
   | .inl _ =>
    some true
   | .inr r => some r)
theorem dg_ {n : Nat} {s : ByteArray} {r : Bool} (H : wi_ n s = some r) : PureOK Tryz.prog 77 [D.v (.string s)] (D.v (.bool r)) true := by
 unfold wi_ at H;refine ZP qo_ fol (rs := #[.tmp 2]) Tryz.func77 ?_;refine zsq (ZT 1 ?_);refine Z0 ?_;refine zsq (zsq ?_);obtain ⟨e_, E1, H2⟩ := zbi H;refine zjn (α := { y : Bool // e_ = y }) (fun | ⟨t17, _⟩ => ⟨upd 0 (.v (.string s)) (upd 17 (.v (.bool t17)) noFr), noHp, 0⟩) ?_ ?_
 ·refine ZT 1 ?_
  refine Z0 ?_;rcases zit E1 with ⟨c3, H4⟩ | ⟨c3, H4⟩
  ·refine Z1 c3 ?_
   obtain rfl := Zi H4;exact ⟨⟨true, rfl⟩, ZR []⟩
  ·refine Z1 c3 ?_
   rcases zit H4 with ⟨c5, H6⟩ | ⟨c5, H6⟩
   ·refine Z1 (Y2 c3 c5) ?_
    obtain rfl := Zi H6;exact ⟨⟨true, rfl⟩, ZR []⟩
   ·obtain ⟨ch, b7, H8⟩ := zbi H6
    obtain ⟨h9, by_, h10, h11⟩ := zbx b7;try simp only [Int.reduceToNat] at h10
    obtain ⟨t15, b12, H13⟩ := zbi H8;refine Z1 (Y5 c3 c5 (zno .i64 h9) h10 h11.symm) ?_;refine ZC0 (kx_ b12) ?_;refine Z1 (Y5 c3 c5 (zno .i64 h9) h10 h11.symm) ?_;obtain rfl := Zi H13;exact ⟨⟨(!t15), rfl⟩, ZR []⟩
 ·rintro ⟨t17, he54⟩
  obtain rfl := he54.symm;try dsimp only at H2
  refine ZT 1 ?_;refine Z0 ?_;rcases zit H2 with ⟨c14, H15⟩ | ⟨c14, H15⟩
  ·refine Z1 c14 ?_
   obtain rfl := Zi H15;exact ZE0
  ·refine Z1 c14 ?_
   refine zsq (zsq ?_);refine ZT 1 ?_;refine Z1 c14 ?_;obtain ⟨e_2, E16, H17⟩ := zbi H15;refine zjn (α := { y : Unit // e_2 = .inl y }) (fun | ⟨_, _⟩ => ⟨noFr, noHp, 0⟩) ?_ ?_
   ·refine zbk ?_
    refine zlp (α := { q : Nat × Int // jt_ n s q.1 q.2 = some e_2 }) (fun | ⟨⟨c, i⟩, _⟩ => ⟨upd 0 (.v (.string s)) (upd 3 (.v (.int .i64 i)) noFr), noHp, 0⟩) (fun q => q.1.1) ⟨(n, 0), E16⟩ ?_ ?_
    ·exact ZR []
    ·rintro ⟨⟨c, i⟩, L18⟩
     rcases c with _ | c
     ·exact Zx L18
     ·unfold jt_ at L18
      try dsimp only at L18
      refine ZT 1 ?_;refine Z0 ?_;rcases zit L18 with ⟨c36, H37⟩ | ⟨c36, H37⟩
      ·obtain ⟨ch3, b38, H39⟩ := zbi H37
       obtain ⟨h40, by_3, h41, h42⟩ := zbx b38;try simp only [Int.reduceToNat, Int.toNat_natCast] at h41
       obtain ⟨t272, b43, H44⟩ := zbi H39;refine Z1 (Y4 c36 (zno .i64 h40) h41 h42.symm) ?_;refine ZC0 (kx_ b43) ?_;refine Z1 (Y4 c36 (zno .i64 h40) h41 h42.symm) ?_;rcases zit H44 with ⟨c45, H46⟩ | ⟨c45, H46⟩
       ·refine Z1 (Y5 c36 (zno .i64 h40) h41 h42.symm c45) ?_
        exact ⟨⟨(c, (IntKind.i64.wrap (i + 1))), H46⟩, ZR [], Nat.lt_succ_self _⟩
       ·refine Z1 (Y5 c36 (zno .i64 h40) h41 h42.symm c45) ?_
        rcases zit H46 with ⟨c47, H48⟩ | ⟨c47, H48⟩
        ·refine Z1 (Y6 c36 (zno .i64 h40) h41 h42.symm c45 c47) ?_
         rcases zit H48 with ⟨c49, H50⟩ | ⟨c49, H50⟩
         ·refine Z1 (Y2 (Y6 c36 (zno .i64 h40) h41 h42.symm c45 c47) c49) ?_
          rcases zit H50 with ⟨c51, H52⟩ | ⟨c51, H52⟩
          ·refine Z1 (Y2 (Y6 c36 (zno .i64 h40) h41 h42.symm c45 c47) (Y2 c49 c51)) ?_
           obtain rfl := Zi H52;obtain rfl := Zi H17;exact ZE0
          ·refine Z1 (Y2 (Y6 c36 (zno .i64 h40) h41 h42.symm c45 c47) (Y2 c49 c51)) ?_
           exact ⟨⟨(c, (IntKind.i64.wrap (i + 1))), H52⟩, ZR [], Nat.lt_succ_self _⟩
         ·refine Z1 (Y2 (Y6 c36 (zno .i64 h40) h41 h42.symm c45 c47) c49) ?_
          exact ⟨⟨(c, (IntKind.i64.wrap (i + 1))), H50⟩, ZR [], Nat.lt_succ_self _⟩
        ·refine Z1 (Y6 c36 (zno .i64 h40) h41 h42.symm c45 c47) ?_
         exact ⟨⟨(c, (IntKind.i64.wrap (i + 1))), H48⟩, ZR [], Nat.lt_succ_self _⟩
      ·refine Z1 c36 ?_
       obtain rfl := Zi H37;exact ⟨⟨(), rfl⟩, ZR []⟩
   ·rintro ⟨_, he53⟩
    obtain rfl := he53.symm;try dsimp only at H17
    refine ZT 1 ?_;refine Z0 ?_;obtain rfl := Zi H17;exact ZE0
def jL_ (n : Nat) (t0 : GLine) (t23 : List ByteArray) : Nat → (Int × Int) → Option (Int)
 | 0, _ => none
 | c + 1, (t50, t7) =>
  (if (decide (t7 < (t23.length : Int))) then
   (idx t23 t7).bind fun x3 =>
   (idx t0.words 0).bind fun x4 =>
   (if (x3.toList == x4.text.toList) then
    jL_ n t0 t23 c (t7, (IntKind.i64.wrap (t7 + 1)))
   else
    jL_ n t0 t23 c (t50, (IntKind.i64.wrap (t7 + 1))))
  else
   some t50)
def jM_ (n : Nat) (t0 : GLine) (t503 : Int) : Nat → (Int × List ByteArray × Int) → Option ((Int × List ByteArray) ⊕ (GFact × Int × Int))
 | 0, _ => none
 | c + 1, (t54, t102, t112) =>
  (if (decide (t112 < (t0.words.length : Int))) then
   (idx t0.words t112).bind fun x8 =>
   (
    (if (t112 == 2) then
     (if (t503 == 6) then
      some true
     else
      some (t503 == 7))
    else
     some false) : Option (Bool)).bind fun t1052 =>
   (if t1052 then
    (zr_ n x8.text).bind fun t1082 =>
    (if (t1082 == 0) then
     some (.inr ((⟨0, ByteArray.empty, ByteArray.empty, ByteArray.empty, 0, [], 0⟩ : GFact), x8.at_, 9))
    else
     jM_ n t0 t503 c (t1082, t102, (IntKind.i64.wrap (t112 + 1))))
   else
    (wi_ n x8.text).bind fun t1183 =>
    (if t1183 then
     (app t102 [x8.text]).bind fun l2 =>
     jM_ n t0 t503 c (t54, l2, (IntKind.i64.wrap (t112 + 1)))
    else
     some (.inr ((⟨0, ByteArray.empty, ByteArray.empty, ByteArray.empty, 0, [], 0⟩ : GFact), x8.at_, 15))))
  else
   some (.inl (t54, t102)))
def vK_ (n : Nat) (t0 : GLine) : Option (GFact × Int × Int) :=
 (if ((t0.words.length : Int) == 0) then
  some ((⟨0, ByteArray.empty, ByteArray.empty, ByteArray.empty, 0, [], 0⟩ : GFact), t0.at_, 9)
 else
  (wQ_ n).bind fun t23 =>
  (
   jL_ n t0 t23 n (0, 1) : Option (Int)).bind fun t503 =>
  (
   (
    (if (t503 == 1) then
     some true
    else
     some (t503 == 2)) : Option (Bool)).bind fun t53 =>
   (if t53 then
    some (.inl ((t0.words.length : Int) == 2))
   else
    (
     (if (t503 == 3) then
      some true
     else
      some (t503 == 4)) : Option (Bool)).bind fun t58 =>
    (if t58 then
     some (.inl ((t0.words.length : Int) == 3))
    else
     (if (t503 == 5) then
      some (.inl ((t0.words.length : Int) == 4))
     else
      (
       (if (t503 == 6) then
        some true
       else
        some (t503 == 7)) : Option (Bool)).bind fun t67 =>
      (if t67 then
       some (.inl (decide (5 ≤ (t0.words.length : Int))))
      else
       (if (t503 == 8) then
        some (.inl (decide (3 ≤ (t0.words.length : Int))))
       else
        (idx t0.words 0).bind fun x5 =>
        some (.inr ((⟨0, ByteArray.empty, ByteArray.empty, ByteArray.empty, 0, [], 0⟩ : GFact), x5.at_, 9))))))) : Option ((Bool) ⊕ (GFact × Int × Int))).bind fun
   | .inl t9 =>
    (if t9 then
     (
      jM_ n t0 t503 n (0, [], 1) : Option ((Int × List ByteArray) ⊕ (GFact × Int × Int))).bind fun
      | .inl (t543, t104) =>
       (idx t104 0).bind fun x9 =>
       (
        (if (t503 == 3) then
         some true
        else
         some (t503 == 4)) : Option (Bool)).bind fun t134 =>
       (if t134 then
        (idx t104 1).bind fun x10 =>
        some ((⟨t503, x9, x10, ByteArray.empty, t543, [], t0.at_⟩ : GFact), 0, 0)
       else
        (if (t503 == 5) then
         (idx t104 1).bind fun x11 =>
         (idx t104 2).bind fun x12 =>
         some ((⟨t503, x9, x11, x12, t543, [], t0.at_⟩ : GFact), 0, 0)
        else
         (
          (if (t503 == 6) then
           some true
          else
           some (t503 == 7)) : Option (Bool)).bind fun t151 =>
         (if t151 then
          (slc t104 1 (t104.length : Int)).bind fun l3 =>
          (if (decide (1 < t104.length)) then
           some ((⟨t503, x9, ByteArray.empty, ByteArray.empty, t543, l3, t0.at_⟩ : GFact), 0, 0)
          else
           some ((⟨t503, x9, ByteArray.empty, ByteArray.empty, t543, [], t0.at_⟩ : GFact), 0, 0))
         else
          (if (t503 == 8) then
           (idx t104 1).bind fun x13 =>
           (slc t104 2 (t104.length : Int)).bind fun l4 =>
           (if (decide (2 < t104.length)) then
            some ((⟨t503, x9, x13, ByteArray.empty, t543, l4, t0.at_⟩ : GFact), 0, 0)
           else
            some ((⟨t503, x9, x13, ByteArray.empty, t543, [], t0.at_⟩ : GFact), 0, 0))
          else
           some ((⟨t503, x9, ByteArray.empty, ByteArray.empty, t543, [], t0.at_⟩ : GFact), 0, 0)))))
      | .inr r => some r
    else
     (idx t0.words 0).bind fun x14 =>
     some ((⟨0, ByteArray.empty, ByteArray.empty, ByteArray.empty, 0, [], 0⟩ : GFact), x14.at_, 9))
   | .inr r => some r)
set_option maxHeartbeats 8000000 in
theorem g9_ {n : Nat} {t0 : GLine} {r : GFact × Int × Int} (H : vK_ n t0 = some r) : PureOK Tryz.prog 48 [D.ag (eGLine t0)] (D.tu [D.ag (eGFact r.1), D.v (.int .i64 r.2.1), D.v (.int .i64 r.2.2)]) true := by
 unfold vK_ at H;refine ZP qo_ fol (rs := #[.cell 2 52, .tmp 3, .tmp 4]) Tryz.func48 ?_;refine zsq (ZT 1 ?_);refine Z0 ?_;refine zsq (ZT 1 ?_);refine Z0 ?_;rcases zit H with ⟨c1, H2⟩ | ⟨c1, H2⟩
 ·refine Z1 c1 ?_
  refine qf_ (by rfl) ?_;refine Z1 c1 ?_;obtain rfl := Zi H2;exact ZE0
 ·refine Z1 c1 ?_
  refine zsq (ZT 1 ?_);refine Z1 c1 ?_;refine zsq (ZT 1 ?_);obtain ⟨t23, b3, H4⟩ := zbi H2;refine Z1 c1 ?_;refine ZC0 (uM_ b3) ?_;refine Z1 c1 ?_;refine zsq (zsq ?_);refine ZT 1 ?_;refine Z1 c1 ?_;obtain ⟨e_, E5, H6⟩ := zbi H4
  refine zjn (α := { y : Int // e_ = y }) (fun | ⟨t503, _⟩ => ⟨upd 1 (.pt 0 0) (upd 2 (.pt 1 0) (upd 5 (.pt 2 0) noFr)), upd 0 (some (.bx [.v (.int .i64 t0.at_), .d (.sl (List.map eGWord t0.words)) true])) (upd 1 (some (.bx [.v (.int .i64 0), .v (.string ByteArray.empty), .v (.string ByteArray.empty), .v (.string ByteArray.empty), .v (.int .i64 0), .v (.slice none 0 0), .v (.int .i64 0)])) (upd 2 (some (.bx [.v (.int .i64 t503), .v (.string ByteArray.empty), .v (.string ByteArray.empty), .v (.string ByteArray.empty), .v (.int .i64 0), .v (.slice none 0 0), .v (.int .i64 t0.at_)])) noHp)), 3⟩) ?_ ?_
  ·refine zbk ?_
   refine zlp (α := { q : Nat × (Int × Int) // jL_ n t0 t23 q.1 q.2 = some e_ }) (fun | ⟨⟨c, ⟨t50, t7⟩⟩, _⟩ => ⟨upd 1 (.pt 0 0) (upd 2 (.pt 1 0) (upd 5 (.pt 2 0) (upd 6 (.d (.sl (List.map eS t23)) false) (upd 7 (.v (.int .i64 t7)) noFr)))), upd 0 (some (.bx [.v (.int .i64 t0.at_), .d (.sl (List.map eGWord t0.words)) true])) (upd 1 (some (.bx [.v (.int .i64 0), .v (.string ByteArray.empty), .v (.string ByteArray.empty), .v (.string ByteArray.empty), .v (.int .i64 0), .v (.slice none 0 0), .v (.int .i64 0)])) (upd 2 (some (.bx [.v (.int .i64 t50), .v (.string ByteArray.empty), .v (.string ByteArray.empty), .v (.string ByteArray.empty), .v (.int .i64 0), .v (.slice none 0 0), .v (.int .i64 t0.at_)])) noHp)), 3⟩) (fun q => q.1.1) ⟨(n, (0, 1)), E5⟩ ?_ ?_
   ·exact ZR [(0, 0), (1, 1), (2, 11)]
   ·rintro ⟨⟨c, ⟨t50, t7⟩⟩, L7⟩
    rcases c with _ | c
    ·exact Zx L7
    ·unfold jL_ at L7
     try dsimp only at L7
     refine ZT 1 ?_;refine Z0 ?_;rcases zit L7 with ⟨c24, H25⟩ | ⟨c24, H25⟩
     ·obtain ⟨x3, b26, H27⟩ := zbi H25
      obtain ⟨h28, h29⟩ := zix b26;try simp only [Int.reduceToNat, Int.toNat_natCast] at h29
      have h30 := qi_ eS h29;obtain ⟨x4, b32, H33⟩ := zbi H27;obtain ⟨h34, h35⟩ := zix b32;try simp only [Int.reduceToNat] at h35
      have h36 := qi_ eGWord h35;refine Z1 (Y5 c24 (zno .i64 h28) h30 (zno .i64 h34) h36) ?_;refine qf_ (by rfl) ?_;refine Z1 (Y5 c24 (zno .i64 h28) h30 (zno .i64 h34) h36) ?_;rcases zit H33 with ⟨c38, H39⟩ | ⟨c38, H39⟩
      ·refine Z1 (Y6 c24 (zno .i64 h28) h30 (zno .i64 h34) h36 c38) ?_
       exact ⟨⟨(c, (t7, (IntKind.i64.wrap (t7 + 1)))), H39⟩, ZR [(0, 0), (1, 1), (2, 2)], Nat.lt_succ_self _⟩
      ·refine Z1 (Y6 c24 (zno .i64 h28) h30 (zno .i64 h34) h36 c38) ?_
       exact ⟨⟨(c, (t50, (IntKind.i64.wrap (t7 + 1)))), H39⟩, ZR [(0, 0), (1, 1), (2, 2)], Nat.lt_succ_self _⟩
     ·refine Z1 c24 ?_
      obtain rfl := Zi H25;exact ⟨⟨t50, rfl⟩, ZR [(0, 0), (1, 1), (2, 2)]⟩
  ·rintro ⟨t503, he248⟩
   obtain rfl := he248.symm;try dsimp only at H6
   refine zsq (ZT 1 ?_);refine Z0 ?_;refine zsq (ZT 1 ?_);refine Z0 ?_;refine zsq (zsq ?_);refine ZT 1 ?_;refine Z0 ?_;obtain ⟨e_2, E40, H41⟩ := zbi H6
   refine zjn (α := { y : Bool // e_2 = .inl y }) (fun | ⟨t9, _⟩ => ⟨upd 1 (.pt 0 0) (upd 2 (.pt 1 0) (upd 5 (.pt 2 0) (upd 8 (.v (.int .i64 (t0.words.length : Int))) (upd 9 (.v (.bool t9)) noFr)))), upd 0 (some (.bx [.v (.int .i64 t0.at_), .d (.sl (List.map eGWord t0.words)) true])) (upd 1 (some (.bx [.v (.int .i64 0), .v (.string ByteArray.empty), .v (.string ByteArray.empty), .v (.string ByteArray.empty), .v (.int .i64 0), .v (.slice none 0 0), .v (.int .i64 0)])) (upd 2 (some (.bx [.v (.int .i64 t503), .v (.string ByteArray.empty), .v (.string ByteArray.empty), .v (.string ByteArray.empty), .v (.int .i64 0), .v (.slice none 0 0), .v (.int .i64 t0.at_)])) noHp)), 3⟩) ?_ ?_
   ·refine zbk ?_
    refine zsq (zsq ?_);refine ZT 1 ?_;refine Z0 ?_;obtain ⟨e_3, E42, H43⟩ := zbi E40
    refine zjn (α := { y : Bool // e_3 = y }) (fun | ⟨t53, _⟩ => ⟨upd 1 (.pt 0 0) (upd 2 (.pt 1 0) (upd 5 (.pt 2 0) (upd 8 (.v (.int .i64 (t0.words.length : Int))) (upd 46 (.v (.int .i64 t503)) (upd 53 (.v (.bool t53)) noFr))))), upd 0 (some (.bx [.v (.int .i64 t0.at_), .d (.sl (List.map eGWord t0.words)) true])) (upd 1 (some (.bx [.v (.int .i64 0), .v (.string ByteArray.empty), .v (.string ByteArray.empty), .v (.string ByteArray.empty), .v (.int .i64 0), .v (.slice none 0 0), .v (.int .i64 0)])) (upd 2 (some (.bx [.v (.int .i64 t503), .v (.string ByteArray.empty), .v (.string ByteArray.empty), .v (.string ByteArray.empty), .v (.int .i64 0), .v (.slice none 0 0), .v (.int .i64 t0.at_)])) noHp)), 3⟩) ?_ ?_
    ·refine ZT 1 ?_
     refine Z0 ?_;rcases zit E42 with ⟨c44, H45⟩ | ⟨c44, H45⟩
     ·refine Z1 c44 ?_
      obtain rfl := Zi H45;exact ⟨⟨true, rfl⟩, ZR [(0, 0), (1, 1), (2, 2)]⟩
     ·refine Z1 c44 ?_
      obtain rfl := Zi H45;exact ⟨⟨(t503 == 2), rfl⟩, ZR [(0, 0), (1, 1), (2, 2)]⟩
    ·rintro ⟨t53, he72⟩
     obtain rfl := he72.symm;try dsimp only at H43
     rcases zit H43 with ⟨c46, H47⟩ | ⟨c46, H47⟩
     ·refine xh_ (by rfl) c46 ?_
      refine Z1 c46 ?_;refine ZT 2 ?_;refine Z1 c46 ?_;obtain rfl := Zi H47;exact ⟨⟨((t0.words.length : Int) == 2), rfl⟩, ZR [(0, 0), (1, 1), (2, 2)]⟩
     ·refine xi_ (by rfl) c46 ?_
      refine Z1 c46 ?_;refine zsq (zsq ?_);refine ZT 1 ?_;refine Z1 c46 ?_;obtain ⟨e_4, E48, H49⟩ := zbi H47
      refine zjn (α := { y : Bool // e_4 = y }) (fun | ⟨t58, _⟩ => ⟨upd 1 (.pt 0 0) (upd 2 (.pt 1 0) (upd 5 (.pt 2 0) (upd 8 (.v (.int .i64 (t0.words.length : Int))) (upd 46 (.v (.int .i64 t503)) (upd 58 (.v (.bool t58)) noFr))))), upd 0 (some (.bx [.v (.int .i64 t0.at_), .d (.sl (List.map eGWord t0.words)) true])) (upd 1 (some (.bx [.v (.int .i64 0), .v (.string ByteArray.empty), .v (.string ByteArray.empty), .v (.string ByteArray.empty), .v (.int .i64 0), .v (.slice none 0 0), .v (.int .i64 0)])) (upd 2 (some (.bx [.v (.int .i64 t503), .v (.string ByteArray.empty), .v (.string ByteArray.empty), .v (.string ByteArray.empty), .v (.int .i64 0), .v (.slice none 0 0), .v (.int .i64 t0.at_)])) noHp)), 3⟩) ?_ ?_
      ·refine ZT 1 ?_
       refine Z0 ?_;rcases zit E48 with ⟨c50, H51⟩ | ⟨c50, H51⟩
       ·refine Z1 c50 ?_
        obtain rfl := Zi H51;exact ⟨⟨true, rfl⟩, ZR [(0, 0), (1, 1), (2, 2)]⟩
       ·refine Z1 c50 ?_
        obtain rfl := Zi H51;exact ⟨⟨(t503 == 4), rfl⟩, ZR [(0, 0), (1, 1), (2, 2)]⟩
      ·rintro ⟨t58, he71⟩
       obtain rfl := he71.symm;try dsimp only at H49
       rcases zit H49 with ⟨c52, H53⟩ | ⟨c52, H53⟩
       ·refine xh_ (by rfl) c52 ?_
        refine Z1 c52 ?_;refine ZT 2 ?_;refine Z1 c52 ?_;obtain rfl := Zi H53;exact ⟨⟨((t0.words.length : Int) == 3), rfl⟩, ZR [(0, 0), (1, 1), (2, 2)]⟩
       ·refine xi_ (by rfl) c52 ?_
        refine Z1 c52 ?_;refine zsq (ZT 1 ?_);refine Z1 c52 ?_;rcases zit H53 with ⟨c54, H55⟩ | ⟨c54, H55⟩
        ·refine xh_ (by rfl) c54 ?_
         refine Z1 (Y2 c52 c54) ?_;refine ZT 2 ?_;refine Z1 (Y2 c52 c54) ?_;obtain rfl := Zi H55;exact ⟨⟨((t0.words.length : Int) == 4), rfl⟩, ZR [(0, 0), (1, 1), (2, 2)]⟩
        ·refine xi_ (by rfl) c54 ?_
         refine Z1 (Y2 c52 c54) ?_;refine zsq (zsq ?_);refine ZT 1 ?_;refine Z1 (Y2 c52 c54) ?_;obtain ⟨e_5, E56, H57⟩ := zbi H55
         refine zjn (α := { y : Bool // e_5 = y }) (fun | ⟨t67, _⟩ => ⟨upd 1 (.pt 0 0) (upd 2 (.pt 1 0) (upd 5 (.pt 2 0) (upd 8 (.v (.int .i64 (t0.words.length : Int))) (upd 46 (.v (.int .i64 t503)) (upd 67 (.v (.bool t67)) noFr))))), upd 0 (some (.bx [.v (.int .i64 t0.at_), .d (.sl (List.map eGWord t0.words)) true])) (upd 1 (some (.bx [.v (.int .i64 0), .v (.string ByteArray.empty), .v (.string ByteArray.empty), .v (.string ByteArray.empty), .v (.int .i64 0), .v (.slice none 0 0), .v (.int .i64 0)])) (upd 2 (some (.bx [.v (.int .i64 t503), .v (.string ByteArray.empty), .v (.string ByteArray.empty), .v (.string ByteArray.empty), .v (.int .i64 0), .v (.slice none 0 0), .v (.int .i64 t0.at_)])) noHp)), 3⟩) ?_ ?_
         ·refine ZT 1 ?_
          refine Z0 ?_;rcases zit E56 with ⟨c58, H59⟩ | ⟨c58, H59⟩
          ·refine Z1 c58 ?_
           obtain rfl := Zi H59;exact ⟨⟨true, rfl⟩, ZR [(0, 0), (1, 1), (2, 2)]⟩
          ·refine Z1 c58 ?_
           obtain rfl := Zi H59;exact ⟨⟨(t503 == 7), rfl⟩, ZR [(0, 0), (1, 1), (2, 2)]⟩
         ·rintro ⟨t67, he70⟩
          obtain rfl := he70.symm;try dsimp only at H57
          refine ZT 2 ?_;refine Z0 ?_;rcases zit H57 with ⟨c60, H61⟩ | ⟨c60, H61⟩
          ·refine Z1 c60 ?_
           obtain rfl := Zi H61;exact ⟨⟨(decide (5 ≤ (t0.words.length : Int))), rfl⟩, ZR [(0, 0), (1, 1), (2, 2)]⟩
          ·refine Z1 c60 ?_
           rcases zit H61 with ⟨c62, H63⟩ | ⟨c62, H63⟩
           ·refine Z1 (Y2 c60 c62) ?_
            obtain rfl := Zi H63;exact ⟨⟨(decide (3 ≤ (t0.words.length : Int))), rfl⟩, ZR [(0, 0), (1, 1), (2, 2)]⟩
           ·obtain ⟨x5, b64, H65⟩ := zbi H63
            obtain ⟨h66, h67⟩ := zix b64;try simp only [Int.reduceToNat] at h67
            have h68 := qi_ eGWord h67;refine Z1 (Y4 c60 c62 (zno .i64 h66) h68) ?_;refine qf_ (by rfl) ?_;refine Z1 (Y4 c60 c62 (zno .i64 h66) h68) ?_;obtain rfl := Zi H65;obtain rfl := Zi H41;exact ZE0
   ·rintro ⟨t9, he247⟩
    obtain rfl := he247.symm;try dsimp only at H41
    refine zsq (ZT 1 ?_);refine Z0 ?_;rcases zit H41 with ⟨c73, H74⟩ | ⟨c73, H74⟩
    ·refine Z1 c73 ?_
     refine zsq (ZT 1 ?_);refine Z1 c73 ?_;refine zsq (zsq ?_);refine ZT 1 ?_;refine Z1 c73 ?_;obtain ⟨e_6, E75, H76⟩ := zbi H74
     refine zjn (α := { y : Int × List ByteArray // e_6 = .inl y } × Nat) (fun | ⟨⟨⟨t543, t104⟩, _⟩, g6⟩ => ⟨upd 2 (.pt 0 0) (upd 5 (.pt 1 0) (upd 10 (accV 2 g6 (List.map eS t104)) noFr)), upd 0 (some (.bx [.v (.int .i64 0), .v (.string ByteArray.empty), .v (.string ByteArray.empty), .v (.string ByteArray.empty), .v (.int .i64 0), .v (.slice none 0 0), .v (.int .i64 0)])) (upd 1 (some (.bx [.v (.int .i64 t503), .v (.string ByteArray.empty), .v (.string ByteArray.empty), .v (.string ByteArray.empty), .v (.int .i64 t543), .v (.slice none 0 0), .v (.int .i64 t0.at_)])) (upd 2 (accO 1 g6 false (List.map eS t104)) noHp)), 3⟩) ?_ ?_
     ·refine zbk ?_
      refine zlp (α := { q : (Nat × (Int × List ByteArray × Int)) × Nat // jM_ n t0 t503 q.1.1 q.1.2 = some e_6 }) (fun | ⟨⟨⟨c, ⟨t54, t102, t112⟩⟩, g3⟩, _⟩ => ⟨upd 1 (.pt 0 0) (upd 2 (.pt 1 0) (upd 5 (.pt 2 0) (upd 8 (.v (.int .i64 (t0.words.length : Int))) (upd 10 (accV 3 g3 (List.map eS t102)) (upd 11 (.v (.int .i64 t112)) noFr))))), upd 0 (some (.bx [.v (.int .i64 t0.at_), .d (.sl (List.map eGWord t0.words)) true])) (upd 1 (some (.bx [.v (.int .i64 0), .v (.string ByteArray.empty), .v (.string ByteArray.empty), .v (.string ByteArray.empty), .v (.int .i64 0), .v (.slice none 0 0), .v (.int .i64 0)])) (upd 2 (some (.bx [.v (.int .i64 t503), .v (.string ByteArray.empty), .v (.string ByteArray.empty), .v (.string ByteArray.empty), .v (.int .i64 t54), .v (.slice none 0 0), .v (.int .i64 t0.at_)])) (upd 3 (accO 1 g3 false (List.map eS t102)) noHp))), 4⟩) (fun q => q.1.1.1) ⟨((n, (0, [], 1)), 0), E75⟩ ?_ ?_
      ·exact ZR [(0, 0), (1, 1), (2, 2)]
      ·rintro ⟨⟨⟨c, ⟨t54, t102, t112⟩⟩, g3⟩, L77⟩
       rcases c with _ | c
       ·exact Zx L77
       ·unfold jM_ at L77
        try dsimp only at L77
        refine zsq (ZT 1 ?_);refine Z0 ?_;rcases zit L77 with ⟨c126, H127⟩ | ⟨c126, H127⟩
        ·refine Z1 c126 ?_
         refine zsq (zbk ?_);refine zsq (ZT 1 ?_);obtain ⟨x8, b128, H129⟩ := zbi H127;obtain ⟨h130, h131⟩ := zix b128;try simp only [Int.reduceToNat, Int.toNat_natCast] at h131
         have h132 := qi_ eGWord h131;refine Z1 (Y3 c126 (zno .i64 h130) h132) ?_;refine zsq (zsq ?_);obtain ⟨e_9, E134, H135⟩ := zbi H129
         refine zjn (α := { y : Bool // e_9 = y } × Nat) (fun | ⟨⟨t1052, _⟩, g4⟩ => ⟨upd 1 (.pt 0 0) (upd 2 (.pt 1 0) (upd 5 (.pt 2 0) (upd 8 (.v (.int .i64 (t0.words.length : Int))) (upd 10 (accV 3 g4 (List.map eS t102)) (upd 11 (.v (.int .i64 t112)) (upd 12 (.pt 4 0) (upd 105 (.v (.bool t1052)) noFr))))))), upd 0 (some (.bx [.v (.int .i64 t0.at_), .d (.sl (List.map eGWord t0.words)) true])) (upd 1 (some (.bx [.v (.int .i64 0), .v (.string ByteArray.empty), .v (.string ByteArray.empty), .v (.string ByteArray.empty), .v (.int .i64 0), .v (.slice none 0 0), .v (.int .i64 0)])) (upd 2 (some (.bx [.v (.int .i64 t503), .v (.string ByteArray.empty), .v (.string ByteArray.empty), .v (.string ByteArray.empty), .v (.int .i64 t54), .v (.slice none 0 0), .v (.int .i64 t0.at_)])) (upd 3 (accO 1 g4 false (List.map eS t102)) (upd 4 (some (.bx [.v (.string x8.text), .v (.int .i64 x8.at_)])) noHp)))), 5⟩) ?_ ?_
         ·refine ZT 1 ?_
          refine Z0 ?_;rcases zit E134 with ⟨c136, H137⟩ | ⟨c136, H137⟩
          ·refine Z1 c136 ?_
           rcases zit H137 with ⟨c138, H139⟩ | ⟨c138, H139⟩
           ·refine Z1 (Y2 c136 c138) ?_
            obtain rfl := Zi H139;exact ⟨⟨⟨true, rfl⟩, g3⟩, ZR [(0, 0), (1, 1), (2, 2), (3, 3), (4, 12)]⟩
           ·refine Z1 (Y2 c136 c138) ?_
            obtain rfl := Zi H139;exact ⟨⟨⟨(t503 == 7), rfl⟩, g3⟩, ZR [(0, 0), (1, 1), (2, 2), (3, 3), (4, 12)]⟩
          ·refine Z1 c136 ?_
           obtain rfl := Zi H137;exact ⟨⟨⟨false, rfl⟩, g3⟩, ZR [(0, 0), (1, 1), (2, 2), (3, 3), (4, 12)]⟩
         ·rintro ⟨⟨t1052, he158⟩, g4⟩
          obtain rfl := he158.symm;try dsimp only at H135
          refine ZT 4 ?_;refine Z0 ?_;rcases zit H135 with ⟨c140, H141⟩ | ⟨c140, H141⟩
          ·obtain ⟨t1082, b142, H143⟩ := zbi H141
           refine Z1 c140 ?_;refine ZC0 (ut_ b142) ?_;refine Z1 c140 ?_;rcases zit H143 with ⟨c144, H145⟩ | ⟨c144, H145⟩
           ·refine Z1 (Y2 c140 c144) ?_
            refine qf_ (by rfl) ?_;refine Z1 (Y2 c140 c144) ?_;obtain rfl := Zi H145;obtain rfl := Zi H76;exact ZE0
           ·refine Z1 (Y2 c140 c144) ?_
            exact ⟨⟨((c, (t1082, t102, (IntKind.i64.wrap (t112 + 1)))), g4), H145⟩, ZR [(0, 0), (1, 1), (2, 2), (3, 3)], Nat.lt_succ_self _⟩
          ·obtain ⟨t1183, b146, H147⟩ := zbi H141
           refine Z1 c140 ?_;refine ZC0 (dg_ b146) ?_;refine Z1 c140 ?_;rcases zit H147 with ⟨c148, H149⟩ | ⟨c148, H149⟩
           ·obtain ⟨l2, b150, H151⟩ := zbi H149
            obtain ⟨h152, h153⟩ := qj_ b150;have h152 : t102.length + 1 ≤ 4294967296 := h152;have h154 : List.map eS t102 ++ [[.v (.string x8.text)]] = List.map eS l2 := qm_ eS h153;have h155 : t102.length + 1 = l2.length := qn_ h153;have h156 : l2.length ≤ 4294967296 := by omega
            have q157 : 0 < l2.length := by omega
            refine Z1 (Y6 c140 c148 h152 h154 h155 h156) ?_;rcases t102 with _ | ⟨q0, q1⟩
            ·try simp only [List.map_nil, accI, accN]
             exact ⟨⟨((c, (t54, l2, (IntKind.i64.wrap (t112 + 1)))), 0), H151⟩, ZR [(0, 0), (1, 1), (2, 2), (3, 13)], Nat.lt_succ_self _⟩
            ·try simp only [List.map_cons, accI, accN]
             exact ⟨⟨((c, (t54, l2, (IntKind.i64.wrap (t112 + 1)))), (g4 + 1)), H151⟩, ZR [(0, 0), (1, 1), (2, 2), (3, 3)], Nat.lt_succ_self _⟩
           ·refine Z1 (Y2 c140 c148) ?_
            refine qf_ (by rfl) ?_;refine Z1 (Y2 c140 c148) ?_;obtain rfl := Zi H149;obtain rfl := Zi H76;exact ZE0
        ·refine Z1 c126 ?_
         obtain rfl := Zi H127;exact ⟨⟨⟨(t54, t102), rfl⟩, g3⟩, ZR [(0, 1), (1, 2), (2, 3)]⟩
     ·rintro ⟨⟨⟨t543, t104⟩, he240⟩, g6⟩
      obtain rfl := he240.symm;try dsimp only at H76
      refine zsq (ZT 1 ?_);obtain ⟨x9, b159, H160⟩ := zbi H76;obtain ⟨h161, h162⟩ := zix b159;try simp only [Int.reduceToNat] at h162
      have h163 := qi_ eS h162;have h164 := zN_ h162;have q165 : 0 < t104.length := by omega
      refine Z1 (Y5 (zno .i64 h161) h163 h164 (YV (f := eS) q165) (YO (f := eS) q165)) ?_;refine zsq (zsq ?_);refine ZT 1 ?_;refine Z1 (Y5 (zno .i64 h161) h163 h164 (YV (f := eS) q165) (YO (f := eS) q165)) ?_;refine zbk ?_;refine zsq (zsq ?_);refine ZT 1 ?_;refine Z1 (Y5 (zno .i64 h161) h163 h164 (YV (f := eS) q165) (YO (f := eS) q165)) ?_;obtain ⟨e_10, E166, H167⟩ := zbi H160
      refine zjn (α := { y : Bool // e_10 = y }) (fun | ⟨t134, _⟩ => ⟨upd 2 (.pt 0 0) (upd 5 (.pt 1 0) (upd 10 (.so 2 g6 0 (t104.length)) (upd 133 (.v (.int .i64 t503)) (upd 134 (.v (.bool t134)) noFr)))), upd 0 (some (.bx [.v (.int .i64 0), .v (.string ByteArray.empty), .v (.string ByteArray.empty), .v (.string ByteArray.empty), .v (.int .i64 0), .v (.slice none 0 0), .v (.int .i64 0)])) (upd 1 (some (.bx [.v (.int .i64 t503), .v (.string x9), .v (.string ByteArray.empty), .v (.string ByteArray.empty), .v (.int .i64 t543), .v (.slice none 0 0), .v (.int .i64 t0.at_)])) (upd 2 (some (.rw (List.map eS t104) 1 g6 false false)) noHp)), 3⟩) ?_ ?_
      ·refine ZT 1 ?_
       refine Z0 ?_;rcases zit E166 with ⟨c168, H169⟩ | ⟨c168, H169⟩
       ·refine Z1 c168 ?_
        obtain rfl := Zi H169;exact ⟨⟨true, rfl⟩, ZR [(0, 0), (1, 1), (2, 2)]⟩
       ·refine Z1 c168 ?_
        obtain rfl := Zi H169;exact ⟨⟨(t503 == 4), rfl⟩, ZR [(0, 0), (1, 1), (2, 2)]⟩
      ·rintro ⟨t134, he239⟩
       obtain rfl := he239.symm;try dsimp only at H167
       rcases zit H167 with ⟨c170, H171⟩ | ⟨c170, H171⟩
       ·refine xh_ (by rfl) c170 ?_
        refine Z1 c170 ?_;refine ZT 3 ?_;obtain ⟨x10, b172, H173⟩ := zbi H171;obtain ⟨h174, h175⟩ := zix b172;try simp only [Int.reduceToNat] at h175
        have h176 := qi_ eS h175;have h177 := zN_ h175;refine Z1 (Y4 c170 (zno .i64 h174) h176 h177) ?_;obtain rfl := Zi H173;exact ZE0
       ·refine xi_ (by rfl) c170 ?_
        refine Z1 c170 ?_;refine zsq (ZT 1 ?_);refine Z1 c170 ?_;rcases zit H171 with ⟨c178, H179⟩ | ⟨c178, H179⟩
        ·refine xh_ (by rfl) c178 ?_
         refine Z1 (Y2 c170 c178) ?_;refine ZT 3 ?_;obtain ⟨x11, b180, H181⟩ := zbi H179;obtain ⟨h182, h183⟩ := zix b180;try simp only [Int.reduceToNat] at h183
         have h184 := qi_ eS h183;have h185 := zN_ h183;obtain ⟨x12, b186, H187⟩ := zbi H181;obtain ⟨h188, h189⟩ := zix b186;try simp only [Int.reduceToNat] at h189
         have h190 := qi_ eS h189;have h191 := zN_ h189;refine Z1 (Y2 (Y6 c170 c178 (zno .i64 h182) h184 h185 (zno .i64 h188)) (Y2 h190 h191)) ?_;refine qf_ (by rfl) ?_;refine Z1 (Y2 (Y6 c170 c178 (zno .i64 h182) h184 h185 (zno .i64 h188)) (Y2 h190 h191)) ?_;obtain rfl := Zi H187;exact ZE0
        ·refine xi_ (by rfl) c178 ?_
         refine Z1 (Y2 c170 c178) ?_;refine zsq (zsq ?_);refine ZT 1 ?_;refine Z1 (Y2 c170 c178) ?_;obtain ⟨e_11, E192, H193⟩ := zbi H179
         refine zjn (α := { y : Bool // e_11 = y }) (fun | ⟨t151, _⟩ => ⟨upd 2 (.pt 0 0) (upd 5 (.pt 1 0) (upd 10 (.so 2 g6 0 (t104.length)) (upd 133 (.v (.int .i64 t503)) (upd 151 (.v (.bool t151)) noFr)))), upd 0 (some (.bx [.v (.int .i64 0), .v (.string ByteArray.empty), .v (.string ByteArray.empty), .v (.string ByteArray.empty), .v (.int .i64 0), .v (.slice none 0 0), .v (.int .i64 0)])) (upd 1 (some (.bx [.v (.int .i64 t503), .v (.string x9), .v (.string ByteArray.empty), .v (.string ByteArray.empty), .v (.int .i64 t543), .v (.slice none 0 0), .v (.int .i64 t0.at_)])) (upd 2 (some (.rw (List.map eS t104) 1 g6 false false)) noHp)), 3⟩) ?_ ?_
         ·refine ZT 1 ?_
          refine Z0 ?_;rcases zit E192 with ⟨c194, H195⟩ | ⟨c194, H195⟩
          ·refine Z1 c194 ?_
           obtain rfl := Zi H195;exact ⟨⟨true, rfl⟩, ZR [(0, 0), (1, 1), (2, 2)]⟩
          ·refine Z1 c194 ?_
           obtain rfl := Zi H195;exact ⟨⟨(t503 == 7), rfl⟩, ZR [(0, 0), (1, 1), (2, 2)]⟩
         ·rintro ⟨t151, he238⟩
          obtain rfl := he238.symm;try dsimp only at H193
          refine ZT 3 ?_;refine Z0 ?_;rcases zit H193 with ⟨c196, H197⟩ | ⟨c196, H197⟩
          ·obtain ⟨l3, b198, H199⟩ := zbi H197
           obtain ⟨h200, h201, h202, h203⟩ := v5_ b198;have h204 : 1 ≤ t104.length := by omega
           have h205 : t104.length ≤ t104.length := by omega
           simp only [Int.toNat_natCast, List.take_length] at h203;have h207 : t104.length - 1 = l3.length := by rw [h203]; simp; try omega
           have h206 : List.take l3.length (List.drop (1) (List.map eS t104)) = List.map eS l3 := gR_ eS h203;try simp only [Int.toNat_natCast] at h204 h205 h206 h207
           refine Z1 (Y6 c196 (zno .i64 h200) h204 h205 h207 h206) ?_;rcases zit H199 with ⟨c208, H209⟩ | ⟨c208, H209⟩
           ·have h210 : 1 < t104.length := of_decide_eq_true c208
            refine Z1 (Y2 (Y6 c196 (zno .i64 h200) h204 h205 h207 h206) h210) ?_;obtain rfl := Zi H209;exact ZE1 (Y2 (Y6 c196 (zno .i64 h200) h204 h205 h207 h206) h210)
           ·have h211 : ¬ 1 < t104.length := of_decide_eq_false c208
            have h212 : l3 = [] := List.eq_nil_of_length_eq_zero (by omega);have h213 : ¬ 1 = 0 := by omega
            refine Z1 (Y2 (Y6 c196 (zno .i64 h200) h204 h205 h207 h206) (Y2 h211 h213)) ?_;obtain rfl := Zi H209;exact ZE0
          ·refine Z1 c196 ?_
           rcases zit H197 with ⟨c214, H215⟩ | ⟨c214, H215⟩
           ·obtain ⟨x13, b216, H217⟩ := zbi H215
            obtain ⟨h218, h219⟩ := zix b216;try simp only [Int.reduceToNat] at h219
            have h220 := qi_ eS h219;have h221 := zN_ h219;obtain ⟨l4, b222, H223⟩ := zbi H217;obtain ⟨h224, h225, h226, h227⟩ := v5_ b222;have h228 : 2 ≤ t104.length := by omega
            have h229 : t104.length ≤ t104.length := by omega
            simp only [Int.toNat_natCast, List.take_length] at h227;have h231 : t104.length - 2 = l4.length := by rw [h227]; simp; try omega
            have h230 : List.take l4.length (List.drop (2) (List.map eS t104)) = List.map eS l4 := gR_ eS h227;try simp only [Int.toNat_natCast] at h228 h229 h230 h231
            refine Z1 (Y2 (Y6 c196 c214 (zno .i64 h218) h220 h221 (zno .i64 h224)) (Y4 h228 h229 h231 h230)) ?_;rcases zit H223 with ⟨c232, H233⟩ | ⟨c232, H233⟩
            ·have h234 : 2 < t104.length := of_decide_eq_true c232
             refine Z1 (Y2 (Y6 c196 c214 (zno .i64 h218) h220 h221 (zno .i64 h224)) (Y5 h228 h229 h231 h230 h234)) ?_;refine qf_ (by rfl) ?_;refine Z1 (Y2 (Y6 c196 c214 (zno .i64 h218) h220 h221 (zno .i64 h224)) (Y5 h228 h229 h231 h230 h234)) ?_;obtain rfl := Zi H233;exact ZE1 (Y2 (Y6 c196 c214 (zno .i64 h218) h220 h221 (zno .i64 h224)) (Y5 h228 h229 h231 h230 h234))
            ·have h235 : ¬ 2 < t104.length := of_decide_eq_false c232
             have h236 : l4 = [] := List.eq_nil_of_length_eq_zero (by omega);have h237 : ¬ 2 = 0 := by omega
             refine Z1 (Y2 (Y6 c196 c214 (zno .i64 h218) h220 h221 (zno .i64 h224)) (Y6 h228 h229 h231 h230 h235 h237)) ?_;refine qf_ (by rfl) ?_;refine Z1 (Y2 (Y6 c196 c214 (zno .i64 h218) h220 h221 (zno .i64 h224)) (Y6 h228 h229 h231 h230 h235 h237)) ?_;obtain rfl := Zi H233;exact ZE0
           ·refine Z1 (Y2 c196 c214) ?_
            obtain rfl := Zi H215;exact ZE0
    ·obtain ⟨x14, b241, H242⟩ := zbi H74
     obtain ⟨h243, h244⟩ := zix b241;try simp only [Int.reduceToNat] at h244
     have h245 := qi_ eGWord h244;refine Z1 (Y3 c73 (zno .i64 h243) h245) ?_;refine qf_ (by rfl) ?_;refine Z1 (Y3 c73 (zno .i64 h243) h245) ?_;obtain rfl := Zi H242;exact ZE0
def jT_ (n : Nat) (t15 : List GLine × Int × Int) : Nat → (List GFact × Int) → Option ((List GFact) ⊕ (List GFact × Int × Int))
 | 0, _ => none
 | c + 1, (out, i) =>
  (if (decide (i < (t15.1.length : Int))) then
   (if (i == 2000) then
    (idx t15.1 i).bind fun x2 =>
    some (.inr ([], x2.at_, 8))
   else
    (idx t15.1 i).bind fun x3 =>
    (vK_ n x3).bind fun t412 =>
    (if (t412.2.2 != 0) then
     some (.inr ([], t412.2.1, t412.2.2))
    else
     (app out [(⟨t412.1.kind, t412.1.a, t412.1.b, t412.1.c, t412.1.n_, t412.1.l, t412.1.at_⟩ : GFact)]).bind fun l =>
     jT_ n t15 c (l, (IntKind.i64.wrap (i + 1)))))
  else
   some (.inl out))
def zg_ (n : Nat) (s : ByteArray) : Option (List GFact × Int × Int) :=
 (vJ_ n s).bind fun t15 =>
 (if (t15.2.2 != 0) then
  some ([], t15.2.1, t15.2.2)
 else
  (
   jT_ n t15 n ([], 0) : Option ((List GFact) ⊕ (List GFact × Int × Int))).bind fun
   | .inl out3 =>
    some (out3, 0, 0)
   | .inr r => some r)
theorem uN_ {n : Nat} {s : ByteArray} {r : List GFact × Int × Int} (H : zg_ n s = some r) : PureOK Tryz.prog 24 [D.v (.string s)] (D.tu [D.sl (List.map eGFact r.1), D.v (.int .i64 r.2.1), D.v (.int .i64 r.2.2)]) true := by
 unfold zg_ at H;refine ZP qo_ fol (rs := #[.tmp 2, .tmp 3, .tmp 4]) Tryz.func24 ?_;refine zsq (ZT 1 ?_);refine Z0 ?_;refine zsq (ZT 1 ?_);obtain ⟨t15, b1, H2⟩ := zbi H;refine Z0 ?_;refine ZC0 (g8_ b1) ?_;refine Z0 ?_;refine zsq (ZT 1 ?_);refine Z0 ?_;rcases zit H2 with ⟨c3, H4⟩ | ⟨c3, H4⟩
 ·refine Z1 c3 ?_
  obtain rfl := Zi H4;exact ZE0
 ·refine Z1 c3 ?_
  refine zsq (ZT 1 ?_);refine Z1 c3 ?_;refine zsq (zsq ?_);refine ZT 1 ?_;refine Z1 c3 ?_;obtain ⟨e_, E5, H6⟩ := zbi H4;refine zjn (α := { y : List GFact // e_ = .inl y } × Nat) (fun | ⟨⟨out3, _⟩, g3⟩ => ⟨upd 8 (accV 0 g3 (List.map eGFact out3)) noFr, upd 0 (accO 7 g3 false (List.map eGFact out3)) noHp, 1⟩) ?_ ?_
  ·refine zbk ?_
   refine zlp (α := { q : (Nat × (List GFact × Int)) × Nat // jT_ n t15 q.1.1 q.1.2 = some e_ }) (fun | ⟨⟨⟨c, ⟨out, i⟩⟩, g⟩, _⟩ => ⟨upd 5 (.d (.sl (List.map eGLine t15.1)) false) (upd 8 (accV 0 g (List.map eGFact out)) (upd 9 (.v (.int .i64 i)) noFr)), upd 0 (accO 7 g false (List.map eGFact out)) noHp, 1⟩) (fun q => q.1.1.1) ⟨((n, ([], 0)), 0), E5⟩ ?_ ?_
   ·exact ZR []
   ·rintro ⟨⟨⟨c, ⟨out, i⟩⟩, g⟩, L7⟩
    rcases c with _ | c
    ·exact Zx L7
    ·unfold jT_ at L7
     try dsimp only at L7
     refine ZT 1 ?_;refine Z0 ?_;rcases zit L7 with ⟨c20, H21⟩ | ⟨c20, H21⟩
     ·refine Z1 c20 ?_
      rcases zit H21 with ⟨c22, H23⟩ | ⟨c22, H23⟩
      ·obtain ⟨x2, b24, H25⟩ := zbi H23
       obtain ⟨h26, h27⟩ := zix b24;try simp only [Int.reduceToNat, Int.toNat_natCast] at h27
       have h28 := qi_ eGLine h27;refine Z1 (Y4 c20 c22 (zno .i64 h26) h28) ?_;refine qf_ (by rfl) ?_;refine Z1 (Y4 c20 c22 (zno .i64 h26) h28) ?_;obtain rfl := Zi H25;obtain rfl := Zi H6;exact ZE0
      ·obtain ⟨x3, b30, H31⟩ := zbi H23
       obtain ⟨h32, h33⟩ := zix b30;try simp only [Int.reduceToNat, Int.toNat_natCast] at h33
       have h34 := qi_ eGLine h33;obtain ⟨t412, b36, H37⟩ := zbi H31;refine Z1 (Y4 c20 c22 (zno .i64 h32) h34) ?_;refine ZC0 (g9_ b36) ?_;refine Z1 (Y4 c20 c22 (zno .i64 h32) h34) ?_;rcases zit H37 with ⟨c38, H39⟩ | ⟨c38, H39⟩
       ·refine Z1 (Y5 c20 c22 (zno .i64 h32) h34 c38) ?_
        obtain rfl := Zi H39;obtain rfl := Zi H6;exact ZE0
       ·obtain ⟨l, b40, H41⟩ := zbi H39
        obtain ⟨h42, h43⟩ := qj_ b40;have h42 : out.length + 1 ≤ 4294967296 := h42;have h44 : List.map eGFact out ++ [[.v (.int .i64 t412.1.kind), .v (.string t412.1.a), .v (.string t412.1.b), .v (.string t412.1.c), .v (.int .i64 t412.1.n_), .sl (List.map eS t412.1.l), .v (.int .i64 t412.1.at_)]] = List.map eGFact l := qm_ eGFact h43;have h45 : out.length + 1 = l.length := qn_ h43
        have h46 : l.length ≤ 4294967296 := by omega
        have q47 : 0 < l.length := by omega
        refine Z1 (Y2 (Y6 c20 c22 (zno .i64 h32) h34 c38 h42) (Y3 h44 h45 h46)) ?_;rcases out with _ | ⟨q0, q1⟩
        ·try simp only [List.map_nil, accI, accN]
         exact ⟨⟨((c, (l, (IntKind.i64.wrap (i + 1)))), 0), H41⟩, ZR [(0, 25)], Nat.lt_succ_self _⟩
        ·try simp only [List.map_cons, accI, accN]
         exact ⟨⟨((c, (l, (IntKind.i64.wrap (i + 1)))), (g + 1)), H41⟩, ZR [(0, 0)], Nat.lt_succ_self _⟩
     ·refine Z1 c20 ?_
      obtain rfl := Zi H21;exact ⟨⟨⟨out, rfl⟩, g⟩, ZR [(0, 0)]⟩
  ·rintro ⟨⟨out3, he48⟩, g3⟩
   obtain rfl := he48.symm;try dsimp only at H6
   refine ZT 1 ?_;refine Z0 ?_;obtain rfl := Zi H6;exact ZE0
def uu_ (_ : Nat) (n_ : Int) : Option ByteArray :=
 (idx ([{ data := #[97] }, { data := #[98] }, { data := #[99] }, { data := #[100] }, { data := #[97, 98] }, { data := #[98, 45, 49] }, { data := #[120, 46, 121] }, { data := #[48] }] : List ByteArray) (IntKind.i64.wrap (an n_ 7 : Int))).bind fun x =>
 some x
theorem hK_ {n : Nat} {n_ : Int} {r : ByteArray} (H : uu_ n n_ = some r) : PureOK Tryz.prog 78 [D.v (.int .i64 n_)] (D.v (.string r)) true := by
 unfold uu_ at H;refine ZP qo_ fol (rs := #[.tmp 2]) Tryz.func78 ?_;refine ZT 1 ?_;obtain ⟨x, b1, H2⟩ := zbi H;obtain ⟨h3, h4⟩ := zix b1;try simp only [Int.reduceToNat, Int.toNat_natCast] at h4
 have h5 := qi_ eS h4;simp only [List.map_cons, List.map_nil, eS] at h5;have h6 := zN_ h4;simp only [List.length_cons, List.length_nil, Nat.reduceAdd] at h6;refine Z1 (Y3 (zno .i64 h3) h5 h6) ?_;obtain rfl := Zi H2;exact ZE0
def vL_ (n : Nat) (t0 : Int) : Option ByteArray :=
 (idx ([{ data := #[117] }, { data := #[118] }, { data := #[119] }] : List ByteArray) (Int.tmod (IntKind.i64.wrap (an (sh t0 8) 255 : Int)) 3)).bind fun x =>
 (idx ([{ data := #[114] }, { data := #[115] }, { data := #[116] }, { data := #[113] }] : List ByteArray) (IntKind.i64.wrap (an (sh t0 16) 3 : Int))).bind fun x2 =>
 (idx ([{ data := #[114] }, { data := #[115] }, { data := #[116] }, { data := #[113] }] : List ByteArray) (IntKind.i64.wrap (an (sh t0 18) 3 : Int))).bind fun x3 =>
 (uu_ n (sh t0 20)).bind fun t28 =>
 (
  (if ((Int.tmod (IntKind.i64.wrap (an t0 255 : Int)) 24) == 0) then
   some true
  else
   (if ((Int.tmod (IntKind.i64.wrap (an t0 255 : Int)) 24) == 1) then
    some true
   else
    some ((Int.tmod (IntKind.i64.wrap (an t0 255 : Int)) 24) == 2))) : Option (Bool)).bind fun t32 =>
 (if t32 then
  (cat ({ data := #[97, 115, 115, 105, 103, 110, 32] }) x).bind fun s =>
  (cat s ({ data := #[32] })).bind fun s2 =>
  (cat s2 x2).bind fun s3 =>
  some s3
 else
  (
   (if ((Int.tmod (IntKind.i64.wrap (an t0 255 : Int)) 24) == 3) then
    some true
   else
    (if ((Int.tmod (IntKind.i64.wrap (an t0 255 : Int)) 24) == 4) then
     some true
    else
     some ((Int.tmod (IntKind.i64.wrap (an t0 255 : Int)) 24) == 5))) : Option (Bool)).bind fun t41 =>
  (if t41 then
   (cat ({ data := #[105, 110, 104, 101, 114, 105, 116, 32] }) x2).bind fun s4 =>
   (cat s4 ({ data := #[32] })).bind fun s5 =>
   (cat s5 x3).bind fun s6 =>
   some s6
  else
   (
    (if ((Int.tmod (IntKind.i64.wrap (an t0 255 : Int)) 24) == 6) then
     some true
    else
     (if ((Int.tmod (IntKind.i64.wrap (an t0 255 : Int)) 24) == 7) then
      some true
     else
      (if ((Int.tmod (IntKind.i64.wrap (an t0 255 : Int)) 24) == 8) then
       some true
      else
       some ((Int.tmod (IntKind.i64.wrap (an t0 255 : Int)) 24) == 9)))) : Option (Bool)).bind fun t50 =>
   (if t50 then
    (cat ({ data := #[103, 114, 97, 110, 116, 32] }) x2).bind fun s7 =>
    (cat s7 ({ data := #[32] })).bind fun s8 =>
    (idx ([{ data := #[114, 101, 97, 100] }, { data := #[100, 111] }] : List ByteArray) (IntKind.i64.wrap (an (sh t0 23) 1 : Int))).bind fun x4 =>
    (cat s8 x4).bind fun s9 =>
    (cat s9 ({ data := #[32] })).bind fun s10 =>
    (cat s10 t28).bind fun s11 =>
    some s11
   else
    (if ((Int.tmod (IntKind.i64.wrap (an t0 255 : Int)) 24) == 10) then
     (cat ({ data := #[115, 115, 100, 32] }) t28).bind fun s12 =>
     (cat s12 ({ data := #[32] })).bind fun s13 =>
     (idx ([{ data := #[50] }, { data := #[51] }] : List ByteArray) (IntKind.i64.wrap (an (sh t0 23) 1 : Int))).bind fun x5 =>
     (cat s13 x5).bind fun s14 =>
     (cat s14 ({ data := #[32] })).bind fun s15 =>
     (cat s15 x2).bind fun s16 =>
     (cat s16 ({ data := #[32] })).bind fun s17 =>
     (cat s17 x3).bind fun s18 =>
     (cat s18 ({ data := #[32] })).bind fun s19 =>
     (idx ([{ data := #[114] }, { data := #[115] }, { data := #[116] }, { data := #[113] }] : List ByteArray) (IntKind.i64.wrap (an (sh t0 24) 3 : Int))).bind fun x6 =>
     (cat s19 x6).bind fun s20 =>
     some s20
    else
     (
      (if ((Int.tmod (IntKind.i64.wrap (an t0 255 : Int)) 24) == 11) then
       some true
      else
       some ((Int.tmod (IntKind.i64.wrap (an t0 255 : Int)) 24) == 12)) : Option (Bool)).bind fun t94 =>
     (if t94 then
      (cat ({ data := #[100, 115, 100, 32] }) t28).bind fun s21 =>
      (cat s21 ({ data := #[32, 50, 32] })).bind fun s22 =>
      (cat s22 x2).bind fun s23 =>
      (cat s23 ({ data := #[32] })).bind fun s24 =>
      (cat s24 x3).bind fun s25 =>
      some s25
     else
      (
       (if ((Int.tmod (IntKind.i64.wrap (an t0 255 : Int)) 24) == 13) then
        some true
       else
        (if ((Int.tmod (IntKind.i64.wrap (an t0 255 : Int)) 24) == 14) then
         some true
        else
         some ((Int.tmod (IntKind.i64.wrap (an t0 255 : Int)) 24) == 15))) : Option (Bool)).bind fun t105 =>
      (if t105 then
       (cat ({ data := #[115, 101, 115, 115, 105, 111, 110, 32] }) t28).bind fun s26 =>
       (cat s26 ({ data := #[32] })).bind fun s27 =>
       (cat s27 x).bind fun s28 =>
       (cat s28 ({ data := #[32] })).bind fun s29 =>
       (cat s29 x2).bind fun s30 =>
       some s30
      else
       (if ((Int.tmod (IntKind.i64.wrap (an t0 255 : Int)) 24) == 16) then
        (cat ({ data := #[115, 101, 115, 115, 105, 111, 110, 32] }) t28).bind fun s31 =>
        (cat s31 ({ data := #[32] })).bind fun s32 =>
        (cat s32 x).bind fun s33 =>
        (cat s33 ({ data := #[32] })).bind fun s34 =>
        (cat s34 x2).bind fun s35 =>
        (cat s35 ({ data := #[32] })).bind fun s36 =>
        (cat s36 x3).bind fun s37 =>
        some s37
       else
        (if ((Int.tmod (IntKind.i64.wrap (an t0 255 : Int)) 24) == 17) then
         (cat ({ data := #[117, 115, 101, 114, 32] }) t28).bind fun s38 =>
         some s38
        else
         (if ((Int.tmod (IntKind.i64.wrap (an t0 255 : Int)) 24) == 18) then
          (cat ({ data := #[114, 111, 108, 101, 32] }) t28).bind fun s39 =>
          some s39
         else
          (if ((Int.tmod (IntKind.i64.wrap (an t0 255 : Int)) 24) == 19) then
           (idx ([{ data := #[117, 115, 101, 114] }, { data := #[114, 111, 108, 101, 32, 65] }, { data := #[115, 115, 100, 32, 97, 32, 49, 32, 114, 32, 115] }, { data := #[100, 115, 100, 32, 97, 32, 48, 50, 32, 114, 32, 115] }, { data := #[103, 114, 97, 110, 116, 32, 114] }, { data := #[105, 110, 104, 101, 114, 105, 116, 32, 114, 32, 115, 32, 116] }, { data := #[117, 115, 101, 114, 32, 97, 32, 98] }, { data := #[115, 101, 115, 115, 105, 111, 110, 32, 97] }] : List ByteArray) (IntKind.i64.wrap (an (sh t0 8) 7 : Int))).bind fun x7 =>
           some x7
          else
           (if ((Int.tmod (IntKind.i64.wrap (an t0 255 : Int)) 24) == 20) then
            some ({ data := #[35, 32, 97, 32, 110, 111, 116, 101] })
           else
            (cat ({ data := #[97, 115, 115, 105, 103, 110, 32] }) x).bind fun s40 =>
            (cat s40 ({ data := #[32] })).bind fun s41 =>
            (cat s41 x3).bind fun s42 =>
            some s42)))))))))))
set_option maxHeartbeats 8000000 in
theorem ba_ {n : Nat} {t0 : Int} {r : ByteArray} (H : vL_ n t0 = some r) : PureOK Tryz.prog 49 [D.v (.int .i64 t0)] (D.v (.string r)) true := by
 unfold vL_ at H;refine ZP qo_ fol (rs := #[.tmp 2]) Tryz.func49 ?_;refine zsq (ZT 1 ?_);refine Z0 ?_;refine zsq (ZT 1 ?_);obtain ⟨x, b1, H2⟩ := zbi H;obtain ⟨h3, h4⟩ := zix b1;try simp only [Int.reduceToNat, Int.toNat_natCast] at h4
 have h5 := qi_ eS h4;simp only [List.map_cons, List.map_nil, eS] at h5;have h6 := zN_ h4;simp only [List.length_cons, List.length_nil, Nat.reduceAdd] at h6;obtain ⟨x2, b7, H8⟩ := zbi H2;obtain ⟨h9, h10⟩ := zix b7;try simp only [Int.reduceToNat, Int.toNat_natCast] at h10
 have h11 := qi_ eS h10;simp only [List.map_cons, List.map_nil, eS] at h11;have h12 := zN_ h10;simp only [List.length_cons, List.length_nil, Nat.reduceAdd] at h12;obtain ⟨x3, b13, H14⟩ := zbi H8;obtain ⟨h15, h16⟩ := zix b13;try simp only [Int.reduceToNat, Int.toNat_natCast] at h16
 have h17 := qi_ eS h16;simp only [List.map_cons, List.map_nil, eS] at h17;have h18 := zN_ h16;simp only [List.length_cons, List.length_nil, Nat.reduceAdd] at h18;refine Z1 (Y2 (Y6 (zno .i64 h3) h5 h6 (zno .i64 h9) h11 h12) (Y3 (zno .i64 h15) h17 h18)) ?_;refine qf_ (by rfl) ?_;refine Z1 (Y2 (Y6 (zno .i64 h3) h5 h6 (zno .i64 h9) h11 h12) (Y3 (zno .i64 h15) h17 h18)) ?_;refine zsq (ZT 1 ?_)
 obtain ⟨t28, b19, H20⟩ := zbi H14;refine Z1 (Y2 (Y6 (zno .i64 h3) h5 h6 (zno .i64 h9) h11 h12) (Y3 (zno .i64 h15) h17 h18)) ?_;refine ZC0 (hK_ b19) ?_;refine Z1 (Y2 (Y6 (zno .i64 h3) h5 h6 (zno .i64 h9) h11 h12) (Y3 (zno .i64 h15) h17 h18)) ?_;refine zsq (zsq ?_);refine ZT 1 ?_;refine Z1 (Y2 (Y6 (zno .i64 h3) h5 h6 (zno .i64 h9) h11 h12) (Y3 (zno .i64 h15) h17 h18)) ?_;refine zbk ?_
 refine zsq (zsq ?_);refine ZT 1 ?_;refine Z1 (Y2 (Y6 (zno .i64 h3) h5 h6 (zno .i64 h9) h11 h12) (Y3 (zno .i64 h15) h17 h18)) ?_;obtain ⟨e_, E21, H22⟩ := zbi H20
 refine zjn (α := { y : Bool // e_ = y }) (fun | ⟨t32, _⟩ => ⟨upd 0 (.v (.int .i64 t0)) (upd 3 (.v (.string x)) (upd 4 (.v (.string x2)) (upd 5 (.v (.string x3)) (upd 6 (.v (.string t28)) (upd 31 (.v (.int .i64 (Int.tmod (IntKind.i64.wrap (an t0 255 : Int)) 24))) (upd 32 (.v (.bool t32)) noFr)))))), noHp, 0⟩) ?_ ?_
 ·refine ZT 1 ?_
  refine Z0 ?_;rcases zit E21 with ⟨c23, H24⟩ | ⟨c23, H24⟩
  ·refine Z1 c23 ?_
   obtain rfl := Zi H24;exact ⟨⟨true, rfl⟩, ZR []⟩
  ·refine Z1 c23 ?_
   rcases zit H24 with ⟨c25, H26⟩ | ⟨c25, H26⟩
   ·refine Z1 (Y2 c23 c25) ?_
    obtain rfl := Zi H26;exact ⟨⟨true, rfl⟩, ZR []⟩
   ·refine Z1 (Y2 c23 c25) ?_
    obtain rfl := Zi H26;exact ⟨⟨((Int.tmod (IntKind.i64.wrap (an t0 255 : Int)) 24) == 2), rfl⟩, ZR []⟩
 ·rintro ⟨t32, he295⟩
  obtain rfl := he295.symm;try dsimp only at H22
  rcases zit H22 with ⟨c27, H28⟩ | ⟨c27, H28⟩
  ·refine xh_ (by rfl) c27 ?_
   refine Z1 c27 ?_;refine ZT 3 ?_;obtain ⟨s, b29, H30⟩ := zbi H28;obtain ⟨h31, h32⟩ := zct b29;have h33 : 7 + x.size ≤ maxLen := h31;obtain ⟨s2, b34, H35⟩ := zbi H30;obtain ⟨h36, h37⟩ := zct b34;have h38 : s.size + 1 ≤ maxLen := h36;obtain ⟨s3, b39, H40⟩ := zbi H35;obtain ⟨h41, h42⟩ := zct b39;refine Z1 (Y2 (Y6 c27 h31 h32 h33 h36 h37) (Y3 h38 h41 h42)) ?_;obtain rfl := Zi H40;exact ZE0
  ·refine xi_ (by rfl) c27 ?_
   refine Z1 c27 ?_;refine zsq (zsq ?_);refine ZT 1 ?_;refine Z1 c27 ?_;obtain ⟨e_2, E43, H44⟩ := zbi H28
   refine zjn (α := { y : Bool // e_2 = y }) (fun | ⟨t41, _⟩ => ⟨upd 0 (.v (.int .i64 t0)) (upd 3 (.v (.string x)) (upd 4 (.v (.string x2)) (upd 5 (.v (.string x3)) (upd 6 (.v (.string t28)) (upd 31 (.v (.int .i64 (Int.tmod (IntKind.i64.wrap (an t0 255 : Int)) 24))) (upd 41 (.v (.bool t41)) noFr)))))), noHp, 0⟩) ?_ ?_
   ·refine ZT 1 ?_
    refine Z0 ?_;rcases zit E43 with ⟨c45, H46⟩ | ⟨c45, H46⟩
    ·refine Z1 c45 ?_
     obtain rfl := Zi H46;exact ⟨⟨true, rfl⟩, ZR []⟩
    ·refine Z1 c45 ?_
     rcases zit H46 with ⟨c47, H48⟩ | ⟨c47, H48⟩
     ·refine Z1 (Y2 c45 c47) ?_
      obtain rfl := Zi H48;exact ⟨⟨true, rfl⟩, ZR []⟩
     ·refine Z1 (Y2 c45 c47) ?_
      obtain rfl := Zi H48;exact ⟨⟨((Int.tmod (IntKind.i64.wrap (an t0 255 : Int)) 24) == 5), rfl⟩, ZR []⟩
   ·rintro ⟨t41, he294⟩
    obtain rfl := he294.symm;try dsimp only at H44
    rcases zit H44 with ⟨c49, H50⟩ | ⟨c49, H50⟩
    ·refine xh_ (by rfl) c49 ?_
     refine Z1 c49 ?_;refine ZT 3 ?_;obtain ⟨s4, b51, H52⟩ := zbi H50;obtain ⟨h53, h54⟩ := zct b51;have h55 : 8 + x2.size ≤ maxLen := h53;obtain ⟨s5, b56, H57⟩ := zbi H52;obtain ⟨h58, h59⟩ := zct b56;have h60 : s4.size + 1 ≤ maxLen := h58;obtain ⟨s6, b61, H62⟩ := zbi H57;obtain ⟨h63, h64⟩ := zct b61;refine Z1 (Y2 (Y6 c49 h53 h54 h55 h58 h59) (Y3 h60 h63 h64)) ?_;obtain rfl := Zi H62;exact ZE0
    ·refine xi_ (by rfl) c49 ?_
     refine Z1 c49 ?_;refine zsq (zsq ?_);refine ZT 1 ?_;refine Z1 c49 ?_;obtain ⟨e_3, E65, H66⟩ := zbi H50
     refine zjn (α := { y : Bool // e_3 = y }) (fun | ⟨t50, _⟩ => ⟨upd 0 (.v (.int .i64 t0)) (upd 3 (.v (.string x)) (upd 4 (.v (.string x2)) (upd 5 (.v (.string x3)) (upd 6 (.v (.string t28)) (upd 31 (.v (.int .i64 (Int.tmod (IntKind.i64.wrap (an t0 255 : Int)) 24))) (upd 50 (.v (.bool t50)) noFr)))))), noHp, 0⟩) ?_ ?_
     ·refine ZT 1 ?_
      refine Z0 ?_;rcases zit E65 with ⟨c67, H68⟩ | ⟨c67, H68⟩
      ·refine Z1 c67 ?_
       obtain rfl := Zi H68;exact ⟨⟨true, rfl⟩, ZR []⟩
      ·refine Z1 c67 ?_
       rcases zit H68 with ⟨c69, H70⟩ | ⟨c69, H70⟩
       ·refine Z1 (Y2 c67 c69) ?_
        obtain rfl := Zi H70;exact ⟨⟨true, rfl⟩, ZR []⟩
       ·refine Z1 (Y2 c67 c69) ?_
        rcases zit H70 with ⟨c71, H72⟩ | ⟨c71, H72⟩
        ·refine Z1 (Y3 c67 c69 c71) ?_
         obtain rfl := Zi H72;exact ⟨⟨true, rfl⟩, ZR []⟩
        ·refine Z1 (Y3 c67 c69 c71) ?_
         obtain rfl := Zi H72;exact ⟨⟨((Int.tmod (IntKind.i64.wrap (an t0 255 : Int)) 24) == 9), rfl⟩, ZR []⟩
     ·rintro ⟨t50, he293⟩
      obtain rfl := he293.symm;try dsimp only at H66
      rcases zit H66 with ⟨c73, H74⟩ | ⟨c73, H74⟩
      ·refine xh_ (by rfl) c73 ?_
       refine Z1 c73 ?_;refine ZT 3 ?_;obtain ⟨s7, b75, H76⟩ := zbi H74;obtain ⟨h77, h78⟩ := zct b75;have h79 : 6 + x2.size ≤ maxLen := h77;obtain ⟨s8, b80, H81⟩ := zbi H76;obtain ⟨h82, h83⟩ := zct b80;have h84 : s7.size + 1 ≤ maxLen := h82;obtain ⟨x4, b85, H86⟩ := zbi H81;obtain ⟨h87, h88⟩ := zix b85;try simp only [Int.reduceToNat, Int.toNat_natCast] at h88
       have h89 := qi_ eS h88;simp only [List.map_cons, List.map_nil, eS] at h89;have h90 := zN_ h88;simp only [List.length_cons, List.length_nil, Nat.reduceAdd] at h90;obtain ⟨s9, b91, H92⟩ := zbi H86;obtain ⟨h93, h94⟩ := zct b91;obtain ⟨s10, b95, H96⟩ := zbi H92;obtain ⟨h97, h98⟩ := zct b95;have h99 : s9.size + 1 ≤ maxLen := h97;obtain ⟨s11, b100, H101⟩ := zbi H96
       obtain ⟨h102, h103⟩ := zct b100;refine Z1 (Y3 (Y6 c73 h77 h78 h79 h82 h83) (Y6 h84 (zno .i64 h87) h89 h90 h93 h94) (Y5 h97 h98 h99 h102 h103)) ?_;obtain rfl := Zi H101;exact ZE0
      ·refine xi_ (by rfl) c73 ?_
       refine Z1 c73 ?_;refine zsq (ZT 1 ?_);refine Z1 c73 ?_;rcases zit H74 with ⟨c104, H105⟩ | ⟨c104, H105⟩
       ·refine xh_ (by rfl) c104 ?_
        refine Z1 (Y2 c73 c104) ?_;refine ZT 3 ?_;obtain ⟨s12, b106, H107⟩ := zbi H105;obtain ⟨h108, h109⟩ := zct b106;have h110 : 4 + t28.size ≤ maxLen := h108;obtain ⟨s13, b111, H112⟩ := zbi H107;obtain ⟨h113, h114⟩ := zct b111;have h115 : s12.size + 1 ≤ maxLen := h113;obtain ⟨x5, b116, H117⟩ := zbi H112;obtain ⟨h118, h119⟩ := zix b116
        try simp only [Int.reduceToNat, Int.toNat_natCast] at h119
        have h120 := qi_ eS h119;simp only [List.map_cons, List.map_nil, eS] at h120;have h121 := zN_ h119;simp only [List.length_cons, List.length_nil, Nat.reduceAdd] at h121;obtain ⟨s14, b122, H123⟩ := zbi H117;obtain ⟨h124, h125⟩ := zct b122;obtain ⟨s15, b126, H127⟩ := zbi H123;obtain ⟨h128, h129⟩ := zct b126;have h130 : s14.size + 1 ≤ maxLen := h128;obtain ⟨s16, b131, H132⟩ := zbi H127
        obtain ⟨h133, h134⟩ := zct b131;obtain ⟨s17, b135, H136⟩ := zbi H132;obtain ⟨h137, h138⟩ := zct b135;have h139 : s16.size + 1 ≤ maxLen := h137;obtain ⟨s18, b140, H141⟩ := zbi H136;obtain ⟨h142, h143⟩ := zct b140;obtain ⟨s19, b144, H145⟩ := zbi H141;obtain ⟨h146, h147⟩ := zct b144;have h148 : s18.size + 1 ≤ maxLen := h146;obtain ⟨x6, b149, H150⟩ := zbi H145
        obtain ⟨h151, h152⟩ := zix b149;try simp only [Int.reduceToNat, Int.toNat_natCast] at h152
        have h153 := qi_ eS h152;simp only [List.map_cons, List.map_nil, eS] at h153;have h154 := zN_ h152;simp only [List.length_cons, List.length_nil, Nat.reduceAdd] at h154;obtain ⟨s20, b155, H156⟩ := zbi H150;obtain ⟨h157, h158⟩ := zct b155
        refine Z1 (Y6 (Y6 c73 c104 h108 h109 h110 h113) (Y6 h114 h115 (zno .i64 h118) h120 h121 h124) (Y6 h125 h128 h129 h130 h133 h134) (Y6 h137 h138 h139 h142 h143 h146) (Y6 h147 h148 (zno .i64 h151) h153 h154 h157) h158) ?_;refine qf_ (by rfl) ?_
        refine Z1 (Y6 (Y6 c73 c104 h108 h109 h110 h113) (Y6 h114 h115 (zno .i64 h118) h120 h121 h124) (Y6 h125 h128 h129 h130 h133 h134) (Y6 h137 h138 h139 h142 h143 h146) (Y6 h147 h148 (zno .i64 h151) h153 h154 h157) h158) ?_;obtain rfl := Zi H156;exact ZE0
       ·refine xi_ (by rfl) c104 ?_
        refine Z1 (Y2 c73 c104) ?_;refine zsq (zsq ?_);refine ZT 1 ?_;refine Z1 (Y2 c73 c104) ?_;obtain ⟨e_4, E159, H160⟩ := zbi H105
        refine zjn (α := { y : Bool // e_4 = y }) (fun | ⟨t94, _⟩ => ⟨upd 0 (.v (.int .i64 t0)) (upd 3 (.v (.string x)) (upd 4 (.v (.string x2)) (upd 5 (.v (.string x3)) (upd 6 (.v (.string t28)) (upd 31 (.v (.int .i64 (Int.tmod (IntKind.i64.wrap (an t0 255 : Int)) 24))) (upd 94 (.v (.bool t94)) noFr)))))), noHp, 0⟩) ?_ ?_
        ·refine ZT 1 ?_
         refine Z0 ?_;rcases zit E159 with ⟨c161, H162⟩ | ⟨c161, H162⟩
         ·refine Z1 c161 ?_
          obtain rfl := Zi H162;exact ⟨⟨true, rfl⟩, ZR []⟩
         ·refine Z1 c161 ?_
          obtain rfl := Zi H162;exact ⟨⟨((Int.tmod (IntKind.i64.wrap (an t0 255 : Int)) 24) == 12), rfl⟩, ZR []⟩
        ·rintro ⟨t94, he292⟩
         obtain rfl := he292.symm;try dsimp only at H160
         rcases zit H160 with ⟨c163, H164⟩ | ⟨c163, H164⟩
         ·refine xh_ (by rfl) c163 ?_
          refine Z1 c163 ?_;refine ZT 3 ?_;obtain ⟨s21, b165, H166⟩ := zbi H164;obtain ⟨h167, h168⟩ := zct b165;have h169 : 4 + t28.size ≤ maxLen := h167;obtain ⟨s22, b170, H171⟩ := zbi H166;obtain ⟨h172, h173⟩ := zct b170;have h174 : s21.size + 3 ≤ maxLen := h172;obtain ⟨s23, b175, H176⟩ := zbi H171;obtain ⟨h177, h178⟩ := zct b175;obtain ⟨s24, b179, H180⟩ := zbi H176
          obtain ⟨h181, h182⟩ := zct b179;have h183 : s23.size + 1 ≤ maxLen := h181;obtain ⟨s25, b184, H185⟩ := zbi H180;obtain ⟨h186, h187⟩ := zct b184;refine Z1 (Y3 (Y6 c163 h167 h168 h169 h172 h173) (Y6 h174 h177 h178 h181 h182 h183) (Y2 h186 h187)) ?_;obtain rfl := Zi H185;exact ZE0
         ·refine xi_ (by rfl) c163 ?_
          refine Z1 c163 ?_;refine zsq (zsq ?_);refine ZT 1 ?_;refine Z1 c163 ?_;obtain ⟨e_5, E188, H189⟩ := zbi H164
          refine zjn (α := { y : Bool // e_5 = y }) (fun | ⟨t105, _⟩ => ⟨upd 0 (.v (.int .i64 t0)) (upd 3 (.v (.string x)) (upd 4 (.v (.string x2)) (upd 5 (.v (.string x3)) (upd 6 (.v (.string t28)) (upd 31 (.v (.int .i64 (Int.tmod (IntKind.i64.wrap (an t0 255 : Int)) 24))) (upd 105 (.v (.bool t105)) noFr)))))), noHp, 0⟩) ?_ ?_
          ·refine ZT 1 ?_
           refine Z0 ?_;rcases zit E188 with ⟨c190, H191⟩ | ⟨c190, H191⟩
           ·refine Z1 c190 ?_
            obtain rfl := Zi H191;exact ⟨⟨true, rfl⟩, ZR []⟩
           ·refine Z1 c190 ?_
            rcases zit H191 with ⟨c192, H193⟩ | ⟨c192, H193⟩
            ·refine Z1 (Y2 c190 c192) ?_
             obtain rfl := Zi H193;exact ⟨⟨true, rfl⟩, ZR []⟩
            ·refine Z1 (Y2 c190 c192) ?_
             obtain rfl := Zi H193;exact ⟨⟨((Int.tmod (IntKind.i64.wrap (an t0 255 : Int)) 24) == 15), rfl⟩, ZR []⟩
          ·rintro ⟨t105, he291⟩
           obtain rfl := he291.symm;try dsimp only at H189
           refine ZT 3 ?_;refine Z0 ?_;rcases zit H189 with ⟨c194, H195⟩ | ⟨c194, H195⟩
           ·obtain ⟨s26, b196, H197⟩ := zbi H195
            obtain ⟨h198, h199⟩ := zct b196;have h200 : 8 + t28.size ≤ maxLen := h198;obtain ⟨s27, b201, H202⟩ := zbi H197;obtain ⟨h203, h204⟩ := zct b201;have h205 : s26.size + 1 ≤ maxLen := h203;obtain ⟨s28, b206, H207⟩ := zbi H202;obtain ⟨h208, h209⟩ := zct b206;obtain ⟨s29, b210, H211⟩ := zbi H207;obtain ⟨h212, h213⟩ := zct b210;have h214 : s28.size + 1 ≤ maxLen := h212
            obtain ⟨s30, b215, H216⟩ := zbi H211;obtain ⟨h217, h218⟩ := zct b215;refine Z1 (Y3 (Y6 c194 h198 h199 h200 h203 h204) (Y6 h205 h208 h209 h212 h213 h214) (Y2 h217 h218)) ?_;obtain rfl := Zi H216;exact ZE0
           ·refine Z1 c194 ?_
            rcases zit H195 with ⟨c219, H220⟩ | ⟨c219, H220⟩
            ·obtain ⟨s31, b221, H222⟩ := zbi H220
             obtain ⟨h223, h224⟩ := zct b221;have h225 : 8 + t28.size ≤ maxLen := h223;obtain ⟨s32, b226, H227⟩ := zbi H222;obtain ⟨h228, h229⟩ := zct b226;have h230 : s31.size + 1 ≤ maxLen := h228;obtain ⟨s33, b231, H232⟩ := zbi H227;obtain ⟨h233, h234⟩ := zct b231;obtain ⟨s34, b235, H236⟩ := zbi H232;obtain ⟨h237, h238⟩ := zct b235;have h239 : s33.size + 1 ≤ maxLen := h237
             obtain ⟨s35, b240, H241⟩ := zbi H236;obtain ⟨h242, h243⟩ := zct b240;obtain ⟨s36, b244, H245⟩ := zbi H241;obtain ⟨h246, h247⟩ := zct b244;have h248 : s35.size + 1 ≤ maxLen := h246;obtain ⟨s37, b249, H250⟩ := zbi H245;obtain ⟨h251, h252⟩ := zct b249
             refine Z1 (Y4 (Y6 c194 c219 h223 h224 h225 h228) (Y6 h229 h230 h233 h234 h237 h238) (Y6 h239 h242 h243 h246 h247 h248) (Y2 h251 h252)) ?_;obtain rfl := Zi H250;exact ZE0
            ·refine Z1 (Y2 c194 c219) ?_
             rcases zit H220 with ⟨c253, H254⟩ | ⟨c253, H254⟩
             ·obtain ⟨s38, b255, H256⟩ := zbi H254
              obtain ⟨h257, h258⟩ := zct b255;have h259 : 5 + t28.size ≤ maxLen := h257;refine Z1 (Y6 c194 c219 c253 h257 h258 h259) ?_;obtain rfl := Zi H256;exact ZE0
             ·refine Z1 (Y3 c194 c219 c253) ?_
              rcases zit H254 with ⟨c260, H261⟩ | ⟨c260, H261⟩
              ·obtain ⟨s39, b262, H263⟩ := zbi H261
               obtain ⟨h264, h265⟩ := zct b262;have h266 : 5 + t28.size ≤ maxLen := h264;refine Z1 (Y2 (Y6 c194 c219 c253 c260 h264 h265) h266) ?_;obtain rfl := Zi H263;exact ZE0
              ·refine Z1 (Y4 c194 c219 c253 c260) ?_
               rcases zit H261 with ⟨c267, H268⟩ | ⟨c267, H268⟩
               ·obtain ⟨x7, b269, H270⟩ := zbi H268
                obtain ⟨h271, h272⟩ := zix b269;try simp only [Int.reduceToNat, Int.toNat_natCast] at h272
                have h273 := qi_ eS h272;simp only [List.map_cons, List.map_nil, eS] at h273;have h274 := zN_ h272;simp only [List.length_cons, List.length_nil, Nat.reduceAdd] at h274;refine Z1 (Y2 (Y6 c194 c219 c253 c260 c267 (zno .i64 h271)) (Y2 h273 h274)) ?_;obtain rfl := Zi H270;exact ZE0
               ·refine Z1 (Y5 c194 c219 c253 c260 c267) ?_
                rcases zit H268 with ⟨c275, H276⟩ | ⟨c275, H276⟩
                ·refine Z1 (Y6 c194 c219 c253 c260 c267 c275) ?_
                 obtain rfl := Zi H276;exact ZE0
                ·obtain ⟨s40, b277, H278⟩ := zbi H276
                 obtain ⟨h279, h280⟩ := zct b277;have h281 : 7 + x.size ≤ maxLen := h279;obtain ⟨s41, b282, H283⟩ := zbi H278;obtain ⟨h284, h285⟩ := zct b282;have h286 : s40.size + 1 ≤ maxLen := h284;obtain ⟨s42, b287, H288⟩ := zbi H283;obtain ⟨h289, h290⟩ := zct b287;refine Z1 (Y3 (Y6 c194 c219 c253 c260 c267 c275) (Y6 h279 h280 h281 h284 h285 h286) (Y2 h289 h290)) ?_
                 obtain rfl := Zi H288;exact ZE0
def jN_ (n : Nat) (l : List Int) : Nat → (Bool × ByteArray × Int) → Option (ByteArray)
 | 0, _ => none
 | c + 1, (whole4, s4, i) =>
  (
   (if (decide (i < (l.length : Int))) then
    some (decide (i < 30))
   else
    some false) : Option (Bool)).bind fun t162 =>
  (if t162 then
   (idx l i).bind fun x3 =>
   (
    (if whole4 then
     (if ((Int.tmod (IntKind.i64.wrap (an x3 255 : Int)) 24) == 19) then
      some (true, (decide (0 < (IntKind.i64.wrap (an (sh x3 11) 3 : Int)))))
     else
      some (true, false))
    else
     some (false, false)) : Option (Bool × Bool)).bind fun (whole5, t352) =>
   (if t352 then
    jN_ n l c (whole5, s4, (IntKind.i64.wrap (i + 1)))
   else
    (idx l i).bind fun x4 =>
    (vL_ n x4).bind fun t412 =>
    (cat s4 t412).bind fun s5 =>
    (cat s5 ({ data := #[10] })).bind fun s6 =>
    jN_ n l c (whole5, s6, (IntKind.i64.wrap (i + 1))))
  else
   some s4)
def zI_ (n : Nat) (l : List Int) (whole : Bool) : Option ByteArray :=
 (
  (if whole then
   some (true, { data := #[117, 115, 101, 114, 32, 117, 10, 117, 115, 101, 114, 32, 118, 10, 117, 115, 101, 114, 32, 119, 10, 114, 111, 108, 101, 32, 114, 10, 114, 111, 108, 101, 32, 115, 10, 114, 111, 108, 101, 32, 116, 10, 114, 111, 108, 101, 32, 113, 10] })
  else
   some (false, { data := #[] })) : Option (Bool × ByteArray)).bind fun (whole2, s) =>
 (
  jN_ n l n (whole2, s, 0) : Option (ByteArray)).bind fun s8 =>
 some s8
theorem bb_ {n : Nat} {l : List Int} {whole : Bool} {r : ByteArray} (H : zI_ n l whole = some r) : PureOK Tryz.prog 25 [D.sl (List.map eI l), D.v (.bool whole)] (D.v (.string r)) true := by
 unfold zI_ at H;refine ZP qo_ fol (rs := #[.tmp 4]) Tryz.func25 ?_;refine zsq (ZT 1 ?_);refine Z0 ?_;refine zsq (ZT 1 ?_);refine Z0 ?_;refine zsq (zsq ?_);refine ZT 1 ?_;refine Z0 ?_;obtain ⟨e_, E1, H2⟩ := zbi H
 refine zjn (α := { y : Bool × ByteArray // e_ = y }) (fun | ⟨⟨whole2, s⟩, _⟩ => ⟨upd 0 (.d (.sl (List.map eI l)) true) (upd 1 (.v (.bool whole2)) (upd 5 (.v (.string s)) noFr)), noHp, 0⟩) ?_ ?_
 ·refine ZT 1 ?_
  refine Z0 ?_;rcases zit E1 with ⟨c3, H4⟩ | ⟨c3, H4⟩
  ·refine Z1 c3 ?_
   obtain rfl := Zi H4;exact ⟨⟨(true, { data := #[117, 115, 101, 114, 32, 117, 10, 117, 115, 101, 114, 32, 118, 10, 117, 115, 101, 114, 32, 119, 10, 114, 111, 108, 101, 32, 114, 10, 114, 111, 108, 101, 32, 115, 10, 114, 111, 108, 101, 32, 116, 10, 114, 111, 108, 101, 32, 113, 10] }), rfl⟩, ZR []⟩
  ·refine Z1 c3 ?_
   obtain rfl := Zi H4;exact ⟨⟨(false, { data := #[] }), rfl⟩, ZR []⟩
 ·rintro ⟨⟨whole2, s⟩, he87⟩
  obtain rfl := he87.symm;try dsimp only at H2
  refine zsq (zsq ?_);refine ZT 1 ?_;refine Z0 ?_;obtain ⟨e_2, E5, H6⟩ := zbi H2;refine zjn (α := { y : ByteArray // e_2 = y }) (fun | ⟨s8, _⟩ => ⟨upd 5 (.v (.string s8)) noFr, noHp, 0⟩) ?_ ?_
  ·refine zbk ?_
   refine zlp (α := { q : Nat × (Bool × ByteArray × Int) // jN_ n l q.1 q.2 = some e_2 }) (fun | ⟨⟨c, ⟨whole4, s4, i⟩⟩, _⟩ => ⟨upd 0 (.d (.sl (List.map eI l)) true) (upd 1 (.v (.bool whole4)) (upd 5 (.v (.string s4)) (upd 6 (.v (.int .i64 i)) noFr))), noHp, 0⟩) (fun q => q.1.1) ⟨(n, (whole2, s, 0)), E5⟩ ?_ ?_
   ·exact ZR []
   ·rintro ⟨⟨c, ⟨whole4, s4, i⟩⟩, L7⟩
    rcases c with _ | c
    ·exact Zx L7
    ·unfold jN_ at L7
     try dsimp only at L7
     refine zsq (zsq ?_);obtain ⟨e_5, E47, H48⟩ := zbi L7;refine zjn (α := { y : Bool // e_5 = y }) (fun | ⟨t162, _⟩ => ⟨upd 0 (.d (.sl (List.map eI l)) true) (upd 1 (.v (.bool whole4)) (upd 5 (.v (.string s4)) (upd 6 (.v (.int .i64 i)) (upd 16 (.v (.bool t162)) noFr)))), noHp, 0⟩) ?_ ?_
     ·refine ZT 1 ?_
      refine Z0 ?_;rcases zit E47 with ⟨c49, H50⟩ | ⟨c49, H50⟩
      ·refine Z1 c49 ?_
       obtain rfl := Zi H50;exact ⟨⟨(decide (i < 30)), rfl⟩, ZR []⟩
      ·refine Z1 c49 ?_
       obtain rfl := Zi H50;exact ⟨⟨false, rfl⟩, ZR []⟩
     ·rintro ⟨t162, he85⟩
      obtain rfl := he85.symm;try dsimp only at H48
      refine ZT 1 ?_;refine Z0 ?_;rcases zit H48 with ⟨c51, H52⟩ | ⟨c51, H52⟩
      ·refine Z1 c51 ?_
       refine zsq (zbk ?_);refine zsq (zsq ?_);refine ZT 1 ?_;obtain ⟨x3, b53, H54⟩ := zbi H52;obtain ⟨h55, h56⟩ := zix b53;try simp only [Int.reduceToNat, Int.toNat_natCast] at h56
       have h57 := qi_ eI h56;refine Z1 (Y3 c51 (zno .i64 h55) h57) ?_;refine zsq ?_;obtain ⟨e_6, E59, H60⟩ := zbi H54;refine zjn (α := { y : Bool × Bool // e_6 = y }) (fun | ⟨⟨whole5, t352⟩, _⟩ => ⟨upd 0 (.d (.sl (List.map eI l)) true) (upd 1 (.v (.bool whole5)) (upd 5 (.v (.string s4)) (upd 6 (.v (.int .i64 i)) (upd 35 (.v (.bool t352)) noFr)))), noHp, 0⟩) ?_ ?_
       ·refine ZT 1 ?_
        refine Z0 ?_;rcases zit E59 with ⟨c61, H62⟩ | ⟨c61, H62⟩
        ·refine Z1 c61 ?_
         rcases zit H62 with ⟨c63, H64⟩ | ⟨c63, H64⟩
         ·refine Z1 (Y2 c61 c63) ?_
          obtain rfl := Zi H64;exact ⟨⟨(true, (decide (0 < (IntKind.i64.wrap (an (sh x3 11) 3 : Int))))), rfl⟩, ZR []⟩
         ·refine Z1 (Y2 c61 c63) ?_
          obtain rfl := Zi H64;exact ⟨⟨(true, false), rfl⟩, ZR []⟩
        ·refine Z1 c61 ?_
         obtain rfl := Zi H62;exact ⟨⟨(false, false), rfl⟩, ZR []⟩
       ·rintro ⟨⟨whole5, t352⟩, he84⟩
        obtain rfl := he84.symm;try dsimp only at H60
        refine ZT 4 ?_;refine Z0 ?_;rcases zit H60 with ⟨c65, H66⟩ | ⟨c65, H66⟩
        ·refine Z1 c65 ?_
         exact ⟨⟨(c, (whole5, s4, (IntKind.i64.wrap (i + 1)))), H66⟩, ZR [], Nat.lt_succ_self _⟩
        ·obtain ⟨x4, b67, H68⟩ := zbi H66
         obtain ⟨h69, h70⟩ := zix b67;try simp only [Int.reduceToNat, Int.toNat_natCast] at h70
         have h71 := qi_ eI h70;obtain ⟨t412, b73, H74⟩ := zbi H68;refine Z1 (Y3 c65 (zno .i64 h69) h71) ?_;refine ZC0 (ba_ b73) ?_;obtain ⟨s5, b75, H76⟩ := zbi H74;obtain ⟨h77, h78⟩ := zct b75;obtain ⟨s6, b79, H80⟩ := zbi H76;obtain ⟨h81, h82⟩ := zct b79;have h83 : s5.size + 1 ≤ maxLen := h81;refine Z1 (Y2 (Y6 c65 (zno .i64 h69) h71 h77 h78 h81) (Y2 h82 h83)) ?_
         exact ⟨⟨(c, (whole5, s6, (IntKind.i64.wrap (i + 1)))), H80⟩, ZR [], Nat.lt_succ_self _⟩
      ·refine Z1 c51 ?_
       obtain rfl := Zi H52;exact ⟨⟨s4, rfl⟩, ZR []⟩
  ·rintro ⟨s8, he86⟩
   obtain rfl := he86.symm;try dsimp only at H6
   refine ZT 1 ?_;refine Z0 ?_;obtain rfl := Zi H6;exact ZE0
end Go.Proofs.YtkkhgdmmbhpckaaGreat.Ab
