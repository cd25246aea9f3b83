/-
 Functions, read off the code.
-/
import Derived.Test.YtjkdbakgnnhdnaaShc
import Derived.Test.YtjkdbakgnnhdnaaSda
namespace Go.Proofs.Ytjkdbakgnnhdnaa.Ab
open Go.RowKit
def slices_Index_Sub_L1 (n : Nat) (s : List GSub) (v : GSub) : Nat → Int → Option ((Unit) ⊕ Int)
 | 0, _ => none
 | c + 1, t8 =>
  (if (decide (t8 < (s.length : Int))) then
   (idx s t8).bind fun x2 =>
   (if ((v.type_ == x2.type_) && ((v.id_ == x2.id_) && (v.rel == x2.rel))) then
    some (.inr t8)
   else
    slices_Index_Sub_L1 n s v c (IntKind.i64.wrap (t8 + 1)))
  else
   some (.inl ()))
def slices_Index_Sub (n : Nat) (s : List GSub) (v : GSub) : Option Int :=
 (
  slices_Index_Sub_L1 n s v n 0 : Option ((Unit) ⊕ Int)).bind fun
  | .inl _ =>
   some (-1)
  | .inr r => some r
theorem slices_Index_Sub_ok {n : Nat} {s : List GSub} {v : GSub} {r : Int} (H : slices_Index_Sub n s v = some r) : PureOK Try.prog 32 [D.sl (List.map eGSub s), D.ag (eGSub v)] (D.v (.int .i64 r)) true := by
 unfold slices_Index_Sub at H
 refine ZP tab_ok fol (rs := #[.tmp 4]) Try.func32 ?_
 refine zsq (ZT 1 ?_)
 refine Z0 ?_
 refine zsq (zsq ?_)
 refine ZT 1 ?_
 refine Z0 ?_
 obtain ⟨e_, E1, H2⟩ := zbi H
 refine zjn (α := { y : Unit // e_ = .inl y }) (fun | ⟨_, _⟩ => ⟨noFr, noHp, 0⟩) ?_ ?_
 ·refine zbk ?_
  refine zlp (α := { q : Nat × Int // slices_Index_Sub_L1 n s v q.1 q.2 = some e_ }) (fun | ⟨⟨c, t8⟩, _⟩ => ⟨upd 0 (.d (.sl (List.map eGSub s)) true) (upd 3 (.pt 0 0) (upd 7 (.v (.int .i64 (s.length : Int))) (upd 8 (.v (.int .i64 t8)) noFr))), upd 0 (some (.bx [.v (.string v.type_), .v (.string v.id_), .v (.string v.rel)])) noHp, 1⟩) (fun q => q.1.1) ⟨(n, 0), E1⟩ ?_ ?_
  ·exact ZR [(0, 0)]
  ·rintro ⟨⟨c, t8⟩, L3⟩
   rcases c with _ | c
   ·exact Zx L3
   ·unfold slices_Index_Sub_L1 at L3
    try dsimp only at L3
    refine ZT 1 ?_
    refine Z0 ?_
    rcases zit L3 with ⟨c14, H15⟩ | ⟨c14, H15⟩
    ·obtain ⟨x2, b16, H17⟩ := zbi H15
     obtain ⟨h18, h19⟩ := zix b16
     try simp only [Int.reduceToNat, Int.toNat_natCast] at h19
     have h20 := map_at eGSub h19
     refine Z1 (Y3 c14 (zno .i64 h18) h20) ?_
     refine Rd_endF (by rfl) ?_
     refine Z1 (Y3 c14 (zno .i64 h18) h20) ?_
     rcases zit H17 with ⟨c22, H23⟩ | ⟨c22, H23⟩
     ·refine Z1 (Y4 c14 (zno .i64 h18) h20 c22) ?_
      obtain rfl := Zi H23
      obtain rfl := Zi H2
      exact ZE0
     ·refine Z1 (Y4 c14 (zno .i64 h18) h20 c22) ?_
      exact ⟨⟨(c, (IntKind.i64.wrap (t8 + 1))), H23⟩, ZR [(0, 0)], Nat.lt_succ_self _⟩
    ·refine Z1 c14 ?_
     obtain rfl := Zi H15
     exact ⟨⟨(), rfl⟩, ZR []⟩
 ·rintro ⟨_, he24⟩
  obtain rfl := he24.symm
  try dsimp only at H2
  refine ZT 1 ?_
  refine Z0 ?_
  obtain rfl := Zi H2
  exact ZE0
def slices_Contains_Sub (n : Nat) (s : List GSub) (v : GSub) : Option Bool :=
 (slices_Index_Sub n s v).bind fun t7 =>
 some (decide (0 ≤ t7))
theorem slices_Contains_Sub_ok {n : Nat} {s : List GSub} {v : GSub} {r : Bool} (H : slices_Contains_Sub n s v = some r) : PureOK Try.prog 16 [D.sl (List.map eGSub s), D.ag (eGSub v)] (D.v (.bool r)) true := by
 unfold slices_Contains_Sub at H
 refine ZP tab_ok fol (rs := #[.tmp 4]) Try.func16 ?_
 refine ZT 1 ?_
 obtain ⟨t7, b1, H2⟩ := zbi H
 refine Z0 ?_
 refine ZC0 (slices_Index_Sub_ok b1) ?_
 refine Z0 ?_
 obtain rfl := Zi H2
 exact ZE0
def atom_first (_ : Nat) (c2 : Int) : Option Bool :=
 (if (decide (97 ≤ c2)) then
  (if (decide (c2 ≤ 122)) then
   some true
  else
   (if (decide (48 ≤ c2)) then
    some (decide (c2 ≤ 57))
   else
    some false))
 else
  (if (decide (48 ≤ c2)) then
   some (decide (c2 ≤ 57))
  else
   some false))
theorem atom_first_ok {n : Nat} {c2 : Int} {r : Bool} (H : atom_first n c2 = some r) : PureOK Try.prog 62 [D.v (.int .u8 c2)] (D.v (.bool r)) true := by
 unfold atom_first at H
 refine ZP tab_ok fol (rs := #[.tmp 2]) Try.func62 ?_
 refine ZT 1 ?_
 refine Z0 ?_
 rcases zit H with ⟨c1, H2⟩ | ⟨c1, H2⟩
 ·refine Z1 c1 ?_
  rcases zit H2 with ⟨c3, H4⟩ | ⟨c3, H4⟩
  ·refine Z1 (Y2 c1 c3) ?_
   obtain rfl := Zi H4
   exact ZE0
  ·refine Z1 (Y2 c1 c3) ?_
   rcases zit H4 with ⟨c5, H6⟩ | ⟨c5, H6⟩
   ·refine Z1 (Y3 c1 c3 c5) ?_
    obtain rfl := Zi H6
    exact ZE0
   ·refine Z1 (Y3 c1 c3 c5) ?_
    obtain rfl := Zi H6
    exact ZE0
 ·refine Z1 c1 ?_
  rcases zit H2 with ⟨c7, H8⟩ | ⟨c7, H8⟩
  ·refine Z1 (Y2 c1 c7) ?_
   obtain rfl := Zi H8
   exact ZE0
  ·refine Z1 (Y2 c1 c7) ?_
   obtain rfl := Zi H8
   exact ZE0
def atom_plain (n : Nat) (c2 : Int) : Option Bool :=
 (atom_first n c2).bind fun t4 =>
 (if t4 then
  some true
 else
  (if (c2 == 95) then
   some true
  else
   (if (c2 == 45) then
    some true
   else
    some (c2 == 46))))
theorem atom_plain_ok {n : Nat} {c2 : Int} {r : Bool} (H : atom_plain n c2 = some r) : PureOK Try.prog 63 [D.v (.int .u8 c2)] (D.v (.bool r)) true := by
 unfold atom_plain at H
 refine ZP tab_ok fol (rs := #[.tmp 2]) Try.func63 ?_
 refine ZT 1 ?_
 obtain ⟨t4, b1, H2⟩ := zbi H
 refine Z0 ?_
 refine ZC0 (atom_first_ok b1) ?_
 refine Z0 ?_
 rcases zit H2 with ⟨c3, H4⟩ | ⟨c3, H4⟩
 ·refine Z1 c3 ?_
  obtain rfl := Zi H4
  exact ZE0
 ·refine Z1 c3 ?_
  rcases zit H4 with ⟨c5, H6⟩ | ⟨c5, H6⟩
  ·refine Z1 (Y2 c3 c5) ?_
   obtain rfl := Zi H6
   exact ZE0
  ·refine Z1 (Y2 c3 c5) ?_
   rcases zit H6 with ⟨c7, H8⟩ | ⟨c7, H8⟩
   ·refine Z1 (Y3 c3 c5 c7) ?_
    obtain rfl := Zi H8
    exact ZE0
   ·refine Z1 (Y3 c3 c5 c7) ?_
    obtain rfl := Zi H8
    exact ZE0
def atom_Name_L1 (n : Nat) (s : ByteArray) : Nat → Int → Option ((Unit) ⊕ Bool)
 | 0, _ => none
 | c + 1, t19 =>
  (if (decide (t19 < (s.size : Int))) then
   (bidx s t19).bind fun ch3 =>
   (atom_plain n ch3).bind fun t252 =>
   (if t252 then
    atom_Name_L1 n s c (IntKind.i64.wrap (t19 + 1))
   else
    some (.inr false))
  else
   some (.inl ()))
def atom_Name (n : Nat) (s : ByteArray) : Option Bool :=
 (
  (if (s.toList == ({ data := #[] } : ByteArray).toList) then
   some true
  else
   (if (decide (30 < (s.size : Int))) then
    some true
   else
    (bidx s 0).bind fun ch =>
    (atom_first n ch).bind fun t14 =>
    some (!t14))) : Option (Bool)).bind fun t16 =>
 (if t16 then
  some false
 else
  (
   atom_Name_L1 n s n 0 : Option ((Unit) ⊕ Bool)).bind fun
   | .inl _ =>
    some true
   | .inr r => some r)
theorem atom_Name_ok {n : Nat} {s : ByteArray} {r : Bool} (H : atom_Name n s = some r) : PureOK Try.prog 53 [D.v (.string s)] (D.v (.bool r)) true := by
 unfold atom_Name at H
 refine ZP tab_ok fol (rs := #[.tmp 2]) Try.func53 ?_
 refine zsq (ZT 1 ?_)
 refine Z0 ?_
 refine zsq (zsq ?_)
 obtain ⟨e_, E1, H2⟩ := zbi H
 refine zjn (α := { y : Bool // e_ = y }) (fun | ⟨t16, _⟩ => ⟨upd 0 (.v (.string s)) (upd 16 (.v (.bool t16)) noFr), noHp, 0⟩) ?_ ?_
 ·refine ZT 1 ?_
  refine Z0 ?_
  rcases zit E1 with ⟨c3, H4⟩ | ⟨c3, H4⟩
  ·refine Z1 c3 ?_
   obtain rfl := Zi H4
   exact ⟨⟨true, rfl⟩, ZR []⟩
  ·refine Z1 c3 ?_
   rcases zit H4 with ⟨c5, H6⟩ | ⟨c5, H6⟩
   ·refine Z1 (Y2 c3 c5) ?_
    obtain rfl := Zi H6
    exact ⟨⟨true, rfl⟩, ZR []⟩
   ·obtain ⟨ch, b7, H8⟩ := zbi H6
    obtain ⟨h9, by_, h10, h11⟩ := zbx b7
    try simp only [Int.reduceToNat] at h10
    obtain ⟨t14, b12, H13⟩ := zbi H8
    refine Z1 (Y5 c3 c5 (zno .i64 h9) h10 h11.symm) ?_
    refine ZC0 (atom_first_ok b12) ?_
    refine Z1 (Y5 c3 c5 (zno .i64 h9) h10 h11.symm) ?_
    obtain rfl := Zi H13
    exact ⟨⟨(!t14), rfl⟩, ZR []⟩
 ·rintro ⟨t16, he42⟩
  obtain rfl := he42.symm
  try dsimp only at H2
  refine ZT 1 ?_
  refine Z0 ?_
  rcases zit H2 with ⟨c14, H15⟩ | ⟨c14, H15⟩
  ·refine Z1 c14 ?_
   obtain rfl := Zi H15
   exact ZE0
  ·refine Z1 c14 ?_
   refine zsq (zsq ?_)
   refine ZT 1 ?_
   refine Z1 c14 ?_
   obtain ⟨e_2, E16, H17⟩ := zbi H15
   refine zjn (α := { y : Unit // e_2 = .inl y }) (fun | ⟨_, _⟩ => ⟨noFr, noHp, 0⟩) ?_ ?_
   ·refine zbk ?_
    refine zlp (α := { q : Nat × Int // atom_Name_L1 n s q.1 q.2 = some e_2 }) (fun | ⟨⟨c, t19⟩, _⟩ => ⟨upd 0 (.v (.string s)) (upd 18 (.v (.int .i64 (s.size : Int))) (upd 19 (.v (.int .i64 t19)) noFr)), noHp, 0⟩) (fun q => q.1.1) ⟨(n, 0), E16⟩ ?_ ?_
    ·exact ZR []
    ·rintro ⟨⟨c, t19⟩, L18⟩
     rcases c with _ | c
     ·exact Zx L18
     ·unfold atom_Name_L1 at L18
      try dsimp only at L18
      refine ZT 1 ?_
      refine Z0 ?_
      rcases zit L18 with ⟨c30, H31⟩ | ⟨c30, H31⟩
      ·obtain ⟨ch3, b32, H33⟩ := zbi H31
       obtain ⟨h34, by_3, h35, h36⟩ := zbx b32
       try simp only [Int.reduceToNat, Int.toNat_natCast] at h35
       obtain ⟨t252, b37, H38⟩ := zbi H33
       refine Z1 (Y4 c30 (zno .i64 h34) h35 h36.symm) ?_
       refine ZC0 (atom_plain_ok b37) ?_
       refine Z1 (Y4 c30 (zno .i64 h34) h35 h36.symm) ?_
       rcases zit H38 with ⟨c39, H40⟩ | ⟨c39, H40⟩
       ·refine Z1 (Y5 c30 (zno .i64 h34) h35 h36.symm c39) ?_
        exact ⟨⟨(c, (IntKind.i64.wrap (t19 + 1))), H40⟩, ZR [], Nat.lt_succ_self _⟩
       ·refine Z1 (Y5 c30 (zno .i64 h34) h35 h36.symm c39) ?_
        obtain rfl := Zi H40
        obtain rfl := Zi H17
        exact ZE0
      ·refine Z1 c30 ?_
       obtain rfl := Zi H31
       exact ⟨⟨(), rfl⟩, ZR []⟩
   ·rintro ⟨_, he41⟩
    obtain rfl := he41.symm
    try dsimp only at H17
    refine ZT 1 ?_
    refine Z0 ?_
    obtain rfl := Zi H17
    exact ZE0
def atom_ID_L1 (n : Nat) (s : ByteArray) : Nat → Int → Option ((Unit) ⊕ Bool)
 | 0, _ => none
 | c + 1, t7 =>
  (if (decide (t7 < (s.size : Int))) then
   (bidx s t7).bind fun ch2 =>
   (atom_plain n ch2).bind fun t142 =>
   (if t142 then
    atom_ID_L1 n s c (IntKind.i64.wrap (t7 + 1))
   else
    (if (ch2 != 47) then
     (if (ch2 != 124) then
      (if (ch2 != 42) then
       some (.inr false)
      else
       atom_ID_L1 n s c (IntKind.i64.wrap (t7 + 1)))
     else
      atom_ID_L1 n s c (IntKind.i64.wrap (t7 + 1)))
    else
     atom_ID_L1 n s c (IntKind.i64.wrap (t7 + 1))))
  else
   some (.inl ()))
def atom_ID (n : Nat) (s : ByteArray) : Option Bool :=
 (
  atom_ID_L1 n s n 0 : Option ((Unit) ⊕ Bool)).bind fun
  | .inl _ =>
   (if (s.toList == ({ data := #[] } : ByteArray).toList) then
    some false
   else
    some (decide ((s.size : Int) ≤ 250)))
  | .inr r => some r
theorem atom_ID_ok {n : Nat} {s : ByteArray} {r : Bool} (H : atom_ID n s = some r) : PureOK Try.prog 54 [D.v (.string s)] (D.v (.bool r)) true := by
 unfold atom_ID at H
 refine ZP tab_ok fol (rs := #[.tmp 2]) Try.func54 ?_
 refine zsq (ZT 1 ?_)
 refine Z0 ?_
 refine zsq (zsq ?_)
 refine ZT 1 ?_
 refine Z0 ?_
 obtain ⟨e_, E1, H2⟩ := zbi H
 refine zjn (α := { y : Unit // e_ = .inl y }) (fun | ⟨_, _⟩ => ⟨upd 0 (.v (.string s)) noFr, noHp, 0⟩) ?_ ?_
 ·refine zbk ?_
  refine zlp (α := { q : Nat × Int // atom_ID_L1 n s q.1 q.2 = some e_ }) (fun | ⟨⟨c, t7⟩, _⟩ => ⟨upd 0 (.v (.string s)) (upd 6 (.v (.int .i64 (s.size : Int))) (upd 7 (.v (.int .i64 t7)) noFr)), noHp, 0⟩) (fun q => q.1.1) ⟨(n, 0), E1⟩ ?_ ?_
  ·exact ZR []
  ·rintro ⟨⟨c, t7⟩, L3⟩
   rcases c with _ | c
   ·exact Zx L3
   ·unfold atom_ID_L1 at L3
    try dsimp only at L3
    refine ZT 1 ?_
    refine Z0 ?_
    rcases zit L3 with ⟨c21, H22⟩ | ⟨c21, H22⟩
    ·obtain ⟨ch2, b23, H24⟩ := zbi H22
     obtain ⟨h25, by_2, h26, h27⟩ := zbx b23
     try simp only [Int.reduceToNat, Int.toNat_natCast] at h26
     obtain ⟨t142, b28, H29⟩ := zbi H24
     refine Z1 (Y4 c21 (zno .i64 h25) h26 h27.symm) ?_
     refine ZC0 (atom_plain_ok b28) ?_
     refine Z1 (Y4 c21 (zno .i64 h25) h26 h27.symm) ?_
     rcases zit H29 with ⟨c30, H31⟩ | ⟨c30, H31⟩
     ·refine Z1 (Y5 c21 (zno .i64 h25) h26 h27.symm c30) ?_
      exact ⟨⟨(c, (IntKind.i64.wrap (t7 + 1))), H31⟩, ZR [], Nat.lt_succ_self _⟩
     ·refine Z1 (Y5 c21 (zno .i64 h25) h26 h27.symm c30) ?_
      rcases zit H31 with ⟨c32, H33⟩ | ⟨c32, H33⟩
      ·refine Z1 (Y6 c21 (zno .i64 h25) h26 h27.symm c30 c32) ?_
       rcases zit H33 with ⟨c34, H35⟩ | ⟨c34, H35⟩
       ·refine Z1 (Y2 (Y6 c21 (zno .i64 h25) h26 h27.symm c30 c32) c34) ?_
        rcases zit H35 with ⟨c36, H37⟩ | ⟨c36, H37⟩
        ·refine Z1 (Y2 (Y6 c21 (zno .i64 h25) h26 h27.symm c30 c32) (Y2 c34 c36)) ?_
         obtain rfl := Zi H37
         obtain rfl := Zi H2
         exact ZE0
        ·refine Z1 (Y2 (Y6 c21 (zno .i64 h25) h26 h27.symm c30 c32) (Y2 c34 c36)) ?_
         exact ⟨⟨(c, (IntKind.i64.wrap (t7 + 1))), H37⟩, ZR [], Nat.lt_succ_self _⟩
       ·refine Z1 (Y2 (Y6 c21 (zno .i64 h25) h26 h27.symm c30 c32) c34) ?_
        exact ⟨⟨(c, (IntKind.i64.wrap (t7 + 1))), H35⟩, ZR [], Nat.lt_succ_self _⟩
      ·refine Z1 (Y6 c21 (zno .i64 h25) h26 h27.symm c30 c32) ?_
       exact ⟨⟨(c, (IntKind.i64.wrap (t7 + 1))), H33⟩, ZR [], Nat.lt_succ_self _⟩
    ·refine Z1 c21 ?_
     obtain rfl := Zi H22
     exact ⟨⟨(), rfl⟩, ZR []⟩
 ·rintro ⟨_, he40⟩
  obtain rfl := he40.symm
  try dsimp only at H2
  refine ZT 1 ?_
  refine Z0 ?_
  rcases zit H2 with ⟨c38, H39⟩ | ⟨c38, H39⟩
  ·refine Z1 c38 ?_
   obtain rfl := Zi H39
   exact ZE0
  ·refine Z1 c38 ?_
   obtain rfl := Zi H39
   exact ZE0
def tupl_Ok (n : Nat) (t : GTuple) : Option Bool :=
 (atom_Name n t.obj.type_).bind fun t6 =>
 (if t6 then
  (atom_ID n t.obj.id_).bind fun t11 =>
  (if t11 then
   (atom_Name n t.rel).bind fun t16 =>
   (if t16 then
    (atom_Name n t.sub_.type_).bind fun t22 =>
    (if t22 then
     (atom_ID n t.sub_.id_).bind fun t28 =>
     (if t28 then
      (if (t.sub_.rel.toList == ({ data := #[] } : ByteArray).toList) then
       some true
      else
       (atom_Name n t.sub_.rel).bind fun t39 =>
       some t39)
     else
      some false)
    else
     some false)
   else
    some false)
  else
   some false)
 else
  some false)
theorem tupl_Ok_ok {n : Nat} {t : GTuple} {r : Bool} (H : tupl_Ok n t = some r) : PureOK Try.prog 43 [D.ag (eGTuple t)] (D.v (.bool r)) true := by
 unfold tupl_Ok at H
 refine ZP tab_ok fol (rs := #[.tmp 2]) Try.func43 ?_
 refine ZT 1 ?_
 obtain ⟨t6, b1, H2⟩ := zbi H
 refine Z0 ?_
 refine ZC0 (atom_Name_ok b1) ?_
 refine Z0 ?_
 rcases zit H2 with ⟨c3, H4⟩ | ⟨c3, H4⟩
 ·obtain ⟨t11, b5, H6⟩ := zbi H4
  refine Z1 c3 ?_
  refine ZC0 (atom_ID_ok b5) ?_
  refine Z1 c3 ?_
  rcases zit H6 with ⟨c7, H8⟩ | ⟨c7, H8⟩
  ·obtain ⟨t16, b9, H10⟩ := zbi H8
   refine Z1 (Y2 c3 c7) ?_
   refine ZC0 (atom_Name_ok b9) ?_
   refine Z1 (Y2 c3 c7) ?_
   rcases zit H10 with ⟨c11, H12⟩ | ⟨c11, H12⟩
   ·obtain ⟨t22, b13, H14⟩ := zbi H12
    refine Z1 (Y3 c3 c7 c11) ?_
    refine ZC0 (atom_Name_ok b13) ?_
    refine Z1 (Y3 c3 c7 c11) ?_
    rcases zit H14 with ⟨c15, H16⟩ | ⟨c15, H16⟩
    ·obtain ⟨t28, b17, H18⟩ := zbi H16
     refine Z1 (Y4 c3 c7 c11 c15) ?_
     refine ZC0 (atom_ID_ok b17) ?_
     refine Z1 (Y4 c3 c7 c11 c15) ?_
     rcases zit H18 with ⟨c19, H20⟩ | ⟨c19, H20⟩
     ·refine Z1 (Y5 c3 c7 c11 c15 c19) ?_
      rcases zit H20 with ⟨c21, H22⟩ | ⟨c21, H22⟩
      ·refine Z1 (Y6 c3 c7 c11 c15 c19 c21) ?_
       obtain rfl := Zi H22
       exact ZE0
      ·obtain ⟨t39, b23, H24⟩ := zbi H22
       refine Z1 (Y6 c3 c7 c11 c15 c19 c21) ?_
       refine ZC0 (atom_Name_ok b23) ?_
       refine Z1 (Y6 c3 c7 c11 c15 c19 c21) ?_
       obtain rfl := Zi H24
       exact ZE0
     ·refine Z1 (Y5 c3 c7 c11 c15 c19) ?_
      obtain rfl := Zi H20
      exact ZE0
    ·refine Z1 (Y4 c3 c7 c11 c15) ?_
     obtain rfl := Zi H16
     exact ZE0
   ·refine Z1 (Y3 c3 c7 c11) ?_
    obtain rfl := Zi H12
    exact ZE0
  ·refine Z1 (Y2 c3 c7) ?_
   obtain rfl := Zi H8
   exact ZE0
 ·refine Z1 c3 ?_
  obtain rfl := Zi H4
  exact ZE0
def well_Schema_Fits (n : Nat) (s : WellSchema) (t : GTuple) : Option Bool :=
 (well_Schema_Rel n s t.obj.type_ t.rel).bind fun t14 =>
 (tupl_Ok n t).bind fun t18 =>
 (if t18 then
  (slices_Contains_Sub n t14.1.subs (⟨t.sub_.type_, ByteArray.empty, t.sub_.rel⟩ : GSub)).bind fun t29 =>
  some t29
 else
  some false)
theorem well_Schema_Fits_ok {n : Nat} {s : WellSchema} {t : GTuple} {r : Bool} (H : well_Schema_Fits n s t = some r) : PureOK Try.prog 26 [D.pt (eWellSchema s) 0, D.ag (eGTuple t)] (D.v (.bool r)) true := by
 unfold well_Schema_Fits at H
 refine ZP tab_ok fol (rs := #[.tmp 4]) Try.func26 ?_
 refine ZT 1 ?_
 obtain ⟨t14, b1, H2⟩ := zbi H
 refine Z0 ?_
 refine ZC0 (well_Schema_Rel_ok b1) ?_
 obtain ⟨t18, b3, H4⟩ := zbi H2
 refine Z0 ?_
 refine ZC0 (tupl_Ok_ok b3) ?_
 refine Z0 ?_
 rcases zit H4 with ⟨c5, H6⟩ | ⟨c5, H6⟩
 ·obtain ⟨t29, b7, H8⟩ := zbi H6
  refine Z1 c5 ?_
  refine ZC0 (slices_Contains_Sub_ok b7) ?_
  refine Z1 c5 ?_
  obtain rfl := Zi H8
  exact ZE0
 ·refine Z1 c5 ?_
  obtain rfl := Zi H6
  exact ZE0
def look_Of_L1 (n : Nat) (t16 : List GTuple) : Nat → (List (GRef × (List GSub)) × List (ByteArray × (List ByteArray)) × List (GSub × (List GRef)) × List (ByteArray × (List ByteArray)) × Int) → Option (List (GRef × (List GSub)) × List (ByteArray × (List ByteArray)) × List (GSub × (List GRef)) × List (ByteArray × (List ByteArray)))
 | 0, _ => none
 | c + 1, (t302, t312, t322, t332, t18) =>
  (if (decide (t18 < (t16.length : Int))) then
   (idx t16 t18).bind fun x2 =>
   grd (decide (t302.length ≤ 4294967296)) <|
   grd (decide (t312.length ≤ 4294967296)) <|
   grd (decide (t322.length ≤ 4294967296)) <|
   grd (decide (t332.length ≤ 4294967296)) <|
   (
    grd (famG (⟨x2.obj, x2.rel⟩ : GRef) t302) <|
    some () : Option (Unit)).bind fun _ =>
   grd (decide ((madd (⟨x2.obj, x2.rel⟩ : GRef) [x2.sub_] t302).length ≤ 4294967296)) <|
   (
    grd (famG x2.sub_ t322) <|
    some () : Option (Unit)).bind fun _ =>
   grd (decide ((madd x2.sub_ [(⟨x2.obj, x2.rel⟩ : GRef)] t322).length ≤ 4294967296)) <|
   (
    grd (famG x2.obj.type_ t312) <|
    some () : Option (Unit)).bind fun _ =>
   (if (x2.sub_.rel.toList == ({ data := #[] } : ByteArray).toList) then
    grd (decide ((madd x2.obj.type_ [x2.obj.id_] t312).length ≤ 4294967296)) <|
    (
     grd (famG x2.sub_.type_ t332) <|
     some () : Option (Unit)).bind fun _ =>
    grd (decide ((madd x2.sub_.type_ [x2.sub_.id_] t332).length ≤ 4294967296)) <|
    look_Of_L1 n t16 c ((madd (⟨x2.obj, x2.rel⟩ : GRef) [x2.sub_] t302), (madd x2.obj.type_ [x2.obj.id_] t312), (madd x2.sub_ [(⟨x2.obj, x2.rel⟩ : GRef)] t322), (madd x2.sub_.type_ [x2.sub_.id_] t332), (IntKind.i64.wrap (t18 + 1)))
   else
    grd (decide ((madd x2.obj.type_ [x2.obj.id_] t312).length ≤ 4294967296)) <|
    look_Of_L1 n t16 c ((madd (⟨x2.obj, x2.rel⟩ : GRef) [x2.sub_] t302), (madd x2.obj.type_ [x2.obj.id_] t312), (madd x2.sub_ [(⟨x2.obj, x2.rel⟩ : GRef)] t322), t332, (IntKind.i64.wrap (t18 + 1))))
  else
   grd (decide (t302.length ≤ 4294967296)) <|
   grd (decide (t312.length ≤ 4294967296)) <|
   grd (decide (t322.length ≤ 4294967296)) <|
   grd (decide (t332.length ≤ 4294967296)) <|
   some (t302, t312, t322, t332))
def look_Of_L1_f (_ : Nat) (_ : List GTuple) (st : List (GRef × (List GSub)) × List (ByteArray × (List ByteArray)) × List (GSub × (List GRef)) × List (ByteArray × (List ByteArray))) (x2 : GTuple) (k : (List (GRef × (List GSub)) × List (ByteArray × (List ByteArray)) × List (GSub × (List GRef)) × List (ByteArray × (List ByteArray))) → Option (List (GRef × (List GSub)) × List (ByteArray × (List ByteArray)) × List (GSub × (List GRef)) × List (ByteArray × (List ByteArray)))) : Option (List (GRef × (List GSub)) × List (ByteArray × (List ByteArray)) × List (GSub × (List GRef)) × List (ByteArray × (List ByteArray))) :=
 match st with
 | (t302, t312, t322, t332) =>
  grd (decide (t302.length ≤ 4294967296)) <|
  grd (decide (t312.length ≤ 4294967296)) <|
  grd (decide (t322.length ≤ 4294967296)) <|
  grd (decide (t332.length ≤ 4294967296)) <|
  (
   grd (famG (⟨x2.obj, x2.rel⟩ : GRef) t302) <|
   some () : Option (Unit)).bind fun _ =>
  grd (decide ((madd (⟨x2.obj, x2.rel⟩ : GRef) [x2.sub_] t302).length ≤ 4294967296)) <|
  (
   grd (famG x2.sub_ t322) <|
   some () : Option (Unit)).bind fun _ =>
  grd (decide ((madd x2.sub_ [(⟨x2.obj, x2.rel⟩ : GRef)] t322).length ≤ 4294967296)) <|
  (
   grd (famG x2.obj.type_ t312) <|
   some () : Option (Unit)).bind fun _ =>
  (if (x2.sub_.rel.toList == ({ data := #[] } : ByteArray).toList) then
   grd (decide ((madd x2.obj.type_ [x2.obj.id_] t312).length ≤ 4294967296)) <|
   (
    grd (famG x2.sub_.type_ t332) <|
    some () : Option (Unit)).bind fun _ =>
   grd (decide ((madd x2.sub_.type_ [x2.sub_.id_] t332).length ≤ 4294967296)) <|
   k ((madd (⟨x2.obj, x2.rel⟩ : GRef) [x2.sub_] t302), (madd x2.obj.type_ [x2.obj.id_] t312), (madd x2.sub_ [(⟨x2.obj, x2.rel⟩ : GRef)] t322), (madd x2.sub_.type_ [x2.sub_.id_] t332))
  else
   grd (decide ((madd x2.obj.type_ [x2.obj.id_] t312).length ≤ 4294967296)) <|
   k ((madd (⟨x2.obj, x2.rel⟩ : GRef) [x2.sub_] t302), (madd x2.obj.type_ [x2.obj.id_] t312), (madd x2.sub_ [(⟨x2.obj, x2.rel⟩ : GRef)] t322), t332))
def look_Of_L1_e (_ : Nat) (_ : List GTuple) (st : List (GRef × (List GSub)) × List (ByteArray × (List ByteArray)) × List (GSub × (List GRef)) × List (ByteArray × (List ByteArray))) : Option (List (GRef × (List GSub)) × List (ByteArray × (List ByteArray)) × List (GSub × (List GRef)) × List (ByteArray × (List ByteArray))) :=
 match st with
 | (t302, t312, t322, t332) => grd (decide (t302.length ≤ 4294967296)) <|
 grd (decide (t312.length ≤ 4294967296)) <|
 grd (decide (t322.length ≤ 4294967296)) <|
 grd (decide (t332.length ≤ 4294967296)) <|
 some (t302, t312, t322, t332)
theorem look_Of_L1_list (n : Nat) (t16 : List GTuple) (hx : t16.length < 4611686018427387904) (c : Nat) (st : List (GRef × (List GSub)) × List (ByteArray × (List ByteArray)) × List (GSub × (List GRef)) × List (ByteArray × (List ByteArray))) (ix : Nat) (hi : ix ≤ t16.length) (hc : t16.length - ix < c) : look_Of_L1 n t16 c (match st, (ix : Int) with | (t302, t312, t322, t332), ix => (t302, t312, t322, t332, ix)) = foldK (look_Of_L1_f n t16) (look_Of_L1_e n t16) (t16.drop ix) st :=
 loop_list (fun c st ix => look_Of_L1 n t16 c (match st, ix with | (t302, t312, t322, t332), ix => (t302, t312, t322, t332, ix))) t16 (look_Of_L1_f n t16) (look_Of_L1_e n t16) (fun _ _ _ => rfl) hx c st ix hi hc
def look_Of (n : Nat) (t0 : List GTuple) : Option LookIndex :=
 (rows_Of n t0).bind fun t16 =>
 (
  look_Of_L1 n t16 n (([] : List (GRef × (List GSub))), ([] : List (ByteArray × (List ByteArray))), ([] : List (GSub × (List GRef))), ([] : List (ByteArray × (List ByteArray))), 0) : Option (List (GRef × (List GSub)) × List (ByteArray × (List ByteArray)) × List (GSub × (List GRef)) × List (ByteArray × (List ByteArray)))).bind fun (t304, t314, t324, t334) =>
 grd (decide (t304.length ≤ 4294967296)) <|
 grd (decide (t314.length ≤ 4294967296)) <|
 grd (decide (t324.length ≤ 4294967296)) <|
 grd (decide (t334.length ≤ 4294967296)) <|
 some (⟨(⟨t304, t314⟩ : LookLeft), (⟨t324, t334⟩ : LookRight)⟩ : LookIndex)
set_option maxHeartbeats 8000000 in
theorem look_Of_ok {n : Nat} {t0 : List GTuple} {r : LookIndex} (H : look_Of n t0 = some r) : PureA Try.prog 27 [.d (D.sl (List.map eGTuple t0))] (D.pt (eLookIndex r) 0) true := by
 unfold look_Of at H
 refine ZPX tab_ok fol (rs := #[.tmp 2]) Try.func27 ?_
 refine zsq (ZT 1 ?_)
 refine Z0 ?_
 refine zsq (ZT 1 ?_)
 refine Z0 ?_
 refine zsq (zsq ?_)
 refine ZT 1 ?_
 obtain ⟨t16, b1, H2⟩ := zbi H
 refine Z0 ?_
 refine ZC0 (rows_Of_ok b1) ?_
 refine Z0 ?_
 obtain ⟨e_, E3, H4⟩ := zbi H2
 refine zjn (α := { y : List (GRef × (List GSub)) × List (ByteArray × (List ByteArray)) × List (GSub × (List GRef)) × List (ByteArray × (List ByteArray)) // e_ = y } × (Nat → Nat) × (Nat → Nat) × (Nat → Nat) × (Nat → Nat)) (fun | ⟨⟨⟨t304, t314, t324, t334⟩, _⟩, ⟨g21, g22, g23, g24⟩⟩ => ⟨upd 3 (.pt 0 0) noFr, upd 0 (some (.bx [.mo 1, .mo 2, .mo 3, .mo 4])) (upd 1 (some (.mo (encF kGRef 4294967296 g21 t304) false)) (upd 2 (some (.mo (encF Value.string 8589934592 g22 t314) false)) (upd 3 (some (.mo (encF kGSub 12884901888 g23 t324) false)) (upd 4 (some (.mo (encF Value.string 17179869184 g24 t334) false)) (famH eGSub 3 4294967296 g21 t304 (famH eS 1 8589934592 g22 t314 (famH eGRef 3 12884901888 g23 t324 (famH eS 1 17179869184 g24 t334 (noHp))))))))), 21474836480⟩) ?_ ?_
 ·refine zbk ?_
  refine zlp (α := { q : (Nat × (List (GRef × (List GSub)) × List (ByteArray × (List ByteArray)) × List (GSub × (List GRef)) × List (ByteArray × (List ByteArray)) × Int)) × (Nat → Nat) × (Nat → Nat) × (Nat → Nat) × (Nat → Nat) // look_Of_L1 n t16 q.1.1 q.1.2 = some e_ }) (fun | ⟨⟨⟨c, ⟨t302, t312, t322, t332, t18⟩⟩, ⟨g9, g10, g11, g12⟩⟩, _⟩ => ⟨upd 3 (.pt 0 0) (upd 16 (.d (.sl (List.map eGTuple t16)) false) (upd 17 (.v (.int .i64 (t16.length : Int))) (upd 18 (.v (.int .i64 t18)) noFr))), upd 0 (some (.bx [.mo 1, .mo 2, .mo 3, .mo 4])) (upd 1 (some (.mo (encF kGRef 4294967296 g9 t302) false)) (upd 2 (some (.mo (encF Value.string 8589934592 g10 t312) false)) (upd 3 (some (.mo (encF kGSub 12884901888 g11 t322) false)) (upd 4 (some (.mo (encF Value.string 17179869184 g12 t332) false)) (famH eGSub 3 4294967296 g9 t302 (famH eS 1 8589934592 g10 t312 (famH eGRef 3 12884901888 g11 t322 (famH eS 1 17179869184 g12 t332 (noHp))))))))), 21474836480⟩) (fun q => q.1.1.1) ⟨((n, (([] : List (GRef × (List GSub))), ([] : List (ByteArray × (List ByteArray))), ([] : List (GSub × (List GRef))), ([] : List (ByteArray × (List ByteArray))), 0)), ((fun _ => 0), (fun _ => 0), (fun _ => 0), (fun _ => 0))), E3⟩ ?_ ?_
  ·exact ren_mkF (R := 340282366920938463463374607431768211457) none (fun _ _ h => by cases h) [4294967296, 8589934592, 12884901888, 17179869184] [(0, 8), (1, 1), (2, 2), (3, 4), (4, 5)] (by rfl) (rf_upd (by rfl) (rf_upd (by rfl) (rf_upd (by rfl) (rf_upd (by rfl) (rf_no _))))) (rh_upd (rh_one (by rfl) (by rfl) (by rfl)) (rh_upd (rh_one (by rfl) (renO_fam (by rfl) (by simp) (fun _ _ h => by cases h) (by decide) rfl) (by rfl)) (rh_upd (rh_one (by rfl) (renO_fam (by rfl) (by simp) (fun _ _ h => by cases h) (by decide) rfl) (by rfl)) (rh_upd (rh_one (by rfl) (renO_fam (by rfl) (by simp) (fun _ _ h => by cases h) (by decide) rfl) (by rfl)) (rh_upd (rh_one (by rfl) (renO_fam (by rfl) (by simp) (fun _ _ h => by cases h) (by decide) rfl) (by rfl)) (rh_fam (by rfl) (by simp) (fun _ _ h => by cases h) rfl (fun j p h hj => by cases h) (rh_fam (by rfl) (by simp) (fun _ _ h => by cases h) rfl (fun j p h hj => by cases h) (rh_fam (by rfl) (by simp) (fun _ _ h => by cases h) rfl (fun j p h hj => by cases h) (rh_fam (by rfl) (by simp) (fun _ _ h => by cases h) rfl (fun j p h hj => by cases h) (rh_no _))))))))))
  ·rintro ⟨⟨⟨c, ⟨t302, t312, t322, t332, t18⟩⟩, ⟨g9, g10, g11, g12⟩⟩, L5⟩
   rcases c with _ | c
   ·exact Zx L5
   ·unfold look_Of_L1 at L5
    try dsimp only at L5
    refine zsq (ZT 1 ?_)
    refine Z0 ?_
    refine zsq (ZT 1 ?_)
    refine Z0 ?_
    rcases zit L5 with ⟨c231, H232⟩ | ⟨c231, H232⟩
    ·refine Z1 c231 ?_
     refine zsq (zbk ?_)
     refine zsq (ZT 1 ?_)
     obtain ⟨x2, b233, H234⟩ := zbi H232
     obtain ⟨h235, h236⟩ := zix b233
     try simp only [Int.reduceToNat, Int.toNat_natCast] at h236
     have h237 := map_at eGTuple h236
     refine Z1 (Y3 c231 (zno .i64 h235) h237) ?_
     refine zsq (ZT 1 ?_)
     refine Z1 (Y3 c231 (zno .i64 h235) h237) ?_
     refine zsq ?_
     obtain ⟨g239, H240⟩ := grd_inv H234
     have h241 : t302.length ≤ 4294967296 := of_decide_eq_true g239
     obtain ⟨g242, H243⟩ := grd_inv H240
     have h244 : t312.length ≤ 4294967296 := of_decide_eq_true g242
     obtain ⟨g245, H246⟩ := grd_inv H243
     have h247 : t322.length ≤ 4294967296 := of_decide_eq_true g245
     obtain ⟨g248, H249⟩ := grd_inv H246
     have h250 : t332.length ≤ 4294967296 := of_decide_eq_true g248
     obtain ⟨e_6, E251, H252⟩ := zbi H249
     refine zjn (α := { y : Unit // e_6 = y } × (Nat → Nat)) (fun | ⟨⟨_, _⟩, g13⟩ => ⟨upd 3 (.pt 0 0) (upd 5 (.pt 5 0) (upd 6 (.pt 6 0) (upd 16 (.d (.sl (List.map eGTuple t16)) false) (upd 17 (.v (.int .i64 (t16.length : Int))) (upd 18 (.v (.int .i64 t18)) noFr))))), upd 0 (some (.bx [.mo 1, .mo 2, .mo 3, .mo 4])) (upd 1 (some (.mo (encF kGRef 4294967296 g13 (madd (⟨x2.obj, x2.rel⟩ : GRef) [x2.sub_] t302)) false)) (upd 2 (some (.mo (encF Value.string 8589934592 g10 t312) false)) (upd 3 (some (.mo (encF kGSub 12884901888 g11 t322) false)) (upd 4 (some (.mo (encF Value.string 17179869184 g12 t332) false)) (upd 5 (some (.bx [.v (.string x2.obj.type_), .v (.string x2.obj.id_), .v (.string x2.rel), .v (.string x2.sub_.type_), .v (.string x2.sub_.id_), .v (.string x2.sub_.rel)])) (upd 6 (some (.bx [.v (.string x2.obj.type_), .v (.string x2.obj.id_), .v (.string x2.rel)])) (famH eGSub 3 4294967296 g13 (madd (⟨x2.obj, x2.rel⟩ : GRef) [x2.sub_] t302) (famH eS 1 8589934592 g10 t312 (famH eGRef 3 12884901888 g11 t322 (famH eS 1 17179869184 g12 t332 (noHp))))))))))), 21474836480⟩) ?_ ?_
     ·refine ZT 1 ?_
      obtain ⟨g253, H254⟩ := grd_inv E251
      obtain ⟨g255, g256⟩ := famG_inv g253
      refine Z0 ?_
      rcases find_cases (kv := kGRef) (B := 4294967296) (vs := g9) key_GRef (⟨x2.obj, x2.rel⟩ : GRef) t302 with ⟨n257, n258, n259⟩ | ⟨j5, xs5, o260, o261, o262, o263⟩
      ·have n264 : mfind (true, [.string, .string, .string]) (.agg #[.string x2.obj.type_, .string x2.obj.id_, .string x2.rel]) (encF kGRef 4294967296 g9 t302) = some none := n258
       try simp -implicitDefEqProofs only [go_sem, Nat.reduceLT, Nat.reduceEqDiff, Nat.reduceAdd, Nat.reduceLeDiff, reduceCtorEq, ↓reduceIte, ent_new n264, app_at, app_set]
       refine Rd_endF (by kernel_rfl) ?_
       try simp -implicitDefEqProofs only [go_sem]
       obtain rfl := Zi H254
       exact ⟨⟨⟨(), rfl⟩, (vsUp (List.length t302) 0 g9)⟩, ren_mkF (R := 21474836503) (some (fid 4294967296 (List.length t302), 21474836503)) (fun _ _ h => by cases h; rfl) [4294967296, 8589934592, 12884901888, 17179869184] [(0, 0), (1, 1), (2, 2), (3, 3), (4, 4), (5, 21474836483), (6, 21474836490)] (by rfl) (rf_upd (by rfl) (rf_upd (by rfl) (rf_upd (by rfl) (rf_upd (by rfl) (rf_upd (by rfl) (rf_upd (by rfl) (rf_no _))))))) (rh_upd (rh_one (by rfl) (by rfl) (by rfl)) (rh_upd (rh_one (by rfl) (renO_famN (by rfl) (by simp) g255 (by first | exact (n259 _) | rfl)) (by rfl)) (rh_upd (rh_one (by rfl) (renO_fam (by rfl) (by simp) (fun J R h => by cases h; rw [fid_eq]; omega) h244 rfl) (by rfl)) (rh_upd (rh_one (by rfl) (renO_fam (by rfl) (by simp) (fun J R h => by cases h; rw [fid_eq]; omega) h247 rfl) (by rfl)) (rh_upd (rh_one (by rfl) (renO_fam (by rfl) (by simp) (fun J R h => by cases h; rw [fid_eq]; omega) h250 rfl) (by rfl)) (rh_upd (rh_one (by rfl) (by rfl) (by rfl)) (rh_upd (rh_one (by rfl) (by rfl) (by rfl)) (rh_famN (by rfl) (by simp) g255 (by first | exact (n259 _) | rfl) (fun j p h hj => by repeat (first | with_reducible exact famH_at h hj | (with_reducible refine at_upd ?_ ?_; rw [fid_eq]; omega) | (with_reducible refine at_fam ?_ ?_; rw [fid_eq]; omega))) (by rfl) (rh_fam (by rfl) (by simp) (fun J R h => by cases h; rw [fid_eq]; omega) rfl (fun j p h hj => by repeat (first | with_reducible exact famH_at h hj | (with_reducible refine at_upd ?_ ?_; rw [fid_eq]; omega) | (with_reducible refine at_fam ?_ ?_; rw [fid_eq]; omega))) (rh_fam (by rfl) (by simp) (fun J R h => by cases h; rw [fid_eq]; omega) rfl (fun j p h hj => by repeat (first | with_reducible exact famH_at h hj | (with_reducible refine at_upd ?_ ?_; rw [fid_eq]; omega) | (with_reducible refine at_fam ?_ ?_; rw [fid_eq]; omega))) (rh_fam (by rfl) (by simp) (fun J R h => by cases h; rw [fid_eq]; omega) rfl (fun j p h hj => by repeat (first | with_reducible exact famH_at h hj | (with_reducible refine at_upd ?_ ?_; rw [fid_eq]; omega) | (with_reducible refine at_fam ?_ ?_; rw [fid_eq]; omega))) (rh_no _))))))))))))⟩
      ·have o269 : mfind (true, [.string, .string, .string]) (.agg #[.string x2.obj.type_, .string x2.obj.id_, .string x2.rel]) (encF kGRef 4294967296 g9 t302) = some (some (j5, .so (fid 4294967296 j5) (g9 j5) 0 xs5.length)) := o262
       have h265 : j5 < 4294967296 := Nat.lt_trans (List.getElem?_eq_some_iff.1 o260).1 g255
       have h266 : ∀ hp : Hp, famH eGSub 3 4294967296 g9 t302 hp (fid 4294967296 j5) = some (.rw (List.map eGSub xs5) 3 (g9 j5) false false) := fun _ => famH_at o260 h265
       have h267 : (encF kGRef 4294967296 g9 t302)[j5]? = some ((.agg #[.string x2.obj.type_, .string x2.obj.id_, .string x2.rel]), .so (fid 4294967296 j5) (g9 j5) 0 xs5.length) := (encF_at _ _).trans (by rw [o260]; rfl)
       have h268 : xs5.length + 1 ≤ 4294967296 := by have := g256; simp only [mgetD, o261, Option.getD_some] at this; omega
       have h270 : ∀ hp : Hp, famH eS 1 8589934592 g10 t312 hp (fid 4294967296 j5) = hp (fid 4294967296 j5) := fun _ => famH_out (by rw [fid_eq]; omega)
       have h271 : ∀ (x : Option AO) (hp : Hp), upd (fid 4294967296 j5) x (famH eS 1 8589934592 g10 t312 hp) = famH eS 1 8589934592 g10 t312 (upd (fid 4294967296 j5) x hp) := fun _ _ => famH_swap (by rw [fid_eq]; omega)
       have h272 : ∀ hp : Hp, famH eGRef 3 12884901888 g11 t322 hp (fid 4294967296 j5) = hp (fid 4294967296 j5) := fun _ => famH_out (by rw [fid_eq]; omega)
       have h273 : ∀ (x : Option AO) (hp : Hp), upd (fid 4294967296 j5) x (famH eGRef 3 12884901888 g11 t322 hp) = famH eGRef 3 12884901888 g11 t322 (upd (fid 4294967296 j5) x hp) := fun _ _ => famH_swap (by rw [fid_eq]; omega)
       have h274 : ∀ hp : Hp, famH eS 1 17179869184 g12 t332 hp (fid 4294967296 j5) = hp (fid 4294967296 j5) := fun _ => famH_out (by rw [fid_eq]; omega)
       have h275 : ∀ (x : Option AO) (hp : Hp), upd (fid 4294967296 j5) x (famH eS 1 17179869184 g12 t332 hp) = famH eS 1 17179869184 g12 t332 (upd (fid 4294967296 j5) x hp) := fun _ _ => famH_swap (by rw [fid_eq]; omega)
       have h276 : ∀ (x y : Option AO) (g : Hp), upd (fid 4294967296 j5) x (upd 0 y g) = upd 0 y (upd (fid 4294967296 j5) x g) := fun _ _ _ => upd_swap (by rw [fid_eq]; omega)
       have h277 : ∀ (x y : Option AO) (g : Hp), upd (fid 4294967296 j5) x (upd 1 y g) = upd 1 y (upd (fid 4294967296 j5) x g) := fun _ _ _ => upd_swap (by rw [fid_eq]; omega)
       have h278 : ∀ (x y : Option AO) (g : Hp), upd (fid 4294967296 j5) x (upd 2 y g) = upd 2 y (upd (fid 4294967296 j5) x g) := fun _ _ _ => upd_swap (by rw [fid_eq]; omega)
       have h279 : ∀ (x y : Option AO) (g : Hp), upd (fid 4294967296 j5) x (upd 3 y g) = upd 3 y (upd (fid 4294967296 j5) x g) := fun _ _ _ => upd_swap (by rw [fid_eq]; omega)
       have h280 : ∀ (x y : Option AO) (g : Hp), upd (fid 4294967296 j5) x (upd 4 y g) = upd 4 y (upd (fid 4294967296 j5) x g) := fun _ _ _ => upd_swap (by rw [fid_eq]; omega)
       have h281 : ∀ (x y : Option AO) (g : Hp), upd (fid 4294967296 j5) x (upd 21474836483 y g) = upd 21474836483 y (upd (fid 4294967296 j5) x g) := fun _ _ _ => upd_swap (by rw [fid_eq]; omega)
       have h282 : ∀ (x y : Option AO) (g : Hp), upd (fid 4294967296 j5) x (upd 21474836490 y g) = upd 21474836490 y (upd (fid 4294967296 j5) x g) := fun _ _ _ => upd_swap (by rw [fid_eq]; omega)
       have h283 : ∀ (x y : Option AO) (g : Hp), upd (fid 4294967296 j5) x (upd 21474836500 y g) = upd 21474836500 y (upd (fid 4294967296 j5) x g) := fun _ _ _ => upd_swap (by rw [fid_eq]; omega)
       have h284 : ∀ c : Nat, 8589934592 ≤ c → (fid 4294967296 j5 = c) = False := fun c h => fid_hi h265 h
       have h285 : ∀ c : Nat, 8589934592 ≤ c → (c = fid 4294967296 j5) = False := fun c h => fid_hi' h265 h
       have h286 : ∀ (c : Nat) (x y : Option AO) (g : Hp), 8589934592 ≤ c → upd (fid 4294967296 j5) x (upd c y g) = upd c y (upd (fid 4294967296 j5) x g) := fun _ _ _ _ h => upd_swap (by rw [fid_eq]; omega)
       obtain ⟨zs5, h287⟩ : ∃ zs, xs5 ++ [x2.sub_] = zs := ⟨_, rfl⟩
       have h288 : List.map eGSub xs5 ++ [[.v (.string x2.sub_.type_), .v (.string x2.sub_.id_), .v (.string x2.sub_.rel)]] = List.map eGSub zs5 := app_map eGSub h287
       have h289 : xs5.length + 1 = zs5.length := app_len h287
       have h290 : zs5.length ≤ 4294967296 := by omega
       have h291 : madd (⟨x2.obj, x2.rel⟩ : GRef) [x2.sub_] t302 = List.set t302 j5 ((⟨x2.obj, x2.rel⟩ : GRef), zs5) := by rw [← h287]; exact o263 _
       have h292 : ∀ hp : Hp, upd (fid 4294967296 j5) (some (.rw (List.map eGSub zs5) 3 (g9 j5 + 1) false false)) (famH eGSub 3 4294967296 g9 t302 hp) = famH eGSub 3 4294967296 (vsUp j5 (g9 j5 + 1) g9) (List.set t302 j5 ((⟨x2.obj, x2.rel⟩ : GRef), zs5)) hp := fun _ => famH_set (q := ((⟨x2.obj, x2.rel⟩ : GRef), zs5)) o260 h265
       have h293 : List.set (encF kGRef 4294967296 g9 t302) j5 ((.agg #[.string x2.obj.type_, .string x2.obj.id_, .string x2.rel]), .so (fid 4294967296 j5) (g9 j5 + 1) 0 zs5.length) = encF kGRef 4294967296 (vsUp j5 (g9 j5 + 1) g9) (List.set t302 j5 ((⟨x2.obj, x2.rel⟩ : GRef), zs5)) := encF_set (q := ((⟨x2.obj, x2.rel⟩ : GRef), zs5)) (List.getElem?_eq_some_iff.1 o260).1
       have h294 : (List.set t302 j5 ((⟨x2.obj, x2.rel⟩ : GRef), zs5)).length ≤ 4294967296 := by rw [List.length_set]; exact Nat.le_of_lt g255
       try simp -implicitDefEqProofs only [go_sem, Nat.reduceLT, Nat.reduceEqDiff, Nat.reduceAdd, Nat.reduceLeDiff, ↓reduceIte, ent_old o269, h266, set_at h267, List.set_set, h276, h277, h278, h279, h280, h281, h282, h283, h284, fid_lo, h288, h289, h290, h292, h293]
       refine Rd_endJ (fid 4294967296 j5) 340282366920938463463374607431768211458 (by have := h265; rw [fid_eq]; unfold sent; omega) (by decide) (by simp [h285]) (by simp only [List.reverse_cons, List.reverse_nil, List.nil_append, List.cons_append, List.map_cons, List.map_nil, swRec, sw, Nat.reduceLeDiff, Nat.reduceLT, ↓reduceIte, fid_lo', h285]; kernel_rfl) ?_
       try simp -implicitDefEqProofs only [go_sem]
       obtain rfl := Zi H254
       exact ⟨⟨⟨(), rfl⟩, (vsUp j5 (g9 j5 + 1) g9)⟩, ren_mkF (R := 340282366920938463463374607431768211457) none (fun _ _ h => by cases h) [4294967296, 8589934592, 12884901888, 17179869184] [(0, 0), (1, 1), (2, 2), (3, 3), (4, 4), (5, 21474836483), (6, 21474836490)] (by rfl) (rf_upd (by rfl) (rf_upd (by rfl) (rf_upd (by rfl) (rf_upd (by rfl) (rf_upd (by rfl) (rf_upd (by rfl) (rf_no _))))))) (rh_upd (rh_one (by rfl) (by rfl) (by rfl)) (rh_upd (rh_one (by rfl) (renO_fam (by rfl) (by simp) (fun _ _ h => by cases h) h294 (by first | exact h291 | rfl)) (by rfl)) (rh_upd (rh_one (by rfl) (renO_fam (by rfl) (by simp) (fun _ _ h => by cases h) h244 rfl) (by rfl)) (rh_upd (rh_one (by rfl) (renO_fam (by rfl) (by simp) (fun _ _ h => by cases h) h247 rfl) (by rfl)) (rh_upd (rh_one (by rfl) (renO_fam (by rfl) (by simp) (fun _ _ h => by cases h) h250 rfl) (by rfl)) (rh_upd (rh_one (by rfl) (by rfl) (by rfl)) (rh_upd (rh_one (by rfl) (by rfl) (by rfl)) (rh_fam (by rfl) (by simp) (fun _ _ h => by cases h) (by first | exact h291 | rfl) (fun j p h hj => by repeat (first | with_reducible exact famH_at h hj | (with_reducible refine at_upd ?_ ?_; rw [fid_eq]; omega) | (with_reducible refine at_fam ?_ ?_; rw [fid_eq]; omega))) (rh_fam (by rfl) (by simp) (fun _ _ h => by cases h) rfl (fun j p h hj => by repeat (first | with_reducible exact famH_at h hj | (with_reducible refine at_upd ?_ ?_; rw [fid_eq]; omega) | (with_reducible refine at_fam ?_ ?_; rw [fid_eq]; omega))) (rh_fam (by rfl) (by simp) (fun _ _ h => by cases h) rfl (fun j p h hj => by repeat (first | with_reducible exact famH_at h hj | (with_reducible refine at_upd ?_ ?_; rw [fid_eq]; omega) | (with_reducible refine at_fam ?_ ?_; rw [fid_eq]; omega))) (rh_fam (by rfl) (by simp) (fun _ _ h => by cases h) rfl (fun j p h hj => by repeat (first | with_reducible exact famH_at h hj | (with_reducible refine at_upd ?_ ?_; rw [fid_eq]; omega) | (with_reducible refine at_fam ?_ ?_; rw [fid_eq]; omega))) (rh_no _))))))))))))⟩
     ·rintro ⟨⟨_, he443⟩, g13⟩
      obtain rfl := he443.symm
      try dsimp only at H252
      refine zsq ?_
      obtain ⟨g295, H296⟩ := grd_inv H252
      have h297 : (madd (⟨x2.obj, x2.rel⟩ : GRef) [x2.sub_] t302).length ≤ 4294967296 := of_decide_eq_true g295
      obtain ⟨e_7, E298, H299⟩ := zbi H296
      refine zjn (α := { y : Unit // e_7 = y } × (Nat → Nat)) (fun | ⟨⟨_, _⟩, g14⟩ => ⟨upd 3 (.pt 0 0) (upd 5 (.pt 5 0) (upd 16 (.d (.sl (List.map eGTuple t16)) false) (upd 17 (.v (.int .i64 (t16.length : Int))) (upd 18 (.v (.int .i64 t18)) noFr)))), upd 0 (some (.bx [.mo 1, .mo 2, .mo 3, .mo 4])) (upd 1 (some (.mo (encF kGRef 4294967296 g13 (madd (⟨x2.obj, x2.rel⟩ : GRef) [x2.sub_] t302)) false)) (upd 2 (some (.mo (encF Value.string 8589934592 g10 t312) false)) (upd 3 (some (.mo (encF kGSub 12884901888 g14 (madd x2.sub_ [(⟨x2.obj, x2.rel⟩ : GRef)] t322)) false)) (upd 4 (some (.mo (encF Value.string 17179869184 g12 t332) false)) (upd 5 (some (.bx [.v (.string x2.obj.type_), .v (.string x2.obj.id_), .v (.string x2.rel), .v (.string x2.sub_.type_), .v (.string x2.sub_.id_), .v (.string x2.sub_.rel)])) (famH eGSub 3 4294967296 g13 (madd (⟨x2.obj, x2.rel⟩ : GRef) [x2.sub_] t302) (famH eS 1 8589934592 g10 t312 (famH eGRef 3 12884901888 g14 (madd x2.sub_ [(⟨x2.obj, x2.rel⟩ : GRef)] t322) (famH eS 1 17179869184 g12 t332 (noHp)))))))))), 21474836480⟩) ?_ ?_
      ·refine ZT 1 ?_
       obtain ⟨g300, H301⟩ := grd_inv E298
       obtain ⟨g302, g303⟩ := famG_inv g300
       refine Z0 ?_
       rcases find_cases (kv := kGSub) (B := 12884901888) (vs := g11) key_GSub x2.sub_ t322 with ⟨n304, n305, n306⟩ | ⟨j6, xs6, o307, o308, o309, o310⟩
       ·have n311 : mfind (true, [.string, .string, .string]) (.agg #[.string x2.sub_.type_, .string x2.sub_.id_, .string x2.sub_.rel]) (encF kGSub 12884901888 g11 t322) = some none := n305
        try simp -implicitDefEqProofs only [go_sem, Nat.reduceLT, Nat.reduceEqDiff, Nat.reduceAdd, Nat.reduceLeDiff, reduceCtorEq, ↓reduceIte, ent_new n311, app_at, app_set]
        refine Rd_endF (by kernel_rfl) ?_
        try simp -implicitDefEqProofs only [go_sem]
        obtain rfl := Zi H301
        exact ⟨⟨⟨(), rfl⟩, (vsUp (List.length t322) 0 g11)⟩, ren_mkF (R := 21474836491) (some (fid 12884901888 (List.length t322), 21474836491)) (fun _ _ h => by cases h; rfl) [4294967296, 8589934592, 12884901888, 17179869184] [(0, 0), (1, 1), (2, 2), (3, 3), (4, 4), (5, 5)] (by rfl) (rf_upd (by rfl) (rf_upd (by rfl) (rf_upd (by rfl) (rf_upd (by rfl) (rf_upd (by rfl) (rf_no _)))))) (rh_upd (rh_one (by rfl) (by rfl) (by rfl)) (rh_upd (rh_one (by rfl) (renO_fam (by rfl) (by simp) (fun J R h => by cases h; rw [fid_eq]; omega) h297 rfl) (by rfl)) (rh_upd (rh_one (by rfl) (renO_fam (by rfl) (by simp) (fun J R h => by cases h; rw [fid_eq]; omega) h244 rfl) (by rfl)) (rh_upd (rh_one (by rfl) (renO_famN (by rfl) (by simp) g302 (by first | exact (n306 _) | rfl)) (by rfl)) (rh_upd (rh_one (by rfl) (renO_fam (by rfl) (by simp) (fun J R h => by cases h; rw [fid_eq]; omega) h250 rfl) (by rfl)) (rh_upd (rh_one (by rfl) (by rfl) (by rfl)) (rh_fam (by rfl) (by simp) (fun J R h => by cases h; rw [fid_eq]; omega) rfl (fun j p h hj => by repeat (first | with_reducible exact famH_at h hj | (with_reducible refine at_upd ?_ ?_; rw [fid_eq]; omega) | (with_reducible refine at_fam ?_ ?_; rw [fid_eq]; omega))) (rh_fam (by rfl) (by simp) (fun J R h => by cases h; rw [fid_eq]; omega) rfl (fun j p h hj => by repeat (first | with_reducible exact famH_at h hj | (with_reducible refine at_upd ?_ ?_; rw [fid_eq]; omega) | (with_reducible refine at_fam ?_ ?_; rw [fid_eq]; omega))) (rh_famN (by rfl) (by simp) g302 (by first | exact (n306 _) | rfl) (fun j p h hj => by repeat (first | with_reducible exact famH_at h hj | (with_reducible refine at_upd ?_ ?_; rw [fid_eq]; omega) | (with_reducible refine at_fam ?_ ?_; rw [fid_eq]; omega))) (by rfl) (rh_fam (by rfl) (by simp) (fun J R h => by cases h; rw [fid_eq]; omega) rfl (fun j p h hj => by repeat (first | with_reducible exact famH_at h hj | (with_reducible refine at_upd ?_ ?_; rw [fid_eq]; omega) | (with_reducible refine at_fam ?_ ?_; rw [fid_eq]; omega))) (rh_no _)))))))))))⟩
       ·have o316 : mfind (true, [.string, .string, .string]) (.agg #[.string x2.sub_.type_, .string x2.sub_.id_, .string x2.sub_.rel]) (encF kGSub 12884901888 g11 t322) = some (some (j6, .so (fid 12884901888 j6) (g11 j6) 0 xs6.length)) := o309
        have h312 : j6 < 4294967296 := Nat.lt_trans (List.getElem?_eq_some_iff.1 o307).1 g302
        have h313 : ∀ hp : Hp, famH eGRef 3 12884901888 g11 t322 hp (fid 12884901888 j6) = some (.rw (List.map eGRef xs6) 3 (g11 j6) false false) := fun _ => famH_at o307 h312
        have h314 : (encF kGSub 12884901888 g11 t322)[j6]? = some ((.agg #[.string x2.sub_.type_, .string x2.sub_.id_, .string x2.sub_.rel]), .so (fid 12884901888 j6) (g11 j6) 0 xs6.length) := (encF_at _ _).trans (by rw [o307]; rfl)
        have h315 : xs6.length + 1 ≤ 4294967296 := by have := g303; simp only [mgetD, o308, Option.getD_some] at this; omega
        have h317 : ∀ hp : Hp, famH eGSub 3 4294967296 g13 (madd (⟨x2.obj, x2.rel⟩ : GRef) [x2.sub_] t302) hp (fid 12884901888 j6) = hp (fid 12884901888 j6) := fun _ => famH_out (by rw [fid_eq]; omega)
        have h318 : ∀ (x : Option AO) (hp : Hp), upd (fid 12884901888 j6) x (famH eGSub 3 4294967296 g13 (madd (⟨x2.obj, x2.rel⟩ : GRef) [x2.sub_] t302) hp) = famH eGSub 3 4294967296 g13 (madd (⟨x2.obj, x2.rel⟩ : GRef) [x2.sub_] t302) (upd (fid 12884901888 j6) x hp) := fun _ _ => famH_swap (by rw [fid_eq]; omega)
        have h319 : ∀ hp : Hp, famH eS 1 8589934592 g10 t312 hp (fid 12884901888 j6) = hp (fid 12884901888 j6) := fun _ => famH_out (by rw [fid_eq]; omega)
        have h320 : ∀ (x : Option AO) (hp : Hp), upd (fid 12884901888 j6) x (famH eS 1 8589934592 g10 t312 hp) = famH eS 1 8589934592 g10 t312 (upd (fid 12884901888 j6) x hp) := fun _ _ => famH_swap (by rw [fid_eq]; omega)
        have h321 : ∀ hp : Hp, famH eS 1 17179869184 g12 t332 hp (fid 12884901888 j6) = hp (fid 12884901888 j6) := fun _ => famH_out (by rw [fid_eq]; omega)
        have h322 : ∀ (x : Option AO) (hp : Hp), upd (fid 12884901888 j6) x (famH eS 1 17179869184 g12 t332 hp) = famH eS 1 17179869184 g12 t332 (upd (fid 12884901888 j6) x hp) := fun _ _ => famH_swap (by rw [fid_eq]; omega)
        have h323 : ∀ (x y : Option AO) (g : Hp), upd (fid 12884901888 j6) x (upd 0 y g) = upd 0 y (upd (fid 12884901888 j6) x g) := fun _ _ _ => upd_swap (by rw [fid_eq]; omega)
        have h324 : ∀ (x y : Option AO) (g : Hp), upd (fid 12884901888 j6) x (upd 1 y g) = upd 1 y (upd (fid 12884901888 j6) x g) := fun _ _ _ => upd_swap (by rw [fid_eq]; omega)
        have h325 : ∀ (x y : Option AO) (g : Hp), upd (fid 12884901888 j6) x (upd 2 y g) = upd 2 y (upd (fid 12884901888 j6) x g) := fun _ _ _ => upd_swap (by rw [fid_eq]; omega)
        have h326 : ∀ (x y : Option AO) (g : Hp), upd (fid 12884901888 j6) x (upd 3 y g) = upd 3 y (upd (fid 12884901888 j6) x g) := fun _ _ _ => upd_swap (by rw [fid_eq]; omega)
        have h327 : ∀ (x y : Option AO) (g : Hp), upd (fid 12884901888 j6) x (upd 4 y g) = upd 4 y (upd (fid 12884901888 j6) x g) := fun _ _ _ => upd_swap (by rw [fid_eq]; omega)
        have h328 : ∀ (x y : Option AO) (g : Hp), upd (fid 12884901888 j6) x (upd 5 y g) = upd 5 y (upd (fid 12884901888 j6) x g) := fun _ _ _ => upd_swap (by rw [fid_eq]; omega)
        have h329 : ∀ (x y : Option AO) (g : Hp), upd (fid 12884901888 j6) x (upd 6 y g) = upd 6 y (upd (fid 12884901888 j6) x g) := fun _ _ _ => upd_swap (by rw [fid_eq]; omega)
        have h330 : ∀ (x y : Option AO) (g : Hp), upd (fid 12884901888 j6) x (upd 21474836488 y g) = upd 21474836488 y (upd (fid 12884901888 j6) x g) := fun _ _ _ => upd_swap (by rw [fid_eq]; omega)
        have h331 : ∀ c : Nat, 17179869184 ≤ c → (fid 12884901888 j6 = c) = False := fun c h => fid_hi h312 h
        have h332 : ∀ c : Nat, 17179869184 ≤ c → (c = fid 12884901888 j6) = False := fun c h => fid_hi' h312 h
        have h333 : ∀ (c : Nat) (x y : Option AO) (g : Hp), 17179869184 ≤ c → upd (fid 12884901888 j6) x (upd c y g) = upd c y (upd (fid 12884901888 j6) x g) := fun _ _ _ _ h => upd_swap (by rw [fid_eq]; omega)
        obtain ⟨zs6, h334⟩ : ∃ zs, xs6 ++ [(⟨x2.obj, x2.rel⟩ : GRef)] = zs := ⟨_, rfl⟩
        have h335 : List.map eGRef xs6 ++ [[.v (.string x2.obj.type_), .v (.string x2.obj.id_), .v (.string x2.rel)]] = List.map eGRef zs6 := app_map eGRef h334
        have h336 : xs6.length + 1 = zs6.length := app_len h334
        have h337 : zs6.length ≤ 4294967296 := by omega
        have h338 : madd x2.sub_ [(⟨x2.obj, x2.rel⟩ : GRef)] t322 = List.set t322 j6 (x2.sub_, zs6) := by rw [← h334]; exact o310 _
        have h339 : ∀ hp : Hp, upd (fid 12884901888 j6) (some (.rw (List.map eGRef zs6) 3 (g11 j6 + 1) false false)) (famH eGRef 3 12884901888 g11 t322 hp) = famH eGRef 3 12884901888 (vsUp j6 (g11 j6 + 1) g11) (List.set t322 j6 (x2.sub_, zs6)) hp := fun _ => famH_set (q := (x2.sub_, zs6)) o307 h312
        have h340 : List.set (encF kGSub 12884901888 g11 t322) j6 ((.agg #[.string x2.sub_.type_, .string x2.sub_.id_, .string x2.sub_.rel]), .so (fid 12884901888 j6) (g11 j6 + 1) 0 zs6.length) = encF kGSub 12884901888 (vsUp j6 (g11 j6 + 1) g11) (List.set t322 j6 (x2.sub_, zs6)) := encF_set (q := (x2.sub_, zs6)) (List.getElem?_eq_some_iff.1 o307).1
        have h341 : (List.set t322 j6 (x2.sub_, zs6)).length ≤ 4294967296 := by rw [List.length_set]; exact Nat.le_of_lt g302
        try simp -implicitDefEqProofs only [go_sem, Nat.reduceLT, Nat.reduceEqDiff, Nat.reduceAdd, Nat.reduceLeDiff, ↓reduceIte, ent_old o316, h313, set_at h314, List.set_set, h317, h318, h319, h320, h323, h324, h325, h326, h327, h328, h329, h330, h331, fid_lo, h335, h336, h337, h339, h340]
        refine Rd_endJ (fid 12884901888 j6) 340282366920938463463374607431768211458 (by have := h312; rw [fid_eq]; unfold sent; omega) (by decide) (by simp [h332]) (by simp only [List.reverse_cons, List.reverse_nil, List.nil_append, List.cons_append, List.map_cons, List.map_nil, swRec, sw, Nat.reduceLeDiff, Nat.reduceLT, ↓reduceIte, fid_lo', h332]; kernel_rfl) ?_
        try simp -implicitDefEqProofs only [go_sem]
        obtain rfl := Zi H301
        exact ⟨⟨⟨(), rfl⟩, (vsUp j6 (g11 j6 + 1) g11)⟩, ren_mkF (R := 340282366920938463463374607431768211457) none (fun _ _ h => by cases h) [4294967296, 8589934592, 12884901888, 17179869184] [(0, 0), (1, 1), (2, 2), (3, 3), (4, 4), (5, 5)] (by rfl) (rf_upd (by rfl) (rf_upd (by rfl) (rf_upd (by rfl) (rf_upd (by rfl) (rf_upd (by rfl) (rf_no _)))))) (rh_upd (rh_one (by rfl) (by rfl) (by rfl)) (rh_upd (rh_one (by rfl) (renO_fam (by rfl) (by simp) (fun _ _ h => by cases h) h297 rfl) (by rfl)) (rh_upd (rh_one (by rfl) (renO_fam (by rfl) (by simp) (fun _ _ h => by cases h) h244 rfl) (by rfl)) (rh_upd (rh_one (by rfl) (renO_fam (by rfl) (by simp) (fun _ _ h => by cases h) h341 (by first | exact h338 | rfl)) (by rfl)) (rh_upd (rh_one (by rfl) (renO_fam (by rfl) (by simp) (fun _ _ h => by cases h) h250 rfl) (by rfl)) (rh_upd (rh_one (by rfl) (by rfl) (by rfl)) (rh_fam (by rfl) (by simp) (fun _ _ h => by cases h) rfl (fun j p h hj => by repeat (first | with_reducible exact famH_at h hj | (with_reducible refine at_upd ?_ ?_; rw [fid_eq]; omega) | (with_reducible refine at_fam ?_ ?_; rw [fid_eq]; omega))) (rh_fam (by rfl) (by simp) (fun _ _ h => by cases h) rfl (fun j p h hj => by repeat (first | with_reducible exact famH_at h hj | (with_reducible refine at_upd ?_ ?_; rw [fid_eq]; omega) | (with_reducible refine at_fam ?_ ?_; rw [fid_eq]; omega))) (rh_fam (by rfl) (by simp) (fun _ _ h => by cases h) (by first | exact h338 | rfl) (fun j p h hj => by repeat (first | with_reducible exact famH_at h hj | (with_reducible refine at_upd ?_ ?_; rw [fid_eq]; omega) | (with_reducible refine at_fam ?_ ?_; rw [fid_eq]; omega))) (rh_fam (by rfl) (by simp) (fun _ _ h => by cases h) rfl (fun j p h hj => by repeat (first | with_reducible exact famH_at h hj | (with_reducible refine at_upd ?_ ?_; rw [fid_eq]; omega) | (with_reducible refine at_fam ?_ ?_; rw [fid_eq]; omega))) (rh_no _)))))))))))⟩
      ·rintro ⟨⟨_, he442⟩, g14⟩
       obtain rfl := he442.symm
       try dsimp only at H299
       refine zsq ?_
       obtain ⟨g342, H343⟩ := grd_inv H299
       have h344 : (madd x2.sub_ [(⟨x2.obj, x2.rel⟩ : GRef)] t322).length ≤ 4294967296 := of_decide_eq_true g342
       obtain ⟨e_8, E345, H346⟩ := zbi H343
       refine zjn (α := { y : Unit // e_8 = y } × (Nat → Nat)) (fun | ⟨⟨_, _⟩, g15⟩ => ⟨upd 3 (.pt 0 0) (upd 5 (.pt 5 0) (upd 16 (.d (.sl (List.map eGTuple t16)) false) (upd 17 (.v (.int .i64 (t16.length : Int))) (upd 18 (.v (.int .i64 t18)) noFr)))), upd 0 (some (.bx [.mo 1, .mo 2, .mo 3, .mo 4])) (upd 1 (some (.mo (encF kGRef 4294967296 g13 (madd (⟨x2.obj, x2.rel⟩ : GRef) [x2.sub_] t302)) false)) (upd 2 (some (.mo (encF Value.string 8589934592 g15 (madd x2.obj.type_ [x2.obj.id_] t312)) false)) (upd 3 (some (.mo (encF kGSub 12884901888 g14 (madd x2.sub_ [(⟨x2.obj, x2.rel⟩ : GRef)] t322)) false)) (upd 4 (some (.mo (encF Value.string 17179869184 g12 t332) false)) (upd 5 (some (.bx [.v (.string x2.obj.type_), .v (.string x2.obj.id_), .v (.string x2.rel), .v (.string x2.sub_.type_), .v (.string x2.sub_.id_), .v (.string x2.sub_.rel)])) (famH eGSub 3 4294967296 g13 (madd (⟨x2.obj, x2.rel⟩ : GRef) [x2.sub_] t302) (famH eS 1 8589934592 g15 (madd x2.obj.type_ [x2.obj.id_] t312) (famH eGRef 3 12884901888 g14 (madd x2.sub_ [(⟨x2.obj, x2.rel⟩ : GRef)] t322) (famH eS 1 17179869184 g12 t332 (noHp)))))))))), 21474836480⟩) ?_ ?_
       ·refine ZT 1 ?_
        obtain ⟨g347, H348⟩ := grd_inv E345
        obtain ⟨g349, g350⟩ := famG_inv g347
        refine Z0 ?_
        rcases find_cases (kv := Value.string) (B := 8589934592) (vs := g10) key_str x2.obj.type_ t312 with ⟨n351, n352, n353⟩ | ⟨j7, xs7, o354, o355, o356, o357⟩
        ·have n358 : mfind (false, [.string]) (.string x2.obj.type_) (encF Value.string 8589934592 g10 t312) = some none := n352
         try simp -implicitDefEqProofs only [go_sem, Nat.reduceLT, Nat.reduceEqDiff, Nat.reduceAdd, Nat.reduceLeDiff, reduceCtorEq, ↓reduceIte, look_new n358, mput_new n358]
         refine Rd_endF (by kernel_rfl) ?_
         try simp -implicitDefEqProofs only [go_sem]
         obtain rfl := Zi H348
         exact ⟨⟨⟨(), rfl⟩, (vsUp (List.length t312) 0 g10)⟩, ren_mkF (R := 21474836501) (some (fid 8589934592 (List.length t312), 21474836501)) (fun _ _ h => by cases h; rfl) [4294967296, 8589934592, 12884901888, 17179869184] [(0, 0), (1, 1), (2, 2), (3, 3), (4, 4), (5, 5)] (by rfl) (rf_upd (by rfl) (rf_upd (by rfl) (rf_upd (by rfl) (rf_upd (by rfl) (rf_upd (by rfl) (rf_no _)))))) (rh_upd (rh_one (by rfl) (by rfl) (by rfl)) (rh_upd (rh_one (by rfl) (renO_fam (by rfl) (by simp) (fun J R h => by cases h; rw [fid_eq]; omega) h297 rfl) (by rfl)) (rh_upd (rh_one (by rfl) (renO_famN (by rfl) (by simp) g349 (by first | exact (n353 _) | rfl)) (by rfl)) (rh_upd (rh_one (by rfl) (renO_fam (by rfl) (by simp) (fun J R h => by cases h; rw [fid_eq]; omega) h344 rfl) (by rfl)) (rh_upd (rh_one (by rfl) (renO_fam (by rfl) (by simp) (fun J R h => by cases h; rw [fid_eq]; omega) h250 rfl) (by rfl)) (rh_upd (rh_one (by rfl) (by rfl) (by rfl)) (rh_fam (by rfl) (by simp) (fun J R h => by cases h; rw [fid_eq]; omega) rfl (fun j p h hj => by repeat (first | with_reducible exact famH_at h hj | (with_reducible refine at_upd ?_ ?_; rw [fid_eq]; omega) | (with_reducible refine at_fam ?_ ?_; rw [fid_eq]; omega))) (rh_famN (by rfl) (by simp) g349 (by first | exact (n353 _) | rfl) (fun j p h hj => by repeat (first | with_reducible exact famH_at h hj | (with_reducible refine at_upd ?_ ?_; rw [fid_eq]; omega) | (with_reducible refine at_fam ?_ ?_; rw [fid_eq]; omega))) (by rfl) (rh_fam (by rfl) (by simp) (fun J R h => by cases h; rw [fid_eq]; omega) rfl (fun j p h hj => by repeat (first | with_reducible exact famH_at h hj | (with_reducible refine at_upd ?_ ?_; rw [fid_eq]; omega) | (with_reducible refine at_fam ?_ ?_; rw [fid_eq]; omega))) (rh_fam (by rfl) (by simp) (fun J R h => by cases h; rw [fid_eq]; omega) rfl (fun j p h hj => by repeat (first | with_reducible exact famH_at h hj | (with_reducible refine at_upd ?_ ?_; rw [fid_eq]; omega) | (with_reducible refine at_fam ?_ ?_; rw [fid_eq]; omega))) (rh_no _)))))))))))⟩
        ·have o363 : mfind (false, [.string]) (.string x2.obj.type_) (encF Value.string 8589934592 g10 t312) = some (some (j7, .so (fid 8589934592 j7) (g10 j7) 0 xs7.length)) := o356
         have h359 : j7 < 4294967296 := Nat.lt_trans (List.getElem?_eq_some_iff.1 o354).1 g349
         have h360 : ∀ hp : Hp, famH eS 1 8589934592 g10 t312 hp (fid 8589934592 j7) = some (.rw (List.map eS xs7) 1 (g10 j7) false false) := fun _ => famH_at o354 h359
         have h361 : (encF Value.string 8589934592 g10 t312)[j7]? = some ((.string x2.obj.type_), .so (fid 8589934592 j7) (g10 j7) 0 xs7.length) := (encF_at _ _).trans (by rw [o354]; rfl)
         have h362 : xs7.length + 1 ≤ 4294967296 := by have := g350; simp only [mgetD, o355, Option.getD_some] at this; omega
         have h364 : ∀ hp : Hp, famH eGSub 3 4294967296 g13 (madd (⟨x2.obj, x2.rel⟩ : GRef) [x2.sub_] t302) hp (fid 8589934592 j7) = hp (fid 8589934592 j7) := fun _ => famH_out (by rw [fid_eq]; omega)
         have h365 : ∀ (x : Option AO) (hp : Hp), upd (fid 8589934592 j7) x (famH eGSub 3 4294967296 g13 (madd (⟨x2.obj, x2.rel⟩ : GRef) [x2.sub_] t302) hp) = famH eGSub 3 4294967296 g13 (madd (⟨x2.obj, x2.rel⟩ : GRef) [x2.sub_] t302) (upd (fid 8589934592 j7) x hp) := fun _ _ => famH_swap (by rw [fid_eq]; omega)
         have h366 : ∀ hp : Hp, famH eGRef 3 12884901888 g14 (madd x2.sub_ [(⟨x2.obj, x2.rel⟩ : GRef)] t322) hp (fid 8589934592 j7) = hp (fid 8589934592 j7) := fun _ => famH_out (by rw [fid_eq]; omega)
         have h367 : ∀ (x : Option AO) (hp : Hp), upd (fid 8589934592 j7) x (famH eGRef 3 12884901888 g14 (madd x2.sub_ [(⟨x2.obj, x2.rel⟩ : GRef)] t322) hp) = famH eGRef 3 12884901888 g14 (madd x2.sub_ [(⟨x2.obj, x2.rel⟩ : GRef)] t322) (upd (fid 8589934592 j7) x hp) := fun _ _ => famH_swap (by rw [fid_eq]; omega)
         have h368 : ∀ hp : Hp, famH eS 1 17179869184 g12 t332 hp (fid 8589934592 j7) = hp (fid 8589934592 j7) := fun _ => famH_out (by rw [fid_eq]; omega)
         have h369 : ∀ (x : Option AO) (hp : Hp), upd (fid 8589934592 j7) x (famH eS 1 17179869184 g12 t332 hp) = famH eS 1 17179869184 g12 t332 (upd (fid 8589934592 j7) x hp) := fun _ _ => famH_swap (by rw [fid_eq]; omega)
         have h370 : ∀ (x y : Option AO) (g : Hp), upd (fid 8589934592 j7) x (upd 0 y g) = upd 0 y (upd (fid 8589934592 j7) x g) := fun _ _ _ => upd_swap (by rw [fid_eq]; omega)
         have h371 : ∀ (x y : Option AO) (g : Hp), upd (fid 8589934592 j7) x (upd 1 y g) = upd 1 y (upd (fid 8589934592 j7) x g) := fun _ _ _ => upd_swap (by rw [fid_eq]; omega)
         have h372 : ∀ (x y : Option AO) (g : Hp), upd (fid 8589934592 j7) x (upd 2 y g) = upd 2 y (upd (fid 8589934592 j7) x g) := fun _ _ _ => upd_swap (by rw [fid_eq]; omega)
         have h373 : ∀ (x y : Option AO) (g : Hp), upd (fid 8589934592 j7) x (upd 3 y g) = upd 3 y (upd (fid 8589934592 j7) x g) := fun _ _ _ => upd_swap (by rw [fid_eq]; omega)
         have h374 : ∀ (x y : Option AO) (g : Hp), upd (fid 8589934592 j7) x (upd 4 y g) = upd 4 y (upd (fid 8589934592 j7) x g) := fun _ _ _ => upd_swap (by rw [fid_eq]; omega)
         have h375 : ∀ (x y : Option AO) (g : Hp), upd (fid 8589934592 j7) x (upd 5 y g) = upd 5 y (upd (fid 8589934592 j7) x g) := fun _ _ _ => upd_swap (by rw [fid_eq]; omega)
         have h376 : ∀ c : Nat, 12884901888 ≤ c → (fid 8589934592 j7 = c) = False := fun c h => fid_hi h359 h
         have h377 : ∀ c : Nat, 12884901888 ≤ c → (c = fid 8589934592 j7) = False := fun c h => fid_hi' h359 h
         have h378 : ∀ (c : Nat) (x y : Option AO) (g : Hp), 12884901888 ≤ c → upd (fid 8589934592 j7) x (upd c y g) = upd c y (upd (fid 8589934592 j7) x g) := fun _ _ _ _ h => upd_swap (by rw [fid_eq]; omega)
         obtain ⟨zs7, h379⟩ : ∃ zs, xs7 ++ [x2.obj.id_] = zs := ⟨_, rfl⟩
         have h380 : List.map eS xs7 ++ [[.v (.string x2.obj.id_)]] = List.map eS zs7 := app_map eS h379
         have h381 : xs7.length + 1 = zs7.length := app_len h379
         have h382 : zs7.length ≤ 4294967296 := by omega
         have h383 : madd x2.obj.type_ [x2.obj.id_] t312 = List.set t312 j7 (x2.obj.type_, zs7) := by rw [← h379]; exact o357 _
         have h384 : ∀ hp : Hp, upd (fid 8589934592 j7) (some (.rw (List.map eS zs7) 1 (g10 j7 + 1) false false)) (famH eS 1 8589934592 g10 t312 hp) = famH eS 1 8589934592 (vsUp j7 (g10 j7 + 1) g10) (List.set t312 j7 (x2.obj.type_, zs7)) hp := fun _ => famH_set (q := (x2.obj.type_, zs7)) o354 h359
         have h385 : List.set (encF Value.string 8589934592 g10 t312) j7 ((.string x2.obj.type_), .so (fid 8589934592 j7) (g10 j7 + 1) 0 zs7.length) = encF Value.string 8589934592 (vsUp j7 (g10 j7 + 1) g10) (List.set t312 j7 (x2.obj.type_, zs7)) := encF_set (q := (x2.obj.type_, zs7)) (List.getElem?_eq_some_iff.1 o354).1
         have h386 : (List.set t312 j7 (x2.obj.type_, zs7)).length ≤ 4294967296 := by rw [List.length_set]; exact Nat.le_of_lt g349
         try simp -implicitDefEqProofs only [go_sem, Nat.reduceLT, Nat.reduceEqDiff, Nat.reduceAdd, Nat.reduceLeDiff, reduceCtorEq, ↓reduceIte, look_old o363, mput_old o363, h360, h364, h365, h370, h371, h372, h373, h374, h375, h376, fid_lo, h378, h380, h381, h382, h384, h385]
         refine Rd_endJ (fid 8589934592 j7) 340282366920938463463374607431768211458 (by have := h359; rw [fid_eq]; unfold sent; omega) (by decide) (by simp [h377]) (by simp only [List.reverse_cons, List.reverse_nil, List.nil_append, List.cons_append, List.map_cons, List.map_nil, swRec, sw, Nat.reduceLeDiff, Nat.reduceLT, ↓reduceIte, fid_lo', h377]; kernel_rfl) ?_
         try simp -implicitDefEqProofs only [go_sem]
         obtain rfl := Zi H348
         exact ⟨⟨⟨(), rfl⟩, (vsUp j7 (g10 j7 + 1) g10)⟩, ren_mkF (R := 340282366920938463463374607431768211457) none (fun _ _ h => by cases h) [4294967296, 8589934592, 12884901888, 17179869184] [(0, 0), (1, 1), (2, 2), (3, 3), (4, 4), (5, 5)] (by rfl) (rf_upd (by rfl) (rf_upd (by rfl) (rf_upd (by rfl) (rf_upd (by rfl) (rf_upd (by rfl) (rf_no _)))))) (rh_upd (rh_one (by rfl) (by rfl) (by rfl)) (rh_upd (rh_one (by rfl) (renO_fam (by rfl) (by simp) (fun _ _ h => by cases h) h297 rfl) (by rfl)) (rh_upd (rh_one (by rfl) (renO_fam (by rfl) (by simp) (fun _ _ h => by cases h) h386 (by first | exact h383 | rfl)) (by rfl)) (rh_upd (rh_one (by rfl) (renO_fam (by rfl) (by simp) (fun _ _ h => by cases h) h344 rfl) (by rfl)) (rh_upd (rh_one (by rfl) (renO_fam (by rfl) (by simp) (fun _ _ h => by cases h) h250 rfl) (by rfl)) (rh_upd (rh_one (by rfl) (by rfl) (by rfl)) (rh_fam (by rfl) (by simp) (fun _ _ h => by cases h) rfl (fun j p h hj => by repeat (first | with_reducible exact famH_at h hj | (with_reducible refine at_upd ?_ ?_; rw [fid_eq]; omega) | (with_reducible refine at_fam ?_ ?_; rw [fid_eq]; omega))) (rh_fam (by rfl) (by simp) (fun _ _ h => by cases h) (by first | exact h383 | rfl) (fun j p h hj => by repeat (first | with_reducible exact famH_at h hj | (with_reducible refine at_upd ?_ ?_; rw [fid_eq]; omega) | (with_reducible refine at_fam ?_ ?_; rw [fid_eq]; omega))) (rh_fam (by rfl) (by simp) (fun _ _ h => by cases h) rfl (fun j p h hj => by repeat (first | with_reducible exact famH_at h hj | (with_reducible refine at_upd ?_ ?_; rw [fid_eq]; omega) | (with_reducible refine at_fam ?_ ?_; rw [fid_eq]; omega))) (rh_fam (by rfl) (by simp) (fun _ _ h => by cases h) rfl (fun j p h hj => by repeat (first | with_reducible exact famH_at h hj | (with_reducible refine at_upd ?_ ?_; rw [fid_eq]; omega) | (with_reducible refine at_fam ?_ ?_; rw [fid_eq]; omega))) (rh_no _)))))))))))⟩
       ·rintro ⟨⟨_, he441⟩, g15⟩
        obtain rfl := he441.symm
        try dsimp only at H346
        refine zsq (ZT 1 ?_)
        refine Z0 ?_
        rcases zit H346 with ⟨c387, H388⟩ | ⟨c387, H388⟩
        ·refine runR_condT (by rfl) c387 ?_
         refine Z1 c387 ?_
         obtain ⟨g389, H390⟩ := grd_inv H388
         have h391 : (madd x2.obj.type_ [x2.obj.id_] t312).length ≤ 4294967296 := of_decide_eq_true g389
         obtain ⟨e_9, E392, H393⟩ := zbi H390
         refine zjn (α := { y : Unit // e_9 = y } × (Nat → Nat)) (fun | ⟨⟨_, _⟩, g16⟩ => ⟨upd 3 (.pt 0 0) (upd 16 (.d (.sl (List.map eGTuple t16)) false) (upd 17 (.v (.int .i64 (t16.length : Int))) (upd 18 (.v (.int .i64 t18)) noFr))), upd 0 (some (.bx [.mo 1, .mo 2, .mo 3, .mo 4])) (upd 1 (some (.mo (encF kGRef 4294967296 g13 (madd (⟨x2.obj, x2.rel⟩ : GRef) [x2.sub_] t302)) false)) (upd 2 (some (.mo (encF Value.string 8589934592 g15 (madd x2.obj.type_ [x2.obj.id_] t312)) false)) (upd 3 (some (.mo (encF kGSub 12884901888 g14 (madd x2.sub_ [(⟨x2.obj, x2.rel⟩ : GRef)] t322)) false)) (upd 4 (some (.mo (encF Value.string 17179869184 g16 (madd x2.sub_.type_ [x2.sub_.id_] t332)) false)) (famH eGSub 3 4294967296 g13 (madd (⟨x2.obj, x2.rel⟩ : GRef) [x2.sub_] t302) (famH eS 1 8589934592 g15 (madd x2.obj.type_ [x2.obj.id_] t312) (famH eGRef 3 12884901888 g14 (madd x2.sub_ [(⟨x2.obj, x2.rel⟩ : GRef)] t322) (famH eS 1 17179869184 g16 (madd x2.sub_.type_ [x2.sub_.id_] t332) (noHp))))))))), 21474836480⟩) ?_ ?_
         ·refine ZT 1 ?_
          obtain ⟨g394, H395⟩ := grd_inv E392
          obtain ⟨g396, g397⟩ := famG_inv g394
          refine Z0 ?_
          rcases find_cases (kv := Value.string) (B := 17179869184) (vs := g12) key_str x2.sub_.type_ t332 with ⟨n398, n399, n400⟩ | ⟨j8, xs8, o401, o402, o403, o404⟩
          ·have n405 : mfind (false, [.string]) (.string x2.sub_.type_) (encF Value.string 17179869184 g12 t332) = some none := n399
           try simp -implicitDefEqProofs only [go_sem, Nat.reduceLT, Nat.reduceEqDiff, Nat.reduceAdd, Nat.reduceLeDiff, reduceCtorEq, ↓reduceIte, look_new n405, mput_new n405]
           refine Rd_endF (by kernel_rfl) ?_
           try simp -implicitDefEqProofs only [go_sem]
           obtain rfl := Zi H395
           exact ⟨⟨⟨(), rfl⟩, (vsUp (List.length t332) 0 g12)⟩, ren_mkF (R := 21474836505) (some (fid 17179869184 (List.length t332), 21474836505)) (fun _ _ h => by cases h; rfl) [4294967296, 8589934592, 12884901888, 17179869184] [(0, 0), (1, 1), (2, 2), (3, 3), (4, 4)] (by rfl) (rf_upd (by rfl) (rf_upd (by rfl) (rf_upd (by rfl) (rf_upd (by rfl) (rf_no _))))) (rh_upd (rh_one (by rfl) (by rfl) (by rfl)) (rh_upd (rh_one (by rfl) (renO_fam (by rfl) (by simp) (fun J R h => by cases h; rw [fid_eq]; omega) h297 rfl) (by rfl)) (rh_upd (rh_one (by rfl) (renO_fam (by rfl) (by simp) (fun J R h => by cases h; rw [fid_eq]; omega) h391 rfl) (by rfl)) (rh_upd (rh_one (by rfl) (renO_fam (by rfl) (by simp) (fun J R h => by cases h; rw [fid_eq]; omega) h344 rfl) (by rfl)) (rh_upd (rh_one (by rfl) (renO_famN (by rfl) (by simp) g396 (by first | exact (n400 _) | rfl)) (by rfl)) (rh_fam (by rfl) (by simp) (fun J R h => by cases h; rw [fid_eq]; omega) rfl (fun j p h hj => by repeat (first | with_reducible exact famH_at h hj | (with_reducible refine at_upd ?_ ?_; rw [fid_eq]; omega) | (with_reducible refine at_fam ?_ ?_; rw [fid_eq]; omega))) (rh_fam (by rfl) (by simp) (fun J R h => by cases h; rw [fid_eq]; omega) rfl (fun j p h hj => by repeat (first | with_reducible exact famH_at h hj | (with_reducible refine at_upd ?_ ?_; rw [fid_eq]; omega) | (with_reducible refine at_fam ?_ ?_; rw [fid_eq]; omega))) (rh_fam (by rfl) (by simp) (fun J R h => by cases h; rw [fid_eq]; omega) rfl (fun j p h hj => by repeat (first | with_reducible exact famH_at h hj | (with_reducible refine at_upd ?_ ?_; rw [fid_eq]; omega) | (with_reducible refine at_fam ?_ ?_; rw [fid_eq]; omega))) (rh_famN (by rfl) (by simp) g396 (by first | exact (n400 _) | rfl) (fun j p h hj => by repeat (first | with_reducible exact famH_at h hj | (with_reducible refine at_upd ?_ ?_; rw [fid_eq]; omega) | (with_reducible refine at_fam ?_ ?_; rw [fid_eq]; omega))) (by rfl) (rh_no _))))))))))⟩
          ·have o410 : mfind (false, [.string]) (.string x2.sub_.type_) (encF Value.string 17179869184 g12 t332) = some (some (j8, .so (fid 17179869184 j8) (g12 j8) 0 xs8.length)) := o403
           have h406 : j8 < 4294967296 := Nat.lt_trans (List.getElem?_eq_some_iff.1 o401).1 g396
           have h407 : ∀ hp : Hp, famH eS 1 17179869184 g12 t332 hp (fid 17179869184 j8) = some (.rw (List.map eS xs8) 1 (g12 j8) false false) := fun _ => famH_at o401 h406
           have h408 : (encF Value.string 17179869184 g12 t332)[j8]? = some ((.string x2.sub_.type_), .so (fid 17179869184 j8) (g12 j8) 0 xs8.length) := (encF_at _ _).trans (by rw [o401]; rfl)
           have h409 : xs8.length + 1 ≤ 4294967296 := by have := g397; simp only [mgetD, o402, Option.getD_some] at this; omega
           have h411 : ∀ hp : Hp, famH eGSub 3 4294967296 g13 (madd (⟨x2.obj, x2.rel⟩ : GRef) [x2.sub_] t302) hp (fid 17179869184 j8) = hp (fid 17179869184 j8) := fun _ => famH_out (by rw [fid_eq]; omega)
           have h412 : ∀ (x : Option AO) (hp : Hp), upd (fid 17179869184 j8) x (famH eGSub 3 4294967296 g13 (madd (⟨x2.obj, x2.rel⟩ : GRef) [x2.sub_] t302) hp) = famH eGSub 3 4294967296 g13 (madd (⟨x2.obj, x2.rel⟩ : GRef) [x2.sub_] t302) (upd (fid 17179869184 j8) x hp) := fun _ _ => famH_swap (by rw [fid_eq]; omega)
           have h413 : ∀ hp : Hp, famH eS 1 8589934592 g15 (madd x2.obj.type_ [x2.obj.id_] t312) hp (fid 17179869184 j8) = hp (fid 17179869184 j8) := fun _ => famH_out (by rw [fid_eq]; omega)
           have h414 : ∀ (x : Option AO) (hp : Hp), upd (fid 17179869184 j8) x (famH eS 1 8589934592 g15 (madd x2.obj.type_ [x2.obj.id_] t312) hp) = famH eS 1 8589934592 g15 (madd x2.obj.type_ [x2.obj.id_] t312) (upd (fid 17179869184 j8) x hp) := fun _ _ => famH_swap (by rw [fid_eq]; omega)
           have h415 : ∀ hp : Hp, famH eGRef 3 12884901888 g14 (madd x2.sub_ [(⟨x2.obj, x2.rel⟩ : GRef)] t322) hp (fid 17179869184 j8) = hp (fid 17179869184 j8) := fun _ => famH_out (by rw [fid_eq]; omega)
           have h416 : ∀ (x : Option AO) (hp : Hp), upd (fid 17179869184 j8) x (famH eGRef 3 12884901888 g14 (madd x2.sub_ [(⟨x2.obj, x2.rel⟩ : GRef)] t322) hp) = famH eGRef 3 12884901888 g14 (madd x2.sub_ [(⟨x2.obj, x2.rel⟩ : GRef)] t322) (upd (fid 17179869184 j8) x hp) := fun _ _ => famH_swap (by rw [fid_eq]; omega)
           have h417 : ∀ (x y : Option AO) (g : Hp), upd (fid 17179869184 j8) x (upd 0 y g) = upd 0 y (upd (fid 17179869184 j8) x g) := fun _ _ _ => upd_swap (by rw [fid_eq]; omega)
           have h418 : ∀ (x y : Option AO) (g : Hp), upd (fid 17179869184 j8) x (upd 1 y g) = upd 1 y (upd (fid 17179869184 j8) x g) := fun _ _ _ => upd_swap (by rw [fid_eq]; omega)
           have h419 : ∀ (x y : Option AO) (g : Hp), upd (fid 17179869184 j8) x (upd 2 y g) = upd 2 y (upd (fid 17179869184 j8) x g) := fun _ _ _ => upd_swap (by rw [fid_eq]; omega)
           have h420 : ∀ (x y : Option AO) (g : Hp), upd (fid 17179869184 j8) x (upd 3 y g) = upd 3 y (upd (fid 17179869184 j8) x g) := fun _ _ _ => upd_swap (by rw [fid_eq]; omega)
           have h421 : ∀ (x y : Option AO) (g : Hp), upd (fid 17179869184 j8) x (upd 4 y g) = upd 4 y (upd (fid 17179869184 j8) x g) := fun _ _ _ => upd_swap (by rw [fid_eq]; omega)
           have h422 : ∀ (x y : Option AO) (g : Hp), upd (fid 17179869184 j8) x (upd 5 y g) = upd 5 y (upd (fid 17179869184 j8) x g) := fun _ _ _ => upd_swap (by rw [fid_eq]; omega)
           have h423 : ∀ c : Nat, 21474836480 ≤ c → (fid 17179869184 j8 = c) = False := fun c h => fid_hi h406 h
           have h424 : ∀ c : Nat, 21474836480 ≤ c → (c = fid 17179869184 j8) = False := fun c h => fid_hi' h406 h
           have h425 : ∀ (c : Nat) (x y : Option AO) (g : Hp), 21474836480 ≤ c → upd (fid 17179869184 j8) x (upd c y g) = upd c y (upd (fid 17179869184 j8) x g) := fun _ _ _ _ h => upd_swap (by rw [fid_eq]; omega)
           obtain ⟨zs8, h426⟩ : ∃ zs, xs8 ++ [x2.sub_.id_] = zs := ⟨_, rfl⟩
           have h427 : List.map eS xs8 ++ [[.v (.string x2.sub_.id_)]] = List.map eS zs8 := app_map eS h426
           have h428 : xs8.length + 1 = zs8.length := app_len h426
           have h429 : zs8.length ≤ 4294967296 := by omega
           have h430 : madd x2.sub_.type_ [x2.sub_.id_] t332 = List.set t332 j8 (x2.sub_.type_, zs8) := by rw [← h426]; exact o404 _
           have h431 : ∀ hp : Hp, upd (fid 17179869184 j8) (some (.rw (List.map eS zs8) 1 (g12 j8 + 1) false false)) (famH eS 1 17179869184 g12 t332 hp) = famH eS 1 17179869184 (vsUp j8 (g12 j8 + 1) g12) (List.set t332 j8 (x2.sub_.type_, zs8)) hp := fun _ => famH_set (q := (x2.sub_.type_, zs8)) o401 h406
           have h432 : List.set (encF Value.string 17179869184 g12 t332) j8 ((.string x2.sub_.type_), .so (fid 17179869184 j8) (g12 j8 + 1) 0 zs8.length) = encF Value.string 17179869184 (vsUp j8 (g12 j8 + 1) g12) (List.set t332 j8 (x2.sub_.type_, zs8)) := encF_set (q := (x2.sub_.type_, zs8)) (List.getElem?_eq_some_iff.1 o401).1
           have h433 : (List.set t332 j8 (x2.sub_.type_, zs8)).length ≤ 4294967296 := by rw [List.length_set]; exact Nat.le_of_lt g396
           try simp -implicitDefEqProofs only [go_sem, Nat.reduceLT, Nat.reduceEqDiff, Nat.reduceAdd, Nat.reduceLeDiff, reduceCtorEq, ↓reduceIte, look_old o410, mput_old o410, h407, h411, h412, h413, h414, h415, h416, h417, h418, h419, h420, h421, h422, h423, fid_lo, h425, h427, h428, h429, h431, h432]
           refine Rd_endJ (fid 17179869184 j8) 340282366920938463463374607431768211458 (by have := h406; rw [fid_eq]; unfold sent; omega) (by decide) (by simp [h424]) (by simp only [List.reverse_cons, List.reverse_nil, List.nil_append, List.cons_append, List.map_cons, List.map_nil, swRec, sw, Nat.reduceLeDiff, Nat.reduceLT, ↓reduceIte, fid_lo', h424]; kernel_rfl) ?_
           try simp -implicitDefEqProofs only [go_sem]
           obtain rfl := Zi H395
           exact ⟨⟨⟨(), rfl⟩, (vsUp j8 (g12 j8 + 1) g12)⟩, ren_mkF (R := 340282366920938463463374607431768211457) none (fun _ _ h => by cases h) [4294967296, 8589934592, 12884901888, 17179869184] [(0, 0), (1, 1), (2, 2), (3, 3), (4, 4)] (by rfl) (rf_upd (by rfl) (rf_upd (by rfl) (rf_upd (by rfl) (rf_upd (by rfl) (rf_no _))))) (rh_upd (rh_one (by rfl) (by rfl) (by rfl)) (rh_upd (rh_one (by rfl) (renO_fam (by rfl) (by simp) (fun _ _ h => by cases h) h297 rfl) (by rfl)) (rh_upd (rh_one (by rfl) (renO_fam (by rfl) (by simp) (fun _ _ h => by cases h) h391 rfl) (by rfl)) (rh_upd (rh_one (by rfl) (renO_fam (by rfl) (by simp) (fun _ _ h => by cases h) h344 rfl) (by rfl)) (rh_upd (rh_one (by rfl) (renO_fam (by rfl) (by simp) (fun _ _ h => by cases h) h433 (by first | exact h430 | rfl)) (by rfl)) (rh_fam (by rfl) (by simp) (fun _ _ h => by cases h) rfl (fun j p h hj => by repeat (first | with_reducible exact famH_at h hj | (with_reducible refine at_upd ?_ ?_; rw [fid_eq]; omega) | (with_reducible refine at_fam ?_ ?_; rw [fid_eq]; omega))) (rh_fam (by rfl) (by simp) (fun _ _ h => by cases h) rfl (fun j p h hj => by repeat (first | with_reducible exact famH_at h hj | (with_reducible refine at_upd ?_ ?_; rw [fid_eq]; omega) | (with_reducible refine at_fam ?_ ?_; rw [fid_eq]; omega))) (rh_fam (by rfl) (by simp) (fun _ _ h => by cases h) rfl (fun j p h hj => by repeat (first | with_reducible exact famH_at h hj | (with_reducible refine at_upd ?_ ?_; rw [fid_eq]; omega) | (with_reducible refine at_fam ?_ ?_; rw [fid_eq]; omega))) (rh_fam (by rfl) (by simp) (fun _ _ h => by cases h) (by first | exact h430 | rfl) (fun j p h hj => by repeat (first | with_reducible exact famH_at h hj | (with_reducible refine at_upd ?_ ?_; rw [fid_eq]; omega) | (with_reducible refine at_fam ?_ ?_; rw [fid_eq]; omega))) (rh_no _))))))))))⟩
         ·rintro ⟨⟨_, he437⟩, g16⟩
          obtain rfl := he437.symm
          try dsimp only at H393
          refine Z0 ?_
          refine ZT 1 ?_
          refine Z0 ?_
          obtain ⟨g434, H435⟩ := grd_inv H393
          have h436 : (madd x2.sub_.type_ [x2.sub_.id_] t332).length ≤ 4294967296 := of_decide_eq_true g434
          exact ⟨⟨((c, ((madd (⟨x2.obj, x2.rel⟩ : GRef) [x2.sub_] t302), (madd x2.obj.type_ [x2.obj.id_] t312), (madd x2.sub_ [(⟨x2.obj, x2.rel⟩ : GRef)] t322), (madd x2.sub_.type_ [x2.sub_.id_] t332), (IntKind.i64.wrap (t18 + 1)))), (g13, g15, g14, g16)), H435⟩, ren_mkF (R := 340282366920938463463374607431768211457) none (fun _ _ h => by cases h) [4294967296, 8589934592, 12884901888, 17179869184] [(0, 0), (1, 1), (2, 2), (3, 3), (4, 4)] (by rfl) (rf_upd (by rfl) (rf_upd (by rfl) (rf_upd (by rfl) (rf_upd (by rfl) (rf_no _))))) (rh_upd (rh_one (by rfl) (by rfl) (by rfl)) (rh_upd (rh_one (by rfl) (renO_fam (by rfl) (by simp) (fun _ _ h => by cases h) h297 rfl) (by rfl)) (rh_upd (rh_one (by rfl) (renO_fam (by rfl) (by simp) (fun _ _ h => by cases h) h391 rfl) (by rfl)) (rh_upd (rh_one (by rfl) (renO_fam (by rfl) (by simp) (fun _ _ h => by cases h) h344 rfl) (by rfl)) (rh_upd (rh_one (by rfl) (renO_fam (by rfl) (by simp) (fun _ _ h => by cases h) h436 rfl) (by rfl)) (rh_fam (by rfl) (by simp) (fun _ _ h => by cases h) rfl (fun j p h hj => by repeat (first | with_reducible exact famH_at h hj | (with_reducible refine at_upd ?_ ?_; rw [fid_eq]; omega) | (with_reducible refine at_fam ?_ ?_; rw [fid_eq]; omega))) (rh_fam (by rfl) (by simp) (fun _ _ h => by cases h) rfl (fun j p h hj => by repeat (first | with_reducible exact famH_at h hj | (with_reducible refine at_upd ?_ ?_; rw [fid_eq]; omega) | (with_reducible refine at_fam ?_ ?_; rw [fid_eq]; omega))) (rh_fam (by rfl) (by simp) (fun _ _ h => by cases h) rfl (fun j p h hj => by repeat (first | with_reducible exact famH_at h hj | (with_reducible refine at_upd ?_ ?_; rw [fid_eq]; omega) | (with_reducible refine at_fam ?_ ?_; rw [fid_eq]; omega))) (rh_fam (by rfl) (by simp) (fun _ _ h => by cases h) rfl (fun j p h hj => by repeat (first | with_reducible exact famH_at h hj | (with_reducible refine at_upd ?_ ?_; rw [fid_eq]; omega) | (with_reducible refine at_fam ?_ ?_; rw [fid_eq]; omega))) (rh_no _)))))))))), Nat.lt_succ_self _⟩
        ·refine runR_condF (by rfl) c387 ?_
         refine Z1 c387 ?_
         refine ZT 3 ?_
         refine Z1 c387 ?_
         obtain ⟨g438, H439⟩ := grd_inv H388
         have h440 : (madd x2.obj.type_ [x2.obj.id_] t312).length ≤ 4294967296 := of_decide_eq_true g438
         exact ⟨⟨((c, ((madd (⟨x2.obj, x2.rel⟩ : GRef) [x2.sub_] t302), (madd x2.obj.type_ [x2.obj.id_] t312), (madd x2.sub_ [(⟨x2.obj, x2.rel⟩ : GRef)] t322), t332, (IntKind.i64.wrap (t18 + 1)))), (g13, g15, g14, g12)), H439⟩, ren_mkF (R := 340282366920938463463374607431768211457) none (fun _ _ h => by cases h) [4294967296, 8589934592, 12884901888, 17179869184] [(0, 0), (1, 1), (2, 2), (3, 3), (4, 4)] (by rfl) (rf_upd (by rfl) (rf_upd (by rfl) (rf_upd (by rfl) (rf_upd (by rfl) (rf_no _))))) (rh_upd (rh_one (by rfl) (by rfl) (by rfl)) (rh_upd (rh_one (by rfl) (renO_fam (by rfl) (by simp) (fun _ _ h => by cases h) h297 rfl) (by rfl)) (rh_upd (rh_one (by rfl) (renO_fam (by rfl) (by simp) (fun _ _ h => by cases h) h440 rfl) (by rfl)) (rh_upd (rh_one (by rfl) (renO_fam (by rfl) (by simp) (fun _ _ h => by cases h) h344 rfl) (by rfl)) (rh_upd (rh_one (by rfl) (renO_fam (by rfl) (by simp) (fun _ _ h => by cases h) h250 rfl) (by rfl)) (rh_fam (by rfl) (by simp) (fun _ _ h => by cases h) rfl (fun j p h hj => by repeat (first | with_reducible exact famH_at h hj | (with_reducible refine at_upd ?_ ?_; rw [fid_eq]; omega) | (with_reducible refine at_fam ?_ ?_; rw [fid_eq]; omega))) (rh_fam (by rfl) (by simp) (fun _ _ h => by cases h) rfl (fun j p h hj => by repeat (first | with_reducible exact famH_at h hj | (with_reducible refine at_upd ?_ ?_; rw [fid_eq]; omega) | (with_reducible refine at_fam ?_ ?_; rw [fid_eq]; omega))) (rh_fam (by rfl) (by simp) (fun _ _ h => by cases h) rfl (fun j p h hj => by repeat (first | with_reducible exact famH_at h hj | (with_reducible refine at_upd ?_ ?_; rw [fid_eq]; omega) | (with_reducible refine at_fam ?_ ?_; rw [fid_eq]; omega))) (rh_fam (by rfl) (by simp) (fun _ _ h => by cases h) rfl (fun j p h hj => by repeat (first | with_reducible exact famH_at h hj | (with_reducible refine at_upd ?_ ?_; rw [fid_eq]; omega) | (with_reducible refine at_fam ?_ ?_; rw [fid_eq]; omega))) (rh_no _)))))))))), Nat.lt_succ_self _⟩
    ·refine Z1 c231 ?_
     obtain ⟨g444, H445⟩ := grd_inv H232
     have h446 : t302.length ≤ 4294967296 := of_decide_eq_true g444
     obtain ⟨g447, H448⟩ := grd_inv H445
     have h449 : t312.length ≤ 4294967296 := of_decide_eq_true g447
     obtain ⟨g450, H451⟩ := grd_inv H448
     have h452 : t322.length ≤ 4294967296 := of_decide_eq_true g450
     obtain ⟨g453, H454⟩ := grd_inv H451
     have h455 : t332.length ≤ 4294967296 := of_decide_eq_true g453
     obtain rfl := Zi H454
     exact ⟨⟨⟨(t302, t312, t322, t332), rfl⟩, (g9, g10, g11, g12)⟩, ren_mkF (R := 340282366920938463463374607431768211457) none (fun _ _ h => by cases h) [4294967296, 8589934592, 12884901888, 17179869184] [(0, 0), (1, 1), (2, 2), (3, 3), (4, 4)] (by rfl) (rf_upd (by rfl) (rf_no _)) (rh_upd (rh_one (by rfl) (by rfl) (by rfl)) (rh_upd (rh_one (by rfl) (renO_fam (by rfl) (by simp) (fun _ _ h => by cases h) h446 rfl) (by rfl)) (rh_upd (rh_one (by rfl) (renO_fam (by rfl) (by simp) (fun _ _ h => by cases h) h449 rfl) (by rfl)) (rh_upd (rh_one (by rfl) (renO_fam (by rfl) (by simp) (fun _ _ h => by cases h) h452 rfl) (by rfl)) (rh_upd (rh_one (by rfl) (renO_fam (by rfl) (by simp) (fun _ _ h => by cases h) h455 rfl) (by rfl)) (rh_fam (by rfl) (by simp) (fun _ _ h => by cases h) rfl (fun j p h hj => by repeat (first | with_reducible exact famH_at h hj | (with_reducible refine at_upd ?_ ?_; rw [fid_eq]; omega) | (with_reducible refine at_fam ?_ ?_; rw [fid_eq]; omega))) (rh_fam (by rfl) (by simp) (fun _ _ h => by cases h) rfl (fun j p h hj => by repeat (first | with_reducible exact famH_at h hj | (with_reducible refine at_upd ?_ ?_; rw [fid_eq]; omega) | (with_reducible refine at_fam ?_ ?_; rw [fid_eq]; omega))) (rh_fam (by rfl) (by simp) (fun _ _ h => by cases h) rfl (fun j p h hj => by repeat (first | with_reducible exact famH_at h hj | (with_reducible refine at_upd ?_ ?_; rw [fid_eq]; omega) | (with_reducible refine at_fam ?_ ?_; rw [fid_eq]; omega))) (rh_fam (by rfl) (by simp) (fun _ _ h => by cases h) rfl (fun j p h hj => by repeat (first | with_reducible exact famH_at h hj | (with_reducible refine at_upd ?_ ?_; rw [fid_eq]; omega) | (with_reducible refine at_fam ?_ ?_; rw [fid_eq]; omega))) (rh_no _))))))))))⟩
 ·rintro ⟨⟨⟨t304, t314, t324, t334⟩, he468⟩, ⟨g21, g22, g23, g24⟩⟩
  obtain rfl := he468.symm
  try dsimp only at H4
  refine ZT 1 ?_
  refine Z0 ?_
  obtain ⟨g456, H457⟩ := grd_inv H4
  have h458 : t304.length ≤ 4294967296 := of_decide_eq_true g456
  obtain ⟨g459, H460⟩ := grd_inv H457
  have h461 : t314.length ≤ 4294967296 := of_decide_eq_true g459
  obtain ⟨g462, H463⟩ := grd_inv H460
  have h464 : t324.length ≤ 4294967296 := of_decide_eq_true g462
  obtain ⟨g465, H466⟩ := grd_inv H463
  have h467 : t334.length ≤ 4294967296 := of_decide_eq_true g465
  obtain rfl := Zi H466
  exact endX_ret (b := false) (v := .pt 0 0) (by first | (simp -implicitDefEqProofs only [go_sem, ↓reduceIte] <;> rfl) | rfl) (ToXR.val (ToXV.one (ToX.place (by rfl) (PW.cons (ToX.fam (by rfl) h458 (fun j p h hj => by repeat (first | with_reducible exact famH_at h hj | (with_reducible refine at_upd ?_ ?_; rw [fid_eq]; omega) | (with_reducible refine at_fam ?_ ?_; rw [fid_eq]; omega)))) (PW.cons (ToX.fam (by rfl) h461 (fun j p h hj => by repeat (first | with_reducible exact famH_at h hj | (with_reducible refine at_upd ?_ ?_; rw [fid_eq]; omega) | (with_reducible refine at_fam ?_ ?_; rw [fid_eq]; omega)))) (PW.cons (ToX.fam (by rfl) h464 (fun j p h hj => by repeat (first | with_reducible exact famH_at h hj | (with_reducible refine at_upd ?_ ?_; rw [fid_eq]; omega) | (with_reducible refine at_fam ?_ ?_; rw [fid_eq]; omega)))) (PW.cons (ToX.fam (by rfl) h467 (fun j p h hj => by repeat (first | with_reducible exact famH_at h hj | (with_reducible refine at_upd ?_ ?_; rw [fid_eq]; omega) | (with_reducible refine at_fam ?_ ?_; rw [fid_eq]; omega)))) PW.nil))))) rfl)) (by intro h; first | rfl | cases h)
end Go.Proofs.Ytjkdbakgnnhdnaa.Ab
