/-
 Functions, read off the code.
-/
import Derived.Test.YtgmhbmcdlkajdaaGreatDoorPte
import Derived.Test.YtgmhbmcdlkajdaaGreatDoorGwb
namespace Go.Proofs.YtgmhbmcdlkajdaaGreatDoor.Ab
open Go.RowKit
def gain_find_L1 (n : Nat) (l : List GFile) (path : ByteArray) : Nat → Int → Option ((Unit) ⊕ (GFile × Bool))
 | 0, _ => none
 | c + 1, t10 =>
  (if (decide (t10 < (l.length : Int))) then
   (idx l t10).bind fun x2 =>
   (mask_IsFile n x2).bind fun t152 =>
   (if t152 then
    (if (x2.name.toList == path.toList) then
     some (.inr (x2, true))
    else
     gain_find_L1 n l path c (IntKind.i64.wrap (t10 + 1)))
   else
    gain_find_L1 n l path c (IntKind.i64.wrap (t10 + 1)))
  else
   some (.inl ()))
def gain_find (n : Nat) (l : List GFile) (path : ByteArray) : Option (GFile × Bool) :=
 (
  gain_find_L1 n l path n 0 : Option ((Unit) ⊕ (GFile × Bool))).bind fun
  | .inl _ =>
   some ((⟨0, ByteArray.empty, [], ByteArray.empty, ByteArray.empty, [], 0⟩ : GFile), false)
  | .inr r => some r
theorem gain_find_ok {n : Nat} {l : List GFile} {path : ByteArray} {r : GFile × Bool} (H : gain_find n l path = some r) : PureOK Tryz.prog 44 [D.sl (List.map eGFile l), D.v (.string path)] (D.tu [D.ag (eGFile r.1), D.v (.bool r.2)]) false := by
 unfold gain_find at H
 refine ZP tab_ok fol (rs := #[.cell 4 36, .tmp 5]) Tryz.func44 ?_
 refine zsq (ZT 1 ?_)
 refine Z0 ?_
 refine zsq (zsq ?_)
 refine ZT 1 ?_
 refine Z0 ?_
 obtain ⟨e_, E1, H2⟩ := zbi H
 refine zjn (α := { y : Unit // e_ = .inl y }) (fun | ⟨_, _⟩ => ⟨upd 4 (.pt 0 0) noFr, upd 0 (some (.bx [.v (.int .i64 0), .v (.string ByteArray.empty), .v (.slice none 0 0), .v (.string ByteArray.empty), .v (.string ByteArray.empty), .v (.slice none 0 0), .v (.int .i64 0)])) noHp, 1⟩) ?_ ?_
 ·refine zbk ?_
  refine zlp (α := { q : Nat × Int // gain_find_L1 n l path q.1 q.2 = some e_ }) (fun | ⟨⟨c, t10⟩, _⟩ => ⟨upd 1 (.v (.string path)) (upd 4 (.pt 0 0) (upd 8 (.d (.sl (List.map eGFile l)) true) (upd 9 (.v (.int .i64 (l.length : Int))) (upd 10 (.v (.int .i64 t10)) noFr)))), upd 0 (some (.bx [.v (.int .i64 0), .v (.string ByteArray.empty), .v (.slice none 0 0), .v (.string ByteArray.empty), .v (.string ByteArray.empty), .v (.slice none 0 0), .v (.int .i64 0)])) noHp, 1⟩) (fun q => q.1.1) ⟨(n, 0), E1⟩ ?_ ?_
  ·exact ZR [(0, 0)]
  ·rintro ⟨⟨c, t10⟩, L3⟩
   rcases c with _ | c
   ·exact Zx L3
   ·unfold gain_find_L1 at L3
    try dsimp only at L3
    refine ZT 1 ?_
    refine Z0 ?_
    rcases zit L3 with ⟨c18, H19⟩ | ⟨c18, H19⟩
    ·obtain ⟨x2, b20, H21⟩ := zbi H19
     obtain ⟨h22, h23⟩ := zix b20
     try simp only [Int.reduceToNat, Int.toNat_natCast] at h23
     have h24 := map_at eGFile h23
     obtain ⟨t152, b26, H27⟩ := zbi H21
     refine Z1 (Y3 c18 (zno .i64 h22) h24) ?_
     refine ZC0 (mask_IsFile_ok b26) ?_
     refine Z1 (Y3 c18 (zno .i64 h22) h24) ?_
     rcases zit H27 with ⟨c28, H29⟩ | ⟨c28, H29⟩
     ·refine Z1 (Y4 c18 (zno .i64 h22) h24 c28) ?_
      rcases zit H29 with ⟨c30, H31⟩ | ⟨c30, H31⟩
      ·refine Z1 (Y5 c18 (zno .i64 h22) h24 c28 c30) ?_
       obtain rfl := Zi H31
       obtain rfl := Zi H2
       exact ZE0
      ·refine Z1 (Y5 c18 (zno .i64 h22) h24 c28 c30) ?_
       exact ⟨⟨(c, (IntKind.i64.wrap (t10 + 1))), H31⟩, ZR [(0, 0)], Nat.lt_succ_self _⟩
     ·refine Z1 (Y4 c18 (zno .i64 h22) h24 c28) ?_
      exact ⟨⟨(c, (IntKind.i64.wrap (t10 + 1))), H29⟩, ZR [(0, 0)], Nat.lt_succ_self _⟩
    ·refine Z1 c18 ?_
     obtain rfl := Zi H19
     exact ⟨⟨(), rfl⟩, ZR [(0, 0)]⟩
 ·rintro ⟨_, he32⟩
  obtain rfl := he32.symm
  try dsimp only at H2
  refine ZT 1 ?_
  refine Z0 ?_
  obtain rfl := Zi H2
  exact ZE0
def gain_digit (_ : Nat) (mode : Int) (i : Int) : Option Int :=
 grd (decide (0 ≤ (IntKind.u64.wrap (IntKind.i64.wrap (3 * (IntKind.i64.wrap (2 - i))))))) <|
 some (IntKind.i64.wrap (an (sh mode (Int.toNat (IntKind.u64.wrap (IntKind.i64.wrap (3 * (IntKind.i64.wrap (2 - i))))))) 7 : Int))
theorem gain_digit_ok {n : Nat} {mode : Int} {i : Int} {r : Int} (H : gain_digit n mode i = some r) : PureOK Tryz.prog 76 [D.v (.int .i64 mode), D.v (.int .i64 i)] (D.v (.int .i64 r)) true := by
 unfold gain_digit at H
 refine ZP tab_ok fol (rs := #[.tmp 4]) Tryz.func76 ?_
 refine ZT 1 ?_
 obtain ⟨g1, H2⟩ := grd_inv H
 have g1 : ¬ (IntKind.u64.wrap (IntKind.i64.wrap (3 * (IntKind.i64.wrap (2 - i))))) < 0 := by have := of_decide_eq_true g1; omega
 refine Z1 g1 ?_
 obtain rfl := Zi H2
 exact ZE0
def gain_byDefault_L1 (n : Nat) (l : List GEntry) : Nat → (List GEntry × Int) → Option (List GEntry)
 | 0, _ => none
 | c + 1, (out, t8) =>
  (if (decide (t8 < (l.length : Int))) then
   (idx l t8).bind fun x2 =>
   (if x2.default then
    (app out [(⟨x2.kind, true, x2.name, x2.bits⟩ : GEntry)]).bind fun l2 =>
    gain_byDefault_L1 n l c (l2, (IntKind.i64.wrap (t8 + 1)))
   else
    gain_byDefault_L1 n l c (out, (IntKind.i64.wrap (t8 + 1))))
  else
   some out)
def gain_byDefault (n : Nat) (l : List GEntry) : Option (List GEntry) :=
 (
  gain_byDefault_L1 n l n ([], 0) : Option (List GEntry)).bind fun out3 =>
 some out3
theorem gain_byDefault_ok {n : Nat} {l : List GEntry} {r : List GEntry} (H : gain_byDefault n l = some r) : PureOK Tryz.prog 47 [D.sl (List.map eGEntry l)] (D.sl (List.map eGEntry r)) true := by
 unfold gain_byDefault at H
 refine ZP tab_ok fol (rs := #[.tmp 2]) Tryz.func47 ?_
 refine zsq (ZT 1 ?_)
 refine Z0 ?_
 refine zsq (ZT 1 ?_)
 refine Z0 ?_
 refine zsq (zsq ?_)
 refine ZT 1 ?_
 refine Z0 ?_
 obtain ⟨e_, E1, H2⟩ := zbi H
 refine zjn (α := { y : List GEntry // e_ = y } × Nat) (fun | ⟨⟨out3, _⟩, g3⟩ => ⟨upd 3 (accV 0 g3 (List.map eGEntry out3)) noFr, upd 0 (accO 4 g3 false (List.map eGEntry out3)) noHp, 1⟩) ?_ ?_
 ·refine zbk ?_
  refine zlp (α := { q : (Nat × (List GEntry × Int)) × Nat // gain_byDefault_L1 n l q.1.1 q.1.2 = some e_ }) (fun | ⟨⟨⟨c, ⟨out, t8⟩⟩, g⟩, _⟩ => ⟨upd 3 (accV 0 g (List.map eGEntry out)) (upd 6 (.d (.sl (List.map eGEntry l)) true) (upd 7 (.v (.int .i64 (l.length : Int))) (upd 8 (.v (.int .i64 t8)) noFr))), upd 0 (accO 4 g false (List.map eGEntry out)) noHp, 1⟩) (fun q => q.1.1.1) ⟨((n, ([], 0)), 0), E1⟩ ?_ ?_
  ·exact ZR []
  ·rintro ⟨⟨⟨c, ⟨out, t8⟩⟩, g⟩, L3⟩
   rcases c with _ | c
   ·exact Zx L3
   ·unfold gain_byDefault_L1 at L3
    try dsimp only at L3
    refine ZT 1 ?_
    refine Z0 ?_
    rcases zit L3 with ⟨c14, H15⟩ | ⟨c14, H15⟩
    ·obtain ⟨x2, b16, H17⟩ := zbi H15
     obtain ⟨h18, h19⟩ := zix b16
     try simp only [Int.reduceToNat, Int.toNat_natCast] at h19
     have h20 := map_at eGEntry h19
     refine Z1 (Y3 c14 (zno .i64 h18) h20) ?_
     rcases zit H17 with ⟨c22, H23⟩ | ⟨c22, H23⟩
     ·obtain ⟨l2, b24, H25⟩ := zbi H23
      obtain ⟨h26, h27⟩ := app_inv b24
      have h26 : out.length + 1 ≤ 4294967296 := h26
      have h28 : List.map eGEntry out ++ [[.v (.int .i64 x2.kind), .v (.bool true), .v (.string x2.name), .v (.int .i64 x2.bits)]] = List.map eGEntry l2 := app_map eGEntry h27
      have h29 : out.length + 1 = l2.length := app_len h27
      have h30 : l2.length ≤ 4294967296 := by omega
      have q31 : 0 < l2.length := by omega
      refine Z1 (Y2 (Y6 c14 (zno .i64 h18) h20 c22 h26 h28) (Y2 h29 h30)) ?_
      rcases out with _ | ⟨q0, q1⟩
      ·try simp only [List.map_nil, accI, accN]
       exact ⟨⟨((c, (l2, (IntKind.i64.wrap (t8 + 1)))), 0), H25⟩, ZR [(0, 11)], Nat.lt_succ_self _⟩
      ·try simp only [List.map_cons, accI, accN]
       exact ⟨⟨((c, (l2, (IntKind.i64.wrap (t8 + 1)))), (g + 1)), H25⟩, ZR [(0, 0)], Nat.lt_succ_self _⟩
     ·refine Z1 (Y4 c14 (zno .i64 h18) h20 c22) ?_
      exact ⟨⟨((c, (out, (IntKind.i64.wrap (t8 + 1)))), g), H23⟩, ZR [(0, 0)], Nat.lt_succ_self _⟩
    ·refine Z1 c14 ?_
     obtain rfl := Zi H15
     exact ⟨⟨⟨out, rfl⟩, g⟩, ZR [(0, 0)]⟩
 ·rintro ⟨⟨out3, he32⟩, g3⟩
  obtain rfl := he32.symm
  try dsimp only at H2
  refine ZT 1 ?_
  refine Z0 ?_
  obtain rfl := Zi H2
  exact ZE0
def gain_New_L1 (n : Nat) (t5 : Int) (t70 : List GEntry × Bool) : Nat → (List GEntry × Int) → Option (List GEntry)
 | 0, _ => none
 | c + 1, (out, t10) =>
  (if (decide (t10 < (t70.1.length : Int))) then
   (idx t70.1 t10).bind fun x2 =>
   (if x2.default then
    (if (x2.kind == 1) then
     (gain_digit n t5 0).bind fun t252 =>
     (app out [(⟨x2.kind, false, x2.name, (IntKind.i64.wrap (an x2.bits t252 : Int))⟩ : GEntry)]).bind fun l =>
     gain_New_L1 n t5 t70 c (l, (IntKind.i64.wrap (t10 + 1)))
    else
     (if (x2.kind == 5) then
      (gain_digit n t5 1).bind fun t332 =>
      (app out [(⟨x2.kind, false, x2.name, (IntKind.i64.wrap (an x2.bits t332 : Int))⟩ : GEntry)]).bind fun l2 =>
      gain_New_L1 n t5 t70 c (l2, (IntKind.i64.wrap (t10 + 1)))
     else
      (if (x2.kind == 6) then
       (gain_digit n t5 2).bind fun t412 =>
       (app out [(⟨x2.kind, false, x2.name, (IntKind.i64.wrap (an x2.bits t412 : Int))⟩ : GEntry)]).bind fun l3 =>
       gain_New_L1 n t5 t70 c (l3, (IntKind.i64.wrap (t10 + 1)))
      else
       (app out [(⟨x2.kind, false, x2.name, x2.bits⟩ : GEntry)]).bind fun l4 =>
       gain_New_L1 n t5 t70 c (l4, (IntKind.i64.wrap (t10 + 1))))))
   else
    gain_New_L1 n t5 t70 c (out, (IntKind.i64.wrap (t10 + 1))))
  else
   some out)
def gain_New_C1_gain_inherited (n : Nat) (t5 : Int) (t70 : List GEntry × Bool) : Option (List GEntry) :=
 (
  gain_New_L1 n t5 t70 n ([], 0) : Option (List GEntry)).bind fun out3 =>
 some out3
def gain_New_C2_gain_plain (n : Nat) (t5 : Int) : Option (List GEntry) :=
 (gain_digit n t5 0).bind fun t44 =>
 (gain_digit n t5 1).bind fun t7 =>
 (gain_digit n t5 1).bind fun t103 =>
 (gain_digit n t5 2).bind fun t13 =>
 some [(⟨1, false, ByteArray.empty, t44⟩ : GEntry), (⟨3, false, ByteArray.empty, t7⟩ : GEntry), (⟨5, false, ByteArray.empty, t103⟩ : GEntry), (⟨6, false, ByteArray.empty, t13⟩ : GEntry)]
def gain_New (n : Nat) (t0 : List GFile) (t1 : Bool) (t2 : ByteArray) (t3 : ByteArray) (t4 : ByteArray) (t5 : Int) : Option (GFile × Int) :=
 (
  (acls_Path n t2).bind fun t23 =>
  (if t23 then
   (atom_Name n t3).bind fun t27 =>
   (if t27 then
    (atom_Name n t4).bind fun t32 =>
    (if t32 then
     (if (decide (t5 < 0)) then
      some true
     else
      some (decide (511 < t5)))
    else
     some true)
   else
    some true)
  else
   some true) : Option (Bool)).bind fun t42 =>
 (if t42 then
  some ((⟨0, ByteArray.empty, [], ByteArray.empty, ByteArray.empty, [], 0⟩ : GFile), 15)
 else
  (gain_find n t0 t2).bind fun t47 =>
  (if t47.2 then
   some ((⟨0, ByteArray.empty, [], ByteArray.empty, ByteArray.empty, [], 0⟩ : GFile), 11)
  else
   (acls_Parent n t2).bind fun t55 =>
   (gain_find n t0 t55).bind fun t56 =>
   (if t56.2 then
    (if (t56.1.kind != 3) then
     some ((⟨0, ByteArray.empty, [], ByteArray.empty, ByteArray.empty, [], 0⟩ : GFile), 21)
    else
     (mask_Acl n t56.1.acl).bind fun t70 =>
     (gain_New_C1_gain_inherited n t5 t70 : Option (List GEntry)).bind fun t43 =>
     (if ((t43.length : Int) == 0) then
      (gain_New_C2_gain_plain n t5 : Option (List GEntry)).bind fun t22 =>
      (if t1 then
       (gain_byDefault n t70.1).bind fun t89 =>
       (app t22 t89).bind fun l5 =>
       (mask_Acl n l5).bind fun t93 =>
       (if t93.2 then
        some ((⟨3, t2, [], t3, t4, t93.1, 0⟩ : GFile), 0)
       else
        some ((⟨0, ByteArray.empty, [], ByteArray.empty, ByteArray.empty, [], 0⟩ : GFile), 20))
      else
       (mask_Acl n t22).bind fun t932 =>
       (if t932.2 then
        some ((⟨4, t2, [], t3, t4, t932.1, 0⟩ : GFile), 0)
       else
        some ((⟨0, ByteArray.empty, [], ByteArray.empty, ByteArray.empty, [], 0⟩ : GFile), 20)))
     else
      (if t1 then
       (gain_byDefault n t70.1).bind fun t892 =>
       (if (decide (t43.length = 0)) then
        (app [] t892).bind fun _ =>
        (mask_Acl n t892).bind fun t933 =>
        (if t933.2 then
         some ((⟨3, t2, [], t3, t4, t933.1, 0⟩ : GFile), 0)
        else
         some ((⟨0, ByteArray.empty, [], ByteArray.empty, ByteArray.empty, [], 0⟩ : GFile), 20))
       else
        (app t43 t892).bind fun l7 =>
        (mask_Acl n l7).bind fun t934 =>
        (if t934.2 then
         some ((⟨3, t2, [], t3, t4, t934.1, 0⟩ : GFile), 0)
        else
         some ((⟨0, ByteArray.empty, [], ByteArray.empty, ByteArray.empty, [], 0⟩ : GFile), 20)))
      else
       (mask_Acl n t43).bind fun t935 =>
       (if t935.2 then
        some ((⟨4, t2, [], t3, t4, t935.1, 0⟩ : GFile), 0)
       else
        some ((⟨0, ByteArray.empty, [], ByteArray.empty, ByteArray.empty, [], 0⟩ : GFile), 20)))))
   else
    some ((⟨0, ByteArray.empty, [], ByteArray.empty, ByteArray.empty, [], 0⟩ : GFile), 21))))
set_option maxHeartbeats 8000000 in
theorem gain_New_ok {n : Nat} {t0 : List GFile} {t1 : Bool} {t2 : ByteArray} {t3 : ByteArray} {t4 : ByteArray} {t5 : Int} {r : GFile × Int} (H : gain_New n t0 t1 t2 t3 t4 t5 = some r) : PureOK Tryz.prog 19 [D.sl (List.map eGFile t0), D.v (.bool t1), D.v (.string t2), D.v (.string t3), D.v (.string t4), D.v (.int .i64 t5)] (D.tu [D.ag (eGFile r.1), D.v (.int .i64 r.2)]) true := by
 unfold gain_New at H
 refine ZP tab_ok fol (rs := #[.cell 12 36, .tmp 13]) Tryz.func19 ?_
 refine zsq (ZT 1 ?_)
 refine Z0 ?_
 refine zsq (zsq ?_)
 obtain ⟨e_, E1, H2⟩ := zbi H
 refine zjn (α := { y : Bool // e_ = y }) (fun | ⟨t42, _⟩ => ⟨upd 0 (.d (.sl (List.map eGFile t0)) true) (upd 1 (.v (.bool t1)) (upd 2 (.v (.string t2)) (upd 3 (.v (.string t3)) (upd 4 (.v (.string t4)) (upd 5 (.v (.int .i64 t5)) (upd 12 (.pt 0 0) (upd 42 (.v (.bool t42)) noFr))))))), upd 0 (some (.bx [.v (.int .i64 0), .v (.string ByteArray.empty), .v (.slice none 0 0), .v (.string ByteArray.empty), .v (.string ByteArray.empty), .v (.slice none 0 0), .v (.int .i64 0)])) noHp, 1⟩) ?_ ?_
 ·refine ZT 1 ?_
  obtain ⟨t23, b3, H4⟩ := zbi E1
  refine Z0 ?_
  refine ZC0 (acls_Path_ok b3) ?_
  refine Z0 ?_
  rcases zit H4 with ⟨c5, H6⟩ | ⟨c5, H6⟩
  ·obtain ⟨t27, b7, H8⟩ := zbi H6
   refine Z1 c5 ?_
   refine ZC0 (atom_Name_ok b7) ?_
   refine Z1 c5 ?_
   rcases zit H8 with ⟨c9, H10⟩ | ⟨c9, H10⟩
   ·obtain ⟨t32, b11, H12⟩ := zbi H10
    refine Z1 (Y2 c5 c9) ?_
    refine ZC0 (atom_Name_ok b11) ?_
    refine Z1 (Y2 c5 c9) ?_
    rcases zit H12 with ⟨c13, H14⟩ | ⟨c13, H14⟩
    ·refine Z1 (Y3 c5 c9 c13) ?_
     rcases zit H14 with ⟨c15, H16⟩ | ⟨c15, H16⟩
     ·refine Z1 (Y4 c5 c9 c13 c15) ?_
      obtain rfl := Zi H16
      exact ⟨⟨true, rfl⟩, ZR [(0, 0)]⟩
     ·refine Z1 (Y4 c5 c9 c13 c15) ?_
      obtain rfl := Zi H16
      exact ⟨⟨(decide (511 < t5)), rfl⟩, ZR [(0, 0)]⟩
    ·refine Z1 (Y3 c5 c9 c13) ?_
     obtain rfl := Zi H14
     exact ⟨⟨true, rfl⟩, ZR [(0, 0)]⟩
   ·refine Z1 (Y2 c5 c9) ?_
    obtain rfl := Zi H10
    exact ⟨⟨true, rfl⟩, ZR [(0, 0)]⟩
  ·refine Z1 c5 ?_
   obtain rfl := Zi H6
   exact ⟨⟨true, rfl⟩, ZR [(0, 0)]⟩
 ·rintro ⟨t42, he188⟩
  obtain rfl := he188.symm
  try dsimp only at H2
  refine ZT 2 ?_
  refine Z0 ?_
  rcases zit H2 with ⟨c17, H18⟩ | ⟨c17, H18⟩
  ·refine Z1 c17 ?_
   obtain rfl := Zi H18
   exact ZE0
  ·obtain ⟨t47, b19, H20⟩ := zbi H18
   refine Z1 c17 ?_
   refine ZC0 (gain_find_ok b19) ?_
   refine Z1 c17 ?_
   rcases zit H20 with ⟨c21, H22⟩ | ⟨c21, H22⟩
   ·refine Z1 (Y2 c17 c21) ?_
    obtain rfl := Zi H22
    exact ZE0
   ·obtain ⟨t55, b23, H24⟩ := zbi H22
    refine Z1 (Y2 c17 c21) ?_
    refine ZC0 (acls_Parent_ok b23) ?_
    obtain ⟨t56, b25, H26⟩ := zbi H24
    refine Z1 (Y2 c17 c21) ?_
    refine ZC0 (gain_find_ok b25) ?_
    refine Z1 (Y2 c17 c21) ?_
    rcases zit H26 with ⟨c27, H28⟩ | ⟨c27, H28⟩
    ·refine Z1 (Y3 c17 c21 c27) ?_
     rcases zit H28 with ⟨c29, H30⟩ | ⟨c29, H30⟩
     ·refine Z1 (Y4 c17 c21 c27 c29) ?_
      obtain rfl := Zi H30
      exact ZE0
     ·obtain ⟨t70, b31, H32⟩ := zbi H30
      refine Z1 (Y4 c17 c21 c27 c29) ?_
      refine ZC0 (mask_Acl_ok b31) ?_
      refine Z1 (Y4 c17 c21 c27 c29) ?_
      obtain ⟨e_2, E33, H34⟩ := zbi H32
      refine onCall_inl (InlOK.mono (inl_runRJ (α := { y : List GEntry // e_2 = y } × Nat) tab_ok Tryz.func45 rfl (by kernel_rfl) (by kernel_rfl) (by simp [Tryz.f45]) (fun | ⟨⟨t43, _⟩, g4⟩ => ⟨upd 4 (accV 40 g4 (List.map eGEntry t43)) noFr, upd 0 (some (.bx [.v (.int .i64 0), .v (.string ByteArray.empty), .v (.slice none 0 0), .v (.string ByteArray.empty), .v (.string ByteArray.empty), .v (.slice none 0 0), .v (.int .i64 0)])) (upd 7 (some (.bx [.v (.int .i64 t47.1.kind), .v (.string t47.1.name), .d (.sl (List.map eS t47.1.users)) true, .v (.string t47.1.owner), .v (.string t47.1.group), .d (.sl (List.map eGEntry t47.1.acl)) true, .v (.int .i64 t47.1.at_)])) (upd 18 (some (.bx [.v (.int .i64 t56.1.kind), .v (.string t56.1.name), .d (.sl (List.map eS t56.1.users)) true, .v (.string t56.1.owner), .v (.string t56.1.group), .d (.sl (List.map eGEntry t56.1.acl)) true, .v (.int .i64 t56.1.at_)])) (upd 40 (accO 4 g4 false (List.map eGEntry t43)) noHp))), 41⟩) (fun | ⟨⟨t43, _⟩, g4⟩ => accV 40 g4 (List.map eGEntry t43)) (by rintro ⟨⟨t43, he115⟩, g4⟩; first | ((simp -implicitDefEqProofs only [go_sem, ↓reduceIte, Tryz.f45]) <;> rfl) | rfl) ?_) ?_)
      ·unfold gain_New_C1_gain_inherited at E33
       try dsimp only at E33
       refine zsq (ZT 1 ?_)
       refine Z0 ?_
       refine zsq (ZT 1 ?_)
       refine Z0 ?_
       refine zsq (zsq ?_)
       refine ZT 1 ?_
       refine Z0 ?_
       obtain ⟨e_3, E35, H36⟩ := zbi E33
       refine zjn (α := { y : List GEntry // e_3 = y } × Nat) (fun | ⟨⟨out3, _⟩, g3⟩ => ⟨upd 5 (accV 40 g3 (List.map eGEntry out3)) noFr, upd 0 (some (.bx [.v (.int .i64 0), .v (.string ByteArray.empty), .v (.slice none 0 0), .v (.string ByteArray.empty), .v (.string ByteArray.empty), .v (.slice none 0 0), .v (.int .i64 0)])) (upd 7 (some (.bx [.v (.int .i64 t47.1.kind), .v (.string t47.1.name), .d (.sl (List.map eS t47.1.users)) true, .v (.string t47.1.owner), .v (.string t47.1.group), .d (.sl (List.map eGEntry t47.1.acl)) true, .v (.int .i64 t47.1.at_)])) (upd 18 (some (.bx [.v (.int .i64 t56.1.kind), .v (.string t56.1.name), .d (.sl (List.map eS t56.1.users)) true, .v (.string t56.1.owner), .v (.string t56.1.group), .d (.sl (List.map eGEntry t56.1.acl)) true, .v (.int .i64 t56.1.at_)])) (upd 40 (accO 4 g3 false (List.map eGEntry out3)) noHp))), 41⟩) ?_ ?_
       ·refine zbk ?_
        refine zlp (α := { q : (Nat × (List GEntry × Int)) × Nat // gain_New_L1 n t5 t70 q.1.1 q.1.2 = some e_3 }) (fun | ⟨⟨⟨c, ⟨out, t10⟩⟩, g⟩, _⟩ => ⟨upd 1 (.v (.int .i64 t5)) (upd 5 (accV 40 g (List.map eGEntry out)) (upd 8 (.d (.sl (List.map eGEntry t70.1)) false) (upd 9 (.v (.int .i64 (t70.1.length : Int))) (upd 10 (.v (.int .i64 t10)) noFr)))), upd 0 (some (.bx [.v (.int .i64 0), .v (.string ByteArray.empty), .v (.slice none 0 0), .v (.string ByteArray.empty), .v (.string ByteArray.empty), .v (.slice none 0 0), .v (.int .i64 0)])) (upd 7 (some (.bx [.v (.int .i64 t47.1.kind), .v (.string t47.1.name), .d (.sl (List.map eS t47.1.users)) true, .v (.string t47.1.owner), .v (.string t47.1.group), .d (.sl (List.map eGEntry t47.1.acl)) true, .v (.int .i64 t47.1.at_)])) (upd 18 (some (.bx [.v (.int .i64 t56.1.kind), .v (.string t56.1.name), .d (.sl (List.map eS t56.1.users)) true, .v (.string t56.1.owner), .v (.string t56.1.group), .d (.sl (List.map eGEntry t56.1.acl)) true, .v (.int .i64 t56.1.at_)])) (upd 40 (accO 4 g false (List.map eGEntry out)) noHp))), 41⟩) (fun q => q.1.1.1) ⟨((n, ([], 0)), 0), E35⟩ ?_ ?_
        ·exact ZR []
        ·rintro ⟨⟨⟨c, ⟨out, t10⟩⟩, g⟩, L37⟩
         rcases c with _ | c
         ·exact Zx L37
         ·unfold gain_New_L1 at L37
          try dsimp only at L37
          refine ZT 1 ?_
          refine Z0 ?_
          rcases zit L37 with ⟨c60, H61⟩ | ⟨c60, H61⟩
          ·obtain ⟨x2, b62, H63⟩ := zbi H61
           obtain ⟨h64, h65⟩ := zix b62
           try simp only [Int.reduceToNat, Int.toNat_natCast] at h65
           have h66 := map_at eGEntry h65
           refine Z1 (Y3 c60 (zno .i64 h64) h66) ?_
           rcases zit H63 with ⟨c68, H69⟩ | ⟨c68, H69⟩
           ·refine Z1 (Y4 c60 (zno .i64 h64) h66 c68) ?_
            rcases zit H69 with ⟨c70, H71⟩ | ⟨c70, H71⟩
            ·obtain ⟨t252, b72, H73⟩ := zbi H71
             refine Z1 (Y5 c60 (zno .i64 h64) h66 c68 c70) ?_
             refine ZD0 (gain_digit_ok b72) ?_
             refine Z1 (Y5 c60 (zno .i64 h64) h66 c68 c70) ?_
             refine Rd_endF (by rfl) ?_
             obtain ⟨l, b74, H75⟩ := zbi H73
             obtain ⟨h76, h77⟩ := app_inv b74
             have h76 : out.length + 1 ≤ 4294967296 := h76
             have h78 : List.map eGEntry out ++ [[.v (.int .i64 x2.kind), .v (.bool false), .v (.string x2.name), .v (.int .i64 (IntKind.i64.wrap (an x2.bits t252 : Int)))]] = List.map eGEntry l := app_map eGEntry h77
             have h79 : out.length + 1 = l.length := app_len h77
             have h80 : l.length ≤ 4294967296 := by omega
             have q81 : 0 < l.length := by omega
             refine Z1 (Y2 (Y6 c60 (zno .i64 h64) h66 c68 c70 h76) (Y3 h78 h79 h80)) ?_
             rcases out with _ | ⟨q0, q1⟩
             ·try simp only [List.map_nil, accI, accN]
              exact ⟨⟨((c, (l, (IntKind.i64.wrap (t10 + 1)))), 0), H75⟩, ZR [(40, 65)], Nat.lt_succ_self _⟩
             ·try simp only [List.map_cons, accI, accN]
              exact ⟨⟨((c, (l, (IntKind.i64.wrap (t10 + 1)))), (g + 1)), H75⟩, ZR [(40, 40)], Nat.lt_succ_self _⟩
            ·refine Z1 (Y5 c60 (zno .i64 h64) h66 c68 c70) ?_
             rcases zit H71 with ⟨c82, H83⟩ | ⟨c82, H83⟩
             ·obtain ⟨t332, b84, H85⟩ := zbi H83
              refine Z1 (Y6 c60 (zno .i64 h64) h66 c68 c70 c82) ?_
              refine ZD0 (gain_digit_ok b84) ?_
              refine Z1 (Y6 c60 (zno .i64 h64) h66 c68 c70 c82) ?_
              refine Rd_endF (by rfl) ?_
              obtain ⟨l2, b86, H87⟩ := zbi H85
              obtain ⟨h88, h89⟩ := app_inv b86
              have h88 : out.length + 1 ≤ 4294967296 := h88
              have h90 : List.map eGEntry out ++ [[.v (.int .i64 x2.kind), .v (.bool false), .v (.string x2.name), .v (.int .i64 (IntKind.i64.wrap (an x2.bits t332 : Int)))]] = List.map eGEntry l2 := app_map eGEntry h89
              have h91 : out.length + 1 = l2.length := app_len h89
              have h92 : l2.length ≤ 4294967296 := by omega
              have q93 : 0 < l2.length := by omega
              refine Z1 (Y2 (Y6 c60 (zno .i64 h64) h66 c68 c70 c82) (Y4 h88 h90 h91 h92)) ?_
              rcases out with _ | ⟨q0, q1⟩
              ·try simp only [List.map_nil, accI, accN]
               exact ⟨⟨((c, (l2, (IntKind.i64.wrap (t10 + 1)))), 0), H87⟩, ZR [(40, 67)], Nat.lt_succ_self _⟩
              ·try simp only [List.map_cons, accI, accN]
               exact ⟨⟨((c, (l2, (IntKind.i64.wrap (t10 + 1)))), (g + 1)), H87⟩, ZR [(40, 40)], Nat.lt_succ_self _⟩
             ·refine Z1 (Y6 c60 (zno .i64 h64) h66 c68 c70 c82) ?_
              rcases zit H83 with ⟨c94, H95⟩ | ⟨c94, H95⟩
              ·obtain ⟨t412, b96, H97⟩ := zbi H95
               refine Z1 (Y2 (Y6 c60 (zno .i64 h64) h66 c68 c70 c82) c94) ?_
               refine ZD0 (gain_digit_ok b96) ?_
               refine Z1 (Y2 (Y6 c60 (zno .i64 h64) h66 c68 c70 c82) c94) ?_
               refine Rd_endF (by rfl) ?_
               obtain ⟨l3, b98, H99⟩ := zbi H97
               obtain ⟨h100, h101⟩ := app_inv b98
               have h100 : out.length + 1 ≤ 4294967296 := h100
               have h102 : List.map eGEntry out ++ [[.v (.int .i64 x2.kind), .v (.bool false), .v (.string x2.name), .v (.int .i64 (IntKind.i64.wrap (an x2.bits t412 : Int)))]] = List.map eGEntry l3 := app_map eGEntry h101
               have h103 : out.length + 1 = l3.length := app_len h101
               have h104 : l3.length ≤ 4294967296 := by omega
               have q105 : 0 < l3.length := by omega
               refine Z1 (Y2 (Y6 c60 (zno .i64 h64) h66 c68 c70 c82) (Y5 c94 h100 h102 h103 h104)) ?_
               rcases out with _ | ⟨q0, q1⟩
               ·try simp only [List.map_nil, accI, accN]
                exact ⟨⟨((c, (l3, (IntKind.i64.wrap (t10 + 1)))), 0), H99⟩, ZR [(40, 69)], Nat.lt_succ_self _⟩
               ·try simp only [List.map_cons, accI, accN]
                exact ⟨⟨((c, (l3, (IntKind.i64.wrap (t10 + 1)))), (g + 1)), H99⟩, ZR [(40, 40)], Nat.lt_succ_self _⟩
              ·obtain ⟨l4, b106, H107⟩ := zbi H95
               obtain ⟨h108, h109⟩ := app_inv b106
               have h108 : out.length + 1 ≤ 4294967296 := h108
               have h110 : List.map eGEntry out ++ [[.v (.int .i64 x2.kind), .v (.bool false), .v (.string x2.name), .v (.int .i64 x2.bits)]] = List.map eGEntry l4 := app_map eGEntry h109
               have h111 : out.length + 1 = l4.length := app_len h109
               have h112 : l4.length ≤ 4294967296 := by omega
               have q113 : 0 < l4.length := by omega
               refine Z1 (Y2 (Y6 c60 (zno .i64 h64) h66 c68 c70 c82) (Y5 c94 h108 h110 h111 h112)) ?_
               rcases out with _ | ⟨q0, q1⟩
               ·try simp only [List.map_nil, accI, accN]
                exact ⟨⟨((c, (l4, (IntKind.i64.wrap (t10 + 1)))), 0), H107⟩, ZR [(40, 62)], Nat.lt_succ_self _⟩
               ·try simp only [List.map_cons, accI, accN]
                exact ⟨⟨((c, (l4, (IntKind.i64.wrap (t10 + 1)))), (g + 1)), H107⟩, ZR [(40, 40)], Nat.lt_succ_self _⟩
           ·refine Z1 (Y4 c60 (zno .i64 h64) h66 c68) ?_
            exact ⟨⟨((c, (out, (IntKind.i64.wrap (t10 + 1)))), g), H69⟩, ZR [(40, 40)], Nat.lt_succ_self _⟩
          ·refine Z1 c60 ?_
           obtain rfl := Zi H61
           exact ⟨⟨⟨out, rfl⟩, g⟩, ZR [(40, 40)]⟩
       ·rintro ⟨⟨out3, he114⟩, g3⟩
        obtain rfl := he114.symm
        try dsimp only at H36
        refine ZT 1 ?_
        refine Z0 ?_
        obtain rfl := Option.some.inj H36
        exact endJ_ret ⟨⟨out3, rfl⟩, g3⟩ (ZR [(40, 40)])
      rintro v116 hp117 nx118 ⟨⟨⟨t43, he115⟩, g4⟩, rfl, rfl, rfl⟩
      obtain rfl := he115.symm
      try dsimp only at H34
      dsimp only
      refine Z0 ?_
      rcases zit H34 with ⟨c119, H120⟩ | ⟨c119, H120⟩
      ·refine Z1 c119 ?_
       obtain ⟨e_4, E121, H122⟩ := zbi H120
       refine onCall_inl (InlOK.mono (inl_runRJ (α := { y : List GEntry // e_4 = y }) tab_ok Tryz.func46 rfl (by kernel_rfl) (by kernel_rfl) (by simp [Tryz.f46]) (fun | ⟨t22, _⟩ => ⟨upd 2 (.so 47 0 0 (t22.length)) noFr, upd 0 (some (.bx [.v (.int .i64 0), .v (.string ByteArray.empty), .v (.slice none 0 0), .v (.string ByteArray.empty), .v (.string ByteArray.empty), .v (.slice none 0 0), .v (.int .i64 0)])) (upd 7 (some (.bx [.v (.int .i64 t47.1.kind), .v (.string t47.1.name), .d (.sl (List.map eS t47.1.users)) true, .v (.string t47.1.owner), .v (.string t47.1.group), .d (.sl (List.map eGEntry t47.1.acl)) true, .v (.int .i64 t47.1.at_)])) (upd 18 (some (.bx [.v (.int .i64 t56.1.kind), .v (.string t56.1.name), .d (.sl (List.map eS t56.1.users)) true, .v (.string t56.1.owner), .v (.string t56.1.group), .d (.sl (List.map eGEntry t56.1.acl)) true, .v (.int .i64 t56.1.at_)])) (upd 40 (accO 4 g4 false (List.map eGEntry t43)) (upd 47 (some (.rw (List.map eGEntry t22) 4 0 false false)) noHp)))), 48⟩) (fun | ⟨t22, _⟩ => .so 47 0 0 (t22.length)) (by rintro ⟨t22, he131⟩; first | ((simp -implicitDefEqProofs only [go_sem, ↓reduceIte, Tryz.f46]) <;> rfl) | rfl) ?_) ?_)
       ·unfold gain_New_C2_gain_plain at E121
        try dsimp only at E121
        refine ZT 1 ?_
        obtain ⟨t44, b123, H124⟩ := zbi E121
        refine Z0 ?_
        refine ZC0 (gain_digit_ok b123) ?_
        obtain ⟨t7, b125, H126⟩ := zbi H124
        refine Z0 ?_
        refine ZC0 (gain_digit_ok b125) ?_
        obtain ⟨t103, b127, H128⟩ := zbi H126
        refine Z0 ?_
        refine ZC0 (gain_digit_ok b127) ?_
        obtain ⟨t13, b129, H130⟩ := zbi H128
        refine Z0 ?_
        refine ZC0 (gain_digit_ok b129) ?_
        refine Z0 ?_
        obtain rfl := Option.some.inj H130
        exact endJ_ret ⟨[(⟨1, false, ByteArray.empty, t44⟩ : GEntry), (⟨3, false, ByteArray.empty, t7⟩ : GEntry), (⟨5, false, ByteArray.empty, t103⟩ : GEntry), (⟨6, false, ByteArray.empty, t13⟩ : GEntry)], rfl⟩ (ZR [(47, 60)])
       rintro v132 hp133 nx134 ⟨⟨t22, he131⟩, rfl, rfl, rfl⟩
       obtain rfl := he131.symm
       try dsimp only at H122
       dsimp only
       refine Z0 ?_
       rcases zit H122 with ⟨c135, H136⟩ | ⟨c135, H136⟩
       ·obtain ⟨t89, b137, H138⟩ := zbi H136
        refine Z1 c135 ?_
        refine ZC0 (gain_byDefault_ok b137) ?_
        obtain ⟨l5, b139, H140⟩ := zbi H138
        obtain ⟨h141, h142⟩ := app_inv b139
        have h141 : t22.length + t89.length ≤ 4294967296 := h141
        have h143 : List.map eGEntry t22 ++ List.map eGEntry t89 = List.map eGEntry l5 := app_map eGEntry h142
        have h144 : t22.length + t89.length = l5.length := app_len h142
        have h145 : l5.length ≤ 4294967296 := by omega
        obtain ⟨t93, b146, H147⟩ := zbi H140
        refine Z1 (Y6 c135 (chk_map (n := 4) (f := eGEntry) (fun _ => rfl) t89) h141 h143 h144 h145) ?_
        refine ZC1 (Y6 c135 (chk_map (n := 4) (f := eGEntry) (fun _ => rfl) t89) h141 h143 h144 h145) (mask_Acl_ok b146) ?_
        refine Z1 (Y6 c135 (chk_map (n := 4) (f := eGEntry) (fun _ => rfl) t89) h141 h143 h144 h145) ?_
        rcases zit H147 with ⟨c148, H149⟩ | ⟨c148, H149⟩
        ·refine Z1 (Y2 (Y6 c135 (chk_map (n := 4) (f := eGEntry) (fun _ => rfl) t89) h141 h143 h144 h145) c148) ?_
         obtain rfl := Zi H149
         exact ZE0
        ·refine Z1 (Y2 (Y6 c135 (chk_map (n := 4) (f := eGEntry) (fun _ => rfl) t89) h141 h143 h144 h145) c148) ?_
         obtain rfl := Zi H149
         exact ZE0
       ·obtain ⟨t932, b150, H151⟩ := zbi H136
        refine Z1 c135 ?_
        refine ZC1 c135 (mask_Acl_ok b150) ?_
        refine Z1 c135 ?_
        rcases zit H151 with ⟨c152, H153⟩ | ⟨c152, H153⟩
        ·refine Z1 (Y2 c135 c152) ?_
         obtain rfl := Zi H153
         exact ZE0
        ·refine Z1 (Y2 c135 c152) ?_
         obtain rfl := Zi H153
         exact ZE0
      ·refine Z1 c119 ?_
       rcases zit H120 with ⟨c154, H155⟩ | ⟨c154, H155⟩
       ·obtain ⟨t892, b156, H157⟩ := zbi H155
        refine Z1 (Y2 c119 c154) ?_
        refine ZC0 (gain_byDefault_ok b156) ?_
        refine Z1 (Y3 c119 c154 (chk_map (n := 4) (f := eGEntry) (fun _ => rfl) t892)) ?_
        rcases zit H157 with ⟨c158, H159⟩ | ⟨c158, H159⟩
        ·have e160 : t43 = [] := List.eq_nil_of_length_eq_zero (of_decide_eq_true c158)
         subst e160
         simp only [List.map_nil, accV_nil, accO_nil]
         try simp only [accK, accB]
         obtain ⟨l6, b161, H162⟩ := zbi H159
         obtain ⟨h163, h164⟩ := app_inv b161
         have h164 : t892 = l6 := h164
         subst h164
         have h163 : t892.length ≤ 4294967296 := by have := h163; simpa using this
         obtain ⟨t933, b165, H166⟩ := zbi H162
         refine Z1 (Y4 c119 c154 (chk_map (n := 4) (f := eGEntry) (fun _ => rfl) t892) h163) ?_
         refine ZC1 (Y4 c119 c154 (chk_map (n := 4) (f := eGEntry) (fun _ => rfl) t892) h163) (mask_Acl_ok b165) ?_
         refine Z1 (Y4 c119 c154 (chk_map (n := 4) (f := eGEntry) (fun _ => rfl) t892) h163) ?_
         rcases zit H166 with ⟨c167, H168⟩ | ⟨c167, H168⟩
         ·refine Z1 (Y5 c119 c154 (chk_map (n := 4) (f := eGEntry) (fun _ => rfl) t892) h163 c167) ?_
          obtain rfl := Zi H168
          exact ZE0
         ·refine Z1 (Y5 c119 c154 (chk_map (n := 4) (f := eGEntry) (fun _ => rfl) t892) h163 c167) ?_
          obtain rfl := Zi H168
          exact ZE0
        ·have q169 : 0 < t43.length := by have := of_decide_eq_false c158; omega
         have h170 : ∀ i, accK i (List.map eGEntry t43) = [i] := fun i => by cases hx : t43 with | nil => (rw [hx] at q169; simp at q169) | cons a r => rfl
         have h171 : ∀ b, accB b (List.map eGEntry t43) = b := fun b => by cases hx : t43 with | nil => (rw [hx] at q169; simp at q169) | cons a r => rfl
         obtain ⟨l7, b172, H173⟩ := zbi H159
         obtain ⟨h174, h175⟩ := app_inv b172
         have h174 : t43.length + t892.length ≤ 4294967296 := h174
         have h176 : List.map eGEntry t43 ++ List.map eGEntry t892 = List.map eGEntry l7 := app_map eGEntry h175
         have h177 : t43.length + t892.length = l7.length := app_len h175
         have h178 : l7.length ≤ 4294967296 := by omega
         have q179 : 0 < l7.length := by omega
         obtain ⟨t934, b180, H181⟩ := zbi H173
         refine Z1 (Y3 (Y6 c119 c154 (chk_map (n := 4) (f := eGEntry) (fun _ => rfl) t892) c158 h170 h171) (Y6 q169 (YV (f := eGEntry) q169) (YO (f := eGEntry) q169) h174 h176 h177) h178) ?_
         refine ZC1 (Y3 (Y6 c119 c154 (chk_map (n := 4) (f := eGEntry) (fun _ => rfl) t892) c158 h170 h171) (Y6 q169 (YV (f := eGEntry) q169) (YO (f := eGEntry) q169) h174 h176 h177) h178) (mask_Acl_ok b180) ?_
         refine Z1 (Y3 (Y6 c119 c154 (chk_map (n := 4) (f := eGEntry) (fun _ => rfl) t892) c158 h170 h171) (Y6 q169 (YV (f := eGEntry) q169) (YO (f := eGEntry) q169) h174 h176 h177) h178) ?_
         rcases zit H181 with ⟨c182, H183⟩ | ⟨c182, H183⟩
         ·refine Z1 (Y3 (Y6 c119 c154 (chk_map (n := 4) (f := eGEntry) (fun _ => rfl) t892) c158 h170 h171) (Y6 q169 (YV (f := eGEntry) q169) (YO (f := eGEntry) q169) h174 h176 h177) (Y2 h178 c182)) ?_
          obtain rfl := Zi H183
          exact ZE0
         ·refine Z1 (Y3 (Y6 c119 c154 (chk_map (n := 4) (f := eGEntry) (fun _ => rfl) t892) c158 h170 h171) (Y6 q169 (YV (f := eGEntry) q169) (YO (f := eGEntry) q169) h174 h176 h177) (Y2 h178 c182)) ?_
          obtain rfl := Zi H183
          exact ZE0
       ·obtain ⟨t935, b184, H185⟩ := zbi H155
        refine Z1 (Y2 c119 c154) ?_
        refine ZC1 (Y2 c119 c154) (mask_Acl_ok b184) ?_
        refine Z1 (Y2 c119 c154) ?_
        rcases zit H185 with ⟨c186, H187⟩ | ⟨c186, H187⟩
        ·refine Z1 (Y3 c119 c154 c186) ?_
         obtain rfl := Zi H187
         exact ZE0
        ·refine Z1 (Y3 c119 c154 c186) ?_
         obtain rfl := Zi H187
         exact ZE0
    ·refine Z1 (Y3 c17 c21 c27) ?_
     obtain rfl := Zi H28
     exact ZE0
end Go.Proofs.YtgmhbmcdlkajdaaGreatDoor.Ab
