/-
 Functions, read off the code.
-/
import Derived.Test.YtgmhbmcdlkajdaaGreatDoorGra
namespace Go.Proofs.YtgmhbmcdlkajdaaGreatDoor.Ab
open Go.RowKit
def law19_GainRule_L1 (n : Nat) (t28 : List GFile) (t32 : ByteArray) : Nat → (Int × ByteArray × List ByteArray × ByteArray × ByteArray × List GEntry × Int × Int) → Option (Int × ByteArray × List ByteArray × ByteArray × ByteArray × List GEntry × Int)
 | 0, _ => none
 | c + 1, (t1303, t1313, t1322, t1332, t1342, t135, t136, t14) =>
  (if (decide (t14 < (t28.length : Int))) then
   (idx t28 t14).bind fun x2 =>
   (if (x2.kind == 3) then
    (ref17_Parent n t32).bind fun t632 =>
    (if (x2.name.toList == t632.toList) then
     law19_GainRule_L1 n t28 t32 c (x2.kind, x2.name, x2.users, x2.owner, x2.group, x2.acl, x2.at_, (IntKind.i64.wrap (t14 + 1)))
    else
     law19_GainRule_L1 n t28 t32 c (t1303, t1313, t1322, t1332, t1342, t135, t136, (IntKind.i64.wrap (t14 + 1))))
   else
    law19_GainRule_L1 n t28 t32 c (t1303, t1313, t1322, t1332, t1342, t135, t136, (IntKind.i64.wrap (t14 + 1))))
  else
   some (t1303, t1313, t1322, t1332, t1342, t135, t136))
def law19_GainRule_L2 (n : Nat) (t81 : List GEntry × Bool) : Nat → (List GEntry × Int) → Option (List GEntry)
 | 0, _ => none
 | c + 1, (t17, t19) =>
  (if (decide (t19 < (t81.1.length : Int))) then
   (idx t81.1 t19).bind fun x4 =>
   (if x4.default then
    (app t17 [(⟨x4.kind, true, x4.name, x4.bits⟩ : GEntry)]).bind fun l =>
    law19_GainRule_L2 n t81 c (l, (IntKind.i64.wrap (t19 + 1)))
   else
    law19_GainRule_L2 n t81 c (t17, (IntKind.i64.wrap (t19 + 1))))
  else
   some t17)
def law19_GainRule_L4 (n : Nat) (t173 : List GEntry) (x17 : GEntry) (t232 : Int) : Nat → (Bool × Int) → Option ((Bool) ⊕ Bool)
 | 0, _ => none
 | c + 1, (t247, t253) =>
  (if (decide (t253 < (t173.length : Int))) then
   (
    (idx t173 t253).bind fun x24 =>
    (if (x24.kind == x17.kind) then
     some (x24.name.toList == x17.name.toList)
    else
     some false) : Option (Bool)).bind fun t264 =>
   (
    (if t247 then
     some true
    else
     some t264) : Option (Bool)).bind fun t248 =>
   (if t264 then
    (if (x17.kind == 2) then
     (idx t173 t253).bind fun x25 =>
     (if (x25.bits != x17.bits) then
      some (.inr false)
     else
      (if (x17.bits != (IntKind.i64.wrap (an x25.bits t232 : Int))) then
       some (.inr false)
      else
       law19_GainRule_L4 n t173 x17 t232 c (t248, (IntKind.i64.wrap (t253 + 1)))))
    else
     (if (x17.kind == 3) then
      (idx t173 t253).bind fun x26 =>
      (if (x26.bits != x17.bits) then
       some (.inr false)
      else
       (if (x17.bits != (IntKind.i64.wrap (an x26.bits t232 : Int))) then
        some (.inr false)
       else
        law19_GainRule_L4 n t173 x17 t232 c (t248, (IntKind.i64.wrap (t253 + 1)))))
     else
      (if (x17.kind == 4) then
       (idx t173 t253).bind fun x27 =>
       (if (x27.bits != x17.bits) then
        some (.inr false)
       else
        (if (x17.bits != (IntKind.i64.wrap (an x27.bits t232 : Int))) then
         some (.inr false)
        else
         law19_GainRule_L4 n t173 x17 t232 c (t248, (IntKind.i64.wrap (t253 + 1)))))
      else
       (idx t173 t253).bind fun x28 =>
       (if (x17.bits != (IntKind.i64.wrap (an x28.bits t232 : Int))) then
        some (.inr false)
       else
        law19_GainRule_L4 n t173 x17 t232 c (t248, (IntKind.i64.wrap (t253 + 1)))))))
   else
    law19_GainRule_L4 n t173 x17 t232 c (t248, (IntKind.i64.wrap (t253 + 1))))
  else
   some (.inl t247))
def law19_GainRule_L3 (n : Nat) (t2 : Int) (t40 : GFile × Int) (t173 : List GEntry) : Nat → (List GEntry × Int × Int) → Option ((List GEntry × Int) ⊕ Bool)
 | 0, _ => none
 | c + 1, (t18, t20, t21) =>
  (if (decide (t21 < (t40.1.acl.length : Int))) then
   (idx t40.1.acl t21).bind fun x17 =>
   (if x17.default then
    (app t18 [(⟨x17.kind, true, x17.name, x17.bits⟩ : GEntry)]).bind fun l2 =>
    law19_GainRule_L3 n t2 t40 t173 c (l2, t20, (IntKind.i64.wrap (t21 + 1)))
   else
    (idx [0, (sh (IntKind.i64.wrap (an t2 511 : Int)) 6), 7, 7, 7, (IntKind.i64.wrap (an (sh (IntKind.i64.wrap (an t2 511 : Int)) 3) 7 : Int)), (IntKind.i64.wrap (an (IntKind.i64.wrap (an t2 511 : Int)) 7 : Int))] (Int.tmod (IntKind.i64.wrap (an x17.kind 7 : Int)) 7)).bind fun x18 =>
    (
     (if ((t173.length : Int) == 0) then
      some (x17.kind == 3)
     else
      some false) : Option (Bool)).bind fun t1492 =>
    (
     (if t1492 then
      some (IntKind.i64.wrap (an (sh (IntKind.i64.wrap (an t2 511 : Int)) 3) 7 : Int))
     else
      some x18) : Option (Int)).bind fun t232 =>
    (if ((IntKind.i64.wrap (ann x17.bits t232 : Int)) != 0) then
     some (.inr false)
    else
     (
      law19_GainRule_L4 n t173 x17 t232 n (((t173.length : Int) == 0), 0) : Option ((Bool) ⊕ Bool)).bind fun
      | .inl t2410 =>
       (if t2410 then
        (if ((t173.length : Int) == 0) then
         (if (x17.name.toList == ({ data := #[] } : ByteArray).toList) then
          law19_GainRule_L3 n t2 t40 t173 c (t18, (IntKind.i64.wrap (t20 + 1)), (IntKind.i64.wrap (t21 + 1)))
         else
          some (.inr false))
        else
         law19_GainRule_L3 n t2 t40 t173 c (t18, (IntKind.i64.wrap (t20 + 1)), (IntKind.i64.wrap (t21 + 1))))
       else
        some (.inr false))
      | .inr r => some (.inr r)))
  else
   some (.inl (t18, t20)))
def law19_GainRule (n : Nat) (t0 : List Int) (t1 : Int) (t2 : Int) (t3 : Bool) : Option Bool :=
 (law18_Valid n t0).bind fun t28 =>
 (law19_Path n (IntKind.i64.wrap ((IntKind.i64.wrap (an t1 3 : Int)) + 8))).bind fun t32 =>
 (gain_New n t28 t3 t32 ({ data := #[117] }) ({ data := #[103] }) (IntKind.i64.wrap (an t2 511 : Int))).bind fun t40 =>
 (
  law19_GainRule_L1 n t28 t32 n (0, ByteArray.empty, [], ByteArray.empty, ByteArray.empty, [], 0, 0) : Option (Int × ByteArray × List ByteArray × ByteArray × ByteArray × List GEntry × Int)).bind fun (t1307, t1317, t1325, t1335, t1345, t1353, t1363) =>
 (if (t1307 == 0) then
  (
   (if (t40.2 == 21) then
    (law19_awake n).bind fun t76 =>
    some t76
   else
    some false) : Option (Bool)).bind fun t8 =>
  some t8
 else
  (ref17_Acl n t1353).bind fun t81 =>
  (
   (if (t40.2 != 0) then
    some true
   else
    some (!t81.2)) : Option (Bool)).bind fun t89 =>
  (if t89 then
   some false
  else
   (
    law19_GainRule_L2 n t81 n ([], 0) : Option (List GEntry)).bind fun t173 =>
   (
    law19_GainRule_L3 n t2 t40 t173 n ([], 0, 0) : Option ((List GEntry × Int) ⊕ Bool)).bind fun
    | .inl (t183, t203) =>
     (
      (if (decide (0 < (t173.length : Int))) then
       (if (t203 != (t173.length : Int)) then
        some true
       else
        (if ((t173.length : Int) == 0) then
         some (t203 != 4)
        else
         some false))
      else
       (if ((t173.length : Int) == 0) then
        some (t203 != 4)
       else
        some false)) : Option (Bool)).bind fun t259 =>
     (if t259 then
      some false
     else
      (if t3 then
       (ref17_SameAcl n t183 t173).bind fun t275 =>
       (if t275 then
        (if (t40.1.kind == 3) then
         (if (t40.1.owner.toList == ({ data := #[117] } : ByteArray).toList) then
          (if (t40.1.group.toList == ({ data := #[103] } : ByteArray).toList) then
           (if (t40.1.name.toList == t32.toList) then
            (law19_awake n).bind fun t298 =>
            some t298
           else
            some false)
          else
           some false)
         else
          some false)
        else
         some false)
       else
        some false)
      else
       (
        (if ((t183.length : Int) == 0) then
         (if (t40.1.kind == 4) then
          (law19_awake n).bind fun t271 =>
          some t271
         else
          some false)
        else
         some false) : Option (Bool)).bind fun t82 =>
       some t82))
    | .inr r => some r))
set_option maxHeartbeats 8000000 in
theorem law19_GainRule_ok {n : Nat} {t0 : List Int} {t1 : Int} {t2 : Int} {t3 : Bool} {r : Bool} (H : law19_GainRule n t0 t1 t2 t3 = some r) : PureOK Tryz.prog 6 [D.sl (List.map eI t0), D.v (.int .i64 t1), D.v (.int .i64 t2), D.v (.bool t3)] (D.v (.bool r)) true := by
 unfold law19_GainRule at H
 refine ZP tab_ok fol (rs := #[.tmp 8]) Tryz.func6 ?_
 refine zsq (ZT 1 ?_)
 refine Z0 ?_
 refine zsq (ZT 1 ?_)
 obtain ⟨t28, b1, H2⟩ := zbi H
 refine Z0 ?_
 refine ZC0 (law18_Valid_ok b1) ?_
 refine Z0 ?_
 refine zsq (ZT 1 ?_)
 obtain ⟨t32, b3, H4⟩ := zbi H2
 refine Z0 ?_
 refine ZC0 (law19_Path_ok b3) ?_
 refine Z0 ?_
 refine zsq (ZT 1 ?_)
 refine Z0 ?_
 refine zsq (ZT 1 ?_)
 obtain ⟨t40, b5, H6⟩ := zbi H4
 refine Z0 ?_
 refine ZC0 (gain_New_ok b5) ?_
 refine Z0 ?_
 refine zsq (ZT 1 ?_)
 refine Z0 ?_
 refine zsq (zsq ?_)
 refine ZT 1 ?_
 refine Z0 ?_
 obtain ⟨e_, E7, H8⟩ := zbi H6
 refine zjn (α := { y : Int × ByteArray × List ByteArray × ByteArray × ByteArray × List GEntry × Int // e_ = y }) (fun | ⟨⟨t1307, t1317, t1325, t1335, t1345, t1353, t1363⟩, _⟩ => ⟨upd 2 (.v (.int .i64 (IntKind.i64.wrap (an t2 511 : Int)))) (upd 3 (.v (.bool t3)) (upd 10 (.v (.string t32)) (upd 11 (.pt 0 0) (upd 12 (.v (.int .i64 t40.2)) (upd 13 (.pt 1 0) noFr))))), upd 0 (some (.bx [.v (.int .i64 t40.1.kind), .v (.string t40.1.name), .d (.sl (List.map eS t40.1.users)) false, .v (.string t40.1.owner), .v (.string t40.1.group), .d (.sl (List.map eGEntry t40.1.acl)) false, .v (.int .i64 t40.1.at_)])) (upd 1 (some (.bx [.v (.int .i64 t1307), .v (.string t1317), .d (.sl (List.map eS t1325)) false, .v (.string t1335), .v (.string t1345), .d (.sl (List.map eGEntry t1353)) false, .v (.int .i64 t1363)])) noHp), 2⟩) ?_ ?_
 ·refine zbk ?_
  refine zlp (α := { q : Nat × (Int × ByteArray × List ByteArray × ByteArray × ByteArray × List GEntry × Int × Int) // law19_GainRule_L1 n t28 t32 q.1 q.2 = some e_ }) (fun | ⟨⟨c, ⟨t1303, t1313, t1322, t1332, t1342, t135, t136, t14⟩⟩, _⟩ => ⟨upd 2 (.v (.int .i64 (IntKind.i64.wrap (an t2 511 : Int)))) (upd 3 (.v (.bool t3)) (upd 9 (.d (.sl (List.map eGFile t28)) false) (upd 10 (.v (.string t32)) (upd 11 (.pt 0 0) (upd 12 (.v (.int .i64 t40.2)) (upd 13 (.pt 1 0) (upd 14 (.v (.int .i64 t14)) noFr))))))), upd 0 (some (.bx [.v (.int .i64 t40.1.kind), .v (.string t40.1.name), .d (.sl (List.map eS t40.1.users)) false, .v (.string t40.1.owner), .v (.string t40.1.group), .d (.sl (List.map eGEntry t40.1.acl)) false, .v (.int .i64 t40.1.at_)])) (upd 1 (some (.bx [.v (.int .i64 t1303), .v (.string t1313), .d (.sl (List.map eS t1322)) false, .v (.string t1332), .v (.string t1342), .d (.sl (List.map eGEntry t135)) false, .v (.int .i64 t136)])) noHp), 2⟩) (fun q => q.1.1) ⟨(n, (0, ByteArray.empty, [], ByteArray.empty, ByteArray.empty, [], 0, 0)), E7⟩ ?_ ?_
  ·exact WeakR.trans (m := ⟨upd 2 (.v (.int .i64 (IntKind.i64.wrap (an t2 511 : Int)))) (upd 3 (.v (.bool t3)) (upd 9 (.d (.sl (List.map eGFile t28)) false) (upd 10 (.v (.string t32)) (upd 11 (.pt 20 0) (upd 12 (.v (.int .i64 t40.2)) (upd 13 (.pt 24 0) (upd 14 (.v (.int .i64 0)) (noFr)))))))), upd 20 (some (.bx [.v (.int .i64 t40.1.kind), .v (.string t40.1.name), .d (.sl (List.map eS t40.1.users)) false, .v (.string t40.1.owner), .v (.string t40.1.group), .d (.sl (List.map eGEntry t40.1.acl)) false, .v (.int .i64 t40.1.at_)])) (upd 24 (some (.bx [.v (.int .i64 0), .v (.string ByteArray.empty), .d (.sl (List.map eS [])) false, .v (.string ByteArray.empty), .v (.string ByteArray.empty), .d (.sl (List.map eGEntry [])) false, .v (.int .i64 0)])) (noHp)), 27⟩) (ZR [(0, 20), (1, 24)]) (dat_mk (Nat.le_refl _) (df_upd (dv_same (by rfl)) (df_upd (dv_same (by rfl)) (df_upd (dv_same (by rfl)) (df_upd (dv_same (by rfl)) (df_upd (dv_same (by rfl)) (df_upd (dv_same (by rfl)) (df_upd (dv_same (by rfl)) (df_upd (dv_same (by rfl)) (df_no _))))))))) (dh_upd (dh_eq (by rfl)) (dh_upd (dh_bx (by rfl) (dl_cons (dc_same (by rfl)) (dl_cons (dc_same (by rfl)) (dl_cons (dc_nil (f := eS)) (dl_cons (dc_same (by rfl)) (dl_cons (dc_same (by rfl)) (dl_cons (dc_nil (f := eGEntry)) (dl_cons (dc_same (by rfl)) dl_nil)))))))) dh_no)))
  ·rintro ⟨⟨c, ⟨t1303, t1313, t1322, t1332, t1342, t135, t136, t14⟩⟩, L9⟩
   rcases c with _ | c
   ·exact Zx L9
   ·unfold law19_GainRule_L1 at L9
    try dsimp only at L9
    refine ZT 1 ?_
    refine Z0 ?_
    rcases zit L9 with ⟨c24, H25⟩ | ⟨c24, H25⟩
    ·obtain ⟨x2, b26, H27⟩ := zbi H25
     obtain ⟨h28, h29⟩ := zix b26
     try simp only [Int.reduceToNat, Int.toNat_natCast] at h29
     have h30 := map_at eGFile h29
     refine Z1 (Y3 c24 (zno .i64 h28) h30) ?_
     rcases zit H27 with ⟨c32, H33⟩ | ⟨c32, H33⟩
     ·obtain ⟨t632, b34, H35⟩ := zbi H33
      refine Z1 (Y4 c24 (zno .i64 h28) h30 c32) ?_
      refine ZD0 (ref17_Parent_ok b34) ?_
      refine Z1 (Y4 c24 (zno .i64 h28) h30 c32) ?_
      refine Rd_endF (by rfl) ?_
      refine Z1 (Y4 c24 (zno .i64 h28) h30 c32) ?_
      rcases zit H35 with ⟨c36, H37⟩ | ⟨c36, H37⟩
      ·refine Z1 (Y5 c24 (zno .i64 h28) h30 c32 c36) ?_
       exact ⟨⟨(c, (x2.kind, x2.name, x2.users, x2.owner, x2.group, x2.acl, x2.at_, (IntKind.i64.wrap (t14 + 1)))), H37⟩, ZR [(0, 0), (1, 1)], Nat.lt_succ_self _⟩
      ·refine Z1 (Y5 c24 (zno .i64 h28) h30 c32 c36) ?_
       exact ⟨⟨(c, (t1303, t1313, t1322, t1332, t1342, t135, t136, (IntKind.i64.wrap (t14 + 1)))), H37⟩, ZR [(0, 0), (1, 1)], Nat.lt_succ_self _⟩
     ·refine Z1 (Y4 c24 (zno .i64 h28) h30 c32) ?_
      refine Rd_endF (by rfl) ?_
      refine Z1 (Y4 c24 (zno .i64 h28) h30 c32) ?_
      exact ⟨⟨(c, (t1303, t1313, t1322, t1332, t1342, t135, t136, (IntKind.i64.wrap (t14 + 1)))), H33⟩, ZR [(0, 0), (1, 1)], Nat.lt_succ_self _⟩
    ·refine Z1 c24 ?_
     obtain rfl := Zi H25
     exact ⟨⟨(t1303, t1313, t1322, t1332, t1342, t135, t136), rfl⟩, ZR [(0, 0), (1, 1)]⟩
 ·rintro ⟨⟨t1307, t1317, t1325, t1335, t1345, t1353, t1363⟩, he490⟩
  obtain rfl := he490.symm
  try dsimp only at H8
  refine zsq (zsq ?_)
  refine ZT 1 ?_
  refine Z0 ?_
  rcases zit H8 with ⟨c38, H39⟩ | ⟨c38, H39⟩
  ·refine runR_condT (by rfl) c38 ?_
   refine Z1 c38 ?_
   refine zsq ?_
   obtain ⟨e_2, E40, H41⟩ := zbi H39
   refine zjn (α := { y : Bool // e_2 = y }) (fun | ⟨t8, _⟩ => ⟨upd 8 (.v (.bool t8)) noFr, noHp, 0⟩) ?_ ?_
   ·refine ZT 1 ?_
    refine Z0 ?_
    rcases zit E40 with ⟨c42, H43⟩ | ⟨c42, H43⟩
    ·obtain ⟨t76, b44, H45⟩ := zbi H43
     refine Z1 c42 ?_
     refine ZC0 (law19_awake_ok b44) ?_
     refine Z1 c42 ?_
     obtain rfl := Zi H45
     exact ⟨⟨t76, rfl⟩, ZR []⟩
    ·refine Z1 c42 ?_
     obtain rfl := Zi H43
     exact ⟨⟨false, rfl⟩, ZR []⟩
   ·rintro ⟨t8, he46⟩
    obtain rfl := he46.symm
    try dsimp only at H41
    refine ZT 1 ?_
    refine Z0 ?_
    obtain rfl := Zi H41
    exact ZE0
  ·refine runR_condF (by rfl) c38 ?_
   refine Z1 c38 ?_
   refine ZT 1 ?_
   refine Z1 c38 ?_
   refine zsq (ZT 1 ?_)
   obtain ⟨t81, b47, H48⟩ := zbi H39
   refine Z1 c38 ?_
   refine ZC0 (ref17_Acl_ok b47) ?_
   refine Z1 c38 ?_
   refine zsq (zsq ?_)
   obtain ⟨e_3, E49, H50⟩ := zbi H48
   refine zjn (α := { y : Bool // e_3 = y }) (fun | ⟨t89, _⟩ => ⟨upd 2 (.v (.int .i64 (IntKind.i64.wrap (an t2 511 : Int)))) (upd 3 (.v (.bool t3)) (upd 10 (.v (.string t32)) (upd 11 (.pt 0 0) (upd 15 (.d (.sl (List.map eGEntry t81.1)) false) (upd 89 (.v (.bool t89)) noFr))))), upd 0 (some (.bx [.v (.int .i64 t40.1.kind), .v (.string t40.1.name), .d (.sl (List.map eS t40.1.users)) false, .v (.string t40.1.owner), .v (.string t40.1.group), .d (.sl (List.map eGEntry t40.1.acl)) false, .v (.int .i64 t40.1.at_)])) noHp, 1⟩) ?_ ?_
   ·refine ZT 1 ?_
    refine Z0 ?_
    rcases zit E49 with ⟨c51, H52⟩ | ⟨c51, H52⟩
    ·refine Z1 c51 ?_
     obtain rfl := Zi H52
     exact ⟨⟨true, rfl⟩, ZR [(0, 0)]⟩
    ·refine Z1 c51 ?_
     obtain rfl := Zi H52
     exact ⟨⟨(!t81.2), rfl⟩, ZR [(0, 0)]⟩
   ·rintro ⟨t89, he489⟩
    obtain rfl := he489.symm
    try dsimp only at H50
    refine ZT 1 ?_
    refine Z0 ?_
    rcases zit H50 with ⟨c53, H54⟩ | ⟨c53, H54⟩
    ·refine Z1 c53 ?_
     obtain rfl := Zi H54
     exact ZE0
    ·refine Z1 c53 ?_
     refine zsq (ZT 1 ?_)
     refine Z1 c53 ?_
     refine zsq (zsq ?_)
     refine ZT 1 ?_
     refine Z1 c53 ?_
     obtain ⟨e_4, E55, H56⟩ := zbi H54
     refine zjn (α := { y : List GEntry // e_4 = y } × Nat) (fun | ⟨⟨t173, _⟩, g3⟩ => ⟨upd 2 (.v (.int .i64 (IntKind.i64.wrap (an t2 511 : Int)))) (upd 3 (.v (.bool t3)) (upd 10 (.v (.string t32)) (upd 11 (.pt 0 0) (upd 17 (accV 1 g3 (List.map eGEntry t173)) (upd 18 (.v (.slice none 0 0)) noFr))))), upd 0 (some (.bx [.v (.int .i64 t40.1.kind), .v (.string t40.1.name), .d (.sl (List.map eS t40.1.users)) false, .v (.string t40.1.owner), .v (.string t40.1.group), .d (.sl (List.map eGEntry t40.1.acl)) false, .v (.int .i64 t40.1.at_)])) (upd 1 (accO 4 g3 false (List.map eGEntry t173)) noHp), 2⟩) ?_ ?_
     ·refine zbk ?_
      refine zlp (α := { q : (Nat × (List GEntry × Int)) × Nat // law19_GainRule_L2 n t81 q.1.1 q.1.2 = some e_4 }) (fun | ⟨⟨⟨c, ⟨t17, t19⟩⟩, g⟩, _⟩ => ⟨upd 2 (.v (.int .i64 (IntKind.i64.wrap (an t2 511 : Int)))) (upd 3 (.v (.bool t3)) (upd 10 (.v (.string t32)) (upd 11 (.pt 0 0) (upd 15 (.d (.sl (List.map eGEntry t81.1)) false) (upd 17 (accV 1 g (List.map eGEntry t17)) (upd 18 (.v (.slice none 0 0)) (upd 19 (.v (.int .i64 t19)) noFr))))))), upd 0 (some (.bx [.v (.int .i64 t40.1.kind), .v (.string t40.1.name), .d (.sl (List.map eS t40.1.users)) false, .v (.string t40.1.owner), .v (.string t40.1.group), .d (.sl (List.map eGEntry t40.1.acl)) false, .v (.int .i64 t40.1.at_)])) (upd 1 (accO 4 g false (List.map eGEntry t17)) noHp), 2⟩) (fun q => q.1.1.1) ⟨((n, ([], 0)), 0), E55⟩ ?_ ?_
      ·exact ZR [(0, 0)]
      ·rintro ⟨⟨⟨c, ⟨t17, t19⟩⟩, g⟩, L57⟩
       rcases c with _ | c
       ·exact Zx L57
       ·unfold law19_GainRule_L2 at L57
        try dsimp only at L57
        refine ZT 1 ?_
        refine Z0 ?_
        rcases zit L57 with ⟨c68, H69⟩ | ⟨c68, H69⟩
        ·obtain ⟨x4, b70, H71⟩ := zbi H69
         obtain ⟨h72, h73⟩ := zix b70
         try simp only [Int.reduceToNat, Int.toNat_natCast] at h73
         have h74 := map_at eGEntry h73
         refine Z1 (Y3 c68 (zno .i64 h72) h74) ?_
         rcases zit H71 with ⟨c76, H77⟩ | ⟨c76, H77⟩
         ·obtain ⟨l, b78, H79⟩ := zbi H77
          obtain ⟨h80, h81⟩ := app_inv b78
          have h80 : t17.length + 1 ≤ 4294967296 := h80
          have h82 : List.map eGEntry t17 ++ [[.v (.int .i64 x4.kind), .v (.bool true), .v (.string x4.name), .v (.int .i64 x4.bits)]] = List.map eGEntry l := app_map eGEntry h81
          have h83 : t17.length + 1 = l.length := app_len h81
          have h84 : l.length ≤ 4294967296 := by omega
          have q85 : 0 < l.length := by omega
          refine Z1 (Y2 (Y6 c68 (zno .i64 h72) h74 c76 h80 h82) (Y2 h83 h84)) ?_
          rcases t17 with _ | ⟨q0, q1⟩
          ·try simp only [List.map_nil, accI, accN]
           exact ⟨⟨((c, (l, (IntKind.i64.wrap (t19 + 1)))), 0), H79⟩, ZR [(0, 0), (1, 17)], Nat.lt_succ_self _⟩
          ·try simp only [List.map_cons, accI, accN]
           exact ⟨⟨((c, (l, (IntKind.i64.wrap (t19 + 1)))), (g + 1)), H79⟩, ZR [(0, 0), (1, 1)], Nat.lt_succ_self _⟩
         ·refine Z1 (Y4 c68 (zno .i64 h72) h74 c76) ?_
          exact ⟨⟨((c, (t17, (IntKind.i64.wrap (t19 + 1)))), g), H77⟩, ZR [(0, 0), (1, 1)], Nat.lt_succ_self _⟩
        ·refine Z1 c68 ?_
         obtain rfl := Zi H69
         exact ⟨⟨⟨t17, rfl⟩, g⟩, ZR [(0, 0), (1, 1)]⟩
     ·rintro ⟨⟨t173, he488⟩, g3⟩
      obtain rfl := he488.symm
      try dsimp only at H56
      refine zsq (ZT 1 ?_)
      refine Z0 ?_
      refine zsq (zsq ?_)
      refine ZT 1 ?_
      refine Z0 ?_
      obtain ⟨e_5, E86, H87⟩ := zbi H56
      refine zjn (α := { y : List GEntry × Int // e_5 = .inl y } × Nat × Nat) (fun | ⟨⟨⟨t183, t203⟩, _⟩, ⟨g39, g40⟩⟩ => ⟨upd 3 (.v (.bool t3)) (upd 10 (.v (.string t32)) (upd 11 (.pt 0 0) (upd 17 (accV 1 g39 (List.map eGEntry t173)) (upd 18 (accV 2 g40 (List.map eGEntry t183)) (upd 20 (.v (.int .i64 t203)) noFr))))), upd 0 (some (.bx [.v (.int .i64 t40.1.kind), .v (.string t40.1.name), .d (.sl (List.map eS t40.1.users)) false, .v (.string t40.1.owner), .v (.string t40.1.group), .d (.sl (List.map eGEntry t40.1.acl)) false, .v (.int .i64 t40.1.at_)])) (upd 1 (accO 4 g39 false (List.map eGEntry t173)) (upd 2 (accO 4 g40 false (List.map eGEntry t183)) noHp)), 3⟩) ?_ ?_
      ·refine zbk ?_
       refine zlp (α := { q : (Nat × (List GEntry × Int × Int)) × Nat × Nat // law19_GainRule_L3 n t2 t40 t173 q.1.1 q.1.2 = some e_5 }) (fun | ⟨⟨⟨c, ⟨t18, t20, t21⟩⟩, ⟨g15, g16⟩⟩, _⟩ => ⟨upd 2 (.v (.int .i64 (IntKind.i64.wrap (an t2 511 : Int)))) (upd 3 (.v (.bool t3)) (upd 10 (.v (.string t32)) (upd 11 (.pt 0 0) (upd 17 (accV 1 g15 (List.map eGEntry t173)) (upd 18 (accV 2 g16 (List.map eGEntry t18)) (upd 20 (.v (.int .i64 t20)) (upd 21 (.v (.int .i64 t21)) noFr))))))), upd 0 (some (.bx [.v (.int .i64 t40.1.kind), .v (.string t40.1.name), .d (.sl (List.map eS t40.1.users)) false, .v (.string t40.1.owner), .v (.string t40.1.group), .d (.sl (List.map eGEntry t40.1.acl)) false, .v (.int .i64 t40.1.at_)])) (upd 1 (accO 4 g15 false (List.map eGEntry t173)) (upd 2 (accO 4 g16 false (List.map eGEntry t18)) noHp)), 3⟩) (fun q => q.1.1.1) ⟨((n, ([], 0, 0)), (g3, 0)), E86⟩ ?_ ?_
       ·exact ZR [(0, 0), (1, 1)]
       ·rintro ⟨⟨⟨c, ⟨t18, t20, t21⟩⟩, ⟨g15, g16⟩⟩, L88⟩
        rcases c with _ | c
        ·exact Zx L88
        ·unfold law19_GainRule_L3 at L88
         try dsimp only at L88
         refine zsq (ZT 1 ?_)
         refine Z0 ?_
         rcases zit L88 with ⟨c265, H266⟩ | ⟨c265, H266⟩
         ·refine Z1 c265 ?_
          refine zsq (zbk ?_)
          refine zsq (ZT 1 ?_)
          obtain ⟨x17, b267, H268⟩ := zbi H266
          obtain ⟨h269, h270⟩ := zix b267
          try simp only [Int.reduceToNat, Int.toNat_natCast] at h270
          have h271 := map_at eGEntry h270
          refine Z1 (Y3 c265 (zno .i64 h269) h271) ?_
          refine zsq (ZT 1 ?_)
          refine Z1 (Y3 c265 (zno .i64 h269) h271) ?_
          rcases zit H268 with ⟨c273, H274⟩ | ⟨c273, H274⟩
          ·obtain ⟨l2, b275, H276⟩ := zbi H274
           obtain ⟨h277, h278⟩ := app_inv b275
           have h277 : t18.length + 1 ≤ 4294967296 := h277
           have h279 : List.map eGEntry t18 ++ [[.v (.int .i64 x17.kind), .v (.bool true), .v (.string x17.name), .v (.int .i64 x17.bits)]] = List.map eGEntry l2 := app_map eGEntry h278
           have h280 : t18.length + 1 = l2.length := app_len h278
           have h281 : l2.length ≤ 4294967296 := by omega
           have q282 : 0 < l2.length := by omega
           refine Z1 (Y2 (Y6 c265 (zno .i64 h269) h271 c273 h277 h279) (Y2 h280 h281)) ?_
           refine ZT 1 ?_
           refine Z1 (Y2 (Y6 c265 (zno .i64 h269) h271 c273 h277 h279) (Y2 h280 h281)) ?_
           rcases t18 with _ | ⟨q0, q1⟩
           ·try simp only [List.map_nil, accI, accN]
            exact ⟨⟨((c, (l2, t20, (IntKind.i64.wrap (t21 + 1)))), (g15, 0)), H276⟩, ZR [(0, 0), (1, 1), (2, 20)], Nat.lt_succ_self _⟩
           ·try simp only [List.map_cons, accI, accN]
            exact ⟨⟨((c, (l2, t20, (IntKind.i64.wrap (t21 + 1)))), (g15, (g16 + 1))), H276⟩, ZR [(0, 0), (1, 1), (2, 2)], Nat.lt_succ_self _⟩
          ·refine Z1 (Y4 c265 (zno .i64 h269) h271 c273) ?_
           refine zsq (ZT 1 ?_)
           refine Z1 (Y4 c265 (zno .i64 h269) h271 c273) ?_
           refine zsq (ZT 1 ?_)
           obtain ⟨x18, b283, H284⟩ := zbi H274
           obtain ⟨h285, h286⟩ := zix b283
           try simp only [Int.reduceToNat, Int.toNat_natCast] at h286
           have h287 := map_at eI h286
           simp only [List.map_cons, List.map_nil, eI] at h287
           have h288 := at_lt h286
           simp only [List.length_cons, List.length_nil, Nat.reduceAdd] at h288
           refine Z1 (Y2 (Y6 c265 (zno .i64 h269) h271 c273 (zno .i64 h285) h287) h288) ?_
           refine zsq (zsq ?_)
           obtain ⟨e_13, E289, H290⟩ := zbi H284
           refine zjn (α := { y : Bool // e_13 = y } × Nat × Nat) (fun | ⟨⟨t1492, _⟩, ⟨g17, g18⟩⟩ => ⟨upd 2 (.v (.int .i64 (IntKind.i64.wrap (an t2 511 : Int)))) (upd 3 (.v (.bool t3)) (upd 10 (.v (.string t32)) (upd 11 (.pt 0 0) (upd 17 (accV 1 g17 (List.map eGEntry t173)) (upd 18 (accV 2 g18 (List.map eGEntry t18)) (upd 20 (.v (.int .i64 (IntKind.i64.wrap (t20 + 1)))) (upd 21 (.v (.int .i64 t21)) (upd 22 (.pt 3 0) (upd 23 (.v (.int .i64 x18)) (upd 149 (.v (.bool t1492)) noFr)))))))))), upd 0 (some (.bx [.v (.int .i64 t40.1.kind), .v (.string t40.1.name), .d (.sl (List.map eS t40.1.users)) false, .v (.string t40.1.owner), .v (.string t40.1.group), .d (.sl (List.map eGEntry t40.1.acl)) false, .v (.int .i64 t40.1.at_)])) (upd 1 (accO 4 g17 false (List.map eGEntry t173)) (upd 2 (accO 4 g18 false (List.map eGEntry t18)) (upd 3 (some (.bx [.v (.int .i64 x17.kind), .v (.bool false), .v (.string x17.name), .v (.int .i64 x17.bits)])) noHp))), 4⟩) ?_ ?_
           ·refine ZT 1 ?_
            refine Z0 ?_
            rcases zit E289 with ⟨c291, H292⟩ | ⟨c291, H292⟩
            ·refine Z1 c291 ?_
             obtain rfl := Zi H292
             exact ⟨⟨⟨(x17.kind == 3), rfl⟩, (g15, g16)⟩, ZR [(0, 0), (1, 1), (2, 2), (3, 13)]⟩
            ·refine Z1 c291 ?_
             obtain rfl := Zi H292
             exact ⟨⟨⟨false, rfl⟩, (g15, g16)⟩, ZR [(0, 0), (1, 1), (2, 2), (3, 13)]⟩
           ·rintro ⟨⟨t1492, he448⟩, ⟨g17, g18⟩⟩
            obtain rfl := he448.symm
            try dsimp only at H290
            obtain ⟨e_14, E293, H294⟩ := zbi H290
            refine zjn (α := { y : Int // e_14 = y } × Nat × Nat) (fun | ⟨⟨t232, _⟩, ⟨g19, g20⟩⟩ => ⟨upd 2 (.v (.int .i64 (IntKind.i64.wrap (an t2 511 : Int)))) (upd 3 (.v (.bool t3)) (upd 10 (.v (.string t32)) (upd 11 (.pt 0 0) (upd 17 (accV 1 g19 (List.map eGEntry t173)) (upd 18 (accV 2 g20 (List.map eGEntry t18)) (upd 20 (.v (.int .i64 (IntKind.i64.wrap (t20 + 1)))) (upd 21 (.v (.int .i64 t21)) (upd 22 (.pt 3 0) (upd 23 (.v (.int .i64 t232)) noFr))))))))), upd 0 (some (.bx [.v (.int .i64 t40.1.kind), .v (.string t40.1.name), .d (.sl (List.map eS t40.1.users)) false, .v (.string t40.1.owner), .v (.string t40.1.group), .d (.sl (List.map eGEntry t40.1.acl)) false, .v (.int .i64 t40.1.at_)])) (upd 1 (accO 4 g19 false (List.map eGEntry t173)) (upd 2 (accO 4 g20 false (List.map eGEntry t18)) (upd 3 (some (.bx [.v (.int .i64 x17.kind), .v (.bool false), .v (.string x17.name), .v (.int .i64 x17.bits)])) noHp))), 4⟩) ?_ ?_
            ·refine ZT 1 ?_
             refine Z0 ?_
             rcases zit E293 with ⟨c295, H296⟩ | ⟨c295, H296⟩
             ·refine Z1 c295 ?_
              obtain rfl := Zi H296
              exact ⟨⟨⟨(IntKind.i64.wrap (an (sh (IntKind.i64.wrap (an t2 511 : Int)) 3) 7 : Int)), rfl⟩, (g17, g18)⟩, ZR [(0, 0), (1, 1), (2, 2), (3, 3)]⟩
             ·refine Z1 c295 ?_
              obtain rfl := Zi H296
              exact ⟨⟨⟨x18, rfl⟩, (g17, g18)⟩, ZR [(0, 0), (1, 1), (2, 2), (3, 3)]⟩
            ·rintro ⟨⟨t232, he447⟩, ⟨g19, g20⟩⟩
             obtain rfl := he447.symm
             try dsimp only at H294
             refine zsq (ZT 1 ?_)
             refine Z0 ?_
             rcases zit H294 with ⟨c297, H298⟩ | ⟨c297, H298⟩
             ·refine Z1 c297 ?_
              obtain rfl := Zi H298
              obtain rfl := Zi H87
              exact ZE0
             ·refine Z1 c297 ?_
              refine zsq (ZT 1 ?_)
              refine Z1 c297 ?_
              refine zsq (zsq ?_)
              refine ZT 1 ?_
              refine Z1 c297 ?_
              obtain ⟨e_15, E299, H300⟩ := zbi H298
              refine zjn (α := { y : Bool // e_15 = .inl y } × Nat × Nat) (fun | ⟨⟨t2410, _⟩, ⟨g35, g36⟩⟩ => ⟨upd 2 (.v (.int .i64 (IntKind.i64.wrap (an t2 511 : Int)))) (upd 3 (.v (.bool t3)) (upd 10 (.v (.string t32)) (upd 11 (.pt 0 0) (upd 17 (accV 1 g35 (List.map eGEntry t173)) (upd 18 (accV 2 g36 (List.map eGEntry t18)) (upd 20 (.v (.int .i64 (IntKind.i64.wrap (t20 + 1)))) (upd 21 (.v (.int .i64 t21)) (upd 22 (.pt 3 0) (upd 24 (.v (.bool t2410)) noFr))))))))), upd 0 (some (.bx [.v (.int .i64 t40.1.kind), .v (.string t40.1.name), .d (.sl (List.map eS t40.1.users)) false, .v (.string t40.1.owner), .v (.string t40.1.group), .d (.sl (List.map eGEntry t40.1.acl)) false, .v (.int .i64 t40.1.at_)])) (upd 1 (accO 4 g35 false (List.map eGEntry t173)) (upd 2 (accO 4 g36 false (List.map eGEntry t18)) (upd 3 (some (.bx [.v (.int .i64 x17.kind), .v (.bool false), .v (.string x17.name), .v (.int .i64 x17.bits)])) noHp))), 4⟩) ?_ ?_
              ·refine zbk ?_
               refine zlp (α := { q : (Nat × (Bool × Int)) × Nat × Nat // law19_GainRule_L4 n t173 x17 t232 q.1.1 q.1.2 = some e_15 }) (fun | ⟨⟨⟨c, ⟨t247, t253⟩⟩, ⟨g27, g28⟩⟩, _⟩ => ⟨upd 2 (.v (.int .i64 (IntKind.i64.wrap (an t2 511 : Int)))) (upd 3 (.v (.bool t3)) (upd 10 (.v (.string t32)) (upd 11 (.pt 0 0) (upd 17 (accV 1 g27 (List.map eGEntry t173)) (upd 18 (accV 2 g28 (List.map eGEntry t18)) (upd 20 (.v (.int .i64 (IntKind.i64.wrap (t20 + 1)))) (upd 21 (.v (.int .i64 t21)) (upd 22 (.pt 3 0) (upd 23 (.v (.int .i64 t232)) (upd 24 (.v (.bool t247)) (upd 25 (.v (.int .i64 t253)) noFr))))))))))), upd 0 (some (.bx [.v (.int .i64 t40.1.kind), .v (.string t40.1.name), .d (.sl (List.map eS t40.1.users)) false, .v (.string t40.1.owner), .v (.string t40.1.group), .d (.sl (List.map eGEntry t40.1.acl)) false, .v (.int .i64 t40.1.at_)])) (upd 1 (accO 4 g27 false (List.map eGEntry t173)) (upd 2 (accO 4 g28 false (List.map eGEntry t18)) (upd 3 (some (.bx [.v (.int .i64 x17.kind), .v (.bool false), .v (.string x17.name), .v (.int .i64 x17.bits)])) noHp))), 4⟩) (fun q => q.1.1.1) ⟨((n, (((t173.length : Int) == 0), 0)), (g19, g20)), E299⟩ ?_ ?_
               ·exact ZR [(0, 0), (1, 1), (2, 2), (3, 3)]
               ·rintro ⟨⟨⟨c, ⟨t247, t253⟩⟩, ⟨g27, g28⟩⟩, L301⟩
                rcases c with _ | c
                ·exact Zx L301
                ·unfold law19_GainRule_L4 at L301
                 try dsimp only at L301
                 refine zsq (ZT 1 ?_)
                 refine Z0 ?_
                 rcases zit L301 with ⟨c371, H372⟩ | ⟨c371, H372⟩
                 ·refine Z1 c371 ?_
                  refine zsq (zbk ?_)
                  refine zsq ?_
                  obtain ⟨e_18, E373, H374⟩ := zbi H372
                  refine zjn (α := { y : Bool // e_18 = y } × Nat × Nat) (fun | ⟨⟨t264, _⟩, ⟨g29, g30⟩⟩ => ⟨upd 2 (.v (.int .i64 (IntKind.i64.wrap (an t2 511 : Int)))) (upd 3 (.v (.bool t3)) (upd 10 (.v (.string t32)) (upd 11 (.pt 0 0) (upd 17 (accV 1 g29 (List.map eGEntry t173)) (upd 18 (accV 2 g30 (List.map eGEntry t18)) (upd 20 (.v (.int .i64 (IntKind.i64.wrap (t20 + 1)))) (upd 21 (.v (.int .i64 t21)) (upd 22 (.pt 3 0) (upd 23 (.v (.int .i64 t232)) (upd 24 (.v (.bool t247)) (upd 25 (.v (.int .i64 t253)) (upd 26 (.v (.bool t264)) noFr)))))))))))), upd 0 (some (.bx [.v (.int .i64 t40.1.kind), .v (.string t40.1.name), .d (.sl (List.map eS t40.1.users)) false, .v (.string t40.1.owner), .v (.string t40.1.group), .d (.sl (List.map eGEntry t40.1.acl)) false, .v (.int .i64 t40.1.at_)])) (upd 1 (accO 4 g29 false (List.map eGEntry t173)) (upd 2 (accO 4 g30 false (List.map eGEntry t18)) (upd 3 (some (.bx [.v (.int .i64 x17.kind), .v (.bool false), .v (.string x17.name), .v (.int .i64 x17.bits)])) noHp))), 4⟩) ?_ ?_
                  ·refine ZT 1 ?_
                   obtain ⟨x24, b375, H376⟩ := zbi E373
                   obtain ⟨h377, h378⟩ := zix b375
                   try simp only [Int.reduceToNat, Int.toNat_natCast] at h378
                   have h379 := map_at eGEntry h378
                   have h380 := at_lt h378
                   have q381 : 0 < t173.length := by omega
                   refine Z1 (Y5 (zno .i64 h377) h379 h380 (YV (f := eGEntry) q381) (YO (f := eGEntry) q381)) ?_
                   rcases zit H376 with ⟨c382, H383⟩ | ⟨c382, H383⟩
                   ·refine Z1 (Y6 (zno .i64 h377) h379 h380 (YV (f := eGEntry) q381) (YO (f := eGEntry) q381) c382) ?_
                    refine Rd_endF (by rfl) ?_
                    refine Z1 (Y6 (zno .i64 h377) h379 h380 (YV (f := eGEntry) q381) (YO (f := eGEntry) q381) c382) ?_
                    obtain rfl := Zi H383
                    exact ⟨⟨⟨(x24.name.toList == x17.name.toList), rfl⟩, (g27, g28)⟩, ZR [(0, 0), (1, 1), (2, 2), (3, 3)]⟩
                   ·refine Z1 (Y6 (zno .i64 h377) h379 h380 (YV (f := eGEntry) q381) (YO (f := eGEntry) q381) c382) ?_
                    refine Rd_endF (by rfl) ?_
                    refine Z1 (Y6 (zno .i64 h377) h379 h380 (YV (f := eGEntry) q381) (YO (f := eGEntry) q381) c382) ?_
                    obtain rfl := Zi H383
                    exact ⟨⟨⟨false, rfl⟩, (g27, g28)⟩, ZR [(0, 0), (1, 1), (2, 2), (3, 3)]⟩
                  ·rintro ⟨⟨t264, he439⟩, ⟨g29, g30⟩⟩
                   obtain rfl := he439.symm
                   try dsimp only at H374
                   refine zsq ?_
                   obtain ⟨e_19, E384, H385⟩ := zbi H374
                   refine zjn (α := { y : Bool // e_19 = y } × Nat × Nat) (fun | ⟨⟨t248, _⟩, ⟨g31, g32⟩⟩ => ⟨upd 2 (.v (.int .i64 (IntKind.i64.wrap (an t2 511 : Int)))) (upd 3 (.v (.bool t3)) (upd 10 (.v (.string t32)) (upd 11 (.pt 0 0) (upd 17 (accV 1 g31 (List.map eGEntry t173)) (upd 18 (accV 2 g32 (List.map eGEntry t18)) (upd 20 (.v (.int .i64 (IntKind.i64.wrap (t20 + 1)))) (upd 21 (.v (.int .i64 t21)) (upd 22 (.pt 3 0) (upd 23 (.v (.int .i64 t232)) (upd 24 (.v (.bool t248)) (upd 25 (.v (.int .i64 t253)) (upd 26 (.v (.bool t264)) noFr)))))))))))), upd 0 (some (.bx [.v (.int .i64 t40.1.kind), .v (.string t40.1.name), .d (.sl (List.map eS t40.1.users)) false, .v (.string t40.1.owner), .v (.string t40.1.group), .d (.sl (List.map eGEntry t40.1.acl)) false, .v (.int .i64 t40.1.at_)])) (upd 1 (accO 4 g31 false (List.map eGEntry t173)) (upd 2 (accO 4 g32 false (List.map eGEntry t18)) (upd 3 (some (.bx [.v (.int .i64 x17.kind), .v (.bool false), .v (.string x17.name), .v (.int .i64 x17.bits)])) noHp))), 4⟩) ?_ ?_
                   ·refine ZT 1 ?_
                    refine Z0 ?_
                    rcases zit E384 with ⟨c386, H387⟩ | ⟨c386, H387⟩
                    ·refine Z1 c386 ?_
                     obtain rfl := Zi H387
                     exact ⟨⟨⟨true, rfl⟩, (g29, g30)⟩, ZR [(0, 0), (1, 1), (2, 2), (3, 3)]⟩
                    ·refine Z1 c386 ?_
                     obtain rfl := Zi H387
                     exact ⟨⟨⟨t264, rfl⟩, (g29, g30)⟩, ZR [(0, 0), (1, 1), (2, 2), (3, 3)]⟩
                   ·rintro ⟨⟨t248, he438⟩, ⟨g31, g32⟩⟩
                    obtain rfl := he438.symm
                    try dsimp only at H385
                    refine ZT 3 ?_
                    refine Z0 ?_
                    rcases zit H385 with ⟨c388, H389⟩ | ⟨c388, H389⟩
                    ·refine Z1 c388 ?_
                     rcases zit H389 with ⟨c390, H391⟩ | ⟨c390, H391⟩
                     ·obtain ⟨x25, b392, H393⟩ := zbi H391
                      obtain ⟨h394, h395⟩ := zix b392
                      try simp only [Int.reduceToNat, Int.toNat_natCast] at h395
                      have h396 := map_at eGEntry h395
                      have h397 := at_lt h395
                      have q398 : 0 < t173.length := by omega
                      refine Z1 (Y2 (Y6 c388 c390 (zno .i64 h394) h396 h397 (YV (f := eGEntry) q398)) (YO (f := eGEntry) q398)) ?_
                      rcases zit H393 with ⟨c399, H400⟩ | ⟨c399, H400⟩
                      ·refine Z1 (Y2 (Y6 c388 c390 (zno .i64 h394) h396 h397 (YV (f := eGEntry) q398)) (Y2 (YO (f := eGEntry) q398) c399)) ?_
                       refine Rd_endF (by kernel_rfl) ?_
                       refine Z1 (Y2 (Y6 c388 c390 (zno .i64 h394) h396 h397 (YV (f := eGEntry) q398)) (Y2 (YO (f := eGEntry) q398) c399)) ?_
                       obtain rfl := Zi H400
                       obtain rfl := Zi H300
                       obtain rfl := Zi H87
                       exact ZE0
                      ·refine Z1 (Y2 (Y6 c388 c390 (zno .i64 h394) h396 h397 (YV (f := eGEntry) q398)) (Y2 (YO (f := eGEntry) q398) c399)) ?_
                       refine Rd_endF (by kernel_rfl) ?_
                       refine Z1 (Y2 (Y6 c388 c390 (zno .i64 h394) h396 h397 (YV (f := eGEntry) q398)) (Y2 (YO (f := eGEntry) q398) c399)) ?_
                       rcases zit H400 with ⟨c401, H402⟩ | ⟨c401, H402⟩
                       ·refine Z1 (Y2 (Y6 c388 c390 (zno .i64 h394) h396 h397 (YV (f := eGEntry) q398)) (Y3 (YO (f := eGEntry) q398) c399 c401)) ?_
                        obtain rfl := Zi H402
                        obtain rfl := Zi H300
                        obtain rfl := Zi H87
                        exact ZE0
                       ·refine Z1 (Y2 (Y6 c388 c390 (zno .i64 h394) h396 h397 (YV (f := eGEntry) q398)) (Y3 (YO (f := eGEntry) q398) c399 c401)) ?_
                        exact ⟨⟨((c, (t248, (IntKind.i64.wrap (t253 + 1)))), (g31, g32)), H402⟩, ZR [(0, 0), (1, 1), (2, 2), (3, 3)], Nat.lt_succ_self _⟩
                     ·refine Z1 (Y2 c388 c390) ?_
                      rcases zit H391 with ⟨c403, H404⟩ | ⟨c403, H404⟩
                      ·obtain ⟨x26, b405, H406⟩ := zbi H404
                       obtain ⟨h407, h408⟩ := zix b405
                       try simp only [Int.reduceToNat, Int.toNat_natCast] at h408
                       have h409 := map_at eGEntry h408
                       have h410 := at_lt h408
                       have q411 : 0 < t173.length := by omega
                       refine Z1 (Y2 (Y6 c388 c390 c403 (zno .i64 h407) h409 h410) (Y2 (YV (f := eGEntry) q411) (YO (f := eGEntry) q411))) ?_
                       rcases zit H406 with ⟨c412, H413⟩ | ⟨c412, H413⟩
                       ·refine Z1 (Y2 (Y6 c388 c390 c403 (zno .i64 h407) h409 h410) (Y3 (YV (f := eGEntry) q411) (YO (f := eGEntry) q411) c412)) ?_
                        refine Rd_endF (by kernel_rfl) ?_
                        refine Z1 (Y2 (Y6 c388 c390 c403 (zno .i64 h407) h409 h410) (Y3 (YV (f := eGEntry) q411) (YO (f := eGEntry) q411) c412)) ?_
                        obtain rfl := Zi H413
                        obtain rfl := Zi H300
                        obtain rfl := Zi H87
                        exact ZE0
                       ·refine Z1 (Y2 (Y6 c388 c390 c403 (zno .i64 h407) h409 h410) (Y3 (YV (f := eGEntry) q411) (YO (f := eGEntry) q411) c412)) ?_
                        refine Rd_endF (by kernel_rfl) ?_
                        refine Z1 (Y2 (Y6 c388 c390 c403 (zno .i64 h407) h409 h410) (Y3 (YV (f := eGEntry) q411) (YO (f := eGEntry) q411) c412)) ?_
                        rcases zit H413 with ⟨c414, H415⟩ | ⟨c414, H415⟩
                        ·refine Z1 (Y2 (Y6 c388 c390 c403 (zno .i64 h407) h409 h410) (Y4 (YV (f := eGEntry) q411) (YO (f := eGEntry) q411) c412 c414)) ?_
                         obtain rfl := Zi H415
                         obtain rfl := Zi H300
                         obtain rfl := Zi H87
                         exact ZE0
                        ·refine Z1 (Y2 (Y6 c388 c390 c403 (zno .i64 h407) h409 h410) (Y4 (YV (f := eGEntry) q411) (YO (f := eGEntry) q411) c412 c414)) ?_
                         exact ⟨⟨((c, (t248, (IntKind.i64.wrap (t253 + 1)))), (g31, g32)), H415⟩, ZR [(0, 0), (1, 1), (2, 2), (3, 3)], Nat.lt_succ_self _⟩
                      ·refine Z1 (Y3 c388 c390 c403) ?_
                       rcases zit H404 with ⟨c416, H417⟩ | ⟨c416, H417⟩
                       ·obtain ⟨x27, b418, H419⟩ := zbi H417
                        obtain ⟨h420, h421⟩ := zix b418
                        try simp only [Int.reduceToNat, Int.toNat_natCast] at h421
                        have h422 := map_at eGEntry h421
                        have h423 := at_lt h421
                        have q424 : 0 < t173.length := by omega
                        refine Z1 (Y2 (Y6 c388 c390 c403 c416 (zno .i64 h420) h422) (Y3 h423 (YV (f := eGEntry) q424) (YO (f := eGEntry) q424))) ?_
                        rcases zit H419 with ⟨c425, H426⟩ | ⟨c425, H426⟩
                        ·refine Z1 (Y2 (Y6 c388 c390 c403 c416 (zno .i64 h420) h422) (Y4 h423 (YV (f := eGEntry) q424) (YO (f := eGEntry) q424) c425)) ?_
                         refine Rd_endF (by kernel_rfl) ?_
                         refine Z1 (Y2 (Y6 c388 c390 c403 c416 (zno .i64 h420) h422) (Y4 h423 (YV (f := eGEntry) q424) (YO (f := eGEntry) q424) c425)) ?_
                         obtain rfl := Zi H426
                         obtain rfl := Zi H300
                         obtain rfl := Zi H87
                         exact ZE0
                        ·refine Z1 (Y2 (Y6 c388 c390 c403 c416 (zno .i64 h420) h422) (Y4 h423 (YV (f := eGEntry) q424) (YO (f := eGEntry) q424) c425)) ?_
                         refine Rd_endF (by kernel_rfl) ?_
                         refine Z1 (Y2 (Y6 c388 c390 c403 c416 (zno .i64 h420) h422) (Y4 h423 (YV (f := eGEntry) q424) (YO (f := eGEntry) q424) c425)) ?_
                         rcases zit H426 with ⟨c427, H428⟩ | ⟨c427, H428⟩
                         ·refine Z1 (Y2 (Y6 c388 c390 c403 c416 (zno .i64 h420) h422) (Y5 h423 (YV (f := eGEntry) q424) (YO (f := eGEntry) q424) c425 c427)) ?_
                          obtain rfl := Zi H428
                          obtain rfl := Zi H300
                          obtain rfl := Zi H87
                          exact ZE0
                         ·refine Z1 (Y2 (Y6 c388 c390 c403 c416 (zno .i64 h420) h422) (Y5 h423 (YV (f := eGEntry) q424) (YO (f := eGEntry) q424) c425 c427)) ?_
                          exact ⟨⟨((c, (t248, (IntKind.i64.wrap (t253 + 1)))), (g31, g32)), H428⟩, ZR [(0, 0), (1, 1), (2, 2), (3, 3)], Nat.lt_succ_self _⟩
                       ·obtain ⟨x28, b429, H430⟩ := zbi H417
                        obtain ⟨h431, h432⟩ := zix b429
                        try simp only [Int.reduceToNat, Int.toNat_natCast] at h432
                        have h433 := map_at eGEntry h432
                        have h434 := at_lt h432
                        have q435 : 0 < t173.length := by omega
                        refine Z1 (Y2 (Y6 c388 c390 c403 c416 (zno .i64 h431) h433) (Y3 h434 (YV (f := eGEntry) q435) (YO (f := eGEntry) q435))) ?_
                        refine Rd_endF (by kernel_rfl) ?_
                        refine Z1 (Y2 (Y6 c388 c390 c403 c416 (zno .i64 h431) h433) (Y3 h434 (YV (f := eGEntry) q435) (YO (f := eGEntry) q435))) ?_
                        rcases zit H430 with ⟨c436, H437⟩ | ⟨c436, H437⟩
                        ·refine Z1 (Y2 (Y6 c388 c390 c403 c416 (zno .i64 h431) h433) (Y4 h434 (YV (f := eGEntry) q435) (YO (f := eGEntry) q435) c436)) ?_
                         obtain rfl := Zi H437
                         obtain rfl := Zi H300
                         obtain rfl := Zi H87
                         exact ZE0
                        ·refine Z1 (Y2 (Y6 c388 c390 c403 c416 (zno .i64 h431) h433) (Y4 h434 (YV (f := eGEntry) q435) (YO (f := eGEntry) q435) c436)) ?_
                         exact ⟨⟨((c, (t248, (IntKind.i64.wrap (t253 + 1)))), (g31, g32)), H437⟩, ZR [(0, 0), (1, 1), (2, 2), (3, 3)], Nat.lt_succ_self _⟩
                    ·refine Z1 c388 ?_
                     refine Rd_endF (by kernel_rfl) ?_
                     refine Z1 c388 ?_
                     exact ⟨⟨((c, (t248, (IntKind.i64.wrap (t253 + 1)))), (g31, g32)), H389⟩, ZR [(0, 0), (1, 1), (2, 2), (3, 3)], Nat.lt_succ_self _⟩
                 ·refine Z1 c371 ?_
                  obtain rfl := Zi H372
                  exact ⟨⟨⟨t247, rfl⟩, (g27, g28)⟩, ZR [(0, 0), (1, 1), (2, 2), (3, 3)]⟩
              ·rintro ⟨⟨t2410, he446⟩, ⟨g35, g36⟩⟩
               obtain rfl := he446.symm
               try dsimp only at H300
               refine ZT 3 ?_
               refine Z0 ?_
               rcases zit H300 with ⟨c440, H441⟩ | ⟨c440, H441⟩
               ·refine Z1 c440 ?_
                rcases zit H441 with ⟨c442, H443⟩ | ⟨c442, H443⟩
                ·refine Z1 (Y2 c440 c442) ?_
                 rcases zit H443 with ⟨c444, H445⟩ | ⟨c444, H445⟩
                 ·refine Z1 (Y3 c440 c442 c444) ?_
                  exact ⟨⟨((c, (t18, (IntKind.i64.wrap (t20 + 1)), (IntKind.i64.wrap (t21 + 1)))), (g35, g36)), H445⟩, ZR [(0, 0), (1, 1), (2, 2)], Nat.lt_succ_self _⟩
                 ·refine Z1 (Y3 c440 c442 c444) ?_
                  obtain rfl := Zi H445
                  obtain rfl := Zi H87
                  exact ZE0
                ·refine Z1 (Y2 c440 c442) ?_
                 exact ⟨⟨((c, (t18, (IntKind.i64.wrap (t20 + 1)), (IntKind.i64.wrap (t21 + 1)))), (g35, g36)), H443⟩, ZR [(0, 0), (1, 1), (2, 2)], Nat.lt_succ_self _⟩
               ·refine Z1 c440 ?_
                obtain rfl := Zi H441
                obtain rfl := Zi H87
                exact ZE0
         ·refine Z1 c265 ?_
          obtain rfl := Zi H266
          exact ⟨⟨⟨(t18, t20), rfl⟩, (g15, g16)⟩, ZR [(0, 0), (1, 1), (2, 2)]⟩
      ·rintro ⟨⟨⟨t183, t203⟩, he487⟩, ⟨g39, g40⟩⟩
       obtain rfl := he487.symm
       try dsimp only at H87
       refine zsq (zsq ?_)
       obtain ⟨e_20, E449, H450⟩ := zbi H87
       refine zjn (α := { y : Bool // e_20 = y } × Nat × Nat) (fun | ⟨⟨t259, _⟩, ⟨g41, g42⟩⟩ => ⟨upd 3 (.v (.bool t3)) (upd 10 (.v (.string t32)) (upd 11 (.pt 0 0) (upd 17 (accV 1 g41 (List.map eGEntry t173)) (upd 18 (accV 2 g42 (List.map eGEntry t183)) (upd 259 (.v (.bool t259)) noFr))))), upd 0 (some (.bx [.v (.int .i64 t40.1.kind), .v (.string t40.1.name), .d (.sl (List.map eS t40.1.users)) false, .v (.string t40.1.owner), .v (.string t40.1.group), .d (.sl (List.map eGEntry t40.1.acl)) false, .v (.int .i64 t40.1.at_)])) (upd 1 (accO 4 g41 false (List.map eGEntry t173)) (upd 2 (accO 4 g42 false (List.map eGEntry t183)) noHp)), 3⟩) ?_ ?_
       ·refine ZT 1 ?_
        refine Z0 ?_
        rcases zit E449 with ⟨c451, H452⟩ | ⟨c451, H452⟩
        ·refine Z1 c451 ?_
         rcases zit H452 with ⟨c453, H454⟩ | ⟨c453, H454⟩
         ·refine Z1 (Y2 c451 c453) ?_
          obtain rfl := Zi H454
          exact ⟨⟨⟨true, rfl⟩, (g39, g40)⟩, ZR [(0, 0), (1, 1), (2, 2)]⟩
         ·refine Z1 (Y2 c451 c453) ?_
          rcases zit H454 with ⟨c455, H456⟩ | ⟨c455, H456⟩
          ·refine Z1 (Y3 c451 c453 c455) ?_
           obtain rfl := Zi H456
           exact ⟨⟨⟨(t203 != 4), rfl⟩, (g39, g40)⟩, ZR [(0, 0), (1, 1), (2, 2)]⟩
          ·refine Z1 (Y3 c451 c453 c455) ?_
           obtain rfl := Zi H456
           exact ⟨⟨⟨false, rfl⟩, (g39, g40)⟩, ZR [(0, 0), (1, 1), (2, 2)]⟩
        ·refine Z1 c451 ?_
         rcases zit H452 with ⟨c457, H458⟩ | ⟨c457, H458⟩
         ·refine Z1 (Y2 c451 c457) ?_
          obtain rfl := Zi H458
          exact ⟨⟨⟨(t203 != 4), rfl⟩, (g39, g40)⟩, ZR [(0, 0), (1, 1), (2, 2)]⟩
         ·refine Z1 (Y2 c451 c457) ?_
          obtain rfl := Zi H458
          exact ⟨⟨⟨false, rfl⟩, (g39, g40)⟩, ZR [(0, 0), (1, 1), (2, 2)]⟩
       ·rintro ⟨⟨t259, he486⟩, ⟨g41, g42⟩⟩
        obtain rfl := he486.symm
        try dsimp only at H450
        refine ZT 1 ?_
        refine Z0 ?_
        rcases zit H450 with ⟨c459, H460⟩ | ⟨c459, H460⟩
        ·refine Z1 c459 ?_
         obtain rfl := Zi H460
         exact ZE0
        ·refine Z1 c459 ?_
         refine zsq (zsq ?_)
         refine ZT 1 ?_
         refine Z1 c459 ?_
         rcases zit H460 with ⟨c461, H462⟩ | ⟨c461, H462⟩
         ·refine runR_condF (by rfl) (by rw [c461]; rfl) ?_
          refine Z1 (Y2 c459 c461) ?_
          refine ZT 2 ?_
          obtain ⟨t275, b463, H464⟩ := zbi H462
          refine Z1 (Y2 c459 c461) ?_
          refine ZC1 (Y2 c459 c461) (ref17_SameAcl_ok b463) ?_
          refine Z1 (Y2 c459 c461) ?_
          rcases zit H464 with ⟨c465, H466⟩ | ⟨c465, H466⟩
          ·refine Z1 (Y3 c459 c461 c465) ?_
           rcases zit H466 with ⟨c467, H468⟩ | ⟨c467, H468⟩
           ·refine Z1 (Y4 c459 c461 c465 c467) ?_
            rcases zit H468 with ⟨c469, H470⟩ | ⟨c469, H470⟩
            ·refine Z1 (Y5 c459 c461 c465 c467 c469) ?_
             rcases zit H470 with ⟨c471, H472⟩ | ⟨c471, H472⟩
             ·refine Z1 (Y6 c459 c461 c465 c467 c469 c471) ?_
              rcases zit H472 with ⟨c473, H474⟩ | ⟨c473, H474⟩
              ·obtain ⟨t298, b475, H476⟩ := zbi H474
               refine Z1 (Y2 (Y6 c459 c461 c465 c467 c469 c471) c473) ?_
               refine ZC0 (law19_awake_ok b475) ?_
               refine Z1 (Y2 (Y6 c459 c461 c465 c467 c469 c471) c473) ?_
               obtain rfl := Zi H476
               exact ZE0
              ·refine Z1 (Y2 (Y6 c459 c461 c465 c467 c469 c471) c473) ?_
               obtain rfl := Zi H474
               exact ZE0
             ·refine Z1 (Y6 c459 c461 c465 c467 c469 c471) ?_
              obtain rfl := Zi H472
              exact ZE0
            ·refine Z1 (Y5 c459 c461 c465 c467 c469) ?_
             obtain rfl := Zi H470
             exact ZE0
           ·refine Z1 (Y4 c459 c461 c465 c467) ?_
            obtain rfl := Zi H468
            exact ZE0
          ·refine Z1 (Y3 c459 c461 c465) ?_
           obtain rfl := Zi H466
           exact ZE0
         ·refine runR_condT (by rfl) (by rw [c461]; rfl) ?_
          refine Z1 (Y2 c459 c461) ?_
          refine zsq ?_
          obtain ⟨e_21, E477, H478⟩ := zbi H462
          refine zjn (α := { y : Bool // e_21 = y }) (fun | ⟨t82, _⟩ => ⟨upd 8 (.v (.bool t82)) noFr, noHp, 0⟩) ?_ ?_
          ·refine ZT 1 ?_
           refine Z0 ?_
           rcases zit E477 with ⟨c479, H480⟩ | ⟨c479, H480⟩
           ·refine Z1 c479 ?_
            rcases zit H480 with ⟨c481, H482⟩ | ⟨c481, H482⟩
            ·obtain ⟨t271, b483, H484⟩ := zbi H482
             refine Z1 (Y2 c479 c481) ?_
             refine ZC0 (law19_awake_ok b483) ?_
             refine Z1 (Y2 c479 c481) ?_
             obtain rfl := Zi H484
             exact ⟨⟨t271, rfl⟩, ZR []⟩
            ·refine Z1 (Y2 c479 c481) ?_
             obtain rfl := Zi H482
             exact ⟨⟨false, rfl⟩, ZR []⟩
           ·refine Z1 c479 ?_
            obtain rfl := Zi H480
            exact ⟨⟨false, rfl⟩, ZR []⟩
          ·rintro ⟨t82, he485⟩
           obtain rfl := he485.symm
           try dsimp only at H478
           refine ZT 1 ?_
           refine Z0 ?_
           obtain rfl := Zi H478
           exact ZE0
end Go.Proofs.YtgmhbmcdlkajdaaGreatDoor.Ab
