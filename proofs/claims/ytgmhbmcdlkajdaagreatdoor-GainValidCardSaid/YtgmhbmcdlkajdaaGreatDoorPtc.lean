/-
 Functions, read off the code.
-/
import Derived.Test.YtgmhbmcdlkajdaaGreatDoorPtb
namespace Go.Proofs.YtgmhbmcdlkajdaaGreatDoor.Ab
open Go.RowKit
def ref17_entry_L1 (n : Nat) (t02 : ByteArray) : Nat → (Int × Int) → Option ((Int) ⊕ (GEntry × Bool))
 | 0, _ => none
 | c + 1, (t43, t6) =>
  (if (decide (t6 < 3)) then
   (bidx t02 (IntKind.i64.wrap ((IntKind.i64.wrap ((t02.size : Int) - 3)) + t6))).bind fun ch9 =>
   (
    (if (ch9 != 45) then
     (bidx ({ data := #[114, 119, 120] }) t6).bind fun ch10 =>
     some (ch9 != ch10)
    else
     some false) : Option (Bool)).bind fun t1112 =>
   (if t1112 then
    some (.inr ((⟨0, false, ByteArray.empty, 0⟩ : GEntry), false))
   else
    (if (ch9 != 45) then
     grd (decide (0 ≤ (IntKind.u64.wrap t6))) <|
     ref17_entry_L1 n t02 c ((IntKind.i64.wrap ((BitVec.ofInt IntKind.i64.bits t43 ||| BitVec.ofInt IntKind.i64.bits (sh 4 (Int.toNat (IntKind.u64.wrap t6)))).toNat : Int)), (IntKind.i64.wrap (t6 + 1)))
    else
     ref17_entry_L1 n t02 c (t43, (IntKind.i64.wrap (t6 + 1)))))
  else
   some (.inl t43))
def ref17_entry (n : Nat) (t0 : ByteArray) : Option (GEntry × Bool) :=
 (
  (if (decide (2 < (t0.size : Int))) then
   (bslc t0 0 2).bind fun s =>
   some (s.toList == ({ data := #[100, 58] } : ByteArray).toList)
  else
   some false) : Option (Bool)).bind fun t16 =>
 (
  (if t16 then
   (bslc t0 2 (t0.size : Int)).bind fun s2 =>
   some (s2, true)
  else
   some (t0, false)) : Option (ByteArray × Bool)).bind fun (t02, t41) =>
 (
  (if (decide ((t02.size : Int) < 6)) then
   some true
  else
   (bidx t02 1).bind fun ch =>
   (if (ch != 58) then
    some true
   else
    (bidx t02 (IntKind.i64.wrap ((t02.size : Int) - 4))).bind fun ch2 =>
    some (ch2 != 58))) : Option (Bool)).bind fun t35 =>
 (if t35 then
  some ((⟨0, false, ByteArray.empty, 0⟩ : GEntry), false)
 else
  (
   (if (decide (6 < (t02.size : Int))) then
    (bslc t02 2 (IntKind.i64.wrap ((t02.size : Int) - 4))).bind fun s3 =>
    some s3
   else
    some ByteArray.empty) : Option (ByteArray)).bind fun t42 =>
  (
   (
    (bidx t02 0).bind fun ch3 =>
    (if (ch3 == 117) then
     some (t42.toList == ({ data := #[] } : ByteArray).toList)
    else
     some false) : Option (Bool)).bind fun t44 =>
   (if t44 then
    some 1
   else
    (bidx t02 0).bind fun ch4 =>
    (if (ch4 == 117) then
     some 2
    else
     (
      (bidx t02 0).bind fun ch5 =>
      (if (ch5 == 103) then
       some (t42.toList == ({ data := #[] } : ByteArray).toList)
      else
       some false) : Option (Bool)).bind fun t59 =>
     (if t59 then
      some 3
     else
      (bidx t02 0).bind fun ch6 =>
      (if (ch6 == 103) then
       some 4
      else
       (if (ch6 == 109) then
        (if (t42.toList == ({ data := #[] } : ByteArray).toList) then
         some 5
        else
         (if (ch6 == 111) then
          some 0
         else
          some 0))
       else
        (if (ch6 == 111) then
         (if (t42.toList == ({ data := #[] } : ByteArray).toList) then
          some 6
         else
          some 0)
        else
         some 0)))))) : Option (Int)).bind fun t40 =>
  (
   ref17_entry_L1 n t02 n (0, 0) : Option ((Int) ⊕ (GEntry × Bool))).bind fun
   | .inl t433 =>
    (if (decide (0 < t40)) then
     (if (t42.toList == ({ data := #[] } : ByteArray).toList) then
      some ((⟨t40, t41, t42, t433⟩ : GEntry), ((t02.size : Int) != 5))
     else
      (ref1_Name n t42).bind fun t133 =>
      (if t133 then
       some ((⟨t40, t41, t42, t433⟩ : GEntry), ((t02.size : Int) != 5))
      else
       some ((⟨t40, t41, t42, t433⟩ : GEntry), false)))
    else
     some ((⟨t40, t41, t42, t433⟩ : GEntry), false))
   | .inr r => some r)
set_option maxHeartbeats 8000000 in
theorem ref17_entry_ok {n : Nat} {t0 : ByteArray} {r : GEntry × Bool} (H : ref17_entry n t0 = some r) : PureOK Tryz.prog 101 [D.v (.string t0)] (D.tu [D.ag (eGEntry r.1), D.v (.bool r.2)]) true := by
 unfold ref17_entry at H
 refine ZP tab_ok fol (rs := #[.cell 2 44, .tmp 3]) Tryz.func101 ?_
 refine zsq (ZT 1 ?_)
 refine Z0 ?_
 refine zsq (ZT 1 ?_)
 refine Z0 ?_
 refine zsq (zsq ?_)
 obtain ⟨e_, E1, H2⟩ := zbi H
 refine zjn (α := { y : Bool // e_ = y }) (fun | ⟨t16, _⟩ => ⟨upd 0 (.v (.string t0)) (upd 2 (.pt 0 0) (upd 4 (.pt 1 0) (upd 16 (.v (.bool t16)) noFr))), upd 0 (some (.bx [.v (.int .i64 0), .v (.bool false), .v (.string ByteArray.empty), .v (.int .i64 0)])) (upd 1 (some (.bx [.v (.int .i64 0), .v (.bool false), .v (.string ByteArray.empty), .v (.int .i64 0)])) noHp), 2⟩) ?_ ?_
 ·refine ZT 1 ?_
  refine Z0 ?_
  rcases zit E1 with ⟨c3, H4⟩ | ⟨c3, H4⟩
  ·obtain ⟨s, b5, H6⟩ := zbi H4
   obtain ⟨h7, h8, h9, h10⟩ := zbs b5
   have h11 : 0 ≤ 2 := by omega
   have h12 : 2 ≤ t0.size := by omega
   have h13 : ByteArray.extract t0 (0) (2) = s := h10.symm
   try simp only [Int.toNat_natCast] at h11 h12 h13
   refine Z1 (Y5 c3 (zno .i64 (Int.le_trans h7 h8)) h11 h12 h13) ?_
   obtain rfl := Zi H6
   exact ⟨⟨(s.toList == ({ data := #[100, 58] } : ByteArray).toList), rfl⟩, ZR [(0, 0), (1, 3)]⟩
  ·refine Z1 c3 ?_
   obtain rfl := Zi H4
   exact ⟨⟨false, rfl⟩, ZR [(0, 0), (1, 3)]⟩
 ·rintro ⟨t16, he166⟩
  obtain rfl := he166.symm
  try dsimp only at H2
  obtain ⟨e_2, E14, H15⟩ := zbi H2
  refine zjn (α := { y : ByteArray × Bool // e_2 = y }) (fun | ⟨⟨t02, t41⟩, _⟩ => ⟨upd 0 (.v (.string t02)) (upd 2 (.pt 0 0) (upd 4 (.pt 1 0) noFr)), upd 0 (some (.bx [.v (.int .i64 0), .v (.bool false), .v (.string ByteArray.empty), .v (.int .i64 0)])) (upd 1 (some (.bx [.v (.int .i64 0), .v (.bool t41), .v (.string ByteArray.empty), .v (.int .i64 0)])) noHp), 2⟩) ?_ ?_
  ·refine ZT 1 ?_
   refine Z0 ?_
   rcases zit E14 with ⟨c16, H17⟩ | ⟨c16, H17⟩
   ·obtain ⟨s2, b18, H19⟩ := zbi H17
    obtain ⟨h20, h21, h22, h23⟩ := zbs b18
    have h24 : 2 ≤ t0.size := by omega
    have h25 : t0.size ≤ t0.size := by omega
    have h26 : ByteArray.extract t0 (2) (t0.size) = s2 := h23.symm
    try simp only [Int.toNat_natCast] at h24 h25 h26
    refine Z1 (Y5 c16 (zno .i64 h20) h24 h25 h26) ?_
    obtain rfl := Zi H19
    exact ⟨⟨(s2, true), rfl⟩, ZR [(0, 0), (1, 1)]⟩
   ·refine Z1 c16 ?_
    obtain rfl := Zi H17
    exact ⟨⟨(t0, false), rfl⟩, ZR [(0, 0), (1, 1)]⟩
  ·rintro ⟨⟨t02, t41⟩, he165⟩
   obtain rfl := he165.symm
   try dsimp only at H15
   refine zsq (ZT 1 ?_)
   refine Z0 ?_
   refine zsq (zsq ?_)
   obtain ⟨e_3, E27, H28⟩ := zbi H15
   refine zjn (α := { y : Bool // e_3 = y }) (fun | ⟨t35, _⟩ => ⟨upd 0 (.v (.string t02)) (upd 2 (.pt 0 0) (upd 4 (.pt 1 0) (upd 5 (.v (.int .i64 (t02.size : Int))) (upd 35 (.v (.bool t35)) noFr)))), upd 0 (some (.bx [.v (.int .i64 0), .v (.bool false), .v (.string ByteArray.empty), .v (.int .i64 0)])) (upd 1 (some (.bx [.v (.int .i64 0), .v (.bool t41), .v (.string ByteArray.empty), .v (.int .i64 0)])) noHp), 2⟩) ?_ ?_
   ·refine ZT 1 ?_
    refine Z0 ?_
    rcases zit E27 with ⟨c29, H30⟩ | ⟨c29, H30⟩
    ·refine Z1 c29 ?_
     obtain rfl := Zi H30
     exact ⟨⟨true, rfl⟩, ZR [(0, 0), (1, 1)]⟩
    ·obtain ⟨ch, b31, H32⟩ := zbi H30
     obtain ⟨h33, by_, h34, h35⟩ := zbx b31
     try simp only [Int.reduceToNat] at h34
     refine Z1 (Y4 c29 (zno .i64 h33) h34 h35.symm) ?_
     rcases zit H32 with ⟨c36, H37⟩ | ⟨c36, H37⟩
     ·refine Z1 (Y5 c29 (zno .i64 h33) h34 h35.symm c36) ?_
      obtain rfl := Zi H37
      exact ⟨⟨true, rfl⟩, ZR [(0, 0), (1, 1)]⟩
     ·obtain ⟨ch2, b38, H39⟩ := zbi H37
      obtain ⟨h40, by_2, h41, h42⟩ := zbx b38
      try simp only [Int.reduceToNat, Int.toNat_natCast] at h41
      refine Z1 (Y2 (Y6 c29 (zno .i64 h33) h34 h35.symm c36 (zno .i64 h40)) (Y2 h41 h42.symm)) ?_
      obtain rfl := Zi H39
      exact ⟨⟨(ch2 != 58), rfl⟩, ZR [(0, 0), (1, 1)]⟩
   ·rintro ⟨t35, he164⟩
    obtain rfl := he164.symm
    try dsimp only at H28
    refine ZT 1 ?_
    refine Z0 ?_
    rcases zit H28 with ⟨c43, H44⟩ | ⟨c43, H44⟩
    ·refine Z1 c43 ?_
     obtain rfl := Zi H44
     exact ZE0
    ·refine Z1 c43 ?_
     refine zsq (zsq ?_)
     refine ZT 1 ?_
     refine Z1 c43 ?_
     obtain ⟨e_4, E45, H46⟩ := zbi H44
     refine zjn (α := { y : ByteArray // e_4 = y }) (fun | ⟨t42, _⟩ => ⟨upd 0 (.v (.string t02)) (upd 2 (.pt 0 0) (upd 4 (.pt 1 0) (upd 5 (.v (.int .i64 (t02.size : Int))) noFr))), upd 0 (some (.bx [.v (.int .i64 0), .v (.bool false), .v (.string ByteArray.empty), .v (.int .i64 0)])) (upd 1 (some (.bx [.v (.int .i64 0), .v (.bool t41), .v (.string t42), .v (.int .i64 0)])) noHp), 2⟩) ?_ ?_
     ·refine ZT 1 ?_
      refine Z0 ?_
      rcases zit E45 with ⟨c47, H48⟩ | ⟨c47, H48⟩
      ·obtain ⟨s3, b49, H50⟩ := zbi H48
       obtain ⟨h51, h52, h53, h54⟩ := zbs b49
       have h55 : 2 ≤ Int.toNat (IntKind.i64.wrap ((t02.size : Int) - 4)) := by omega
       have h56 : Int.toNat (IntKind.i64.wrap ((t02.size : Int) - 4)) ≤ t02.size := by omega
       have h57 : ByteArray.extract t02 (2) (Int.toNat (IntKind.i64.wrap ((t02.size : Int) - 4))) = s3 := h54.symm
       try simp only [Int.toNat_natCast] at h55 h56 h57
       refine Z1 (Y6 c47 (zno .i64 h51) (zno .i64 (Int.le_trans h51 h52)) h55 h56 h57) ?_
       obtain rfl := Zi H50
       exact ⟨⟨s3, rfl⟩, ZR [(0, 0), (1, 1)]⟩
      ·refine Z1 c47 ?_
       obtain rfl := Zi H48
       exact ⟨⟨ByteArray.empty, rfl⟩, ZR [(0, 0), (1, 1)]⟩
     ·rintro ⟨t42, he163⟩
      obtain rfl := he163.symm
      try dsimp only at H46
      refine zsq ?_
      obtain ⟨e_5, E58, H59⟩ := zbi H46
      refine zjn (α := { y : Int // e_5 = y }) (fun | ⟨t40, _⟩ => ⟨upd 0 (.v (.string t02)) (upd 2 (.pt 0 0) (upd 4 (.pt 1 0) (upd 5 (.v (.int .i64 (t02.size : Int))) noFr))), upd 0 (some (.bx [.v (.int .i64 0), .v (.bool false), .v (.string ByteArray.empty), .v (.int .i64 0)])) (upd 1 (some (.bx [.v (.int .i64 t40), .v (.bool t41), .v (.string t42), .v (.int .i64 0)])) noHp), 2⟩) ?_ ?_
      ·refine zbk ?_
       refine zsq ?_
       obtain ⟨e_6, E60, H61⟩ := zbi E58
       refine zjn (α := { y : Bool // e_6 = y }) (fun | ⟨t44, _⟩ => ⟨upd 0 (.v (.string t02)) (upd 2 (.pt 0 0) (upd 4 (.pt 1 0) (upd 5 (.v (.int .i64 (t02.size : Int))) (upd 44 (.v (.bool t44)) noFr)))), upd 0 (some (.bx [.v (.int .i64 0), .v (.bool false), .v (.string ByteArray.empty), .v (.int .i64 0)])) (upd 1 (some (.bx [.v (.int .i64 0), .v (.bool t41), .v (.string t42), .v (.int .i64 0)])) noHp), 2⟩) ?_ ?_
       ·refine ZT 1 ?_
        obtain ⟨ch3, b62, H63⟩ := zbi E60
        obtain ⟨h64, by_3, h65, h66⟩ := zbx b62
        try simp only [Int.reduceToNat] at h65
        refine Z1 (Y3 (zno .i64 h64) h65 h66.symm) ?_
        rcases zit H63 with ⟨c67, H68⟩ | ⟨c67, H68⟩
        ·refine Z1 (Y4 (zno .i64 h64) h65 h66.symm c67) ?_
         obtain rfl := Zi H68
         exact ⟨⟨(t42.toList == ({ data := #[] } : ByteArray).toList), rfl⟩, ZR [(0, 0), (1, 1)]⟩
        ·refine Z1 (Y4 (zno .i64 h64) h65 h66.symm c67) ?_
         obtain rfl := Zi H68
         exact ⟨⟨false, rfl⟩, ZR [(0, 0), (1, 1)]⟩
       ·rintro ⟨t44, he107⟩
        obtain rfl := he107.symm
        try dsimp only at H61
        rcases zit H61 with ⟨c69, H70⟩ | ⟨c69, H70⟩
        ·refine runR_condT (by rfl) c69 ?_
         refine Z1 c69 ?_
         refine ZT 2 ?_
         refine Z1 c69 ?_
         obtain rfl := Zi H70
         exact ⟨⟨1, rfl⟩, ZR [(0, 0), (1, 1)]⟩
        ·refine runR_condF (by rfl) c69 ?_
         refine Z1 c69 ?_
         refine zsq (ZT 1 ?_)
         obtain ⟨ch4, b71, H72⟩ := zbi H70
         obtain ⟨h73, by_4, h74, h75⟩ := zbx b71
         try simp only [Int.reduceToNat] at h74
         refine Z1 (Y4 c69 (zno .i64 h73) h74 h75.symm) ?_
         rcases zit H72 with ⟨c76, H77⟩ | ⟨c76, H77⟩
         ·refine runR_condT (by rfl) c76 ?_
          refine Z1 (Y5 c69 (zno .i64 h73) h74 h75.symm c76) ?_
          refine ZT 2 ?_
          refine Z1 (Y5 c69 (zno .i64 h73) h74 h75.symm c76) ?_
          obtain rfl := Zi H77
          exact ⟨⟨2, rfl⟩, ZR [(0, 0), (1, 1)]⟩
         ·refine runR_condF (by rfl) c76 ?_
          refine Z1 (Y5 c69 (zno .i64 h73) h74 h75.symm c76) ?_
          refine zsq ?_
          obtain ⟨e_7, E78, H79⟩ := zbi H77
          refine zjn (α := { y : Bool // e_7 = y }) (fun | ⟨t59, _⟩ => ⟨upd 0 (.v (.string t02)) (upd 2 (.pt 0 0) (upd 4 (.pt 1 0) (upd 5 (.v (.int .i64 (t02.size : Int))) (upd 59 (.v (.bool t59)) noFr)))), upd 0 (some (.bx [.v (.int .i64 0), .v (.bool false), .v (.string ByteArray.empty), .v (.int .i64 0)])) (upd 1 (some (.bx [.v (.int .i64 0), .v (.bool t41), .v (.string t42), .v (.int .i64 0)])) noHp), 2⟩) ?_ ?_
          ·refine ZT 1 ?_
           obtain ⟨ch5, b80, H81⟩ := zbi E78
           obtain ⟨h82, by_5, h83, h84⟩ := zbx b80
           try simp only [Int.reduceToNat] at h83
           refine Z1 (Y3 (zno .i64 h82) h83 h84.symm) ?_
           rcases zit H81 with ⟨c85, H86⟩ | ⟨c85, H86⟩
           ·refine Z1 (Y4 (zno .i64 h82) h83 h84.symm c85) ?_
            obtain rfl := Zi H86
            exact ⟨⟨(t42.toList == ({ data := #[] } : ByteArray).toList), rfl⟩, ZR [(0, 0), (1, 1)]⟩
           ·refine Z1 (Y4 (zno .i64 h82) h83 h84.symm c85) ?_
            obtain rfl := Zi H86
            exact ⟨⟨false, rfl⟩, ZR [(0, 0), (1, 1)]⟩
          ·rintro ⟨t59, he106⟩
           obtain rfl := he106.symm
           try dsimp only at H79
           refine ZT 2 ?_
           refine Z0 ?_
           rcases zit H79 with ⟨c87, H88⟩ | ⟨c87, H88⟩
           ·refine Z1 c87 ?_
            obtain rfl := Zi H88
            exact ⟨⟨3, rfl⟩, ZR [(0, 0), (1, 1)]⟩
           ·obtain ⟨ch6, b89, H90⟩ := zbi H88
            obtain ⟨h91, by_6, h92, h93⟩ := zbx b89
            try simp only [Int.reduceToNat] at h92
            refine Z1 (Y4 c87 (zno .i64 h91) h92 h93.symm) ?_
            rcases zit H90 with ⟨c94, H95⟩ | ⟨c94, H95⟩
            ·refine Z1 (Y5 c87 (zno .i64 h91) h92 h93.symm c94) ?_
             obtain rfl := Zi H95
             exact ⟨⟨4, rfl⟩, ZR [(0, 0), (1, 1)]⟩
            ·refine Z1 (Y5 c87 (zno .i64 h91) h92 h93.symm c94) ?_
             rcases zit H95 with ⟨c96, H97⟩ | ⟨c96, H97⟩
             ·refine Z1 (Y6 c87 (zno .i64 h91) h92 h93.symm c94 c96) ?_
              rcases zit H97 with ⟨c98, H99⟩ | ⟨c98, H99⟩
              ·refine Z1 (Y2 (Y6 c87 (zno .i64 h91) h92 h93.symm c94 c96) c98) ?_
               obtain rfl := Zi H99
               exact ⟨⟨5, rfl⟩, ZR [(0, 0), (1, 1)]⟩
              ·refine Z1 (Y2 (Y6 c87 (zno .i64 h91) h92 h93.symm c94 c96) c98) ?_
               rcases zit H99 with ⟨c100, H101⟩ | ⟨c100, H101⟩
               ·refine Z1 (Y2 (Y6 c87 (zno .i64 h91) h92 h93.symm c94 c96) (Y2 c98 c100)) ?_
                obtain rfl := Zi H101
                exact ⟨⟨0, rfl⟩, ZR [(0, 0), (1, 1)]⟩
               ·refine Z1 (Y2 (Y6 c87 (zno .i64 h91) h92 h93.symm c94 c96) (Y2 c98 c100)) ?_
                obtain rfl := Zi H101
                exact ⟨⟨0, rfl⟩, ZR [(0, 0), (1, 1)]⟩
             ·refine Z1 (Y6 c87 (zno .i64 h91) h92 h93.symm c94 c96) ?_
              rcases zit H97 with ⟨c102, H103⟩ | ⟨c102, H103⟩
              ·refine Z1 (Y2 (Y6 c87 (zno .i64 h91) h92 h93.symm c94 c96) c102) ?_
               rcases zit H103 with ⟨c104, H105⟩ | ⟨c104, H105⟩
               ·refine Z1 (Y2 (Y6 c87 (zno .i64 h91) h92 h93.symm c94 c96) (Y2 c102 c104)) ?_
                obtain rfl := Zi H105
                exact ⟨⟨6, rfl⟩, ZR [(0, 0), (1, 1)]⟩
               ·refine Z1 (Y2 (Y6 c87 (zno .i64 h91) h92 h93.symm c94 c96) (Y2 c102 c104)) ?_
                obtain rfl := Zi H105
                exact ⟨⟨0, rfl⟩, ZR [(0, 0), (1, 1)]⟩
              ·refine Z1 (Y2 (Y6 c87 (zno .i64 h91) h92 h93.symm c94 c96) c102) ?_
               obtain rfl := Zi H103
               exact ⟨⟨0, rfl⟩, ZR [(0, 0), (1, 1)]⟩
      ·rintro ⟨t40, he162⟩
       obtain rfl := he162.symm
       try dsimp only at H59
       refine zsq (zsq ?_)
       refine ZT 1 ?_
       refine Z0 ?_
       obtain ⟨e_8, E108, H109⟩ := zbi H59
       refine zjn (α := { y : Int // e_8 = .inl y }) (fun | ⟨t433, _⟩ => ⟨upd 2 (.pt 0 0) (upd 4 (.pt 1 0) (upd 5 (.v (.int .i64 (t02.size : Int))) noFr)), upd 0 (some (.bx [.v (.int .i64 0), .v (.bool false), .v (.string ByteArray.empty), .v (.int .i64 0)])) (upd 1 (some (.bx [.v (.int .i64 t40), .v (.bool t41), .v (.string t42), .v (.int .i64 t433)])) noHp), 2⟩) ?_ ?_
       ·refine zbk ?_
        refine zlp (α := { q : Nat × (Int × Int) // ref17_entry_L1 n t02 q.1 q.2 = some e_8 }) (fun | ⟨⟨c, ⟨t43, t6⟩⟩, _⟩ => ⟨upd 0 (.v (.string t02)) (upd 2 (.pt 0 0) (upd 4 (.pt 1 0) (upd 5 (.v (.int .i64 (t02.size : Int))) (upd 6 (.v (.int .i64 t6)) noFr)))), upd 0 (some (.bx [.v (.int .i64 0), .v (.bool false), .v (.string ByteArray.empty), .v (.int .i64 0)])) (upd 1 (some (.bx [.v (.int .i64 t40), .v (.bool t41), .v (.string t42), .v (.int .i64 t43)])) noHp), 2⟩) (fun q => q.1.1) ⟨(n, (0, 0)), E108⟩ ?_ ?_
        ·exact ZR [(0, 0), (1, 1)]
        ·rintro ⟨⟨c, ⟨t43, t6⟩⟩, L110⟩
         rcases c with _ | c
         ·exact Zx L110
         ·unfold ref17_entry_L1 at L110
          try dsimp only at L110
          refine zsq (ZT 1 ?_)
          refine Z0 ?_
          rcases zit L110 with ⟨c130, H131⟩ | ⟨c130, H131⟩
          ·refine Z1 c130 ?_
           refine zsq (zbk ?_)
           refine zsq (ZT 1 ?_)
           obtain ⟨ch9, b132, H133⟩ := zbi H131
           obtain ⟨h134, by_9, h135, h136⟩ := zbx b132
           try simp only [Int.reduceToNat, Int.toNat_natCast] at h135
           refine Z1 (Y4 c130 (zno .i64 h134) h135 h136.symm) ?_
           refine zsq (zsq ?_)
           obtain ⟨e_10, E137, H138⟩ := zbi H133
           refine zjn (α := { y : Bool // e_10 = y }) (fun | ⟨t1112, _⟩ => ⟨upd 0 (.v (.string t02)) (upd 2 (.pt 0 0) (upd 4 (.pt 1 0) (upd 5 (.v (.int .i64 (t02.size : Int))) (upd 6 (.v (.int .i64 t6)) (upd 7 (.v (.int .u8 ch9)) (upd 111 (.v (.bool t1112)) noFr)))))), upd 0 (some (.bx [.v (.int .i64 0), .v (.bool false), .v (.string ByteArray.empty), .v (.int .i64 0)])) (upd 1 (some (.bx [.v (.int .i64 t40), .v (.bool t41), .v (.string t42), .v (.int .i64 t43)])) noHp), 2⟩) ?_ ?_
           ·refine ZT 1 ?_
            refine Z0 ?_
            rcases zit E137 with ⟨c139, H140⟩ | ⟨c139, H140⟩
            ·obtain ⟨ch10, b141, H142⟩ := zbi H140
             obtain ⟨h143, by_10, h144, h145⟩ := zbx b141
             try simp only [Int.reduceToNat, Int.toNat_natCast] at h144
             refine Z1 (Y4 c139 (zno .i64 h143) h144 h145.symm) ?_
             obtain rfl := Zi H142
             exact ⟨⟨(ch9 != ch10), rfl⟩, ZR [(0, 0), (1, 1)]⟩
            ·refine Z1 c139 ?_
             obtain rfl := Zi H140
             exact ⟨⟨false, rfl⟩, ZR [(0, 0), (1, 1)]⟩
           ·rintro ⟨t1112, he152⟩
            obtain rfl := he152.symm
            try dsimp only at H138
            refine ZT 4 ?_
            refine Z0 ?_
            rcases zit H138 with ⟨c146, H147⟩ | ⟨c146, H147⟩
            ·refine Z1 c146 ?_
             obtain rfl := Zi H147
             obtain rfl := Zi H109
             exact ZE0
            ·refine Z1 c146 ?_
             rcases zit H147 with ⟨c148, H149⟩ | ⟨c148, H149⟩
             ·obtain ⟨g150, H151⟩ := grd_inv H149
              have g150 : ¬ (IntKind.u64.wrap t6) < 0 := by have := of_decide_eq_true g150; omega
              refine Z1 (Y3 c146 c148 g150) ?_
              exact ⟨⟨(c, ((IntKind.i64.wrap ((BitVec.ofInt IntKind.i64.bits t43 ||| BitVec.ofInt IntKind.i64.bits (sh 4 (Int.toNat (IntKind.u64.wrap t6)))).toNat : Int)), (IntKind.i64.wrap (t6 + 1)))), H151⟩, ZR [(0, 0), (1, 1)], Nat.lt_succ_self _⟩
             ·refine Z1 (Y2 c146 c148) ?_
              exact ⟨⟨(c, (t43, (IntKind.i64.wrap (t6 + 1)))), H149⟩, ZR [(0, 0), (1, 1)], Nat.lt_succ_self _⟩
          ·refine Z1 c130 ?_
           obtain rfl := Zi H131
           exact ⟨⟨t43, rfl⟩, ZR [(0, 0), (1, 1)]⟩
       ·rintro ⟨t433, he161⟩
        obtain rfl := he161.symm
        try dsimp only at H109
        refine ZT 1 ?_
        refine Z0 ?_
        rcases zit H109 with ⟨c153, H154⟩ | ⟨c153, H154⟩
        ·refine Z1 c153 ?_
         rcases zit H154 with ⟨c155, H156⟩ | ⟨c155, H156⟩
         ·refine Z1 (Y2 c153 c155) ?_
          refine Rd_endF (by rfl) ?_
          refine Z1 (Y2 c153 c155) ?_
          obtain rfl := Zi H156
          exact ZE0
         ·obtain ⟨t133, b157, H158⟩ := zbi H156
          refine Z1 (Y2 c153 c155) ?_
          refine ZD0 (ref1_Name_ok b157) ?_
          refine Z1 (Y2 c153 c155) ?_
          rcases zit H158 with ⟨c159, H160⟩ | ⟨c159, H160⟩
          ·refine Z1 (Y3 c153 c155 c159) ?_
           refine Rd_endF (by rfl) ?_
           refine Z1 (Y3 c153 c155 c159) ?_
           obtain rfl := Zi H160
           exact ZE0
          ·refine Z1 (Y3 c153 c155 c159) ?_
           refine Rd_endF (by rfl) ?_
           refine Z1 (Y3 c153 c155 c159) ?_
           obtain rfl := Zi H160
           exact ZE0
        ·refine Z1 c153 ?_
         refine Rd_endF (by rfl) ?_
         refine Z1 c153 ?_
         obtain rfl := Zi H154
         exact ZE0
def ref17_Entries_L1 (n : Nat) (s : ByteArray) : Nat → (List GEntry × Int) → Option ((List GEntry) ⊕ (List GEntry × Bool))
 | 0, _ => none
 | c + 1, (out, from_) =>
  (if (decide (from_ ≤ (s.size : Int))) then
   (ref1_Find n s 44 from_).bind fun t152 =>
   (
    (if (decide (t152 < 0)) then
     some (s.size : Int)
    else
     some t152) : Option (Int)).bind fun k3 =>
   (bslc s from_ k3).bind fun s3 =>
   (ref17_entry n s3).bind fun t252 =>
   (if t252.2 then
    (if ((out.length : Int) == 100) then
     some (.inr ([], false))
    else
     (app out [(⟨t252.1.kind, t252.1.default, t252.1.name, t252.1.bits⟩ : GEntry)]).bind fun l =>
     ref17_Entries_L1 n s c (l, (IntKind.i64.wrap (k3 + 1))))
   else
    some (.inr ([], false)))
  else
   some (.inl out))
def ref17_Entries (n : Nat) (s : ByteArray) : Option (List GEntry × Bool) :=
 (
  ref17_Entries_L1 n s n ([], 0) : Option ((List GEntry) ⊕ (List GEntry × Bool))).bind fun
  | .inl out3 =>
   some (out3, true)
  | .inr r => some r
theorem ref17_Entries_ok {n : Nat} {s : ByteArray} {r : List GEntry × Bool} (H : ref17_Entries n s = some r) : PureOK Tryz.prog 83 [D.v (.string s)] (D.tu [D.sl (List.map eGEntry r.1), D.v (.bool r.2)]) true := by
 unfold ref17_Entries at H
 refine ZP tab_ok fol (rs := #[.tmp 2, .tmp 3]) Tryz.func83 ?_
 refine zsq (ZT 1 ?_)
 refine Z0 ?_
 refine zsq (ZT 1 ?_)
 refine Z0 ?_
 refine zsq (zsq ?_)
 refine ZT 1 ?_
 refine Z0 ?_
 obtain ⟨e_, E1, H2⟩ := zbi H
 refine zjn (α := { y : List GEntry // e_ = .inl y } × Nat) (fun | ⟨⟨out3, _⟩, g4⟩ => ⟨upd 4 (accV 0 g4 (List.map eGEntry out3)) noFr, upd 0 (accO 4 g4 false (List.map eGEntry out3)) noHp, 1⟩) ?_ ?_
 ·refine zbk ?_
  refine zlp (α := { q : (Nat × (List GEntry × Int)) × Nat // ref17_Entries_L1 n s q.1.1 q.1.2 = some e_ }) (fun | ⟨⟨⟨c, ⟨out, from_⟩⟩, g⟩, _⟩ => ⟨upd 0 (.v (.string s)) (upd 4 (accV 0 g (List.map eGEntry out)) (upd 5 (.v (.int .i64 from_)) noFr)), upd 0 (accO 4 g false (List.map eGEntry out)) noHp, 1⟩) (fun q => q.1.1.1) ⟨((n, ([], 0)), 0), E1⟩ ?_ ?_
  ·exact ZR []
  ·rintro ⟨⟨⟨c, ⟨out, from_⟩⟩, g⟩, L3⟩
   rcases c with _ | c
   ·exact Zx L3
   ·unfold ref17_Entries_L1 at L3
    try dsimp only at L3
    refine zsq (ZT 1 ?_)
    refine Z0 ?_
    rcases zit L3 with ⟨c26, H27⟩ | ⟨c26, H27⟩
    ·refine Z1 c26 ?_
     refine zbk ?_
     refine zsq (ZT 1 ?_)
     obtain ⟨t152, b28, H29⟩ := zbi H27
     refine Z1 c26 ?_
     refine ZC0 (ref1_Find_ok b28) ?_
     refine Z1 c26 ?_
     refine zsq (zsq ?_)
     refine ZT 1 ?_
     refine Z1 c26 ?_
     obtain ⟨e_3, E30, H31⟩ := zbi H29
     refine zjn (α := { y : Int // e_3 = y } × Nat) (fun | ⟨⟨k3, _⟩, g2⟩ => ⟨upd 0 (.v (.string s)) (upd 4 (accV 0 g2 (List.map eGEntry out)) (upd 5 (.v (.int .i64 from_)) (upd 6 (.v (.int .i64 k3)) noFr))), upd 0 (accO 4 g2 false (List.map eGEntry out)) noHp, 1⟩) ?_ ?_
     ·refine ZT 1 ?_
      refine Z0 ?_
      rcases zit E30 with ⟨c32, H33⟩ | ⟨c32, H33⟩
      ·refine Z1 c32 ?_
       obtain rfl := Zi H33
       exact ⟨⟨⟨(s.size : Int), rfl⟩, g⟩, ZR [(0, 0)]⟩
      ·refine Z1 c32 ?_
       obtain rfl := Zi H33
       exact ⟨⟨⟨t152, rfl⟩, g⟩, ZR [(0, 0)]⟩
     ·rintro ⟨⟨k3, he57⟩, g2⟩
      obtain rfl := he57.symm
      try dsimp only at H31
      refine ZT 2 ?_
      obtain ⟨s3, b34, H35⟩ := zbi H31
      obtain ⟨h36, h37, h38, h39⟩ := zbs b34
      have h40 : Int.toNat from_ ≤ Int.toNat k3 := by omega
      have h41 : Int.toNat k3 ≤ s.size := by omega
      have h42 : ByteArray.extract s (Int.toNat from_) (Int.toNat k3) = s3 := h39.symm
      try simp only [Int.toNat_natCast] at h40 h41 h42
      obtain ⟨t252, b43, H44⟩ := zbi H35
      refine Z1 (Y5 (zno .i64 h36) (zno .i64 (Int.le_trans h36 h37)) h40 h41 h42) ?_
      refine ZC0 (ref17_entry_ok b43) ?_
      refine Z1 (Y5 (zno .i64 h36) (zno .i64 (Int.le_trans h36 h37)) h40 h41 h42) ?_
      rcases zit H44 with ⟨c45, H46⟩ | ⟨c45, H46⟩
      ·refine Z1 (Y6 (zno .i64 h36) (zno .i64 (Int.le_trans h36 h37)) h40 h41 h42 c45) ?_
       rcases zit H46 with ⟨c47, H48⟩ | ⟨c47, H48⟩
       ·refine Z1 (Y2 (Y6 (zno .i64 h36) (zno .i64 (Int.le_trans h36 h37)) h40 h41 h42 c45) c47) ?_
        obtain rfl := Zi H48
        obtain rfl := Zi H2
        exact ZE0
       ·obtain ⟨l, b49, H50⟩ := zbi H48
        obtain ⟨h51, h52⟩ := app_inv b49
        have h51 : out.length + 1 ≤ 4294967296 := h51
        have h53 : List.map eGEntry out ++ [[.v (.int .i64 t252.1.kind), .v (.bool t252.1.default), .v (.string t252.1.name), .v (.int .i64 t252.1.bits)]] = List.map eGEntry l := app_map eGEntry h52
        have h54 : out.length + 1 = l.length := app_len h52
        have h55 : l.length ≤ 4294967296 := by omega
        have q56 : 0 < l.length := by omega
        refine Z1 (Y2 (Y6 (zno .i64 h36) (zno .i64 (Int.le_trans h36 h37)) h40 h41 h42 c45) (Y5 c47 h51 h53 h54 h55)) ?_
        rcases out with _ | ⟨q0, q1⟩
        ·try simp only [List.map_nil, accI, accN]
         exact ⟨⟨((c, (l, (IntKind.i64.wrap (k3 + 1)))), 0), H50⟩, ZR [(0, 22)], Nat.lt_succ_self _⟩
        ·try simp only [List.map_cons, accI, accN]
         exact ⟨⟨((c, (l, (IntKind.i64.wrap (k3 + 1)))), (g2 + 1)), H50⟩, ZR [(0, 0)], Nat.lt_succ_self _⟩
      ·refine Z1 (Y6 (zno .i64 h36) (zno .i64 (Int.le_trans h36 h37)) h40 h41 h42 c45) ?_
       obtain rfl := Zi H46
       obtain rfl := Zi H2
       exact ZE0
    ·refine Z1 c26 ?_
     obtain rfl := Zi H27
     exact ⟨⟨⟨out, rfl⟩, g⟩, ZR [(0, 0)]⟩
 ·rintro ⟨⟨out3, he58⟩, g4⟩
  obtain rfl := he58.symm
  try dsimp only at H2
  refine ZT 1 ?_
  refine Z0 ?_
  obtain rfl := Zi H2
  exact ZE0
def ref17_Fact_L1 (n : Nat) (t0 : GLine) : Nat → (Int × Int) → Option (Int)
 | 0, _ => none
 | c + 1, (t50, t8) =>
  (if (decide (t8 < 5)) then
   (idx ([{ data := #[] }, { data := #[117, 115, 101, 114] }, { data := #[103, 114, 111, 117, 112] }, { data := #[100, 105, 114] }, { data := #[102, 105, 108, 101] }] : List ByteArray) t8).bind fun x2 =>
   (idx t0.words 0).bind fun x3 =>
   (if (x2.toList == x3.text.toList) then
    ref17_Fact_L1 n t0 c (t8, (IntKind.i64.wrap (t8 + 1)))
   else
    ref17_Fact_L1 n t0 c (t50, (IntKind.i64.wrap (t8 + 1))))
  else
   some t50)
def ref17_Fact_L2 (n : Nat) (t0 : GLine) (t503 : Int) : Nat → (ByteArray × List ByteArray × ByteArray × ByteArray × List GEntry × Int) → Option ((ByteArray × List ByteArray × ByteArray × ByteArray × List GEntry) ⊕ (GFile × Int × Int))
 | 0, _ => none
 | c + 1, (t513, t522, t532, t542, t55, t102) =>
  (if (decide (t102 < (t0.words.length : Int))) then
   (idx t0.words t102).bind fun x6 =>
   (ref1_Name n x6.text).bind fun t883 =>
   (
    (if (t102 == 1) then
     some (decide (3 ≤ t503))
    else
     some false) : Option (Bool)).bind fun t962 =>
   (if t962 then
    (ref17_Path n x6.text).bind fun t1063 =>
    (if t1063 then
     ref17_Fact_L2 n t0 t503 c (x6.text, t522, t532, t542, t55, (IntKind.i64.wrap (t102 + 1)))
    else
     some (.inr ((⟨0, ByteArray.empty, [], ByteArray.empty, ByteArray.empty, [], 0⟩ : GFile), x6.at_, 15)))
   else
    (if (t102 == 1) then
     (if t883 then
      ref17_Fact_L2 n t0 t503 c (x6.text, t522, t532, t542, t55, (IntKind.i64.wrap (t102 + 1)))
     else
      some (.inr ((⟨0, ByteArray.empty, [], ByteArray.empty, ByteArray.empty, [], 0⟩ : GFile), x6.at_, 15)))
    else
     (if (t503 == 2) then
      (app t522 [x6.text]).bind fun l =>
      (if t883 then
       ref17_Fact_L2 n t0 t503 c (t513, l, t532, t542, t55, (IntKind.i64.wrap (t102 + 1)))
      else
       some (.inr ((⟨0, ByteArray.empty, [], ByteArray.empty, ByteArray.empty, [], 0⟩ : GFile), x6.at_, 15)))
     else
      (if (t102 == 2) then
       (if t883 then
        ref17_Fact_L2 n t0 t503 c (t513, t522, x6.text, t542, t55, (IntKind.i64.wrap (t102 + 1)))
       else
        some (.inr ((⟨0, ByteArray.empty, [], ByteArray.empty, ByteArray.empty, [], 0⟩ : GFile), x6.at_, 15)))
      else
       (if (t102 == 3) then
        (if t883 then
         ref17_Fact_L2 n t0 t503 c (t513, t522, t532, x6.text, t55, (IntKind.i64.wrap (t102 + 1)))
        else
         some (.inr ((⟨0, ByteArray.empty, [], ByteArray.empty, ByteArray.empty, [], 0⟩ : GFile), x6.at_, 15)))
       else
        (ref17_Entries n x6.text).bind fun t922 =>
        (if t922.2 then
         ref17_Fact_L2 n t0 t503 c (t513, t522, t532, t542, t922.1, (IntKind.i64.wrap (t102 + 1)))
        else
         some (.inr ((⟨0, ByteArray.empty, [], ByteArray.empty, ByteArray.empty, [], 0⟩ : GFile), x6.at_, 15))))))))
  else
   some (.inl (t513, t522, t532, t542, t55)))
def ref17_Fact (n : Nat) (t0 : GLine) : Option (GFile × Int × Int) :=
 (if ((t0.words.length : Int) == 0) then
  some ((⟨0, ByteArray.empty, [], ByteArray.empty, ByteArray.empty, [], 0⟩ : GFile), t0.at_, 9)
 else
  (
   ref17_Fact_L1 n t0 n (0, 1) : Option (Int)).bind fun t503 =>
  (
   (if (t503 == 1) then
    (if ((t0.words.length : Int) == 2) then
     some true
    else
     (if (t503 == 2) then
      (if (decide (2 ≤ (t0.words.length : Int))) then
       some true
      else
       (if (decide (3 ≤ t503)) then
        some ((t0.words.length : Int) == 5)
       else
        some false))
     else
      (if (decide (3 ≤ t503)) then
       some ((t0.words.length : Int) == 5)
      else
       some false)))
   else
    (if (t503 == 2) then
     (if (decide (2 ≤ (t0.words.length : Int))) then
      some true
     else
      (if (decide (3 ≤ t503)) then
       some ((t0.words.length : Int) == 5)
      else
       some false))
    else
     (if (decide (3 ≤ t503)) then
      some ((t0.words.length : Int) == 5)
     else
      some false))) : Option (Bool)).bind fun t9 =>
  (if t9 then
   (
    ref17_Fact_L2 n t0 t503 n (ByteArray.empty, [], ByteArray.empty, ByteArray.empty, [], 1) : Option ((ByteArray × List ByteArray × ByteArray × ByteArray × List GEntry) ⊕ (GFile × Int × Int))).bind fun
    | .inl (t516, t525, t535, t545, t553) =>
     some ((⟨t503, t516, t525, t535, t545, t553, t0.at_⟩ : GFile), 0, 0)
    | .inr r => some r
  else
   (idx t0.words 0).bind fun x7 =>
   some ((⟨0, ByteArray.empty, [], ByteArray.empty, ByteArray.empty, [], 0⟩ : GFile), x7.at_, 9)))
set_option maxHeartbeats 8000000 in
theorem ref17_Fact_ok {n : Nat} {t0 : GLine} {r : GFile × Int × Int} (H : ref17_Fact n t0 = some r) : PureOK Tryz.prog 55 [D.ag (eGLine t0)] (D.tu [D.ag (eGFile r.1), D.v (.int .i64 r.2.1), D.v (.int .i64 r.2.2)]) true := by
 unfold ref17_Fact at H
 refine ZP tab_ok fol (rs := #[.cell 2 36, .tmp 3, .tmp 4]) Tryz.func55 ?_
 refine zsq (ZT 1 ?_)
 refine Z0 ?_
 refine zsq (ZT 1 ?_)
 refine Z0 ?_
 rcases zit H with ⟨c1, H2⟩ | ⟨c1, H2⟩
 ·refine Z1 c1 ?_
  refine Rd_endF (by rfl) ?_
  refine Z1 c1 ?_
  obtain rfl := Zi H2
  exact ZE0
 ·refine Z1 c1 ?_
  refine zsq (ZT 1 ?_)
  refine Z1 c1 ?_
  refine zsq (ZT 1 ?_)
  refine Z1 c1 ?_
  refine zsq (ZT 1 ?_)
  refine Z1 c1 ?_
  refine zsq (zsq ?_)
  refine ZT 1 ?_
  refine Z1 c1 ?_
  obtain ⟨e_, E3, H4⟩ := zbi H2
  refine zjn (α := { y : Int // e_ = y }) (fun | ⟨t503, _⟩ => ⟨upd 1 (.pt 0 0) (upd 2 (.pt 1 0) (upd 5 (.pt 2 0) (upd 6 (.v (.int .i64 (t0.words.length : Int))) noFr))), upd 0 (some (.bx [.v (.int .i64 t0.at_), .d (.sl (List.map eGWord t0.words)) true])) (upd 1 (some (.bx [.v (.int .i64 0), .v (.string ByteArray.empty), .v (.slice none 0 0), .v (.string ByteArray.empty), .v (.string ByteArray.empty), .v (.slice none 0 0), .v (.int .i64 0)])) (upd 2 (some (.bx [.v (.int .i64 t503), .v (.string ByteArray.empty), .v (.slice none 0 0), .v (.string ByteArray.empty), .v (.string ByteArray.empty), .v (.slice none 0 0), .v (.int .i64 t0.at_)])) noHp)), 3⟩) ?_ ?_
  ·refine zbk ?_
   refine zlp (α := { q : Nat × (Int × Int) // ref17_Fact_L1 n t0 q.1 q.2 = some e_ }) (fun | ⟨⟨c, ⟨t50, t8⟩⟩, _⟩ => ⟨upd 1 (.pt 0 0) (upd 2 (.pt 1 0) (upd 5 (.pt 2 0) (upd 6 (.v (.int .i64 (t0.words.length : Int))) (upd 7 (.so 3 0 0 5) (upd 8 (.v (.int .i64 t8)) noFr))))), upd 0 (some (.bx [.v (.int .i64 t0.at_), .d (.sl (List.map eGWord t0.words)) true])) (upd 1 (some (.bx [.v (.int .i64 0), .v (.string ByteArray.empty), .v (.slice none 0 0), .v (.string ByteArray.empty), .v (.string ByteArray.empty), .v (.slice none 0 0), .v (.int .i64 0)])) (upd 2 (some (.bx [.v (.int .i64 t50), .v (.string ByteArray.empty), .v (.slice none 0 0), .v (.string ByteArray.empty), .v (.string ByteArray.empty), .v (.slice none 0 0), .v (.int .i64 t0.at_)])) (upd 3 (some (.rw [[.v (.string { data := #[] })], [.v (.string { data := #[117, 115, 101, 114] })], [.v (.string { data := #[103, 114, 111, 117, 112] })], [.v (.string { data := #[100, 105, 114] })], [.v (.string { data := #[102, 105, 108, 101] })]] 1 0 false false)) noHp))), 4⟩) (fun q => q.1.1) ⟨(n, (0, 1)), E3⟩ ?_ ?_
   ·exact ZR [(0, 0), (1, 1), (2, 11), (3, 17)]
   ·rintro ⟨⟨c, ⟨t50, t8⟩⟩, L5⟩
    rcases c with _ | c
    ·exact Zx L5
    ·unfold ref17_Fact_L1 at L5
     try dsimp only at L5
     refine ZT 1 ?_
     refine Z0 ?_
     rcases zit L5 with ⟨c14, H15⟩ | ⟨c14, H15⟩
     ·obtain ⟨x2, b16, H17⟩ := zbi H15
      obtain ⟨h18, h19⟩ := zix b16
      try simp only [Int.reduceToNat, Int.toNat_natCast] at h19
      have h20 := map_at eS h19
      simp only [List.map_cons, List.map_nil, eS] at h20
      have h21 := at_lt h19
      simp only [List.length_cons, List.length_nil, Nat.reduceAdd] at h21
      obtain ⟨x3, b22, H23⟩ := zbi H17
      obtain ⟨h24, h25⟩ := zix b22
      try simp only [Int.reduceToNat] at h25
      have h26 := map_at eGWord h25
      refine Z1 (Y6 c14 (zno .i64 h18) h20 h21 (zno .i64 h24) h26) ?_
      refine Rd_endF (by rfl) ?_
      refine Z1 (Y6 c14 (zno .i64 h18) h20 h21 (zno .i64 h24) h26) ?_
      rcases zit H23 with ⟨c28, H29⟩ | ⟨c28, H29⟩
      ·refine Z1 (Y2 (Y6 c14 (zno .i64 h18) h20 h21 (zno .i64 h24) h26) c28) ?_
       exact ⟨⟨(c, (t8, (IntKind.i64.wrap (t8 + 1)))), H29⟩, ZR [(0, 0), (1, 1), (2, 2), (3, 3)], Nat.lt_succ_self _⟩
      ·refine Z1 (Y2 (Y6 c14 (zno .i64 h18) h20 h21 (zno .i64 h24) h26) c28) ?_
       exact ⟨⟨(c, (t50, (IntKind.i64.wrap (t8 + 1)))), H29⟩, ZR [(0, 0), (1, 1), (2, 2), (3, 3)], Nat.lt_succ_self _⟩
     ·refine Z1 c14 ?_
      obtain rfl := Zi H15
      exact ⟨⟨t50, rfl⟩, ZR [(0, 0), (1, 1), (2, 2)]⟩
  ·rintro ⟨t503, he176⟩
   obtain rfl := he176.symm
   try dsimp only at H4
   refine zsq ?_
   obtain ⟨e_2, E30, H31⟩ := zbi H4
   refine zjn (α := { y : Bool // e_2 = y }) (fun | ⟨t9, _⟩ => ⟨upd 1 (.pt 0 0) (upd 2 (.pt 1 0) (upd 5 (.pt 2 0) (upd 6 (.v (.int .i64 (t0.words.length : Int))) (upd 9 (.v (.bool t9)) noFr)))), upd 0 (some (.bx [.v (.int .i64 t0.at_), .d (.sl (List.map eGWord t0.words)) true])) (upd 1 (some (.bx [.v (.int .i64 0), .v (.string ByteArray.empty), .v (.slice none 0 0), .v (.string ByteArray.empty), .v (.string ByteArray.empty), .v (.slice none 0 0), .v (.int .i64 0)])) (upd 2 (some (.bx [.v (.int .i64 t503), .v (.string ByteArray.empty), .v (.slice none 0 0), .v (.string ByteArray.empty), .v (.string ByteArray.empty), .v (.slice none 0 0), .v (.int .i64 t0.at_)])) noHp)), 3⟩) ?_ ?_
   ·refine ZT 1 ?_
    refine Z0 ?_
    rcases zit E30 with ⟨c32, H33⟩ | ⟨c32, H33⟩
    ·refine Z1 c32 ?_
     rcases zit H33 with ⟨c34, H35⟩ | ⟨c34, H35⟩
     ·refine Z1 (Y2 c32 c34) ?_
      obtain rfl := Zi H35
      exact ⟨⟨true, rfl⟩, ZR [(0, 0), (1, 1), (2, 2)]⟩
     ·refine Z1 (Y2 c32 c34) ?_
      rcases zit H35 with ⟨c36, H37⟩ | ⟨c36, H37⟩
      ·refine Z1 (Y3 c32 c34 c36) ?_
       rcases zit H37 with ⟨c38, H39⟩ | ⟨c38, H39⟩
       ·refine Z1 (Y4 c32 c34 c36 c38) ?_
        obtain rfl := Zi H39
        exact ⟨⟨true, rfl⟩, ZR [(0, 0), (1, 1), (2, 2)]⟩
       ·refine Z1 (Y4 c32 c34 c36 c38) ?_
        rcases zit H39 with ⟨c40, H41⟩ | ⟨c40, H41⟩
        ·refine Z1 (Y5 c32 c34 c36 c38 c40) ?_
         obtain rfl := Zi H41
         exact ⟨⟨((t0.words.length : Int) == 5), rfl⟩, ZR [(0, 0), (1, 1), (2, 2)]⟩
        ·refine Z1 (Y5 c32 c34 c36 c38 c40) ?_
         obtain rfl := Zi H41
         exact ⟨⟨false, rfl⟩, ZR [(0, 0), (1, 1), (2, 2)]⟩
      ·refine Z1 (Y3 c32 c34 c36) ?_
       rcases zit H37 with ⟨c42, H43⟩ | ⟨c42, H43⟩
       ·refine Z1 (Y4 c32 c34 c36 c42) ?_
        obtain rfl := Zi H43
        exact ⟨⟨((t0.words.length : Int) == 5), rfl⟩, ZR [(0, 0), (1, 1), (2, 2)]⟩
       ·refine Z1 (Y4 c32 c34 c36 c42) ?_
        obtain rfl := Zi H43
        exact ⟨⟨false, rfl⟩, ZR [(0, 0), (1, 1), (2, 2)]⟩
    ·refine Z1 c32 ?_
     rcases zit H33 with ⟨c44, H45⟩ | ⟨c44, H45⟩
     ·refine Z1 (Y2 c32 c44) ?_
      rcases zit H45 with ⟨c46, H47⟩ | ⟨c46, H47⟩
      ·refine Z1 (Y3 c32 c44 c46) ?_
       obtain rfl := Zi H47
       exact ⟨⟨true, rfl⟩, ZR [(0, 0), (1, 1), (2, 2)]⟩
      ·refine Z1 (Y3 c32 c44 c46) ?_
       rcases zit H47 with ⟨c48, H49⟩ | ⟨c48, H49⟩
       ·refine Z1 (Y4 c32 c44 c46 c48) ?_
        obtain rfl := Zi H49
        exact ⟨⟨((t0.words.length : Int) == 5), rfl⟩, ZR [(0, 0), (1, 1), (2, 2)]⟩
       ·refine Z1 (Y4 c32 c44 c46 c48) ?_
        obtain rfl := Zi H49
        exact ⟨⟨false, rfl⟩, ZR [(0, 0), (1, 1), (2, 2)]⟩
     ·refine Z1 (Y2 c32 c44) ?_
      rcases zit H45 with ⟨c50, H51⟩ | ⟨c50, H51⟩
      ·refine Z1 (Y3 c32 c44 c50) ?_
       obtain rfl := Zi H51
       exact ⟨⟨((t0.words.length : Int) == 5), rfl⟩, ZR [(0, 0), (1, 1), (2, 2)]⟩
      ·refine Z1 (Y3 c32 c44 c50) ?_
       obtain rfl := Zi H51
       exact ⟨⟨false, rfl⟩, ZR [(0, 0), (1, 1), (2, 2)]⟩
   ·rintro ⟨t9, he175⟩
    obtain rfl := he175.symm
    try dsimp only at H31
    refine zsq (ZT 1 ?_)
    refine Z0 ?_
    rcases zit H31 with ⟨c52, H53⟩ | ⟨c52, H53⟩
    ·refine Z1 c52 ?_
     refine zsq (zsq ?_)
     refine ZT 1 ?_
     refine Z1 c52 ?_
     obtain ⟨e_3, E54, H55⟩ := zbi H53
     refine zjn (α := { y : ByteArray × List ByteArray × ByteArray × ByteArray × List GEntry // e_3 = .inl y } × Nat) (fun | ⟨⟨⟨t516, t525, t535, t545, t553⟩, _⟩, g6⟩ => ⟨upd 2 (.pt 0 0) (upd 5 (.pt 1 0) noFr), upd 0 (some (.bx [.v (.int .i64 0), .v (.string ByteArray.empty), .v (.slice none 0 0), .v (.string ByteArray.empty), .v (.string ByteArray.empty), .v (.slice none 0 0), .v (.int .i64 0)])) (upd 1 (some (.bx [.v (.int .i64 t503), .v (.string t516), accV 2 g6 (List.map eS t525), .v (.string t535), .v (.string t545), .d (.sl (List.map eGEntry t553)) false, .v (.int .i64 t0.at_)])) (upd 2 (accO 1 g6 false (List.map eS t525)) noHp)), 3⟩) ?_ ?_
     ·refine zbk ?_
      refine zlp (α := { q : (Nat × (ByteArray × List ByteArray × ByteArray × ByteArray × List GEntry × Int)) × Nat // ref17_Fact_L2 n t0 t503 q.1.1 q.1.2 = some e_3 }) (fun | ⟨⟨⟨c, ⟨t513, t522, t532, t542, t55, t102⟩⟩, g2⟩, _⟩ => ⟨upd 1 (.pt 0 0) (upd 2 (.pt 1 0) (upd 5 (.pt 2 0) (upd 6 (.v (.int .i64 (t0.words.length : Int))) (upd 10 (.v (.int .i64 t102)) noFr)))), upd 0 (some (.bx [.v (.int .i64 t0.at_), .d (.sl (List.map eGWord t0.words)) true])) (upd 1 (some (.bx [.v (.int .i64 0), .v (.string ByteArray.empty), .v (.slice none 0 0), .v (.string ByteArray.empty), .v (.string ByteArray.empty), .v (.slice none 0 0), .v (.int .i64 0)])) (upd 2 (some (.bx [.v (.int .i64 t503), .v (.string t513), accV 3 g2 (List.map eS t522), .v (.string t532), .v (.string t542), .d (.sl (List.map eGEntry t55)) false, .v (.int .i64 t0.at_)])) (upd 3 (accO 1 g2 false (List.map eS t522)) noHp))), 4⟩) (fun q => q.1.1.1) ⟨((n, (ByteArray.empty, [], ByteArray.empty, ByteArray.empty, [], 1)), 0), E54⟩ ?_ ?_
      ·exact WeakR.trans (m := ⟨upd 1 (.pt 0 0) (upd 2 (.pt 1 0) (upd 5 (.pt 2 0) (upd 6 (.v (.int .i64 (t0.words.length : Int))) (upd 10 (.v (.int .i64 1)) (noFr))))), upd 0 (some (.bx [.v (.int .i64 t0.at_), .d (.sl (List.map eGWord t0.words)) true])) (upd 1 (some (.bx [.v (.int .i64 0), .v (.string ByteArray.empty), .v (.slice none 0 0), .v (.string ByteArray.empty), .v (.string ByteArray.empty), .v (.slice none 0 0), .v (.int .i64 0)])) (upd 2 (some (.bx [.v (.int .i64 t503), .v (.string ByteArray.empty), .v (.slice none 0 0), .v (.string ByteArray.empty), .v (.string ByteArray.empty), .d (.sl (List.map eGEntry [])) false, .v (.int .i64 t0.at_)])) (noHp))), 6⟩) (ren_mk [(0, 0), (1, 1), (2, 2)] (by rfl) (rf_upd (by rfl) (rf_upd (by rfl) (rf_upd (by rfl) (rf_upd (by rfl) (rf_upd (by rfl) (rf_no _)))))) (rh_upd (rh_one (by rfl) (by rfl) (by rfl)) (rh_upd (rh_one (by rfl) (by rfl) (by rfl)) (rh_upd (rh_one (by rfl) (renO_bx (renL_cons (by rfl) (renL_cons (by rfl) (renL_cons (by rfl) (renL_cons (by rfl) (renL_cons (by rfl) (renL_cons (by rfl) (renL_cons (by rfl) (renL_nil _))))))))) (by rfl)) (rh_upd rh_accN (rh_no _)))))) (dat_mk (Nat.le_refl _) (df_upd (dv_same (by rfl)) (df_upd (dv_same (by rfl)) (df_upd (dv_same (by rfl)) (df_upd (dv_same (by rfl)) (df_upd (dv_same (by rfl)) (df_no _)))))) (dh_upd (dh_eq (by rfl)) (dh_upd (dh_eq (by rfl)) (dh_upd (dh_bx (by rfl) (dl_cons (dc_same (by rfl)) (dl_cons (dc_same (by rfl)) (dl_cons (dc_same (by rfl)) (dl_cons (dc_same (by rfl)) (dl_cons (dc_same (by rfl)) (dl_cons (dc_nil (f := eGEntry)) (dl_cons (dc_same (by rfl)) dl_nil)))))))) dh_no))))
      ·rintro ⟨⟨⟨c, ⟨t513, t522, t532, t542, t55, t102⟩⟩, g2⟩, L56⟩
       rcases c with _ | c
       ·exact Zx L56
       ·unfold ref17_Fact_L2 at L56
        try dsimp only at L56
        refine zsq (ZT 1 ?_)
        refine Z0 ?_
        rcases zit L56 with ⟨c119, H120⟩ | ⟨c119, H120⟩
        ·refine Z1 c119 ?_
         refine zsq (zbk ?_)
         refine zsq (ZT 1 ?_)
         obtain ⟨x6, b121, H122⟩ := zbi H120
         obtain ⟨h123, h124⟩ := zix b121
         try simp only [Int.reduceToNat, Int.toNat_natCast] at h124
         have h125 := map_at eGWord h124
         refine Z1 (Y3 c119 (zno .i64 h123) h125) ?_
         refine zsq (ZT 1 ?_)
         obtain ⟨t883, b127, H128⟩ := zbi H122
         refine Z1 (Y3 c119 (zno .i64 h123) h125) ?_
         refine ZC0 (ref1_Name_ok b127) ?_
         refine Z1 (Y3 c119 (zno .i64 h123) h125) ?_
         refine zsq (zbk ?_)
         refine zsq ?_
         obtain ⟨e_6, E129, H130⟩ := zbi H128
         refine zjn (α := { y : Bool // e_6 = y } × Nat) (fun | ⟨⟨t962, _⟩, g3⟩ => ⟨upd 1 (.pt 0 0) (upd 2 (.pt 1 0) (upd 5 (.pt 2 0) (upd 6 (.v (.int .i64 (t0.words.length : Int))) (upd 10 (.v (.int .i64 t102)) (upd 11 (.pt 4 0) (upd 12 (.v (.bool t883)) (upd 96 (.v (.bool t962)) noFr))))))), upd 0 (some (.bx [.v (.int .i64 t0.at_), .d (.sl (List.map eGWord t0.words)) true])) (upd 1 (some (.bx [.v (.int .i64 0), .v (.string ByteArray.empty), .v (.slice none 0 0), .v (.string ByteArray.empty), .v (.string ByteArray.empty), .v (.slice none 0 0), .v (.int .i64 0)])) (upd 2 (some (.bx [.v (.int .i64 t503), .v (.string t513), accV 3 g3 (List.map eS t522), .v (.string t532), .v (.string t542), .d (.sl (List.map eGEntry t55)) false, .v (.int .i64 t0.at_)])) (upd 3 (accO 1 g3 false (List.map eS t522)) (upd 4 (some (.bx [.v (.string x6.text), .v (.int .i64 x6.at_)])) noHp)))), 5⟩) ?_ ?_
         ·refine ZT 1 ?_
          refine Z0 ?_
          rcases zit E129 with ⟨c131, H132⟩ | ⟨c131, H132⟩
          ·refine Z1 c131 ?_
           obtain rfl := Zi H132
           exact ⟨⟨⟨(decide (3 ≤ t503)), rfl⟩, g2⟩, ren_mk [(0, 0), (1, 1), (2, 2), (3, 3), (4, 12)] (by rfl) (rf_upd (by rfl) (rf_upd (by rfl) (rf_upd (by rfl) (rf_upd (by rfl) (rf_upd (by rfl) (rf_upd (by rfl) (rf_upd (by rfl) (rf_upd (by rfl) (rf_no _))))))))) (rh_upd (rh_one (by rfl) (by rfl) (by rfl)) (rh_upd (rh_one (by rfl) (by rfl) (by rfl)) (rh_upd (rh_one (by rfl) (renO_bx (renL_cons (by rfl) (renL_cons (by rfl) (renL_cons (ren_acc (by rfl)) (renL_cons (by rfl) (renL_cons (by rfl) (renL_cons (by rfl) (renL_cons (by rfl) (renL_nil _))))))))) (by rfl)) (rh_upd (rh_acc (by rfl) (by rfl)) (rh_upd (rh_one (by rfl) (by rfl) (by rfl)) (rh_no _))))))⟩
          ·refine Z1 c131 ?_
           obtain rfl := Zi H132
           exact ⟨⟨⟨false, rfl⟩, g2⟩, ren_mk [(0, 0), (1, 1), (2, 2), (3, 3), (4, 12)] (by rfl) (rf_upd (by rfl) (rf_upd (by rfl) (rf_upd (by rfl) (rf_upd (by rfl) (rf_upd (by rfl) (rf_upd (by rfl) (rf_upd (by rfl) (rf_upd (by rfl) (rf_no _))))))))) (rh_upd (rh_one (by rfl) (by rfl) (by rfl)) (rh_upd (rh_one (by rfl) (by rfl) (by rfl)) (rh_upd (rh_one (by rfl) (renO_bx (renL_cons (by rfl) (renL_cons (by rfl) (renL_cons (ren_acc (by rfl)) (renL_cons (by rfl) (renL_cons (by rfl) (renL_cons (by rfl) (renL_cons (by rfl) (renL_nil _))))))))) (by rfl)) (rh_upd (rh_acc (by rfl) (by rfl)) (rh_upd (rh_one (by rfl) (by rfl) (by rfl)) (rh_no _))))))⟩
         ·rintro ⟨⟨t962, he167⟩, g3⟩
          obtain rfl := he167.symm
          try dsimp only at H130
          refine ZT 5 ?_
          refine Z0 ?_
          rcases zit H130 with ⟨c133, H134⟩ | ⟨c133, H134⟩
          ·obtain ⟨t1063, b135, H136⟩ := zbi H134
           refine Z1 c133 ?_
           refine ZC0 (ref17_Path_ok b135) ?_
           refine Z1 c133 ?_
           rcases zit H136 with ⟨c137, H138⟩ | ⟨c137, H138⟩
           ·refine Z1 (Y2 c133 c137) ?_
            exact ⟨⟨((c, (x6.text, t522, t532, t542, t55, (IntKind.i64.wrap (t102 + 1)))), g3), H138⟩, ren_mk [(0, 0), (1, 1), (2, 2), (3, 3)] (by rfl) (rf_upd (by rfl) (rf_upd (by rfl) (rf_upd (by rfl) (rf_upd (by rfl) (rf_upd (by rfl) (rf_no _)))))) (rh_upd (rh_one (by rfl) (by rfl) (by rfl)) (rh_upd (rh_one (by rfl) (by rfl) (by rfl)) (rh_upd (rh_one (by rfl) (renO_bx (renL_cons (by rfl) (renL_cons (by rfl) (renL_cons (ren_acc (by rfl)) (renL_cons (by rfl) (renL_cons (by rfl) (renL_cons (by rfl) (renL_cons (by rfl) (renL_nil _))))))))) (by rfl)) (rh_upd (rh_acc (by rfl) (by rfl)) (rh_no _))))), Nat.lt_succ_self _⟩
           ·refine Z1 (Y2 c133 c137) ?_
            refine Rd_endF (by rfl) ?_
            refine Z1 (Y2 c133 c137) ?_
            obtain rfl := Zi H138
            obtain rfl := Zi H55
            exact ZE0
          ·refine Z1 c133 ?_
           rcases zit H134 with ⟨c139, H140⟩ | ⟨c139, H140⟩
           ·refine Z1 (Y2 c133 c139) ?_
            rcases zit H140 with ⟨c141, H142⟩ | ⟨c141, H142⟩
            ·refine Z1 (Y3 c133 c139 c141) ?_
             exact ⟨⟨((c, (x6.text, t522, t532, t542, t55, (IntKind.i64.wrap (t102 + 1)))), g3), H142⟩, ren_mk [(0, 0), (1, 1), (2, 2), (3, 3)] (by rfl) (rf_upd (by rfl) (rf_upd (by rfl) (rf_upd (by rfl) (rf_upd (by rfl) (rf_upd (by rfl) (rf_no _)))))) (rh_upd (rh_one (by rfl) (by rfl) (by rfl)) (rh_upd (rh_one (by rfl) (by rfl) (by rfl)) (rh_upd (rh_one (by rfl) (renO_bx (renL_cons (by rfl) (renL_cons (by rfl) (renL_cons (ren_acc (by rfl)) (renL_cons (by rfl) (renL_cons (by rfl) (renL_cons (by rfl) (renL_cons (by rfl) (renL_nil _))))))))) (by rfl)) (rh_upd (rh_acc (by rfl) (by rfl)) (rh_no _))))), Nat.lt_succ_self _⟩
            ·refine Z1 (Y3 c133 c139 c141) ?_
             refine Rd_endF (by rfl) ?_
             refine Z1 (Y3 c133 c139 c141) ?_
             obtain rfl := Zi H142
             obtain rfl := Zi H55
             exact ZE0
           ·refine Z1 (Y2 c133 c139) ?_
            rcases zit H140 with ⟨c143, H144⟩ | ⟨c143, H144⟩
            ·obtain ⟨l, b145, H146⟩ := zbi H144
             obtain ⟨h147, h148⟩ := app_inv b145
             have h147 : t522.length + 1 ≤ 4294967296 := h147
             have h149 : List.map eS t522 ++ [[.v (.string x6.text)]] = List.map eS l := app_map eS h148
             have h150 : t522.length + 1 = l.length := app_len h148
             have h151 : l.length ≤ 4294967296 := by omega
             have q152 : 0 < l.length := by omega
             refine Z1 (Y2 (Y6 c133 c139 c143 h147 h149 h150) h151) ?_
             rcases zit H146 with ⟨c153, H154⟩ | ⟨c153, H154⟩
             ·refine Z1 (Y2 (Y6 c133 c139 c143 h147 h149 h150) (Y2 h151 c153)) ?_
              rcases t522 with _ | ⟨q0, q1⟩
              ·try simp only [List.map_nil, accI, accN]
               exact ⟨⟨((c, (t513, l, t532, t542, t55, (IntKind.i64.wrap (t102 + 1)))), 0), H154⟩, ren_mk [(0, 0), (1, 1), (2, 2), (3, 17)] (by rfl) (rf_upd (by rfl) (rf_upd (by rfl) (rf_upd (by rfl) (rf_upd (by rfl) (rf_upd (by rfl) (rf_no _)))))) (rh_upd (rh_one (by rfl) (by rfl) (by rfl)) (rh_upd (rh_one (by rfl) (by rfl) (by rfl)) (rh_upd (rh_one (by rfl) (renO_bx (renL_cons (by rfl) (renL_cons (by rfl) (renL_cons (by first | exact ren_accP (by rfl) q152 | rfl) (renL_cons (by rfl) (renL_cons (by rfl) (renL_cons (by rfl) (renL_cons (by rfl) (renL_nil _))))))))) (by rfl)) (rh_upd (by first | exact rh_accP (by rfl) q152 (by rfl) | exact rh_one (by rfl) (by rfl) (by rfl)) (rh_no _))))), Nat.lt_succ_self _⟩
              ·try simp only [List.map_cons, accI, accN]
               exact ⟨⟨((c, (t513, l, t532, t542, t55, (IntKind.i64.wrap (t102 + 1)))), (g3 + 1)), H154⟩, ren_mk [(0, 0), (1, 1), (2, 2), (3, 3)] (by rfl) (rf_upd (by rfl) (rf_upd (by rfl) (rf_upd (by rfl) (rf_upd (by rfl) (rf_upd (by rfl) (rf_no _)))))) (rh_upd (rh_one (by rfl) (by rfl) (by rfl)) (rh_upd (rh_one (by rfl) (by rfl) (by rfl)) (rh_upd (rh_one (by rfl) (renO_bx (renL_cons (by rfl) (renL_cons (by rfl) (renL_cons (by first | exact ren_accP (by rfl) q152 | rfl) (renL_cons (by rfl) (renL_cons (by rfl) (renL_cons (by rfl) (renL_cons (by rfl) (renL_nil _))))))))) (by rfl)) (rh_upd (by first | exact rh_accP (by rfl) q152 (by rfl) | exact rh_one (by rfl) (by rfl) (by rfl)) (rh_no _))))), Nat.lt_succ_self _⟩
             ·refine Z1 (Y2 (Y6 c133 c139 c143 h147 h149 h150) (Y2 h151 c153)) ?_
              refine Rd_endF (by (cases t522 <;> rfl)) ?_
              refine Z1 (Y2 (Y6 c133 c139 c143 h147 h149 h150) (Y2 h151 c153)) ?_
              obtain rfl := Zi H154
              obtain rfl := Zi H55
              exact ZE0
            ·refine Z1 (Y3 c133 c139 c143) ?_
             rcases zit H144 with ⟨c155, H156⟩ | ⟨c155, H156⟩
             ·refine Z1 (Y4 c133 c139 c143 c155) ?_
              rcases zit H156 with ⟨c157, H158⟩ | ⟨c157, H158⟩
              ·refine Z1 (Y5 c133 c139 c143 c155 c157) ?_
               exact ⟨⟨((c, (t513, t522, x6.text, t542, t55, (IntKind.i64.wrap (t102 + 1)))), g3), H158⟩, ren_mk [(0, 0), (1, 1), (2, 2), (3, 3)] (by rfl) (rf_upd (by rfl) (rf_upd (by rfl) (rf_upd (by rfl) (rf_upd (by rfl) (rf_upd (by rfl) (rf_no _)))))) (rh_upd (rh_one (by rfl) (by rfl) (by rfl)) (rh_upd (rh_one (by rfl) (by rfl) (by rfl)) (rh_upd (rh_one (by rfl) (renO_bx (renL_cons (by rfl) (renL_cons (by rfl) (renL_cons (ren_acc (by rfl)) (renL_cons (by rfl) (renL_cons (by rfl) (renL_cons (by rfl) (renL_cons (by rfl) (renL_nil _))))))))) (by rfl)) (rh_upd (rh_acc (by rfl) (by rfl)) (rh_no _))))), Nat.lt_succ_self _⟩
              ·refine Z1 (Y5 c133 c139 c143 c155 c157) ?_
               refine Rd_endF (by rfl) ?_
               refine Z1 (Y5 c133 c139 c143 c155 c157) ?_
               obtain rfl := Zi H158
               obtain rfl := Zi H55
               exact ZE0
             ·refine Z1 (Y4 c133 c139 c143 c155) ?_
              rcases zit H156 with ⟨c159, H160⟩ | ⟨c159, H160⟩
              ·refine Z1 (Y5 c133 c139 c143 c155 c159) ?_
               rcases zit H160 with ⟨c161, H162⟩ | ⟨c161, H162⟩
               ·refine Z1 (Y6 c133 c139 c143 c155 c159 c161) ?_
                exact ⟨⟨((c, (t513, t522, t532, x6.text, t55, (IntKind.i64.wrap (t102 + 1)))), g3), H162⟩, ren_mk [(0, 0), (1, 1), (2, 2), (3, 3)] (by rfl) (rf_upd (by rfl) (rf_upd (by rfl) (rf_upd (by rfl) (rf_upd (by rfl) (rf_upd (by rfl) (rf_no _)))))) (rh_upd (rh_one (by rfl) (by rfl) (by rfl)) (rh_upd (rh_one (by rfl) (by rfl) (by rfl)) (rh_upd (rh_one (by rfl) (renO_bx (renL_cons (by rfl) (renL_cons (by rfl) (renL_cons (ren_acc (by rfl)) (renL_cons (by rfl) (renL_cons (by rfl) (renL_cons (by rfl) (renL_cons (by rfl) (renL_nil _))))))))) (by rfl)) (rh_upd (rh_acc (by rfl) (by rfl)) (rh_no _))))), Nat.lt_succ_self _⟩
               ·refine Z1 (Y6 c133 c139 c143 c155 c159 c161) ?_
                refine Rd_endF (by rfl) ?_
                refine Z1 (Y6 c133 c139 c143 c155 c159 c161) ?_
                obtain rfl := Zi H162
                obtain rfl := Zi H55
                exact ZE0
              ·obtain ⟨t922, b163, H164⟩ := zbi H160
               refine Z1 (Y5 c133 c139 c143 c155 c159) ?_
               refine ZC0 (ref17_Entries_ok b163) ?_
               refine Z1 (Y5 c133 c139 c143 c155 c159) ?_
               rcases zit H164 with ⟨c165, H166⟩ | ⟨c165, H166⟩
               ·refine Z1 (Y6 c133 c139 c143 c155 c159 c165) ?_
                exact ⟨⟨((c, (t513, t522, t532, t542, t922.1, (IntKind.i64.wrap (t102 + 1)))), g3), H166⟩, ren_mk [(0, 0), (1, 1), (2, 2), (3, 3)] (by rfl) (rf_upd (by rfl) (rf_upd (by rfl) (rf_upd (by rfl) (rf_upd (by rfl) (rf_upd (by rfl) (rf_no _)))))) (rh_upd (rh_one (by rfl) (by rfl) (by rfl)) (rh_upd (rh_one (by rfl) (by rfl) (by rfl)) (rh_upd (rh_one (by rfl) (renO_bx (renL_cons (by rfl) (renL_cons (by rfl) (renL_cons (ren_acc (by rfl)) (renL_cons (by rfl) (renL_cons (by rfl) (renL_cons (by rfl) (renL_cons (by rfl) (renL_nil _))))))))) (by rfl)) (rh_upd (rh_acc (by rfl) (by rfl)) (rh_no _))))), Nat.lt_succ_self _⟩
               ·refine Z1 (Y6 c133 c139 c143 c155 c159 c165) ?_
                refine Rd_endF (by rfl) ?_
                refine Z1 (Y6 c133 c139 c143 c155 c159 c165) ?_
                obtain rfl := Zi H166
                obtain rfl := Zi H55
                exact ZE0
        ·refine Z1 c119 ?_
         obtain rfl := Zi H120
         exact ⟨⟨⟨(t513, t522, t532, t542, t55), rfl⟩, g2⟩, ren_mk [(0, 1), (1, 2), (2, 3)] (by rfl) (rf_upd (by rfl) (rf_upd (by rfl) (rf_no _))) (rh_upd (rh_one (by rfl) (by rfl) (by rfl)) (rh_upd (rh_one (by rfl) (renO_bx (renL_cons (by rfl) (renL_cons (by rfl) (renL_cons (ren_acc (by rfl)) (renL_cons (by rfl) (renL_cons (by rfl) (renL_cons (by rfl) (renL_cons (by rfl) (renL_nil _))))))))) (by rfl)) (rh_upd (rh_acc (by rfl) (by rfl)) (rh_no _))))⟩
     ·rintro ⟨⟨⟨t516, t525, t535, t545, t553⟩, he168⟩, g6⟩
      obtain rfl := he168.symm
      try dsimp only at H55
      refine ZT 1 ?_
      refine Z0 ?_
      obtain rfl := Zi H55
      exact ZE0
    ·obtain ⟨x7, b169, H170⟩ := zbi H53
     obtain ⟨h171, h172⟩ := zix b169
     try simp only [Int.reduceToNat] at h172
     have h173 := map_at eGWord h172
     refine Z1 (Y3 c52 (zno .i64 h171) h173) ?_
     refine Rd_endF (by rfl) ?_
     refine Z1 (Y3 c52 (zno .i64 h171) h173) ?_
     obtain rfl := Zi H170
     exact ZE0
def ref17_Parse_L1 (n : Nat) (t15 : List GLine × Int × Int) : Nat → (List GFile × Int) → Option ((List GFile) ⊕ (List GFile × Int × Int))
 | 0, _ => none
 | c + 1, (out, i) =>
  (if (decide (i < (t15.1.length : Int))) then
   (if (i == 2000) then
    (idx t15.1 i).bind fun x2 =>
    some (.inr ([], x2.at_, 8))
   else
    (idx t15.1 i).bind fun x3 =>
    (ref17_Fact n x3).bind fun t412 =>
    (if (t412.2.2 != 0) then
     some (.inr ([], t412.2.1, t412.2.2))
    else
     (app out [(⟨t412.1.kind, t412.1.name, t412.1.users, t412.1.owner, t412.1.group, t412.1.acl, t412.1.at_⟩ : GFile)]).bind fun l =>
     ref17_Parse_L1 n t15 c (l, (IntKind.i64.wrap (i + 1)))))
  else
   some (.inl out))
def ref17_Parse (n : Nat) (s : ByteArray) : Option (List GFile × Int × Int) :=
 (ref1_Lines n s).bind fun t15 =>
 (if (t15.2.2 != 0) then
  some ([], t15.2.1, t15.2.2)
 else
  (
   ref17_Parse_L1 n t15 n ([], 0) : Option ((List GFile) ⊕ (List GFile × Int × Int))).bind fun
   | .inl out3 =>
    some (out3, 0, 0)
   | .inr r => some r)
theorem ref17_Parse_ok {n : Nat} {s : ByteArray} {r : List GFile × Int × Int} (H : ref17_Parse n s = some r) : PureOK Tryz.prog 24 [D.v (.string s)] (D.tu [D.sl (List.map eGFile r.1), D.v (.int .i64 r.2.1), D.v (.int .i64 r.2.2)]) true := by
 unfold ref17_Parse at H
 refine ZP tab_ok fol (rs := #[.tmp 2, .tmp 3, .tmp 4]) Tryz.func24 ?_
 refine zsq (ZT 1 ?_)
 refine Z0 ?_
 refine zsq (ZT 1 ?_)
 obtain ⟨t15, b1, H2⟩ := zbi H
 refine Z0 ?_
 refine ZC0 (ref1_Lines_ok b1) ?_
 refine Z0 ?_
 refine zsq (ZT 1 ?_)
 refine Z0 ?_
 rcases zit H2 with ⟨c3, H4⟩ | ⟨c3, H4⟩
 ·refine Z1 c3 ?_
  obtain rfl := Zi H4
  exact ZE0
 ·refine Z1 c3 ?_
  refine zsq (ZT 1 ?_)
  refine Z1 c3 ?_
  refine zsq (zsq ?_)
  refine ZT 1 ?_
  refine Z1 c3 ?_
  obtain ⟨e_, E5, H6⟩ := zbi H4
  refine zjn (α := { y : List GFile // e_ = .inl y } × Nat) (fun | ⟨⟨out3, _⟩, g3⟩ => ⟨upd 8 (accV 0 g3 (List.map eGFile out3)) noFr, upd 0 (accO 7 g3 false (List.map eGFile out3)) noHp, 1⟩) ?_ ?_
  ·refine zbk ?_
   refine zlp (α := { q : (Nat × (List GFile × Int)) × Nat // ref17_Parse_L1 n t15 q.1.1 q.1.2 = some e_ }) (fun | ⟨⟨⟨c, ⟨out, i⟩⟩, g⟩, _⟩ => ⟨upd 5 (.d (.sl (List.map eGLine t15.1)) false) (upd 8 (accV 0 g (List.map eGFile out)) (upd 9 (.v (.int .i64 i)) noFr)), upd 0 (accO 7 g false (List.map eGFile out)) noHp, 1⟩) (fun q => q.1.1.1) ⟨((n, ([], 0)), 0), E5⟩ ?_ ?_
   ·exact ZR []
   ·rintro ⟨⟨⟨c, ⟨out, i⟩⟩, g⟩, L7⟩
    rcases c with _ | c
    ·exact Zx L7
    ·unfold ref17_Parse_L1 at L7
     try dsimp only at L7
     refine ZT 1 ?_
     refine Z0 ?_
     rcases zit L7 with ⟨c20, H21⟩ | ⟨c20, H21⟩
     ·refine Z1 c20 ?_
      rcases zit H21 with ⟨c22, H23⟩ | ⟨c22, H23⟩
      ·obtain ⟨x2, b24, H25⟩ := zbi H23
       obtain ⟨h26, h27⟩ := zix b24
       try simp only [Int.reduceToNat, Int.toNat_natCast] at h27
       have h28 := map_at eGLine h27
       refine Z1 (Y4 c20 c22 (zno .i64 h26) h28) ?_
       refine Rd_endF (by rfl) ?_
       refine Z1 (Y4 c20 c22 (zno .i64 h26) h28) ?_
       obtain rfl := Zi H25
       obtain rfl := Zi H6
       exact ZE0
      ·obtain ⟨x3, b30, H31⟩ := zbi H23
       obtain ⟨h32, h33⟩ := zix b30
       try simp only [Int.reduceToNat, Int.toNat_natCast] at h33
       have h34 := map_at eGLine h33
       obtain ⟨t412, b36, H37⟩ := zbi H31
       refine Z1 (Y4 c20 c22 (zno .i64 h32) h34) ?_
       refine ZC0 (ref17_Fact_ok b36) ?_
       refine Z1 (Y4 c20 c22 (zno .i64 h32) h34) ?_
       rcases zit H37 with ⟨c38, H39⟩ | ⟨c38, H39⟩
       ·refine Z1 (Y5 c20 c22 (zno .i64 h32) h34 c38) ?_
        obtain rfl := Zi H39
        obtain rfl := Zi H6
        exact ZE0
       ·obtain ⟨l, b40, H41⟩ := zbi H39
        obtain ⟨h42, h43⟩ := app_inv b40
        have h42 : out.length + 1 ≤ 4294967296 := h42
        have h44 : List.map eGFile out ++ [[.v (.int .i64 t412.1.kind), .v (.string t412.1.name), .sl (List.map eS t412.1.users), .v (.string t412.1.owner), .v (.string t412.1.group), .sl (List.map eGEntry t412.1.acl), .v (.int .i64 t412.1.at_)]] = List.map eGFile l := app_map eGFile h43
        have h45 : out.length + 1 = l.length := app_len h43
        have h46 : l.length ≤ 4294967296 := by omega
        have q47 : 0 < l.length := by omega
        refine Z1 (Y2 (Y6 c20 c22 (zno .i64 h32) h34 c38 h42) (Y3 h44 h45 h46)) ?_
        rcases out with _ | ⟨q0, q1⟩
        ·try simp only [List.map_nil, accI, accN]
         exact ⟨⟨((c, (l, (IntKind.i64.wrap (i + 1)))), 0), H41⟩, ZR [(0, 25)], Nat.lt_succ_self _⟩
        ·try simp only [List.map_cons, accI, accN]
         exact ⟨⟨((c, (l, (IntKind.i64.wrap (i + 1)))), (g + 1)), H41⟩, ZR [(0, 0)], Nat.lt_succ_self _⟩
     ·refine Z1 c20 ?_
      obtain rfl := Zi H21
      exact ⟨⟨⟨out, rfl⟩, g⟩, ZR [(0, 0)]⟩
  ·rintro ⟨⟨out3, he48⟩, g3⟩
   obtain rfl := he48.symm
   try dsimp only at H6
   refine ZT 1 ?_
   refine Z0 ?_
   obtain rfl := Zi H6
   exact ZE0
def law17_Acl_c1_L1 (n : Nat) (k2 : Int) : Nat → (ByteArray × Int) → Option (ByteArray)
 | 0, _ => none
 | c + 1, (t, i) =>
  (if (decide (i < 3)) then
   grd (decide (0 ≤ (IntKind.u64.wrap i))) <|
   (if ((IntKind.i64.wrap (an (sh k2 (Int.toNat (IntKind.u64.wrap i))) 1 : Int)) == 1) then
    (bslc ({ data := #[114, 119, 120] }) i (IntKind.i64.wrap (i + 1))).bind fun s4 =>
    (cat t s4).bind fun s5 =>
    law17_Acl_c1_L1 n k2 c (s5, (IntKind.i64.wrap (i + 1)))
   else
    (cat t ({ data := #[45] })).bind fun s6 =>
    law17_Acl_c1_L1 n k2 c (s6, (IntKind.i64.wrap (i + 1))))
  else
   some t)
def law17_Acl_c1 (n : Nat) (k2 : Int) : Option ByteArray :=
 (
  law17_Acl_c1_L1 n k2 n ({ data := #[] }, 0) : Option (ByteArray)).bind fun t3 =>
 some t3
theorem law17_Acl_c1_ok {n : Nat} {k2 : Int} {r : ByteArray} (H : law17_Acl_c1 n k2 = some r) : PureOK Tryz.prog 84 [D.v (.int .i64 k2)] (D.v (.string r)) true := by
 unfold law17_Acl_c1 at H
 refine ZP tab_ok fol (rs := #[.tmp 2]) Tryz.func84 ?_
 refine zsq (ZT 1 ?_)
 refine Z0 ?_
 refine zsq (ZT 1 ?_)
 refine Z0 ?_
 refine zsq (zsq ?_)
 refine ZT 1 ?_
 refine Z0 ?_
 obtain ⟨e_, E1, H2⟩ := zbi H
 refine zjn (α := { y : ByteArray // e_ = y }) (fun | ⟨t3, _⟩ => ⟨upd 3 (.v (.string t3)) noFr, noHp, 0⟩) ?_ ?_
 ·refine zbk ?_
  refine zlp (α := { q : Nat × (ByteArray × Int) // law17_Acl_c1_L1 n k2 q.1 q.2 = some e_ }) (fun | ⟨⟨c, ⟨t, i⟩⟩, _⟩ => ⟨upd 0 (.v (.int .i64 k2)) (upd 3 (.v (.string t)) (upd 4 (.v (.int .i64 i)) noFr)), noHp, 0⟩) (fun q => q.1.1) ⟨(n, ({ data := #[] }, 0)), E1⟩ ?_ ?_
  ·exact ZR []
  ·rintro ⟨⟨c, ⟨t, i⟩⟩, L3⟩
   rcases c with _ | c
   ·exact Zx L3
   ·unfold law17_Acl_c1_L1 at L3
    try dsimp only at L3
    refine ZT 1 ?_
    refine Z0 ?_
    rcases zit L3 with ⟨c26, H27⟩ | ⟨c26, H27⟩
    ·obtain ⟨g28, H29⟩ := grd_inv H27
     have g28 : ¬ (IntKind.u64.wrap i) < 0 := by have := of_decide_eq_true g28; omega
     refine Z1 (Y2 c26 g28) ?_
     rcases zit H29 with ⟨c30, H31⟩ | ⟨c30, H31⟩
     ·obtain ⟨s4, b32, H33⟩ := zbi H31
      obtain ⟨h34, h35, h36, h37⟩ := zbs b32
      have h38 : Int.toNat i ≤ Int.toNat (IntKind.i64.wrap (i + 1)) := by omega
      have h39 : Int.toNat (IntKind.i64.wrap (i + 1)) ≤ (ByteArray.size ({ data := #[114, 119, 120] })) := by omega
      have h40 : ByteArray.extract ({ data := #[114, 119, 120] }) (Int.toNat i) (Int.toNat (IntKind.i64.wrap (i + 1))) = s4 := h37.symm
      have h41 : Int.toNat (IntKind.i64.wrap (i + 1)) ≤ 3 := h39
      try simp only [Int.toNat_natCast] at h38 h41 h40
      obtain ⟨s5, b42, H43⟩ := zbi H33
      obtain ⟨h44, h45⟩ := zct b42
      refine Z1 (Y2 (Y6 c26 g28 c30 (zno .i64 h34) (zno .i64 (Int.le_trans h34 h35)) h38) (Y4 h41 h40 h44 h45)) ?_
      exact ⟨⟨(c, (s5, (IntKind.i64.wrap (i + 1)))), H43⟩, ZR [], Nat.lt_succ_self _⟩
     ·obtain ⟨s6, b46, H47⟩ := zbi H31
      obtain ⟨h48, h49⟩ := zct b46
      have h50 : t.size + 1 ≤ maxLen := h48
      refine Z1 (Y6 c26 g28 c30 h48 h49 h50) ?_
      exact ⟨⟨(c, (s6, (IntKind.i64.wrap (i + 1)))), H47⟩, ZR [], Nat.lt_succ_self _⟩
    ·refine Z1 c26 ?_
     obtain rfl := Zi H27
     exact ⟨⟨t, rfl⟩, ZR []⟩
 ·rintro ⟨t3, he51⟩
  obtain rfl := he51.symm
  try dsimp only at H2
  refine ZT 1 ?_
  refine Z0 ?_
  obtain rfl := Zi H2
  exact ZE0
def law17_Acl (n : Nat) (t0 : Int) (t1 : Bool) : Option ByteArray :=
 (law17_Acl_c1 n t0).bind fun t9 =>
 (cat ({ data := #[117, 58, 58] }) t9).bind fun s =>
 (cat s ({ data := #[44, 103, 58, 58] })).bind fun s2 =>
 (law17_Acl_c1 n (sh t0 3)).bind fun t15 =>
 (cat s2 t15).bind fun s3 =>
 (cat s3 ({ data := #[44, 111, 58, 58] })).bind fun s4 =>
 (law17_Acl_c1 n (sh t0 6)).bind fun t21 =>
 (cat s4 t21).bind fun s5 =>
 (
  (if ((IntKind.i64.wrap (an (sh t0 9) 1 : Int)) == 1) then
   (cat s5 ({ data := #[44, 117, 58] })).bind fun s6 =>
   (idx ([{ data := #[117] }, { data := #[118] }, { data := #[119] }] : List ByteArray) (Int.tmod (IntKind.i64.wrap (an (sh t0 10) 255 : Int)) 3)).bind fun x =>
   (cat s6 x).bind fun s7 =>
   (cat s7 ({ data := #[58] })).bind fun s8 =>
   (law17_Acl_c1 n (sh t0 18)).bind fun t41 =>
   (cat s8 t41).bind fun s9 =>
   some s9
  else
   some s5) : Option (ByteArray)).bind fun t6 =>
 (
  (if ((IntKind.i64.wrap (an (sh t0 21) 1 : Int)) == 1) then
   (idx ([{ data := #[103] }, { data := #[104] }] : List ByteArray) (IntKind.i64.wrap (an (sh t0 22) 1 : Int))).bind fun x2 =>
   (cat ({ data := #[103, 58] }) x2).bind fun s10 =>
   (cat s10 ({ data := #[58] })).bind fun s11 =>
   (law17_Acl_c1 n (sh t0 23)).bind fun t58 =>
   (cat s11 t58).bind fun s12 =>
   (cat s12 ({ data := #[44] })).bind fun s13 =>
   (cat s13 t6).bind fun s14 =>
   some s14
  else
   some t6) : Option (ByteArray)).bind fun t62 =>
 (
  (if ((IntKind.i64.wrap (an (sh t0 26) 3 : Int)) == 0) then
   (cat t62 ({ data := #[44, 109, 58, 58] })).bind fun s15 =>
   (law17_Acl_c1 n (sh t0 28)).bind fun t72 =>
   (cat s15 t72).bind fun s16 =>
   some s16
  else
   some t62) : Option (ByteArray)).bind fun t63 =>
 (
  (if t1 then
   some ((IntKind.i64.wrap (an (sh t0 31) 1 : Int)) == 1)
  else
   some false) : Option (Bool)).bind fun t80 =>
 (if t80 then
  (cat t63 ({ data := #[44, 100, 58, 117, 58, 58] })).bind fun s17 =>
  (law17_Acl_c1 n (sh t0 32)).bind fun t86 =>
  (cat s17 t86).bind fun s18 =>
  (cat s18 ({ data := #[44, 100, 58, 103, 58, 58] })).bind fun s19 =>
  (law17_Acl_c1 n (sh t0 35)).bind fun t92 =>
  (cat s19 t92).bind fun s20 =>
  (cat s20 ({ data := #[44, 100, 58, 111, 58, 58] })).bind fun s21 =>
  (law17_Acl_c1 n (sh t0 38)).bind fun t98 =>
  (cat s21 t98).bind fun s22 =>
  (
   (if ((IntKind.i64.wrap (an (sh t0 41) 1 : Int)) == 1) then
    (cat s22 ({ data := #[44, 100, 58, 117, 58, 118, 58] })).bind fun s23 =>
    (law17_Acl_c1 n (sh t0 42)).bind fun t109 =>
    (cat s23 t109).bind fun s24 =>
    (cat s24 ({ data := #[44, 100, 58, 103, 58, 104, 58] })).bind fun s25 =>
    (law17_Acl_c1 n (sh t0 45)).bind fun t115 =>
    (cat s25 t115).bind fun s26 =>
    some s26
   else
    some s22) : Option (ByteArray)).bind fun t64 =>
  (if ((IntKind.i64.wrap (an (sh t0 48) 1 : Int)) == 1) then
   (cat t64 ({ data := #[44, 100, 58, 109, 58, 58] })).bind fun s27 =>
   (law17_Acl_c1 n (sh t0 49)).bind fun t126 =>
   (cat s27 t126).bind fun s28 =>
   some s28
  else
   some t64)
 else
  some t63)
set_option maxHeartbeats 8000000 in
theorem law17_Acl_ok {n : Nat} {t0 : Int} {t1 : Bool} {r : ByteArray} (H : law17_Acl n t0 t1 = some r) : PureOK Tryz.prog 56 [D.v (.int .i64 t0), D.v (.bool t1)] (D.v (.string r)) true := by
 unfold law17_Acl at H
 refine ZP tab_ok fol (rs := #[.tmp 4]) Tryz.func56 ?_
 refine zsq (ZT 1 ?_)
 refine Z0 ?_
 refine zsq (ZT 1 ?_)
 refine Z0 ?_
 refine zsq (ZT 1 ?_)
 obtain ⟨t9, b1, H2⟩ := zbi H
 refine Z0 ?_
 refine ZC0 (law17_Acl_c1_ok b1) ?_
 obtain ⟨s, b3, H4⟩ := zbi H2
 obtain ⟨h5, h6⟩ := zct b3
 have h7 : 3 + t9.size ≤ maxLen := h5
 obtain ⟨s2, b8, H9⟩ := zbi H4
 obtain ⟨h10, h11⟩ := zct b8
 have h12 : s.size + 4 ≤ maxLen := h10
 obtain ⟨t15, b13, H14⟩ := zbi H9
 refine Z1 (Y6 h5 h6 h7 h10 h11 h12) ?_
 refine ZC0 (law17_Acl_c1_ok b13) ?_
 obtain ⟨s3, b15, H16⟩ := zbi H14
 obtain ⟨h17, h18⟩ := zct b15
 obtain ⟨s4, b19, H20⟩ := zbi H16
 obtain ⟨h21, h22⟩ := zct b19
 have h23 : s3.size + 4 ≤ maxLen := h21
 obtain ⟨t21, b24, H25⟩ := zbi H20
 refine Z1 (Y2 (Y6 h5 h6 h7 h10 h11 h12) (Y5 h17 h18 h21 h22 h23)) ?_
 refine ZC0 (law17_Acl_c1_ok b24) ?_
 obtain ⟨s5, b26, H27⟩ := zbi H25
 obtain ⟨h28, h29⟩ := zct b26
 refine Z1 (Y3 (Y6 h5 h6 h7 h10 h11 h12) (Y6 h17 h18 h21 h22 h23 h28) h29) ?_
 refine zsq (zsq ?_)
 refine ZT 1 ?_
 refine Z1 (Y3 (Y6 h5 h6 h7 h10 h11 h12) (Y6 h17 h18 h21 h22 h23 h28) h29) ?_
 obtain ⟨e_, E30, H31⟩ := zbi H27
 refine zjn (α := { y : ByteArray // e_ = y }) (fun | ⟨t6, _⟩ => ⟨upd 0 (.v (.int .i64 t0)) (upd 1 (.v (.bool t1)) (upd 5 (.fn 84 []) (upd 6 (.v (.string t6)) noFr))), noHp, 0⟩) ?_ ?_
 ·refine ZT 1 ?_
  refine Z0 ?_
  rcases zit E30 with ⟨c32, H33⟩ | ⟨c32, H33⟩
  ·obtain ⟨s6, b34, H35⟩ := zbi H33
   obtain ⟨h36, h37⟩ := zct b34
   have h38 : s5.size + 3 ≤ maxLen := h36
   obtain ⟨x, b39, H40⟩ := zbi H35
   obtain ⟨h41, h42⟩ := zix b39
   try simp only [Int.reduceToNat, Int.toNat_natCast] at h42
   have h43 := map_at eS h42
   simp only [List.map_cons, List.map_nil, eS] at h43
   have h44 := at_lt h42
   simp only [List.length_cons, List.length_nil, Nat.reduceAdd] at h44
   obtain ⟨s7, b45, H46⟩ := zbi H40
   obtain ⟨h47, h48⟩ := zct b45
   obtain ⟨s8, b49, H50⟩ := zbi H46
   obtain ⟨h51, h52⟩ := zct b49
   have h53 : s7.size + 1 ≤ maxLen := h51
   obtain ⟨t41, b54, H55⟩ := zbi H50
   refine Z1 (Y2 (Y6 c32 h36 h37 h38 (zno .i64 h41) h43) (Y6 h44 h47 h48 h51 h52 h53)) ?_
   refine ZD0 (law17_Acl_c1_ok b54) ?_
   obtain ⟨s9, b56, H57⟩ := zbi H55
   obtain ⟨h58, h59⟩ := zct b56
   refine Z1 (Y3 (Y6 c32 h36 h37 h38 (zno .i64 h41) h43) (Y6 h44 h47 h48 h51 h52 h53) (Y2 h58 h59)) ?_
   refine Rd_endF (by rfl) ?_
   refine Z1 (Y3 (Y6 c32 h36 h37 h38 (zno .i64 h41) h43) (Y6 h44 h47 h48 h51 h52 h53) (Y2 h58 h59)) ?_
   obtain rfl := Zi H57
   exact ⟨⟨s9, rfl⟩, ZR []⟩
  ·refine Z1 c32 ?_
   obtain rfl := Zi H33
   exact ⟨⟨s5, rfl⟩, ZR []⟩
 ·rintro ⟨t6, he192⟩
  obtain rfl := he192.symm
  try dsimp only at H31
  refine zsq (zsq ?_)
  refine ZT 1 ?_
  refine Z0 ?_
  obtain ⟨e_2, E60, H61⟩ := zbi H31
  refine zjn (α := { y : ByteArray // e_2 = y }) (fun | ⟨t62, _⟩ => ⟨upd 0 (.v (.int .i64 t0)) (upd 1 (.v (.bool t1)) (upd 5 (.fn 84 []) (upd 6 (.v (.string t62)) noFr))), noHp, 0⟩) ?_ ?_
  ·refine ZT 1 ?_
   refine Z0 ?_
   rcases zit E60 with ⟨c62, H63⟩ | ⟨c62, H63⟩
   ·obtain ⟨x2, b64, H65⟩ := zbi H63
    obtain ⟨h66, h67⟩ := zix b64
    try simp only [Int.reduceToNat, Int.toNat_natCast] at h67
    have h68 := map_at eS h67
    simp only [List.map_cons, List.map_nil, eS] at h68
    have h69 := at_lt h67
    simp only [List.length_cons, List.length_nil, Nat.reduceAdd] at h69
    obtain ⟨s10, b70, H71⟩ := zbi H65
    obtain ⟨h72, h73⟩ := zct b70
    have h74 : 2 + x2.size ≤ maxLen := h72
    obtain ⟨s11, b75, H76⟩ := zbi H71
    obtain ⟨h77, h78⟩ := zct b75
    have h79 : s10.size + 1 ≤ maxLen := h77
    obtain ⟨t58, b80, H81⟩ := zbi H76
    refine Z1 (Y2 (Y6 c62 (zno .i64 h66) h68 h69 h72 h73) (Y4 h74 h77 h78 h79)) ?_
    refine ZD0 (law17_Acl_c1_ok b80) ?_
    obtain ⟨s12, b82, H83⟩ := zbi H81
    obtain ⟨h84, h85⟩ := zct b82
    obtain ⟨s13, b86, H87⟩ := zbi H83
    obtain ⟨h88, h89⟩ := zct b86
    have h90 : s12.size + 1 ≤ maxLen := h88
    obtain ⟨s14, b91, H92⟩ := zbi H87
    obtain ⟨h93, h94⟩ := zct b91
    refine Z1 (Y3 (Y6 c62 (zno .i64 h66) h68 h69 h72 h73) (Y6 h74 h77 h78 h79 h84 h85) (Y5 h88 h89 h90 h93 h94)) ?_
    refine Rd_endF (by rfl) ?_
    refine Z1 (Y3 (Y6 c62 (zno .i64 h66) h68 h69 h72 h73) (Y6 h74 h77 h78 h79 h84 h85) (Y5 h88 h89 h90 h93 h94)) ?_
    obtain rfl := Zi H92
    exact ⟨⟨s14, rfl⟩, ZR []⟩
   ·refine Z1 c62 ?_
    obtain rfl := Zi H63
    exact ⟨⟨t6, rfl⟩, ZR []⟩
  ·rintro ⟨t62, he191⟩
   obtain rfl := he191.symm
   try dsimp only at H61
   refine zsq (zsq ?_)
   refine ZT 1 ?_
   refine Z0 ?_
   obtain ⟨e_3, E95, H96⟩ := zbi H61
   refine zjn (α := { y : ByteArray // e_3 = y }) (fun | ⟨t63, _⟩ => ⟨upd 0 (.v (.int .i64 t0)) (upd 1 (.v (.bool t1)) (upd 5 (.fn 84 []) (upd 6 (.v (.string t63)) noFr))), noHp, 0⟩) ?_ ?_
   ·refine ZT 1 ?_
    refine Z0 ?_
    rcases zit E95 with ⟨c97, H98⟩ | ⟨c97, H98⟩
    ·obtain ⟨s15, b99, H100⟩ := zbi H98
     obtain ⟨h101, h102⟩ := zct b99
     have h103 : t62.size + 4 ≤ maxLen := h101
     obtain ⟨t72, b104, H105⟩ := zbi H100
     refine Z1 (Y4 c97 h101 h102 h103) ?_
     refine ZC0 (law17_Acl_c1_ok b104) ?_
     obtain ⟨s16, b106, H107⟩ := zbi H105
     obtain ⟨h108, h109⟩ := zct b106
     refine Z1 (Y6 c97 h101 h102 h103 h108 h109) ?_
     obtain rfl := Zi H107
     exact ⟨⟨s16, rfl⟩, ZR []⟩
    ·refine Z1 c97 ?_
     obtain rfl := Zi H98
     exact ⟨⟨t62, rfl⟩, ZR []⟩
   ·rintro ⟨t63, he190⟩
    obtain rfl := he190.symm
    try dsimp only at H96
    refine zsq (zsq ?_)
    obtain ⟨e_4, E110, H111⟩ := zbi H96
    refine zjn (α := { y : Bool // e_4 = y }) (fun | ⟨t80, _⟩ => ⟨upd 0 (.v (.int .i64 t0)) (upd 5 (.fn 84 []) (upd 6 (.v (.string t63)) (upd 80 (.v (.bool t80)) noFr))), noHp, 0⟩) ?_ ?_
    ·refine ZT 1 ?_
     refine Z0 ?_
     rcases zit E110 with ⟨c112, H113⟩ | ⟨c112, H113⟩
     ·refine Z1 c112 ?_
      obtain rfl := Zi H113
      exact ⟨⟨((IntKind.i64.wrap (an (sh t0 31) 1 : Int)) == 1), rfl⟩, ZR []⟩
     ·refine Z1 c112 ?_
      obtain rfl := Zi H113
      exact ⟨⟨false, rfl⟩, ZR []⟩
    ·rintro ⟨t80, he189⟩
     obtain rfl := he189.symm
     try dsimp only at H111
     rcases zit H111 with ⟨c114, H115⟩ | ⟨c114, H115⟩
     ·refine runR_condT (by rfl) c114 ?_
      refine Z1 c114 ?_
      refine zsq (ZT 1 ?_)
      obtain ⟨s17, b116, H117⟩ := zbi H115
      obtain ⟨h118, h119⟩ := zct b116
      have h120 : t63.size + 6 ≤ maxLen := h118
      obtain ⟨t86, b121, H122⟩ := zbi H117
      refine Z1 (Y4 c114 h118 h119 h120) ?_
      refine ZC0 (law17_Acl_c1_ok b121) ?_
      obtain ⟨s18, b123, H124⟩ := zbi H122
      obtain ⟨h125, h126⟩ := zct b123
      obtain ⟨s19, b127, H128⟩ := zbi H124
      obtain ⟨h129, h130⟩ := zct b127
      have h131 : s18.size + 6 ≤ maxLen := h129
      obtain ⟨t92, b132, H133⟩ := zbi H128
      refine Z1 (Y2 (Y6 c114 h118 h119 h120 h125 h126) (Y3 h129 h130 h131)) ?_
      refine ZC0 (law17_Acl_c1_ok b132) ?_
      obtain ⟨s20, b134, H135⟩ := zbi H133
      obtain ⟨h136, h137⟩ := zct b134
      obtain ⟨s21, b138, H139⟩ := zbi H135
      obtain ⟨h140, h141⟩ := zct b138
      have h142 : s20.size + 6 ≤ maxLen := h140
      obtain ⟨t98, b143, H144⟩ := zbi H139
      refine Z1 (Y3 (Y6 c114 h118 h119 h120 h125 h126) (Y6 h129 h130 h131 h136 h137 h140) (Y2 h141 h142)) ?_
      refine ZC0 (law17_Acl_c1_ok b143) ?_
      obtain ⟨s22, b145, H146⟩ := zbi H144
      obtain ⟨h147, h148⟩ := zct b145
      refine Z1 (Y3 (Y6 c114 h118 h119 h120 h125 h126) (Y6 h129 h130 h131 h136 h137 h140) (Y4 h141 h142 h147 h148)) ?_
      refine zsq (zsq ?_)
      refine ZT 1 ?_
      refine Z1 (Y3 (Y6 c114 h118 h119 h120 h125 h126) (Y6 h129 h130 h131 h136 h137 h140) (Y4 h141 h142 h147 h148)) ?_
      obtain ⟨e_5, E149, H150⟩ := zbi H146
      refine zjn (α := { y : ByteArray // e_5 = y }) (fun | ⟨t64, _⟩ => ⟨upd 0 (.v (.int .i64 t0)) (upd 5 (.fn 84 []) (upd 6 (.v (.string t64)) noFr)), noHp, 0⟩) ?_ ?_
      ·refine ZT 1 ?_
       refine Z0 ?_
       rcases zit E149 with ⟨c151, H152⟩ | ⟨c151, H152⟩
       ·obtain ⟨s23, b153, H154⟩ := zbi H152
        obtain ⟨h155, h156⟩ := zct b153
        have h157 : s22.size + 7 ≤ maxLen := h155
        obtain ⟨t109, b158, H159⟩ := zbi H154
        refine Z1 (Y4 c151 h155 h156 h157) ?_
        refine ZC0 (law17_Acl_c1_ok b158) ?_
        obtain ⟨s24, b160, H161⟩ := zbi H159
        obtain ⟨h162, h163⟩ := zct b160
        obtain ⟨s25, b164, H165⟩ := zbi H161
        obtain ⟨h166, h167⟩ := zct b164
        have h168 : s24.size + 7 ≤ maxLen := h166
        obtain ⟨t115, b169, H170⟩ := zbi H165
        refine Z1 (Y2 (Y6 c151 h155 h156 h157 h162 h163) (Y3 h166 h167 h168)) ?_
        refine ZC0 (law17_Acl_c1_ok b169) ?_
        obtain ⟨s26, b171, H172⟩ := zbi H170
        obtain ⟨h173, h174⟩ := zct b171
        refine Z1 (Y2 (Y6 c151 h155 h156 h157 h162 h163) (Y5 h166 h167 h168 h173 h174)) ?_
        obtain rfl := Zi H172
        exact ⟨⟨s26, rfl⟩, ZR []⟩
       ·refine Z1 c151 ?_
        obtain rfl := Zi H152
        exact ⟨⟨s22, rfl⟩, ZR []⟩
      ·rintro ⟨t64, he188⟩
       obtain rfl := he188.symm
       try dsimp only at H150
       refine ZT 2 ?_
       refine Z0 ?_
       rcases zit H150 with ⟨c175, H176⟩ | ⟨c175, H176⟩
       ·obtain ⟨s27, b177, H178⟩ := zbi H176
        obtain ⟨h179, h180⟩ := zct b177
        have h181 : t64.size + 6 ≤ maxLen := h179
        obtain ⟨t126, b182, H183⟩ := zbi H178
        refine Z1 (Y4 c175 h179 h180 h181) ?_
        refine ZC0 (law17_Acl_c1_ok b182) ?_
        obtain ⟨s28, b184, H185⟩ := zbi H183
        obtain ⟨h186, h187⟩ := zct b184
        refine Z1 (Y6 c175 h179 h180 h181 h186 h187) ?_
        obtain rfl := Zi H185
        exact ZE0
       ·refine Z1 c175 ?_
        obtain rfl := Zi H176
        exact ZE0
     ·refine runR_condF (by rfl) c114 ?_
      refine Z1 c114 ?_
      refine ZT 2 ?_
      refine Z1 c114 ?_
      obtain rfl := Zi H115
      exact ZE0
def law17_Base (n : Nat) (n_ : Int) : Option ByteArray :=
 (idx ([{ data := #[119] }, { data := #[118] }, { data := #[] }, { data := #[117, 32, 119] }] : List ByteArray) (IntKind.i64.wrap (an n_ 3 : Int))).bind fun x =>
 (cat ({ data := #[117, 115, 101, 114, 32, 117, 10, 117, 115, 101, 114, 32, 118, 10, 117, 115, 101, 114, 32, 119, 10, 103, 114, 111, 117, 112, 32, 103, 32, 117, 32, 118, 10, 103, 114, 111, 117, 112, 32, 104, 32] }) x).bind fun s =>
 (cat s ({ data := #[10, 100, 105, 114, 32, 47, 32, 117, 32, 103, 32] })).bind fun s2 =>
 (law17_Acl n (IntKind.i64.wrap ((BitVec.ofInt IntKind.i64.bits n_ ||| BitVec.ofInt IntKind.i64.bits 73).toNat : Int)) true).bind fun t12 =>
 (cat s2 t12).bind fun s3 =>
 (cat s3 ({ data := #[10, 100, 105, 114, 32, 47, 97, 32, 118, 32, 103, 32] })).bind fun s4 =>
 (law17_Acl n (sh n_ 5) true).bind fun t17 =>
 (cat s4 t17).bind fun s5 =>
 (cat s5 ({ data := #[10, 100, 105, 114, 32, 47, 97, 47, 99, 32, 119, 32, 104, 32] })).bind fun s6 =>
 (law17_Acl n (sh n_ 9) true).bind fun t22 =>
 (cat s6 t22).bind fun s7 =>
 (cat s7 ({ data := #[10, 102, 105, 108, 101, 32, 47, 102, 32, 118, 32, 104, 32] })).bind fun s8 =>
 (law17_Acl n (sh n_ 13) false).bind fun t27 =>
 (cat s8 t27).bind fun s9 =>
 (cat s9 ({ data := #[10, 102, 105, 108, 101, 32, 47, 97, 47, 102, 32, 119, 32, 103, 32] })).bind fun s10 =>
 (law17_Acl n (sh n_ 17) false).bind fun t32 =>
 (cat s10 t32).bind fun s11 =>
 (cat s11 ({ data := #[10, 102, 105, 108, 101, 32, 47, 97, 47, 99, 47, 102, 32, 117, 32, 104, 32] })).bind fun s12 =>
 (law17_Acl n (sh n_ 2) false).bind fun t37 =>
 (cat s12 t37).bind fun s13 =>
 (cat s13 ({ data := #[10] })).bind fun s14 =>
 some s14
theorem law17_Base_ok {n : Nat} {n_ : Int} {r : ByteArray} (H : law17_Base n n_ = some r) : PureOK Tryz.prog 25 [D.v (.int .i64 n_)] (D.v (.string r)) true := by
 unfold law17_Base at H
 refine ZP tab_ok fol (rs := #[.tmp 2]) Tryz.func25 ?_
 refine ZT 1 ?_
 obtain ⟨x, b1, H2⟩ := zbi H
 obtain ⟨h3, h4⟩ := zix b1
 try simp only [Int.reduceToNat, Int.toNat_natCast] at h4
 have h5 := map_at eS h4
 simp only [List.map_cons, List.map_nil, eS] at h5
 have h6 := at_lt h4
 simp only [List.length_cons, List.length_nil, Nat.reduceAdd] at h6
 obtain ⟨s, b7, H8⟩ := zbi H2
 obtain ⟨h9, h10⟩ := zct b7
 have h11 : 41 + x.size ≤ maxLen := h9
 obtain ⟨s2, b12, H13⟩ := zbi H8
 obtain ⟨h14, h15⟩ := zct b12
 have h16 : s.size + 11 ≤ maxLen := h14
 obtain ⟨t12, b17, H18⟩ := zbi H13
 refine Z1 (Y2 (Y6 (zno .i64 h3) h5 h6 h9 h10 h11) (Y3 h14 h15 h16)) ?_
 refine ZD0 (law17_Acl_ok b17) ?_
 obtain ⟨s3, b19, H20⟩ := zbi H18
 obtain ⟨h21, h22⟩ := zct b19
 obtain ⟨s4, b23, H24⟩ := zbi H20
 obtain ⟨h25, h26⟩ := zct b23
 have h27 : s3.size + 12 ≤ maxLen := h25
 obtain ⟨t17, b28, H29⟩ := zbi H24
 refine Z1 (Y3 (Y6 (zno .i64 h3) h5 h6 h9 h10 h11) (Y6 h14 h15 h16 h21 h22 h25) (Y2 h26 h27)) ?_
 refine ZD0 (law17_Acl_ok b28) ?_
 obtain ⟨s5, b30, H31⟩ := zbi H29
 obtain ⟨h32, h33⟩ := zct b30
 obtain ⟨s6, b34, H35⟩ := zbi H31
 obtain ⟨h36, h37⟩ := zct b34
 have h38 : s5.size + 14 ≤ maxLen := h36
 obtain ⟨t22, b39, H40⟩ := zbi H35
 refine Z1 (Y4 (Y6 (zno .i64 h3) h5 h6 h9 h10 h11) (Y6 h14 h15 h16 h21 h22 h25) (Y6 h26 h27 h32 h33 h36 h37) h38) ?_
 refine ZD0 (law17_Acl_ok b39) ?_
 obtain ⟨s7, b41, H42⟩ := zbi H40
 obtain ⟨h43, h44⟩ := zct b41
 obtain ⟨s8, b45, H46⟩ := zbi H42
 obtain ⟨h47, h48⟩ := zct b45
 have h49 : s7.size + 13 ≤ maxLen := h47
 obtain ⟨t27, b50, H51⟩ := zbi H46
 refine Z1 (Y4 (Y6 (zno .i64 h3) h5 h6 h9 h10 h11) (Y6 h14 h15 h16 h21 h22 h25) (Y6 h26 h27 h32 h33 h36 h37) (Y6 h38 h43 h44 h47 h48 h49)) ?_
 refine ZD0 (law17_Acl_ok b50) ?_
 obtain ⟨s9, b52, H53⟩ := zbi H51
 obtain ⟨h54, h55⟩ := zct b52
 obtain ⟨s10, b56, H57⟩ := zbi H53
 obtain ⟨h58, h59⟩ := zct b56
 have h60 : s9.size + 15 ≤ maxLen := h58
 obtain ⟨t32, b61, H62⟩ := zbi H57
 refine Z1 (Y5 (Y6 (zno .i64 h3) h5 h6 h9 h10 h11) (Y6 h14 h15 h16 h21 h22 h25) (Y6 h26 h27 h32 h33 h36 h37) (Y6 h38 h43 h44 h47 h48 h49) (Y5 h54 h55 h58 h59 h60)) ?_
 refine ZD0 (law17_Acl_ok b61) ?_
 obtain ⟨s11, b63, H64⟩ := zbi H62
 obtain ⟨h65, h66⟩ := zct b63
 obtain ⟨s12, b67, H68⟩ := zbi H64
 obtain ⟨h69, h70⟩ := zct b67
 have h71 : s11.size + 17 ≤ maxLen := h69
 obtain ⟨t37, b72, H73⟩ := zbi H68
 refine Z1 (Y6 (Y6 (zno .i64 h3) h5 h6 h9 h10 h11) (Y6 h14 h15 h16 h21 h22 h25) (Y6 h26 h27 h32 h33 h36 h37) (Y6 h38 h43 h44 h47 h48 h49) (Y6 h54 h55 h58 h59 h60 h65) (Y4 h66 h69 h70 h71)) ?_
 refine ZD0 (law17_Acl_ok b72) ?_
 obtain ⟨s13, b74, H75⟩ := zbi H73
 obtain ⟨h76, h77⟩ := zct b74
 obtain ⟨s14, b78, H79⟩ := zbi H75
 obtain ⟨h80, h81⟩ := zct b78
 have h82 : s13.size + 1 ≤ maxLen := h80
 refine Z1 (Y2 (Y6 (Y6 (zno .i64 h3) h5 h6 h9 h10 h11) (Y6 h14 h15 h16 h21 h22 h25) (Y6 h26 h27 h32 h33 h36 h37) (Y6 h38 h43 h44 h47 h48 h49) (Y6 h54 h55 h58 h59 h60 h65) (Y6 h66 h69 h70 h71 h76 h77)) (Y3 h80 h81 h82)) ?_
 refine Rd_endF (by kernel_rfl) ?_
 refine Z1 (Y2 (Y6 (Y6 (zno .i64 h3) h5 h6 h9 h10 h11) (Y6 h14 h15 h16 h21 h22 h25) (Y6 h26 h27 h32 h33 h36 h37) (Y6 h38 h43 h44 h47 h48 h49) (Y6 h54 h55 h58 h59 h60 h65) (Y6 h66 h69 h70 h71 h76 h77)) (Y3 h80 h81 h82)) ?_
 obtain rfl := Zi H79
 exact ZE0
end Go.Proofs.YtgmhbmcdlkajdaaGreatDoor.Ab
